/- Putting an order: the reference's function (in progress). -/
import Derived.Test.YtggficacnmddiaaOrdC
import Derived.Test.YtggficacnmddiaaClone
namespace Go.Proofs.Ytggficacnmddiaa
open Go.RowKit

theorem own_empty1 (w : World) (o : Obj) (e size : Nat) : ((w.alloc o).alloc (.cells #[] e)).ownsRow w.heap.size e size (.slice (some ⟨w.heap.size + 1, 0, none⟩) 0 0) 0 [] := by
  have h := own_empty (w.alloc o) w.heap.size e size (by simp)
  rwa [World.size_alloc] at h
theorem flat_set {α : Type} {f : α → List Value} {s : Nat} (hf : ∀ x, (f x).length = s) : ∀ (xs : List α) (k : Nat) (x : α), k < xs.length → flat f (xs.set k x) = (flat f xs).take (k * s) ++ f x ++ (flat f xs).drop ((k + 1) * s)
  | [], _, _, h => by simp at h
  | y :: ys, 0, x, _ => by
    have e : (0 + 1) * s = (f y).length := by rw [hf]; omega
    simp only [List.set_cons_zero, flat, List.flatMap_cons, Nat.zero_mul, List.take_zero, List.nil_append, e, List.drop_left]
  | y :: ys, k + 1, x, h => by
    have ih := flat_set hf ys k x (by simpa using h)
    have e1 : (k + 1) * s = (f y).length + k * s := by rw [hf, Nat.add_mul]; omega
    have e2 : (k + 1 + 1) * s = (f y).length + (k + 1) * s := by rw [hf, Nat.add_mul (k + 1)]; omega
    simp only [flat] at ih
    simp only [List.set_cons_succ, flat, List.flatMap_cons, ih, e2, List.drop_append]
    rw [e1, List.take_length_add_append]
    simp

end Go.Proofs.Ytggficacnmddiaa
