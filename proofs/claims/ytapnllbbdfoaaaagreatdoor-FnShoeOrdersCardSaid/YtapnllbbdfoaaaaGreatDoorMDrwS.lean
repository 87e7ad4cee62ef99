/- Drawn materials. Drawn materials: the list. A field of a row written: the list with that row turned (plain). -/
import Derived.Test.YtapnllbbdfoaaaaGreatDoorSrc

namespace Go.Proofs.YtapnllbbdfoaaaaGreatDoor
open Go.RowKit

end Go.Proofs.YtapnllbbdfoaaaaGreatDoor

namespace Go.Proofs.YtapnllbbdfoaaaaGreatDoor
open Go.RowKit

end Go.Proofs.YtapnllbbdfoaaaaGreatDoor

namespace Go.Proofs.YtapnllbbdfoaaaaGreatDoor
open Go.RowKit

theorem flat_set_at {α : Type} (cells : α → List Value) (n : Nat) (hc : ∀ x, (cells x).length = n) (f : Nat) (hf : f < n) (v : Value) (x x' : α) (hv : cells x' = (cells x).set f v) :
    ∀ (xs : List α) (k : Nat), xs[k]? = some x → (flat cells xs).set (k * n + f) v = flat cells (xs.set k x') := by
  intro xs
  induction xs with
  | nil => intro k h; simp at h
  | cons y ys ih =>
    intro k h
    have hy := hc y
    cases k with
    | zero =>
      have e : y = x := by simpa using h
      subst e
      simp only [flat, List.flatMap_cons, List.set_cons_zero, Nat.zero_mul, Nat.zero_add]
      rw [List.set_append_left _ _ (by omega), hv]
    | succ k =>
      have h2 : ys[k]? = some x := by simpa using h
      have e := ih k h2
      simp only [flat, List.flatMap_cons, List.set_cons_succ] at e ⊢
      have hle : (cells y).length ≤ (k + 1) * n + f := by rw [hy, Nat.succ_mul]; omega
      rw [List.set_append_right _ _ hle, hy, ← e]
      have : (k + 1) * n + f - n = k * n + f := by rw [Nat.succ_mul]; omega
      rw [this]
theorem arr_new (w : World) (t : TypeId) (C : Array Value) : Arr (w.alloc (.cells C t)) (some ⟨w.heap.size, 0, none⟩) C.toList := fun _ => by
  refine ⟨_, rfl, by rw [World.size_alloc]; exact Nat.lt_succ_self _, fun j u hu => ?_⟩
  have hadd : (⟨w.heap.size, 0, none⟩ : Addr).add j = ⟨w.heap.size, j, none⟩ := by unfold Addr.add; split <;> simp_all
  rw [hadd, (Blk.new w t C).cell j]
  simpa using hu
end Go.Proofs.YtapnllbbdfoaaaaGreatDoor
