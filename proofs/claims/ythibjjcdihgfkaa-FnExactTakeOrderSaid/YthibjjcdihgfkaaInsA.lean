/- slices.Insert of one order into a row of one's own. -/
import Derived.Test.YthibjjcdihgfkaaInsP
import Derived.Test.YthibjjcdihgfkaaOwn
import Derived.Test.YthibjjcdihgfkaaClone
import Derived.Lib.Overlaps
import Derived.Laws.Externs
namespace Go.Proofs.Ythibjjcdihgfkaa
open Go.RowKit

def insL (xs : List Order) (i : Nat) (x : Order) : List Order := xs.take i ++ x :: xs.drop i
theorem insL_len (xs : List Order) (i : Nat) (x : Order) (hi : i ≤ xs.length) : (insL xs i x).length = xs.length + 1 := by simp [insL]; omega
theorem insL_end (xs : List Order) (n : Nat) (x : Order) (hn : xs.length = n) : flat Order.cells xs ++ x.cells = flat Order.cells (insL xs n x) := by
  unfold insL
  rw [List.take_of_length_le (by omega), List.drop_eq_nil_of_le (by omega), flat_append]
  simp [flat]
theorem order_ones (xs : List Order) : ∀ u ∈ flat Order.cells xs, u.oneCell' = true := by
  intro u hu
  simp only [flat, List.mem_flatMap] at hu
  obtain ⟨x, _, hx⟩ := hu
  simp [Order.cells] at hx
  rcases hx with h | h | h | h | h | h <;> subst h <;> rfl
theorem flat_insL (xs : List Order) (i : Nat) (x : Order) : flat Order.cells (insL xs i x) = flat Order.cells (xs.take i) ++ (x.cells ++ flat Order.cells (xs.drop i)) := by
  unfold insL
  rw [flat_append]
  rfl
theorem flat_drop {xs : List Order} {i : Nat} (hi : i ≤ xs.length) : flat Order.cells (xs.drop i) = (flat Order.cells xs).drop (i * 6) := by
  have h : flat Order.cells xs = flat Order.cells (xs.take i) ++ flat Order.cells (xs.drop i) := by rw [← flat_append, List.take_append_drop]
  rw [h, List.drop_left' (by rw [flat_length Order.cells_length, List.length_take]; omega)]
theorem flat_take' {xs : List Order} {i : Nat} (hi : i ≤ xs.length) : flat Order.cells (xs.take i) = (flat Order.cells xs).take (i * 6) := by
  have h : flat Order.cells xs = flat Order.cells (xs.take i) ++ flat Order.cells (xs.drop i) := by rw [← flat_append, List.take_append_drop]
  rw [h, List.take_left' (by rw [flat_length Order.cells_length, List.length_take]; omega)]
/-- two copies within a row: what stood from a on is moved by d cells, then X (d cells) is laid at a -/
theorem two_copies {α : Type} (C F X : List α) (a d m : Nat) (hF : C.take m = F) (hm : m ≤ C.length) (ha : a ≤ m) (hX : X.length = d) (hr : m + d ≤ C.length) :
    let L1 := C.take (a + d) ++ F.drop a ++ C.drop (a + d + (F.drop a).length)
    let L2 := L1.take a ++ X ++ L1.drop (a + X.length)
    L2.length = C.length ∧ L2.take (m + d) = F.take a ++ (X ++ F.drop a) := by
  intro L1 L2
  have hFl : F.length = m := by rw [← hF, List.length_take]; omega
  have hDl : (F.drop a).length = m - a := by rw [List.length_drop, hFl]
  have h1 : L1.take a = F.take a := by
    have e : L1 = C.take (a + d) ++ (F.drop a ++ C.drop (a + d + (F.drop a).length)) := by simp only [L1, List.append_assoc]
    rw [e, List.take_append_of_le_length (by rw [List.length_take]; omega), List.take_take, ← hF, List.take_take]
    congr 1
    omega
  have h2 : L1.drop (a + X.length) = F.drop a ++ C.drop (m + d) := by
    have e : L1 = C.take (a + d) ++ (F.drop a ++ C.drop (a + d + (F.drop a).length)) := by simp only [L1, List.append_assoc]
    rw [e, hX, List.drop_left' (by rw [List.length_take]; omega), hDl]
    congr 2
    omega
  have h3 : L2 = (F.take a ++ (X ++ F.drop a)) ++ C.drop (m + d) := by
    simp only [L2]
    rw [h1, h2]
    simp only [List.append_assoc]
  rw [h3]
  constructor
  · simp only [List.length_append, List.length_take, List.length_drop, hFl, hX]
    omega
  · rw [List.take_left']
    simp only [List.length_append, List.length_take, List.length_drop, hFl, hX]
    omega
/-- two copies into a new row: X (d cells) at a, then what stood from a on behind it -/
theorem two_copies_new {α : Type} (C F X : List α) (a d m : Nat) (hF : F.length = m) (hC : C.take a = F.take a) (ha : a ≤ m) (hX : X.length = d) (hr : m + d ≤ C.length) :
    let L1 := C.take a ++ X ++ C.drop (a + X.length)
    let L2 := L1.take (a + d) ++ F.drop a ++ L1.drop (a + d + (F.drop a).length)
    L1.length = C.length ∧ L2.length = C.length ∧ L2.take (m + d) = F.take a ++ (X ++ F.drop a) := by
  intro L1 L2
  have hDl : (F.drop a).length = m - a := by rw [List.length_drop, hF]
  have hL1 : L1.length = C.length := by
    simp only [L1, List.length_append, List.length_take, List.length_drop, hX]
    omega
  have h1 : L1.take (a + d) = F.take a ++ X := by
    simp only [L1]
    rw [hC, List.take_left']
    rw [List.length_append, List.length_take, hX]
    omega
  have h3 : L2 = (F.take a ++ (X ++ F.drop a)) ++ L1.drop (a + d + (F.drop a).length) := by
    simp only [L2]
    rw [h1]
    simp only [List.append_assoc]
  refine ⟨hL1, ?_, ?_⟩
  · rw [h3]
    simp only [List.length_append, List.length_take, List.length_drop, hX, hF, hL1]
    omega
  · rw [h3, List.take_left']
    simp only [List.length_append, List.length_take, List.length_drop, hX, hF]
    omega
/-- append(s[:i], make([]T, c + 1 - i)...) on a full row: a new row -/
theorem grow_new {P : Program} (w : World) (t tn e : TypeId) (i : TypeInfo) (z : Value) (k kn : IntKind) (ht : P.underlying t = some (.slice e)) (htn : P.underlying tn = some (.int kn)) (hi : P.info? e = some i) (hz : i.zero = some z)
    (hzs : z.cells.size = i.size) (hs : 0 < i.size) (g c n : Nat) (F : List Value) (hF : F.length = c * i.size) (hcell : ∀ j v, F[j]? = some v → w.cell? ⟨g, j, none⟩ = some v) (hn : n ≤ c) (hc : (c + 1) * i.bytes ≤ 140737488355328) (hm : c + 1 ≤ maxLen) :
    ∃ G w1 CUR, (∀ ty, (Builtin.append_ #[t, tn] ty #[.slice (some ⟨g, 0, none⟩) n c, .int k ((c : Int) + 1 - (n : Int))]).run P w = .ok (.slice (some ⟨w.heap.size, 0, none⟩) (c + 1) G) w1) ∧ c + 1 ≤ G ∧ G ≤ maxLen ∧
      w1.heap[w.heap.size]? = some (.cells CUR e (0, 0)) ∧ CUR.size = G * i.size ∧ CUR.toList.take (n * i.size) = F.take (n * i.size) ∧ ∀ row, w.grownBy w1 row := by
  have hns : n * i.size ≤ c * i.size := Nat.mul_le_mul_right _ hn
  have hl : (F.take (n * i.size)).length = n * i.size := by rw [List.length_take]; omega
  have e1 : n + (c + 1 - n) = c + 1 := by omega
  have e2 : (((c + 1 - n : Nat)) : Int) = (c : Int) + 1 - (n : Int) := by omega
  have hby : (c + 1 - n) * i.bytes ≤ (c + 1) * i.bytes := Nat.mul_le_mul_right _ (by omega)
  have hr := fun ty => run_append_grow_zeros (P := P) w t tn ty e i z k kn ht htn hi hz ⟨g, 0, none⟩ n c (F.take (n * i.size)) hl
    (fun j v hj => by
      rw [Addr.add_lit, Nat.zero_add]
      rw [List.getElem?_take] at hj
      split at hj
      · exact hcell j v hj
      · cases hj)
    (c + 1 - n) (by omega) hs (by omega) (by rw [e1]; unfold maxLen at hm; omega) (by omega) (growslice_fits (by omega) (by rw [e1]; exact hc))
  simp only [e1, e2] at hr
  have hge := grownCap_ge w (c + 1) c e
  refine ⟨_, _, _, hr, hge, grownCap_le_maxLen w (c + 1) c e hm, heap_alloc_new w.drew _, ?_, ?_, fun row => ⟨rfl, rfl, rfl, by simp, fun j hj _ => heap_alloc_old w.drew _ hj⟩⟩
  · simp only [Array.size_append, List.size_toArray, size_zeroCells, hzs, hl, ← Nat.add_mul]
    congr 1
    omega
  · simp only [Array.toList_append, List.append_assoc]
    rw [List.take_left' hl]
end Go.Proofs.Ythibjjcdihgfkaa
