/- A list with elements struck in place: plain Lean. -/
import Derived.Test.YtihgjmhhpiobbaaGreatDoorStyJ
namespace Go.Proofs.YtihgjmhhpiobbaaGreatDoor
open Go.RowKit

/-- behind j elements seen, i kept: D is the list as it lies now -/
structure Kp (p : ByteArray → Bool) (L D : List ByteArray) (i j : Nat) : Prop where
  len : D.length = L.length
  lt : i < j
  low : D.take i = (L.take j).filter fun x => !p x
  high : ∀ k, i ≤ k → D[k]? = L[k]?
theorem Kp.start {p : ByteArray → Bool} {L : List ByteArray} {k : Nat} {x : ByteArray} (hx : L[k]? = some x) (hp : p x = true) (hb : ∀ y ∈ L.take k, p y = false) : Kp p L L k (k + 1) where
  len := rfl
  lt := Nat.lt_succ_self _
  low := by
    rw [take_at hx, List.filter_append, List.filter_eq_self.2 (fun y hy => by rw [hb y hy]; rfl)]
    simp [hp]
  high := fun _ _ => rfl
theorem Kp.skip {p : ByteArray → Bool} {L D : List ByteArray} {i j : Nat} {x : ByteArray} (h : Kp p L D i j) (hx : L[j]? = some x) (hp : p x = true) : Kp p L D i (j + 1) where
  len := h.len
  lt := by have := h.lt; omega
  low := by rw [take_at hx, List.filter_append, h.low]; simp [hp]
  high := h.high
theorem Kp.keep {p : ByteArray → Bool} {L D : List ByteArray} {i j : Nat} {x : ByteArray} (h : Kp p L D i j) (hx : L[j]? = some x) (hp : p x = false) : Kp p L (D.set i x) (i + 1) (j + 1) where
  len := by rw [List.length_set]; exact h.len
  lt := by have := h.lt; omega
  low := by
    have hj : j < L.length := by
      rcases Nat.lt_or_ge j L.length with h | h
      · exact h
      · rw [List.getElem?_eq_none h] at hx; cases hx
    have hi : i < D.length := by have := h.len; have := h.lt; omega
    have hs : (D.set i x)[i]? = some x := by rw [List.getElem?_set_self hi]
    rw [take_at hs, List.take_set_of_le (Nat.le_refl i), h.low, take_at hx, List.filter_append]
    simp [hp]
  high := fun k hk => by rw [List.getElem?_set_ne (by omega)]; exact h.high k (by omega)
theorem Kp.done {p : ByteArray → Bool} {L D : List ByteArray} {i : Nat} (h : Kp p L D i L.length) : D.take i = L.filter fun x => !p x := by
  rw [h.low, List.take_of_length_le (Nat.le_refl _)]
theorem Kp.num {p : ByteArray → Bool} {L D : List ByteArray} {i : Nat} (h : Kp p L D i L.length) : (L.filter fun x => !p x).length = i := by
  rw [← h.done, List.length_take]; have := h.len; have := h.lt; omega
/-- the word's clause in two valid styles -/
def sameC (x y : Style) (t : ByteArray) : Bool := decide (clK (kindW t) x = clK (kindW t) y)
theorem filt_step {p : ByteArray → Bool} {w : ByteArray} {l : List ByteArray} : (w :: l).filter (fun z => !p z) = (if p w = true then [] else [w]) ++ l.filter (fun z => !p z) := by
  cases h : p w <;> simp [h]
theorem fm_step {a b w : ByteArray} {r1 r2 rw : List ByteArray} : ((a :: r1).zip ((b :: r2).zip (w :: rw))).filterMap (fun p => if p.1 = p.2.1 then none else some p.2.2) = (if a = b then [] else [w]) ++ (r1.zip (r2.zip rw)).filterMap (fun p => if p.1 = p.2.1 then none else some p.2.2) := by
  by_cases h : a = b <;> simp [h]
theorem same_if {x y : Style} {t a b : ByteArray} {k : Int} (hk : kindW t = k) (ha : clK k x = a) (hb : clK k y = b) : (if sameC x y t = true then ([] : List ByteArray) else [t]) = if a = b then [] else [t] := by
  unfold sameC
  rw [hk, ha, hb]
  by_cases h : a = b <;> simp [h]
theorem dif_filter {x y : Style} (hx : styB x = true) (hy : styB y = true) : styW.filter (fun t => !sameC x y t) = dif x y := by
  obtain ⟨x3, x4, x5⟩ := cl_txt hx
  obtain ⟨y3, y4, y5⟩ := cl_txt hy
  unfold dif txts styW
  rw [filt_step, filt_step, filt_step, filt_step, filt_step, filt_step, fm_step, fm_step, fm_step, fm_step, fm_step, fm_step]
  rw [same_if kind0 (clK0 x) (clK0 y), same_if kind1 (clK1 x) (clK1 y), same_if kind2 (clK2 x) (clK2 y), same_if kind3 ((clK3 x).trans x3) ((clK3 y).trans y3), same_if kind4 ((clK4 x).trans x4) ((clK4 y).trans y4), same_if kind5 ((clK5 x).trans x5) ((clK5 y).trans y5)]
  rfl
end Go.Proofs.YtihgjmhhpiobbaaGreatDoor
