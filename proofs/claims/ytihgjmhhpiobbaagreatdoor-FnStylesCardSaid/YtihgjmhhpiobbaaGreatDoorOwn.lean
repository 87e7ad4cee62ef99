/- Owned slices with bounds on their block: what is marked does not touch the others. -/
import Derived.Test.YtihgjmhhpiobbaaGreatDoorApp
namespace Go.Proofs.YtihgjmhhpiobbaaGreatDoor
open Go.RowKit

def Own (w : World) (lo hi E size n : Nat) (v : Value) (cs : List Value) : Prop := w.ownsRow lo E size v n cs ∧ lo ≤ hi ∧ hi ≤ w.heap.size ∧ ∀ k, v.ownBlock = some k → k < hi
theorem own_lt {w : World} {base e size n : Nat} {v : Value} {cs : List Value} (h : w.ownsRow base e size v n cs) : ∀ k, v.ownBlock = some k → k < w.heap.size := by
  intro k hk
  rcases own_form h with ⟨A, c, hv, _⟩
  subst hv
  rcases h.2 with ⟨hv, _⟩ | ⟨g, cap, cur, hv, _, hh⟩
  · rw [hv] at hk; simp [Value.ownBlock] at hk
  · rw [hv] at hk
    have hgk : g = k := by simpa [Value.ownBlock] using hk
    subst hgk
    simp only [World.ownsRow, hv] at h
    cases Nat.lt_or_ge g w.heap.size with
    | inl hlt => exact hlt
    | inr hge => exfalso; simp_all
theorem Own.of {w w' : World} {e size n : Nat} {v : Value} {cs : List Value} (h : w'.ownsRow w.heap.size e size v n cs) (hb : Below w.heap.size w w') : Own w' w.heap.size w'.heap.size e size n v cs :=
  ⟨h, hb.size, Nat.le_refl _, own_lt h⟩
theorem Own.named {w w' : World} {e size n : Nat} {v : Value} {cs : List Value} (h : w'.ownsRow w.heap.size e size v n cs) (hb : Below w.heap.size w w') : ∃ lo hi, Own w' lo hi e size n v cs ∧ Hid (lo = w.heap.size) ∧ Hid (hi = w'.heap.size) :=
  ⟨_, _, Own.of h hb, Lib.hid rfl, Lib.hid rfl⟩
theorem Own.below {w w' : World} {lo hi e size n : Nat} {v : Value} {cs : List Value} (h : Own w lo hi e size n v cs) (hb : Below w.heap.size w w') : Own w' lo hi e size n v cs :=
  ⟨own_below h.1 hb, h.2.1, Nat.le_trans h.2.2.1 hb.size, h.2.2.2⟩
theorem Own.drew {w : World} {lo hi e size n : Nat} {v : Value} {cs : List Value} (h : Own w lo hi e size n v cs) : Own w.drew lo hi e size n v cs := h.below (Below.refl _ _).drew
theorem Own.grown {w w' : World} {lo hi e size n : Nat} {v : Value} {cs : List Value} {row : Option Nat} (h : Own w lo hi e size n v cs) (hg : w.grownBy w' row) (hr : ∀ k, row = some k → hi ≤ k ∨ k < lo) : Own w' lo hi e size n v cs :=
  ⟨h.1.kept hg (by
    cases hv : v.ownBlock with
    | none => exact .inl rfl
    | some g =>
      refine .inr (fun e => ?_)
      have h1 := h.2.2.2 g hv
      have h2 := own_at h.1 g hv
      rcases hr g e.symm with h3 | h3 <;> omega), h.2.1, Nat.le_trans h.2.2.1 hg.size, h.2.2.2⟩
theorem Own.row {w : World} {lo hi e size n c : Nat} {A : Option Addr} {cs : List Value} (h : Own w lo hi e size n (.slice A n c) cs) : ∀ k, A.map (·.block) = some k → lo ≤ k ∧ k < hi := by
  intro k hk
  cases A with
  | none => simp at hk
  | some a =>
    have : (Value.slice (some a) n c).ownBlock = some k := by simpa [Value.ownBlock] using hk
    exact ⟨own_at h.1 k this, h.2.2.2 k this⟩
theorem Own.arr {w : World} {lo hi e size n c : Nat} {A : Option Addr} {cs : List Value} (h : Own w lo hi e size n (.slice A n c) cs) : Arr w A cs := Arr.own h.1
theorem Own.marked {w w' : World} {lo hi e size n c : Nat} {A : Option Addr} {cs cs' : List Value} (h : Own w lo hi e size n (.slice A n c) cs) (hg : w.grownBy w' (A.map (·.block))) (ho : w'.ownsRow lo e size (.slice A n c) n cs') : Own w' lo hi e size n (.slice A n c) cs' :=
  ⟨ho, h.2.1, Nat.le_trans h.2.2.1 hg.size, h.2.2.2⟩
end Go.Proofs.YtihgjmhhpiobbaaGreatDoor
