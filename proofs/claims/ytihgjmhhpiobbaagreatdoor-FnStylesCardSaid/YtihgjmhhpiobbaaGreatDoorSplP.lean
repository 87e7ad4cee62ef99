/- A text split at a byte and joined: plain Lean. -/
import Derived.Test.YtihgjmhhpiobbaaGreatDoorRdP
namespace Go.Proofs.YtihgjmhhpiobbaaGreatDoor
open Go.RowKit

theorem spl_join (c : UInt8) : ∀ l : List UInt8, l = [c].intercalate (spl c l) := by
  intro l
  induction l with
  | nil => simp [spl, List.intercalate]
  | cons b r ih =>
    simp only [spl]
    split
    · rename_i hb
      subst hb
      cases hs : spl b r with
      | nil => exact absurd hs (spl_ne b r)
      | cons a t =>
        rw [hs] at ih
        conv => lhs; rw [ih]
        simp [List.intercalate]
    · cases hs : spl c r with
      | nil => exact absurd hs (spl_ne c r)
      | cons a t =>
        rw [hs] at ih
        conv => lhs; rw [ih]
        cases t <;> simp [List.intercalate, glue]
theorem spl_none {c : UInt8} : ∀ p : List UInt8, c ∉ p → spl c p = [p] := by
  intro p
  induction p with
  | nil => intro _; rfl
  | cons b r ih =>
    intro h
    simp only [List.mem_cons, not_or] at h
    simp only [spl]
    rw [if_neg (fun e => h.1 e.symm), ih h.2]
    rfl
theorem spl_cons {c : UInt8} (l : List UInt8) : ∀ p : List UInt8, c ∉ p → spl c (p ++ c :: l) = p :: spl c l := by
  intro p
  induction p with
  | nil => intro _; simp [spl]
  | cons b r ih =>
    intro h
    simp only [List.mem_cons, not_or] at h
    simp only [List.cons_append, spl]
    rw [if_neg (fun e => h.1 e.symm), ih h.2]
    rfl
theorem spl_inter {c : UInt8} : ∀ L : List (List UInt8), L ≠ [] → (∀ p ∈ L, c ∉ p) → spl c ([c].intercalate L) = L := by
  intro L
  induction L with
  | nil => intro h _; exact absurd rfl h
  | cons p t ih =>
    intro _ h
    cases t with
    | nil =>
      have := spl_none p (h p (by simp))
      simpa [List.intercalate] using this
    | cons q u =>
      have e : [c].intercalate (p :: q :: u) = p ++ c :: [c].intercalate (q :: u) := by simp [List.intercalate]
      rw [e, spl_cons _ p (h p (by simp)), ih (by simp) (fun x hx => h x (List.mem_cons_of_mem _ hx))]
theorem itoa_free (v : Int) : (32 : UInt8) ∉ Lib.itoa v := by
  have h := itoa_bare v
  have hd := (dig_all v.natAbs).1
  have key : ∀ l : List UInt8, l.all isDig = true → (32 : UInt8) ∉ l := by
    intro l hl hm
    have := List.all_eq_true.1 hl _ hm
    revert this; decide
  intro hm
  rw [← h.1] at hd
  cases hv : Lib.itoa v with
  | nil => rw [hv] at hm; cases hm
  | cons c r =>
    rw [hv] at hm hd
    simp only [bare] at hd
    split at hd
    · rename_i hc
      rcases List.mem_cons.1 hm with h1 | h1
      · rw [hc] at h1; revert h1; decide
      · exact key _ hd h1
    · exact key _ hd hm
theorem name_free {s : ByteArray} (h : nameB s = true) : (32 : UInt8) ∉ s.data.toList := by
  intro hm
  simp only [nameB, nameL, Bool.and_eq_true] at h
  have := List.all_eq_true.1 h.2 _ hm
  revert this; decide
end Go.Proofs.YtihgjmhhpiobbaaGreatDoor
