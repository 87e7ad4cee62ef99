
/- Finding and replacing an order: the program's functions. -/
import Derived.Test.YtggficacnmddiaaOrdD
namespace Go.Proofs.Ytggficacnmddiaa
open Go.RowKit

def lbO (id : Int) : List Order → Nat
  | [] => 0
  | x :: xs => if x.id < id then lbO id xs + 1 else 0
theorem lbO_le (id : Int) : ∀ xs : List Order, lbO id xs ≤ xs.length
  | [] => by simp [lbO]
  | x :: xs => by
    have := lbO_le id xs
    simp only [lbO, List.length_cons]
    split <;> omega
theorem ordsGo_pair : ∀ (xs : List Order) (p : Int), ordsGo p xs = true → (∀ x ∈ xs, p < x.id) ∧ xs.Pairwise (fun a b => a.id < b.id)
  | [], _, _ => ⟨by simp, List.Pairwise.nil⟩
  | x :: xs, p, h => by
    simp only [ordsGo, Bool.and_eq_true, decide_eq_true_eq] at h
    obtain ⟨h1, h2⟩ := ordsGo_pair xs x.id h.2
    refine ⟨fun y hy => ?_, List.Pairwise.cons h1 h2⟩
    rcases List.mem_cons.1 hy with rfl | hy
    · exact h.1.2
    · have := h1 y hy; have := h.1.2; omega
theorem lbO_iff (id : Int) : ∀ (xs : List Order), xs.Pairwise (fun a b => a.id < b.id) → ∀ k x, xs[k]? = some x → (x.id < id ↔ k < lbO id xs)
  | [], _, k, x, h => by simp at h
  | y :: ys, hp, k, x, h => by
    obtain ⟨h1, h2⟩ := List.pairwise_cons.1 hp
    cases k with
    | zero =>
      simp only [List.getElem?_cons_zero, Option.some.injEq] at h
      subst h
      simp only [lbO]
      split <;> omega
    | succ k =>
      simp only [List.getElem?_cons_succ] at h
      have ih := lbO_iff id ys h2 k x h
      have h3 := h1 x (List.mem_of_getElem? h)
      simp only [lbO]
      split <;> omega
def hitO (id : Int) (xs : List Order) : Bool := (xs[lbO id xs]?).any (fun x => decide (x.id = id))
theorem findO_lb (id : Int) : ∀ (xs : List Order), xs.Pairwise (fun a b => a.id < b.id) → ∀ k, findO id xs k = if hitO id xs = true then ((k + lbO id xs : Nat) : Int) else -1
  | [], _, k => by simp [findO, hitO]
  | y :: ys, hp, k => by
    obtain ⟨h1, h2⟩ := List.pairwise_cons.1 hp
    have ih := findO_lb id ys h2 (k + 1)
    simp only [findO]
    by_cases he : y.id = id
    · have : lbO id (y :: ys) = 0 := by simp only [lbO]; rw [if_neg (by omega)]
      rw [if_pos he]
      simp only [hitO, this, List.getElem?_cons_zero, Option.any_some, decide_eq_true he]
      simp
    · rw [if_neg he]
      by_cases hl : y.id < id
      · have : lbO id (y :: ys) = lbO id ys + 1 := by simp only [lbO]; rw [if_pos hl]
        have e : hitO id (y :: ys) = hitO id ys := by simp only [hitO, this, List.getElem?_cons_succ]
        rw [ih, e, this, show k + 1 + lbO id ys = k + (lbO id ys + 1) from by omega]
      · have : lbO id (y :: ys) = 0 := by simp only [lbO]; rw [if_neg hl]
        simp only [hitO, this, List.getElem?_cons_zero, Option.any_some, decide_eq_false he]
        rcases findO_spec id ys (k + 1) with ⟨h3, _⟩ | ⟨j, z, _, h4, h5⟩
        · rw [h3]; simp
        · have := h1 z (List.mem_of_getElem? h4); omega
theorem hit_find {id : Int} {xs : List Order} (h : ordsB xs = true) : findO id xs 0 = if hitO id xs = true then (lbO id xs : Int) else -1 := by
  have h1 : ordsGo 0 xs = true := by simp only [ordsB, Bool.and_eq_true] at h; exact h.1
  have := findO_lb id xs (ordsGo_pair xs 0 h1).2 0
  simpa using this
theorem ords_pair {xs : List Order} (h : ordsB xs = true) : xs.Pairwise (fun a b => a.id < b.id) := by
  simp only [ordsB, Bool.and_eq_true] at h
  exact (ordsGo_pair xs 0 h.1).2
def cmpI (a b : Int) : Int := if a < b then -1 else if b < a then 1 else 0

theorem isNaN_c (a : Int) (w : World) : Calls Try.prog 46 #[.int .i64 a] w (RetQ (.bool false) w) := by
  have h : (a != a) = false := by simp
  go_enter Try.func46, Try.ntmps46
  go_wp2
  go_returns
  exact RetQ.mk (vb (by simp))
theorem compare_c (a b : Int) (w : World) : Calls Try.prog 39 #[.int .i64 a, .int .i64 b] w (RetQ (.int .i64 (cmpI a b)) w) := by
  go_enter Try.func39, Try.ntmps39
  go_wp2_with (go_at_call 46; refine (isNaN_c _ _).mono ?_; rintro e w' ⟨rfl, rfl⟩)
  all_goals
    go_returns
    refine RetQ.mk (vi ?_)
    unfold cmpI
    repeat' split
    all_goals omega
theorem cmpI_lt {a b : Int} : cmpI a b < 0 ↔ a < b := by unfold cmpI; repeat' split; all_goals omega
theorem cmpI_eq {a b : Int} : cmpI a b = 0 ↔ a = b := by unfold cmpI; repeat' split; all_goals omega

end Go.Proofs.Ytggficacnmddiaa
