/- Moving, fitting and working on an order: what comes out; the program's functions. -/
import Derived.Test.YthibjjcdihgfkaaOrdE
namespace Go.Proofs.Ythibjjcdihgfkaa
open Go.RowKit

def codeV (xs : List Order) (id : Int) (rg : Bool) : Array Value :=
  if ordsB xs = true then (if rg = true then (if hitO id xs = true then #[.int .i64 (lbO id xs), .int .i64 0] else #[.int .i64 0, .int .i64 3]) else #[.int .i64 0, .int .i64 2]) else #[.int .i64 0, .int .i64 1]
def stepP (xs : List Order) (id : Int) (rg : Bool) (bad : Order → Bool) (y : Order → Order) (err : Int) : List Order × Int :=
  if ordsB xs = true then (if rg = true then (if hitO id xs = true then
    (match xs[lbO id xs]? with
     | none => ([], 3)
     | some x => if bad x = true then ([], 6) else if ordB (y x) = true then (xs.set (lbO id xs) (y x), 0) else ([], err))
    else ([], 3)) else ([], 2)) else ([], 1)
theorem stepP_len (xs : List Order) (id : Int) (rg : Bool) (bad : Order → Bool) (y : Order → Order) (err : Int) : ((stepP xs id rg bad y err).1.length : Int) ≤ xs.length := by
  unfold stepP
  repeat' split
  all_goals simp
section
variable {xs : List Order} {id : Int} {rg : Bool} {bad : Order → Bool} {y : Order → Order} {err : Int}
theorem stepP_inv (h : ordsB xs = false) : stepP xs id rg bad y err = ([], 1) := by unfold stepP; rw [if_neg (by simp [h])]
theorem stepP_rng (h : ordsB xs = true) (h2 : rg = false) : stepP xs id rg bad y err = ([], 2) := by unfold stepP; rw [if_pos h, if_neg (by simp [h2])]
theorem stepP_non (h : ordsB xs = true) (h2 : rg = true) (h3 : hitO id xs = false) : stepP xs id rg bad y err = ([], 3) := by unfold stepP; rw [if_pos h, if_pos h2, if_neg (by simp [h3])]
theorem stepP_bad {x : Order} (h : ordsB xs = true) (h2 : rg = true) (h3 : hitO id xs = true) (h4 : xs[lbO id xs]? = some x) (h5 : bad x = true) : stepP xs id rg bad y err = ([], 6) := by
  unfold stepP; rw [if_pos h, if_pos h2, if_pos h3, h4]; simp only []; rw [if_pos h5]
theorem stepP_err {x : Order} (h : ordsB xs = true) (h2 : rg = true) (h3 : hitO id xs = true) (h4 : xs[lbO id xs]? = some x) (h5 : bad x = false) (h6 : ordB (y x) = false) : stepP xs id rg bad y err = ([], err) := by
  unfold stepP; rw [if_pos h, if_pos h2, if_pos h3, h4]; simp only []; rw [if_neg (by simp [h5]), if_neg (by simp [h6])]
theorem stepP_ok {x : Order} (h : ordsB xs = true) (h2 : rg = true) (h3 : hitO id xs = true) (h4 : xs[lbO id xs]? = some x) (h5 : bad x = false) (h6 : ordB (y x) = true) : stepP xs id rg bad y err = (xs.set (lbO id xs) (y x), 0) := by
  unfold stepP; rw [if_pos h, if_pos h2, if_pos h3, h4]; simp only []; rw [if_neg (by simp [h5]), if_pos h6]
end
theorem hit_at {xs : List Order} {id : Int} (h : hitO id xs = true) : ∃ x, xs[lbO id xs]? = some x := by
  unfold hitO at h
  cases hx : xs[lbO id xs]? with
  | none => rw [hx] at h; simp at h
  | some x => exact ⟨x, rfl⟩
def moveY (x : Order) : Order := { x with stage := x.stage + 1 }
def workY (d : Int) (x : Order) : Order := { x with left := x.left - d }
def fitY (m : Int) (x : Order) : Order := { x with fittings := x.fittings - 1, left := x.left + m }
def fitBad (x : Order) : Bool := (x.stage != 1) || (x.fittings == 0)
def moveP (xs : List Order) (id : Int) := stepP xs id true (fun _ => false) moveY 6
def workP (xs : List Order) (id d : Int) := stepP xs id (inB d 1 100) (fun _ => false) (workY d) 6
def fitP (xs : List Order) (id m : Int) := stepP xs id (inB m 0 100) fitBad (fitY m) 5
def moveL (xs : List Order) (id : Int) : List Order := (moveP xs id).1
def moveC (xs : List Order) (id : Int) : Int := (moveP xs id).2
def workL (xs : List Order) (id d : Int) : List Order := (workP xs id d).1
def workC (xs : List Order) (id d : Int) : Int := (workP xs id d).2
def fitL (xs : List Order) (id d : Int) : List Order := (fitP xs id d).1
def fitC (xs : List Order) (id d : Int) : Int := (fitP xs id d).2
theorem moveL_len (xs : List Order) (id : Int) : ((moveL xs id).length : Int) ≤ xs.length := stepP_len _ _ _ _ _ _
theorem workL_len (xs : List Order) (id d : Int) : ((workL xs id d).length : Int) ≤ xs.length := stepP_len _ _ _ _ _ _
theorem fitL_len (xs : List Order) (id d : Int) : ((fitL xs id d).length : Int) ≤ xs.length := stepP_len _ _ _ _ _ _
theorem ords_mem {xs : List Order} (h : ordsB xs = true) : ∀ x ∈ xs, ordB x = true := by
  simp only [ordsB, Bool.and_eq_true] at h
  have key : ∀ (l : List Order) (p : Int), ordsGo p l = true → ∀ x ∈ l, ordB x = true := by
    intro l
    induction l with
    | nil => intro p _ x hx; cases hx
    | cons y ys ih =>
      intro p h x hx
      simp only [ordsGo, Bool.and_eq_true] at h
      rcases List.mem_cons.1 hx with rfl | hx
      · exact h.1.1
      · exact ih _ h.2 x hx
  exact key xs 0 h.1
theorem ordB_bd {x : Order} (h : ordB x = true) : (1 ≤ x.id ∧ x.id ≤ 9999) ∧ (0 ≤ x.stage ∧ x.stage ≤ 4) ∧ (0 ≤ x.due ∧ x.due ≤ 10000) ∧ (0 ≤ x.left ∧ x.left ≤ 100) ∧ (0 ≤ x.fittings ∧ x.fittings ≤ 5) := by
  simp only [ordB, Bool.and_eq_true, inB_iff] at h
  omega
theorem OutL.of {l : List Order} {p : List Order × Int} {m c : Nat} {A : Option Addr} {co : Int} {w w' : World} (hp : p = (l, co)) (hm : l.length = m) (h : w'.ownsRow w.heap.size 76 6 (.slice A m c) m (flat Order.cells l)) (hb : Below w.heap.size w w') :
    OutL 76 6 p.1.length (flat Order.cells p.1) p.2 w (.returned (.tuple #[.slice A m c, .int .i64 co])) w' := by
  subst hp
  exact OutL.mk h hm.symm rfl rfl hb
theorem OutL.no {p : List Order × Int} {co : Int} {w w' : World} (hp : p = ([], co)) (hb : Below w.heap.size w w') :
    OutL 76 6 p.1.length (flat Order.cells p.1) p.2 w (.returned (.tuple #[.slice none 0 0, .int .i64 co])) w' := by
  subst hp
  exact OutL.nil hb
def putP (xs : List Order) (k : Nat) (y : Order) (err : Int) : List Order × Int := if ordB y = true then (xs.set k y, 0) else ([], err)
theorem stepP_put {xs : List Order} {id : Int} {rg : Bool} {bad : Order → Bool} {y : Order → Order} {err : Int} {x : Order} {k : Nat} (h : ordsB xs = true) (h2 : rg = true) (h3 : hitO id xs = true) (hk : k = lbO id xs) (h4 : xs[k]? = some x) (h5 : bad x = false) : stepP xs id rg bad y err = putP xs k (y x) err := by
  subst hk
  cases h6 : ordB (y x)
  · rw [stepP_err h h2 h3 h4 h5 h6, putP, if_neg (by simp [h6])]
  · rw [stepP_ok h h2 h3 h4 h5 h6, putP, if_pos h6]
theorem OutL.up {p q : List Order × Int} {W w w' : World} {e : Ending} (hp : p = q) (hb : Below w.heap.size w W) (h : OutL 76 6 q.1.length (flat Order.cells q.1) q.2 W e w') : OutL 76 6 p.1.length (flat Order.cells p.1) p.2 w e w' := by
  subst hp
  obtain ⟨A, c, he, ho, hb2⟩ := h
  exact ⟨A, c, he, own_base ho hb.size, bl_trans hb hb2⟩
theorem workY_ok {x : Order} {d : Int} (h : ordB x = true) (h1 : 1 ≤ d) (h2 : d ≤ 100) : ordB (workY d x) = decide (d ≤ x.left) := by
  cases hc : nameB x.customer
  · simp [ordB, hc] at h
  · rw [Bool.eq_iff_iff, decide_eq_true_eq]
    have e : ordB (workY d x) = (inB x.id 1 9999 && nameB x.customer && inB x.stage 0 4 && inB x.due 0 10000 && inB (x.left - d) 0 100 && inB x.fittings 0 5 && (decide (x.stage < 2) || decide (x.fittings = 0)) && (decide (x.stage < 3) || decide (x.left - d = 0))) := rfl
    rw [e]
    simp [ordB, hc, inB] at h ⊢
    omega
end Go.Proofs.Ythibjjcdihgfkaa
