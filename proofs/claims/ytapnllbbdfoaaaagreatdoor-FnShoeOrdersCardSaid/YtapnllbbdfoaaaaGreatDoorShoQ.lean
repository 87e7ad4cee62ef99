/- What the law on orders of shoes says, in plain Lean. -/
import Derived.Test.YtapnllbbdfoaaaaGreatDoorTakA
namespace Go.Proofs.YtapnllbbdfoaaaaGreatDoor
open Go.RowKit

theorem stepP_zero {xs : List Order} {id : Int} {rg : Bool} {bad : Order → Bool} {y : Order → Order} {err : Int} (he : err ≠ 0) (h : (stepP xs id rg bad y err).2 = 0) :
    ∃ x, ordsB xs = true ∧ hitO id xs = true ∧ xs[lbO id xs]? = some x ∧ x.id = id ∧ ordB (y x) = true ∧ rg = true ∧ (stepP xs id rg bad y err).1 = xs.set (lbO id xs) (y x) := by
  cases h1 : ordsB xs
  · rw [stepP_inv h1] at h; cases h
  cases h2 : rg
  · subst h2; rw [stepP_rng h1 rfl] at h; cases h
  subst h2
  cases h3 : hitO id xs
  · rw [stepP_non h1 rfl h3] at h; cases h
  obtain ⟨x, hx⟩ := hit_at h3
  have hid : x.id = id := by
    unfold hitO at h3
    rw [hx] at h3
    simpa using h3
  cases h5 : bad x
  · cases h6 : ordB (y x)
    · rw [stepP_err h1 rfl h3 hx h5 h6] at h; exact absurd h he
    · exact ⟨x, rfl, rfl, hx, hid, h6, rfl, by rw [stepP_ok h1 rfl h3 hx h5 h6]⟩
  · rw [stepP_bad h1 rfl h3 hx h5] at h; cases h
theorem ids_apart {xs : List Order} (h : ordsB xs = true) {i k : Nat} {x z : Order} (hx : xs[i]? = some x) (hz : xs[k]? = some z) (hne : i ≠ k) : x.id ≠ z.id := by
  have hp : xs.Pairwise (fun a b => a.id < b.id) := by
    simp only [ordsB, Bool.and_eq_true] at h
    have key : ∀ (l : List Order) (p : Int), ordsGo p l = true → (∀ x ∈ l, p < x.id) ∧ l.Pairwise (fun a b => a.id < b.id) := by
      intro l
      induction l with
      | nil => intro p _; exact ⟨by simp, List.Pairwise.nil⟩
      | cons y ys ih =>
        intro p h
        simp only [ordsGo, Bool.and_eq_true, decide_eq_true_eq] at h
        obtain ⟨a, b⟩ := ih _ h.2
        refine ⟨fun w hw => ?_, List.Pairwise.cons a b⟩
        rcases List.mem_cons.1 hw with rfl | hw
        · exact h.1.2
        · have := a w hw; have := h.1.2; omega
    exact (key xs 0 h.1).2
  obtain ⟨a, ha⟩ := List.getElem?_eq_some_iff.1 hx
  obtain ⟨b, hb⟩ := List.getElem?_eq_some_iff.1 hz
  rcases Nat.lt_or_gt_of_ne hne with hlt | hlt
  · have := List.pairwise_iff_getElem.1 hp i k a b hlt; rw [ha, hb] at this; omega
  · have := List.pairwise_iff_getElem.1 hp k i b a hlt; rw [ha, hb] at this; omega
theorem move_stage {xs : List Order} {id : Int} (h : moveC xs id = 0) : (moveL xs id).length = xs.length ∧ ∀ (i : Nat) (x : Order), xs[i]? = some x → ∃ y : Order, (moveL xs id)[i]? = some y ∧ y.stage = x.stage + (if x.id = id then 1 else 0) := by
  obtain ⟨z, ho, _, hz, hid, _, _, hL⟩ := stepP_zero (by omega) h
  have hL2 : moveL xs id = xs.set (lbO id xs) (moveY z) := hL
  rw [hL2]
  refine ⟨List.length_set, fun i x hx => ?_⟩
  by_cases hi : i = lbO id xs
  · subst hi
    rw [hz] at hx
    injection hx with hx
    subst hx
    refine ⟨moveY z, ?_, by rw [if_pos hid]; rfl⟩
    rw [List.getElem?_set_self (List.getElem?_eq_some_iff.1 hz).1]
  · refine ⟨x, by rw [List.getElem?_set_ne (Ne.symm hi)]; exact hx, ?_⟩
    rw [if_neg (by rw [← hid]; exact ids_apart ho hx hz hi)]
    omega
theorem go_set : ∀ (xs : List Order) (p : Int) (k : Nat) (x y : Order), ordsGo p xs = true → xs[k]? = some x → y.id = x.id → ordB y = true → ordsGo p (xs.set k y) = true
  | [], _, _, _, _, _, h, _, _ => by simp at h
  | z :: r, p, 0, x, y, h, hx, hid, hy => by
    simp only [List.getElem?_cons_zero, Option.some.injEq] at hx
    subst hx
    simp only [ordsGo, Bool.and_eq_true, decide_eq_true_eq, List.set_cons_zero] at h ⊢
    rw [hid]
    exact ⟨⟨hy, h.1.2⟩, h.2⟩
  | z :: r, p, k + 1, x, y, h, hx, hid, hy => by
    simp only [List.getElem?_cons_succ] at hx
    simp only [ordsGo, Bool.and_eq_true, List.set_cons_succ] at h ⊢
    exact ⟨h.1, go_set r z.id k x y h.2 hx hid hy⟩
theorem fit_ok {xs : List Order} {id m : Int} (h : fitC xs id m = 0) : ordsB (fitL xs id m) = true := by
  obtain ⟨z, ho, _, hz, _, hy, _, hL⟩ := stepP_zero (by omega) h
  have hL2 : fitL xs id m = xs.set (lbO id xs) (fitY m z) := hL
  rw [hL2]
  unfold ordsB at ho ⊢
  rw [Bool.and_eq_true, decide_eq_true_eq] at ho ⊢
  rw [List.length_set]
  exact ⟨go_set xs 0 _ z _ ho.1 hz rfl hy, ho.2⟩
theorem sum_setL : ∀ (xs : List Order) (k : Nat) (x y : Order), xs[k]? = some x → ((xs.set k y).map (·.left)).sum = (xs.map (·.left)).sum - x.left + y.left
  | [], _, _, _, h => by simp at h
  | z :: r, 0, x, y, h => by
    simp only [List.getElem?_cons_zero, Option.some.injEq] at h
    subst h
    simp only [List.set_cons_zero, List.map_cons, List.sum_cons]; omega
  | z :: r, k + 1, x, y, h => by
    simp only [List.getElem?_cons_succ] at h
    simp only [List.set_cons_succ, List.map_cons, List.sum_cons, sum_setL r k x y h]; omega
theorem work_sum {xs : List Order} {id d : Int} (h : workC xs id d = 0) : (workL xs id d).length = xs.length ∧ (xs.map (·.left)).sum - ((workL xs id d).map (·.left)).sum = d ∧ ordsB xs = true := by
  obtain ⟨z, ho, _, hz, _, _, _, hL⟩ := stepP_zero (by omega) h
  have hL2 : workL xs id d = xs.set (lbO id xs) (workY d z) := hL
  rw [hL2]
  refine ⟨List.length_set, ?_, ho⟩
  rw [sum_setL xs _ z _ hz]
  have : (workY d z).left = z.left - d := rfl
  omega
theorem go_ins : ∀ (xs : List Order) (p : Int) (x : Order), ordsGo p xs = true → ordB x = true → p < x.id → hitO x.id xs = false → ordsGo p (insL xs (lbO x.id xs) x) = true
  | [], p, x, _, hx, hp, _ => by simp [insL, lbO, ordsGo, hx, hp]
  | z :: r, p, x, h, hx, hp, hh => by
    simp only [ordsGo, Bool.and_eq_true, decide_eq_true_eq] at h
    by_cases hlt : z.id < x.id
    · have hl : lbO x.id (z :: r) = lbO x.id r + 1 := by simp only [lbO]; rw [if_pos hlt]
      have hh2 : hitO x.id r = false := by
        unfold hitO at hh ⊢
        rw [hl, List.getElem?_cons_succ] at hh
        exact hh
      have := go_ins r z.id x h.2 hx hlt hh2
      rw [hl]
      simp only [insL, List.take_succ_cons, List.drop_succ_cons, List.cons_append, ordsGo, Bool.and_eq_true, decide_eq_true_eq] at this ⊢
      exact ⟨h.1, this⟩
    · have hl : lbO x.id (z :: r) = 0 := by simp only [lbO]; rw [if_neg hlt]
      have hne : z.id ≠ x.id := by
        unfold hitO at hh
        rw [hl, List.getElem?_cons_zero] at hh
        simpa using hh
      rw [hl]
      simp only [insL, List.take_zero, List.drop_zero, List.nil_append, ordsGo, Bool.and_eq_true, decide_eq_true_eq]
      exact ⟨⟨hx, hp⟩, ⟨h.1.1, by omega⟩, h.2⟩
theorem take_ok {xs : List Order} {x : Order} (h : (takeP xs x).2 = 0) : (takeP xs x).1.length = xs.length + 1 ∧ ordsB (takeP xs x).1 = true := by
  cases h1 : ordsB xs
  · rw [takeP_inv h1] at h; cases h
  cases h2 : ordB x
  · rw [takeP_rng h1 h2] at h; cases h
  cases h3 : hitO x.id xs
  · by_cases h4 : xs.length = 30
    · rw [takeP_full h1 h2 h3 h4] at h; cases h
    · rw [takeP_ok h1 h2 h3 h4]
      have hl : (insL xs (lbO x.id xs) x).length = xs.length + 1 := insL_len _ _ _ (lbO_le _ _)
      refine ⟨hl, ?_⟩
      have ho := h1
      unfold ordsB at ho ⊢
      rw [Bool.and_eq_true, decide_eq_true_eq] at ho ⊢
      have hid : 0 < x.id := by
        have := (ordB_bd h2).1
        omega
      exact ⟨go_ins xs 0 x ho.1 h2 hid h3, by rw [hl]; omega⟩
  · rw [takeP_hit h1 h2 h3] at h; cases h
end Go.Proofs.YtapnllbbdfoaaaaGreatDoor
