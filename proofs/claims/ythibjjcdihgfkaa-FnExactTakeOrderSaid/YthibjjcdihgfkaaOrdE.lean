/- Finding and replacing an order: the program's functions. -/
import Derived.Test.YthibjjcdihgfkaaOrdD
namespace Go.Proofs.Ythibjjcdihgfkaa
open Go.RowKit

def lbO (id : Int) : List Order → Nat
  | [] => 0
  | x :: xs => if x.id < id then lbO id xs + 1 else 0
theorem lbO_le (id : Int) : ∀ xs : List Order, lbO id xs ≤ xs.length
  | [] => by simp [lbO]
  | x :: xs => by
    have := lbO_le id xs
    simp only [lbO, List.length_cons]
    split <;> omega
theorem ordsGo_pair : ∀ (xs : List Order) (p : Int), ordsGo p xs = true → (∀ x ∈ xs, p < x.id) ∧ xs.Pairwise (fun a b => a.id < b.id)
  | [], _, _ => ⟨by simp, List.Pairwise.nil⟩
  | x :: xs, p, h => by
    simp only [ordsGo, Bool.and_eq_true, decide_eq_true_eq] at h
    obtain ⟨h1, h2⟩ := ordsGo_pair xs x.id h.2
    refine ⟨fun y hy => ?_, List.Pairwise.cons h1 h2⟩
    rcases List.mem_cons.1 hy with rfl | hy
    · exact h.1.2
    · have := h1 y hy; have := h.1.2; omega
theorem lbO_iff (id : Int) : ∀ (xs : List Order), xs.Pairwise (fun a b => a.id < b.id) → ∀ k x, xs[k]? = some x → (x.id < id ↔ k < lbO id xs)
  | [], _, k, x, h => by simp at h
  | y :: ys, hp, k, x, h => by
    obtain ⟨h1, h2⟩ := List.pairwise_cons.1 hp
    cases k with
    | zero =>
      simp only [List.getElem?_cons_zero, Option.some.injEq] at h
      subst h
      simp only [lbO]
      split <;> omega
    | succ k =>
      simp only [List.getElem?_cons_succ] at h
      have ih := lbO_iff id ys h2 k x h
      have h3 := h1 x (List.mem_of_getElem? h)
      simp only [lbO]
      split <;> omega
def hitO (id : Int) (xs : List Order) : Bool := (xs[lbO id xs]?).any (fun x => decide (x.id = id))
theorem findO_lb (id : Int) : ∀ (xs : List Order), xs.Pairwise (fun a b => a.id < b.id) → ∀ k, findO id xs k = if hitO id xs = true then ((k + lbO id xs : Nat) : Int) else -1
  | [], _, k => by simp [findO, hitO]
  | y :: ys, hp, k => by
    obtain ⟨h1, h2⟩ := List.pairwise_cons.1 hp
    have ih := findO_lb id ys h2 (k + 1)
    simp only [findO]
    by_cases he : y.id = id
    · have : lbO id (y :: ys) = 0 := by simp only [lbO]; rw [if_neg (by omega)]
      rw [if_pos he]
      simp only [hitO, this, List.getElem?_cons_zero, Option.any_some, decide_eq_true he]
      simp
    · rw [if_neg he]
      by_cases hl : y.id < id
      · have : lbO id (y :: ys) = lbO id ys + 1 := by simp only [lbO]; rw [if_pos hl]
        have e : hitO id (y :: ys) = hitO id ys := by simp only [hitO, this, List.getElem?_cons_succ]
        rw [ih, e, this, show k + 1 + lbO id ys = k + (lbO id ys + 1) from by omega]
      · have : lbO id (y :: ys) = 0 := by simp only [lbO]; rw [if_neg hl]
        simp only [hitO, this, List.getElem?_cons_zero, Option.any_some, decide_eq_false he]
        rcases findO_spec id ys (k + 1) with ⟨h3, _⟩ | ⟨j, z, _, h4, h5⟩
        · rw [h3]; simp
        · have := h1 z (List.mem_of_getElem? h4); omega
theorem hit_find {id : Int} {xs : List Order} (h : ordsB xs = true) : findO id xs 0 = if hitO id xs = true then (lbO id xs : Int) else -1 := by
  have h1 : ordsGo 0 xs = true := by simp only [ordsB, Bool.and_eq_true] at h; exact h.1
  have := findO_lb id xs (ordsGo_pair xs 0 h1).2 0
  simpa using this
theorem ords_pair {xs : List Order} (h : ordsB xs = true) : xs.Pairwise (fun a b => a.id < b.id) := by
  simp only [ordsB, Bool.and_eq_true] at h
  exact (ordsGo_pair xs 0 h.1).2
def cmpI (a b : Int) : Int := if a < b then -1 else if b < a then 1 else 0

theorem isNaN_c (a : Int) (w : World) : Calls Try.prog 123 #[.int .i64 a] w (RetQ (.bool false) w) := by
  have h : (a != a) = false := by simp
  go_enter Try.func123, Try.ntmps123
  go_wp2
  go_returns
  exact RetQ.mk (vb (by simp))
theorem compare_c (a b : Int) (w : World) : Calls Try.prog 110 #[.int .i64 a, .int .i64 b] w (RetQ (.int .i64 (cmpI a b)) w) := by
  go_enter Try.func110, Try.ntmps110
  go_wp2_with (go_at_call 123; refine (isNaN_c _ _).mono ?_; rintro e w' ⟨rfl, rfl⟩)
  all_goals
    go_returns
    refine RetQ.mk (vi ?_)
    unfold cmpI
    repeat' split
    all_goals omega
theorem place1_c (x : Order) (id : Int) (w : World) : Calls Try.prog 109 #[.agg #[.int .i64 x.id, .string x.customer, .int .i64 x.stage, .int .i64 x.due, .int .i64 x.left, .int .i64 x.fittings], .int .i64 id] w (Ret (.int .i64 (cmpI x.id id)) w) := by
  go_enter Try.func109, Try.ntmps109
  go_wp2_with (go_at_call 110; refine (compare_c _ _ _).mono ?_; rintro e w' ⟨rfl, rfl⟩)
  go_returns
  exact Ret.mk rfl (by go_grown)
theorem cmpI_lt {a b : Int} : cmpI a b < 0 ↔ a < b := by unfold cmpI; repeat' split; all_goals omega
theorem cmpI_eq {a b : Int} : cmpI a b = 0 ↔ a = b := by unfold cmpI; repeat' split; all_goals omega

set_option maxRecDepth 100000 in
set_option maxHeartbeats 1600000 in
theorem search_c (A : Option Addr) (xs : List Order) (n c : Nat) (id : Int) (hn : Hid (xs.length = n)) (hm : (n : Int) ≤ 1048576) (hp : Hid (xs.Pairwise (fun a b => a.id < b.id))) (w : World) (hA : Arr w A (flat Order.cells xs)) :
    Calls Try.prog 108 #[.slice A n c, .int .i64 id, .func (.func 109) #[] #[]] w (RetT #[.int .i64 (lbO id xs), .bool (hitO id xs)] w) := by
  obtain ⟨b, hb⟩ : ∃ b, b = lbO id xs := ⟨_, rfl⟩
  have hbn : b ≤ n := by rw [hb, ← hn.out]; exact lbO_le id xs
  have HB := Lib.hid hb
  rw [← hb]
  clear hb
  go_enter Try.func108, Try.ntmps108
  go_wp2_with fail
  go_loopw [9, 10] (fun i j wr => ∃ p q : Nat, p ≤ b ∧ b ≤ q ∧ q ≤ n ∧ i = .int .i64 p ∧ j = .int .i64 q ∧ Below w.heap.size w wr) (fun i j _ => ((intOf j) - (intOf i)).toNat)
  case atStart => exact ⟨0, n, by omega, by omega, by omega, rfl, rfl, Below.refl _ _⟩
  case round =>
    obtain ⟨p, q, hpb, hbq, hqn, rfl, rfl, hv⟩ := hrel
    by_cases hlt : p < q
    · obtain ⟨h, hh⟩ : ∃ h : Nat, ((p : Int) + (q : Int)) / 2 = (h : Int) := ⟨(p + q) / 2, by omega⟩
      have hph : p ≤ h := by omega
      have hhq : h < q := by omega
      obtain ⟨x, hx⟩ := get_of_lt (xs := xs) (k := h) (by rw [hn.out]; omega)
      obtain ⟨ad, rfl, hab, c0, c1, c2, c3, c4, c5⟩ := Order.at_ (hA.below hv) hx
      have HX := Lib.hid (lbO_iff id xs hp.out h x hx)
      clear hx
      go_wp2_with fail
      refine (place1_c x id _).mono ?_
      rintro e w1 ⟨rfl, hb1⟩
      have hcl := Lib.hid (@cmpI_lt x.id id)
      obtain ⟨r, hr⟩ : ∃ r, r = cmpI x.id id := ⟨_, rfl⟩
      rw [← hr] at hcl ⊢
      clear hr
      by_cases hr0 : r < 0
      · have h1 := (HX.out.1 (hcl.out.1 hr0))
        rw [← HB.out] at h1
        go_wp2_with fail
        exact ⟨⟨h + 1, q, by omega, by omega, by omega, by go_num, rfl, bl_trans hv hb1⟩, by simp [intOf]; omega⟩
      · have h1 : b ≤ h := by
          have : ¬ h < lbO id xs := fun hc => hr0 (hcl.out.2 (HX.out.2 hc))
          have := HB.out
          omega
        go_wp2_with fail
        exact ⟨⟨p, h, by omega, by omega, by omega, rfl, by go_num, bl_trans hv hb1⟩, by simp [intOf]; omega⟩
    · obtain rfl : p = b := by omega
      obtain rfl : q = p := by omega
      by_cases hpn : q < n
      · obtain ⟨x, hx⟩ := get_of_lt (xs := xs) (k := q) (by rw [hn.out]; omega)
        obtain ⟨ad, rfl, hab, c0, c1, c2, c3, c4, c5⟩ := Order.at_ (hA.below hv) hx
        have HH := Lib.hid (show hitO id xs = decide (x.id = id) by unfold hitO; rw [← HB.out, hx]; rfl)
        clear hx
        go_wp2_with fail
        refine (place1_c x id _).mono ?_
        rintro e w1 ⟨rfl, hb1⟩
        have hce := Lib.hid (@cmpI_eq x.id id)
        obtain ⟨r, hr⟩ : ∃ r, r = cmpI x.id id := ⟨_, rfl⟩
        rw [← hr] at hce ⊢
        clear hr
        go_wp2_with fail
        go_returns
        refine RetT.mk ?_ (bl_trans hv hb1)
        rw [HH.out]
        have h2 : (r == 0) = decide (x.id = id) := by rw [Bool.eq_iff_iff, beq_iff_eq, decide_eq_true_eq]; exact hce.out
        rw [← h2]
        rfl
      · have HH := Lib.hid (show hitO id xs = false by unfold hitO; rw [← HB.out, List.getElem?_eq_none (by rw [hn.out]; omega)]; rfl)
        go_wp2_with fail
        go_returns
        exact RetT.mk (by rw [HH.out]; rfl) hv
end Go.Proofs.Ythibjjcdihgfkaa
