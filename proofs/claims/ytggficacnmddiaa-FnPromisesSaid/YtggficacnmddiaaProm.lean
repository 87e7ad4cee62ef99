/- Promises: both sides. -/
import Derived.Test.YtggficacnmddiaaWrkE
namespace Go.Proofs.Ytggficacnmddiaa
open Go.RowKit

def canGo (xs : List Order) (days due : Int) : List Int → Int → Bool → Bool
  | [], at_, done => done || decide (at_ + days ≤ due)
  | i :: r, at_, done =>
    if done = false ∧ due < dueK xs i then decide (at_ + days ≤ due) && (decide (at_ + days + leftK xs i ≤ dueK xs i) && canGo xs days due r (at_ + days + leftK xs i) true)
    else (decide (at_ + leftK xs i ≤ dueK xs i) || !done) && canGo xs days due r (at_ + leftK xs i) done
def promGo (can : Int → Bool) : Nat → Int → Int × Int
  | 0, _ => (0, 3)
  | f + 1, d => if can d = true then (d, 0) else promGo can f (d + 1)
def canP (xs : List Order) (day days due : Int) : Bool := canGo xs days due (workL xs) day false
def promP (xs : List Order) (day days : Int) : Int × Int := promGo (canP xs day days) (10001 - day).toNat day
def codeP (xs : List Order) (day days : Int) : Int := if codeD xs day = 0 then (if inB days 1 100 = true then 0 else 2) else codeD xs day
def prV (xs : List Order) (day days : Int) : Int := if codeP xs day days = 0 then (promP xs day days).1 else 0
def prC (xs : List Order) (day days : Int) : Int := if codeP xs day days = 0 then (promP xs day days).2 else codeP xs day days
theorem promGo_step {can : Int → Bool} {due : Int} (h : due ≤ 10000) : promGo can (10001 - due).toNat due = if can due = true then (due, 0) else promGo can (10001 - (due + 1)).toNat (due + 1) := by
  rw [show (10001 - due).toNat = (10001 - (due + 1)).toNat + 1 by omega]
  rfl
theorem promGo_end {can : Int → Bool} {due : Int} (h : ¬ due ≤ 10000) : promGo can (10001 - due).toNat due = (0, 3) := by
  rw [show (10001 - due).toNat = 0 by omega]
  rfl
set_option maxRecDepth 100000 in
set_option maxHeartbeats 6400000 in
theorem canPromise_c (A : Option Addr) (xs : List Order) (n c : Nat) (day days due : Int) (hn : Hid (xs.length = n)) (ho : Hid (ordsB xs = true)) (hd0 : 0 ≤ day) (hd1 : day ≤ 10000) (hy0 : 1 ≤ days) (hy1 : days ≤ 100) (hu0 : 0 ≤ due) (hu1 : due ≤ 10000) (w : World) (hA : Arr w A (flat Order.cells xs)) :
    Calls Try.prog 24 #[.slice A n c, .int .i64 day, .int .i64 days, .int .i64 due] w (Ret (.bool (canP xs day days due)) w) := by
  have hm : n ≤ 30 := by have := (ords_small ho.out).1; have := hn.out; omega
  go_enter Try.func24, Try.ntmps24
  go_wp2_with fail
  refine (workOrder_c A xs n c hn hm _ hA).mono ?_
  rintro e W2 ⟨A2, c2, rfl, hown, hv2⟩
  have hB := Arr.own hown
  obtain ⟨m, hm0⟩ : ∃ m, m = (workL xs).length := ⟨_, rfl⟩
  rw [← hm0]
  have HM := Lib.hid hm0.symm
  have hk : m ≤ 30 := by rw [hm0]; exact workL_le ho.out
  have HR := Lib.hid (show canP xs day days due = canGo xs days due ((workL xs).drop 0) day false from rfl)
  clear hm0 hown
  go_wp2_with fail
  go_loopw [9, 10, 17] (fun av bv iv wr => ∃ (j : Nat) (a : Int) (b : Bool), j ≤ m ∧ iv = .int .i64 j ∧ av = .int .i64 a ∧ bv = .bool b ∧ 0 ≤ a ∧ a ≤ 10100 + 100 * j ∧ (b = false → a ≤ 10000 + 100 * j) ∧ Hid (canP xs day days due = canGo xs days due ((workL xs).drop j) a b) ∧ Below W2.heap.size W2 wr) (fun _ _ iv _ => m - (intOf iv).toNat)
  case atStart => exact ⟨0, day, false, by omega, rfl, rfl, rfl, hd0, by omega, fun _ => by omega, HR, Below.refl _ _⟩
  case round =>
    clear HR
    obtain ⟨j, a, b, hj, rfl, rfl, rfl, ha0, ha1, ha2, hR, hb⟩ := hrel
    by_cases hlt : j < m
    · obtain ⟨z, hz⟩ := get_of_lt (xs := workL xs) (k := j) (by rw [HM.out]; exact hlt)
      obtain ⟨k, x, hzk, hx⟩ := workL_inR xs z (List.mem_of_getElem? hz)
      subst hzk
      obtain ⟨ad, hA2, hab, o0⟩ := icell_at (hB.below hb) hz
      have hkn : k < n := by have := (List.getElem?_eq_some_iff.1 hx).1; have := hn.out; omega
      obtain ⟨ad', hA', hab', c0, c1, c2', c3, c4, c5⟩ := Order.at_ (hA.below (bl_trans hv2 hb)) hx
      obtain ⟨e1, e2, f1, f2, f3, f4⟩ := order_facts ho.out hx
      have hR2 := Lib.hid (hR.out.trans (by rw [drop_at hz] : _ = canGo xs days due ((k : Int) :: (workL xs).drop (j + 1)) a b))
      subst hA2
      subst hA'
      have k0 : (0 : Int) ≤ (k : Int) := by omega
      have k1 : (k : Int) < (n : Int) := by omega
      have E1 := Lib.hid e1
      have E2 := Lib.hid e2
      clear hz hx e1 e2 hR
      cases b
      · have ha3 := ha2 rfl
        clear ha2
        by_cases q1 : due < x.due
        · by_cases q2 : a + days ≤ due
          · by_cases q3 : a + days + x.left ≤ x.due
            · skip
              have hR3 := Lib.hid (hR2.out.trans (by rw [canGo, E1.out, E2.out]; simp [q1, q2, q3] : _ = canGo xs days due ((workL xs).drop (j + 1)) (a + days + x.left) true))
              clear hR2
              go_wp2_with fail
              exact ⟨⟨j + 1, a + days + x.left, true, by omega, by go_num, rfl, rfl, by omega, by omega, (fun h => by cases h), hR3, hb⟩, by simp [intOf]; omega⟩
            · skip
              have hR3 := Lib.hid (hR2.out.trans (by rw [canGo, E1.out, E2.out]; simp [q1, q2, q3] : _ = false))
              clear hR2
              go_wp2_with fail
              go_returns
              exact Ret.mk (vb hR3.out.symm) (bl_trans hv2 hb)
          · skip
            have hR3 := Lib.hid (hR2.out.trans (by rw [canGo, E1.out, E2.out]; simp [q1, q2] : _ = false))
            clear hR2
            go_wp2_with fail
            go_returns
            exact Ret.mk (vb hR3.out.symm) (bl_trans hv2 hb)
        · by_cases q3 : a + x.left ≤ x.due
          · skip
            have hR3 := Lib.hid (hR2.out.trans (by rw [canGo, E1.out, E2.out]; simp [q1, q3] : _ = canGo xs days due ((workL xs).drop (j + 1)) (a + x.left) false))
            clear hR2
            go_wp2_with fail
            exact ⟨⟨j + 1, a + x.left, false, by omega, by go_num, rfl, rfl, by omega, by omega, (fun _ => by omega), hR3, hb⟩, by simp [intOf]; omega⟩
          · skip
            have hR3 := Lib.hid (hR2.out.trans (by rw [canGo, E1.out, E2.out]; simp [q1, q3] : _ = canGo xs days due ((workL xs).drop (j + 1)) (a + x.left) false))
            clear hR2
            go_wp2_with fail
            exact ⟨⟨j + 1, a + x.left, false, by omega, by go_num, rfl, rfl, by omega, by omega, (fun _ => by omega), hR3, hb⟩, by simp [intOf]; omega⟩
      · clear ha2
        by_cases q3 : a + x.left ≤ x.due
        · skip
          have hR3 := Lib.hid (hR2.out.trans (by rw [canGo, E1.out, E2.out]; simp [q3] : _ = canGo xs days due ((workL xs).drop (j + 1)) (a + x.left) true))
          clear hR2
          go_wp2_with fail
          exact ⟨⟨j + 1, a + x.left, true, by omega, by go_num, rfl, rfl, by omega, by omega, (fun h => by cases h), hR3, hb⟩, by simp [intOf]; omega⟩
        · skip
          have hR3 := Lib.hid (hR2.out.trans (by rw [canGo, E1.out, E2.out]; simp [q3] : _ = false))
          clear hR2
          go_wp2_with fail
          go_returns
          exact Ret.mk (vb hR3.out.symm) (bl_trans hv2 hb)
    · have hjm : j = m := by omega
      subst hjm
      have hR2 := Lib.hid (hR.out.trans (by rw [List.drop_eq_nil_of_le (by rw [HM.out]; exact Nat.le_refl _)]; rfl : _ = (b || decide (a + days ≤ due))))
      clear hR
      cases b
      · have ha3 := ha2 rfl
        go_wp2_with fail
        go_returns
        exact Ret.mk (vb (by rw [hR2.out]; simp)) (bl_trans hv2 hb)
      · go_wp2_with fail
        go_returns
        exact Ret.mk (vb (by rw [hR2.out]; simp)) (bl_trans hv2 hb)
set_option maxRecDepth 100000 in
set_option maxHeartbeats 6400000 in
theorem PromiseFor_c (A : Option Addr) (xs : List Order) (n c : Nat) (day days : Int) (hn : Hid (xs.length = n)) (hm : (n : Int) ≤ 1048576) (hs : Hid (∀ x ∈ xs, x.customer.size ≤ 9223372036854775807)) (w : World) (hA : Arr w A (flat Order.cells xs)) : Calls Try.prog 6 #[.slice A n c, .int .i64 day, .int .i64 days] w (RetT #[.int .i64 (prV xs day days), .int .i64 (prC xs day days)] w) := by
  go_enter Try.func6, Try.ntmps6
  go_wp2_with fail
  refine (ordersCode_c A xs n c day hn hm hs _ hA).mono ?_
  rintro e W ⟨rfl, hv⟩
  obtain ⟨cd, hcd⟩ : ∃ cd, cd = codeD xs day := ⟨_, rfl⟩
  rw [← hcd]
  by_cases h0 : cd = 0
  case neg =>
    have hp : codeP xs day days = cd := by unfold codeP; rw [← hcd, if_neg h0]
    have HV := Lib.hid (show prV xs day days = 0 by unfold prV; rw [hp, if_neg h0])
    have HC := Lib.hid (show prC xs day days = cd by unfold prC; rw [hp, if_neg h0])
    have hne : (cd != 0) = true := by rw [bne_iff_ne]; exact h0
    have hbe : (cd == 0) = false := by simpa using h0
    clear hcd hp
    go_wp2_with fail
    go_returns
    exact RetT.mk (by rw [HV.out, HC.out]; rfl) hv
  obtain ⟨ho, hd0, hd1⟩ := codeD_ok (xs := xs) (day := day) (by rw [← hcd]; exact h0)
  have HO := Lib.hid ho
  have hn30 := (ords_small ho).1
  have hw30 := workL_le ho
  cases hi : inB days 1 100
  case false =>
    have hp : codeP xs day days = 2 := by unfold codeP; rw [← hcd, if_pos h0, hi]; rfl
    have HV := Lib.hid (show prV xs day days = 0 by unfold prV; rw [hp]; rfl)
    have HC := Lib.hid (show prC xs day days = 2 by unfold prC; rw [hp]; rfl)
    have hin := fun w => within_c days 1 100 w
    rw [hi] at hin
    replace hin := Lib.hid hin
    subst h0
    clear hcd hp hi ho
    go_wp2_with fail
    refine (hin.out _).mono ?_
    rintro e w' ⟨rfl, rfl⟩
    go_wp2_with fail
    go_returns
    exact RetT.mk (by rw [HV.out, HC.out]; rfl) hv
  have hp : codeP xs day days = 0 := by unfold codeP; rw [← hcd, if_pos h0, hi]; rfl
  obtain ⟨hy0, hy1⟩ := inB_iff.1 hi
  have HV := Lib.hid (show prV xs day days = (promP xs day days).1 by unfold prV; rw [if_pos hp])
  have HC := Lib.hid (show prC xs day days = (promP xs day days).2 by unfold prC; rw [if_pos hp])
  have HR := Lib.hid (show promP xs day days = promGo (canP xs day days) (10001 - day).toNat day from rfl)
  have hin := fun w => within_c days 1 100 w
  rw [hi] at hin
  replace hin := Lib.hid hin
  subst h0
  clear hcd hp hi ho
  go_wp2_with fail
  refine (hin.out _).mono ?_
  rintro e w' ⟨rfl, rfl⟩
  go_wp2_with fail
  obtain ⟨wo, rfl⟩ : ∃ wo : World, wo = w' := ⟨_, rfl⟩
  go_loopw [9] (fun uv wr => ∃ u : Int, uv = .int .i64 u ∧ day ≤ u ∧ u ≤ 10001 ∧ Hid (promP xs day days = promGo (canP xs day days) (10001 - u).toNat u) ∧ Below w.heap.size w wr) (fun uv _ => (10001 - intOf uv).toNat)
  case atStart => exact ⟨day, rfl, by omega, by omega, HR, hv⟩
  case round =>
    clear HR hv
    obtain ⟨u, rfl, hu0, hu1, hR, hv⟩ := hrel
    by_cases hle : u ≤ 10000
    · have hR2 := Lib.hid (hR.out.trans (promGo_step hle))
      clear hR
      go_wp2_with fail
      refine (canPromise_c A xs n c day days u hn HO hd0 hd1 hy0 hy1 (by omega) hle _ (hA.below hv)).mono ?_
      rintro e W3 ⟨rfl, hb3⟩
      cases hc : canP xs day days u
      · have hR3 := Lib.hid (hR2.out.trans (by rw [hc]; rfl : _ = promGo (canP xs day days) (10001 - (u + 1)).toNat (u + 1)))
        clear hc hR2
        go_wp2_with fail
        exact ⟨⟨u + 1, rfl, by omega, by omega, hR3, bl_trans hv hb3⟩, by simp [intOf]; omega⟩
      · have hR3 := Lib.hid (show promP xs day days = (u, 0) from hR2.out.trans (by rw [hc]; rfl))
        clear hc hR2
        go_wp2_with fail
        go_returns
        exact RetT.mk (by rw [HV.out, HC.out, hR3.out]; rfl) (bl_trans hv hb3)
    · have hR2 := Lib.hid (hR.out.trans (promGo_end hle))
      clear hR
      go_wp2_with fail
      go_returns
      exact RetT.mk (by rw [HV.out, HC.out, hR2.out]; rfl) hv
end Go.Proofs.Ytggficacnmddiaa
