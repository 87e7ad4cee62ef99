/- Promises: the reference's. -/
import Derived.Test.YtggficacnmddiaaProm
namespace Go.Proofs.Ytggficacnmddiaa
open Go.RowKit

set_option maxRecDepth 100000 in
set_option maxHeartbeats 6400000 in
theorem SPromiseFor_c (A : Option Addr) (xs : List Order) (n c : Nat) (day days : Int) (hn : Hid (xs.length = n)) (hm : (n : Int) ≤ 1048576) (hs : Hid (∀ x ∈ xs, x.customer.size ≤ 9223372036854775807)) (w : World) (hA : Arr w A (flat Order.cells xs)) : Calls Try.prog 7 #[.slice A n c, .int .i64 day, .int .i64 days] w (RetT #[.int .i64 (prV xs day days), .int .i64 (prC xs day days)] w) := by
  go_enter Try.func7, Try.ntmps7
  go_wp2_with fail
  refine (l25Code_c A xs n c day hn hm hs _ hA).mono ?_
  rintro e W ⟨rfl, hv⟩
  obtain ⟨cd, hcd⟩ : ∃ cd, cd = codeD xs day := ⟨_, rfl⟩
  rw [← hcd]
  by_cases h0 : cd = 0
  case neg =>
    have hp : codeP xs day days = cd := by unfold codeP; rw [← hcd, if_neg h0]
    have HV := Lib.hid (show prV xs day days = 0 by unfold prV; rw [hp, if_neg h0])
    have HC := Lib.hid (show prC xs day days = cd by unfold prC; rw [hp, if_neg h0])
    have hne : (cd != 0) = true := by rw [bne_iff_ne]; exact h0
    have hbe : (cd == 0) = false := by simpa using h0
    clear hcd hp
    go_wp2_with fail
    go_returns
    exact RetT.mk (by rw [HV.out, HC.out]; rfl) hv
  obtain ⟨ho, hd0, hd1⟩ := codeD_ok (xs := xs) (day := day) (by rw [← hcd]; exact h0)
  have HO := Lib.hid ho
  have hn30 := (ords_small ho).1
  have hw30 := workL_le ho
  cases hi : inB days 1 100
  case false =>
    have hp : codeP xs day days = 2 := by unfold codeP; rw [← hcd, if_pos h0, hi]; rfl
    have HV := Lib.hid (show prV xs day days = 0 by unfold prV; rw [hp]; rfl)
    have HC := Lib.hid (show prC xs day days = 2 by unfold prC; rw [hp]; rfl)
    have hin := fun w => l00In_c days 1 100 w
    rw [hi] at hin
    replace hin := Lib.hid hin
    subst h0
    clear hcd hp hi ho
    go_wp2_with fail
    refine (hin.out _).mono ?_
    rintro e w' ⟨rfl, rfl⟩
    go_wp2_with fail
    go_returns
    exact RetT.mk (by rw [HV.out, HC.out]; rfl) hv
  have hp : codeP xs day days = 0 := by unfold codeP; rw [← hcd, if_pos h0, hi]; rfl
  obtain ⟨hy0, hy1⟩ := inB_iff.1 hi
  have HV := Lib.hid (show prV xs day days = (promP xs day days).1 by unfold prV; rw [if_pos hp])
  have HC := Lib.hid (show prC xs day days = (promP xs day days).2 by unfold prC; rw [if_pos hp])
  have HR := Lib.hid (show promP xs day days = promGo (canP xs day days) (10001 - day).toNat day from rfl)
  have hin := fun w => l00In_c days 1 100 w
  rw [hi] at hin
  replace hin := Lib.hid hin
  subst h0
  clear hcd hp hi ho
  go_wp2_with fail
  refine (hin.out _).mono ?_
  rintro e w' ⟨rfl, rfl⟩
  go_wp2_with fail
  refine (l25Work_c A xs n c hn (by have := hn.out; omega) (Lib.hid (ords_small HO.out).2.1) _ (hA.below hv)).mono ?_
  rintro e W2 ⟨A2, c2, rfl, hown, hb2⟩
  have hv2 := bl_trans hv hb2
  have hB := Arr.own hown
  obtain ⟨m, hm0⟩ : ∃ m, m = (workL xs).length := ⟨_, rfl⟩
  rw [← hm0] at hw30 ⊢
  have HM := Lib.hid hm0.symm
  clear hm0 hown hv hb2 hn30
  go_wp2_with fail
  go_loopw [10] (fun uv wr => ∃ u : Int, uv = .int .i64 u ∧ day ≤ u ∧ u ≤ 10001 ∧ Hid (promP xs day days = promGo (canP xs day days) (10001 - u).toNat u) ∧ Below W2.heap.size W2 wr) (fun uv _ => (10001 - intOf uv).toNat)
  case atStart => exact ⟨day, rfl, by omega, by omega, HR, Below.refl _ _⟩
  case round =>
    clear HR
    obtain ⟨u, rfl, hu0, hu1, hR, hb⟩ := hrel
    by_cases hle : u ≤ 10000
    case neg =>
      have hR2 := Lib.hid (hR.out.trans (promGo_end hle))
      clear hR
      go_wp2_with fail
      go_returns
      exact RetT.mk (by rw [HV.out, HC.out, hR2.out]; rfl) (bl_trans hv2 hb)
    have hR2 := Lib.hid (hR.out.trans (promGo_step hle))
    have HI := Lib.hid (show (true && canGo xs days u ((workL xs).drop 0) day false) = canP xs day days u from rfl)
    clear hR
    go_wp2_with fail
    obtain ⟨wo, rfl⟩ : ∃ wo : World, wo = wr := ⟨_, rfl⟩
    go_loopw [11, 12, 13, 14] (fun av fv bv iv wq => ∃ (j : Nat) (a : Int) (fi b : Bool), j ≤ m ∧ iv = .int .i64 j ∧ av = .int .i64 a ∧ fv = .bool fi ∧ bv = .bool b ∧ 0 ≤ a ∧ a ≤ 10100 + 100 * j ∧ (b = false → a ≤ 10000 + 100 * j) ∧ Hid ((fi && canGo xs days u ((workL xs).drop j) a b) = canP xs day days u) ∧ Below W2.heap.size W2 wq) (fun _ _ _ iv _ => m - (intOf iv).toNat)
    case atStart => exact ⟨0, day, true, false, by omega, rfl, rfl, rfl, rfl, hd0, by omega, fun _ => by omega, HI, hb⟩
    case round =>
      clear HI hb
      obtain ⟨j, a, fi, b, hj, rfl, rfl, rfl, rfl, ha0, ha1, ha2, hR, hb⟩ := hrel
      by_cases hlt : j < m
      · obtain ⟨z, hz⟩ := get_of_lt (xs := workL xs) (k := j) (by rw [HM.out]; exact hlt)
        obtain ⟨k, x, hzk, hx⟩ := workL_inR xs z (List.mem_of_getElem? hz)
        subst hzk
        obtain ⟨ad, hA2, hab, o0⟩ := icell_at (hB.below hb) hz
        have hkn : k < n := by have := (List.getElem?_eq_some_iff.1 hx).1; have := hn.out; omega
        obtain ⟨ad', hA', hab', c0, c1, c2', c3, c4, c5⟩ := Order.at_ (hA.below (bl_trans hv2 hb)) hx
        obtain ⟨e1, e2, f1, f2, f3, f4⟩ := order_facts HO.out hx
        have hR3 := Lib.hid ((by rw [drop_at hz] : (fi && canGo xs days u ((k : Int) :: (workL xs).drop (j + 1)) a b) = (fi && canGo xs days u ((workL xs).drop j) a b)).trans hR.out)
        subst hA2
        subst hA'
        have k0 : (0 : Int) ≤ (k : Int) := by omega
        have k1 : (k : Int) < (n : Int) := by omega
        have E1 := Lib.hid e1
        have E2 := Lib.hid e2
        clear hz hx e1 e2 hR
        cases b
        · have ha3 := ha2 rfl
          clear ha2
          by_cases q1 : u < x.due
          · by_cases q2 : a + days ≤ u
            · by_cases q3 : a + days + x.left ≤ x.due
              · skip
                cases fi
                · skip
                  have hR4 := Lib.hid ((by rw [canGo, E1.out, E2.out]; simp [q1, q2, q3] : (false && canGo xs days u ((workL xs).drop (j + 1)) (a + days + x.left) true) = (false && canGo xs days u ((k : Int) :: (workL xs).drop (j + 1)) a false)).trans hR3.out)
                  clear hR3
                  go_wp2_with fail
                  exact ⟨⟨j + 1, a + days + x.left, false, true, by omega, by go_num, rfl, rfl, rfl, by omega, by omega, (fun h => by cases h), hR4, hb⟩, by simp [intOf]; omega⟩
                · skip
                  have hR4 := Lib.hid ((by rw [canGo, E1.out, E2.out]; simp [q1, q2, q3] : (true && canGo xs days u ((workL xs).drop (j + 1)) (a + days + x.left) true) = (true && canGo xs days u ((k : Int) :: (workL xs).drop (j + 1)) a false)).trans hR3.out)
                  clear hR3
                  go_wp2_with fail
                  exact ⟨⟨j + 1, a + days + x.left, true, true, by omega, by go_num, rfl, rfl, rfl, by omega, by omega, (fun h => by cases h), hR4, hb⟩, by simp [intOf]; omega⟩
              · skip
                cases fi
                · skip
                  have hR4 := Lib.hid ((by rw [canGo, E1.out, E2.out]; simp [q1, q2, q3] : (false && canGo xs days u ((workL xs).drop (j + 1)) (a + days + x.left) true) = (false && canGo xs days u ((k : Int) :: (workL xs).drop (j + 1)) a false)).trans hR3.out)
                  clear hR3
                  go_wp2_with fail
                  exact ⟨⟨j + 1, a + days + x.left, false, true, by omega, by go_num, rfl, rfl, rfl, by omega, by omega, (fun h => by cases h), hR4, hb⟩, by simp [intOf]; omega⟩
                · skip
                  have hR4 := Lib.hid ((by rw [canGo, E1.out, E2.out]; simp [q1, q2, q3] : (false && canGo xs days u ((workL xs).drop (j + 1)) (a + days + x.left) true) = (true && canGo xs days u ((k : Int) :: (workL xs).drop (j + 1)) a false)).trans hR3.out)
                  clear hR3
                  go_wp2_with fail
                  exact ⟨⟨j + 1, a + days + x.left, false, true, by omega, by go_num, rfl, rfl, rfl, by omega, by omega, (fun h => by cases h), hR4, hb⟩, by simp [intOf]; omega⟩
            · by_cases q3 : a + days + x.left ≤ x.due
              · skip
                cases fi
                · skip
                  have hR4 := Lib.hid ((by rw [canGo, E1.out, E2.out]; simp [q1, q2, q3] : (false && canGo xs days u ((workL xs).drop (j + 1)) (a + days + x.left) true) = (false && canGo xs days u ((k : Int) :: (workL xs).drop (j + 1)) a false)).trans hR3.out)
                  clear hR3
                  go_wp2_with fail
                  exact ⟨⟨j + 1, a + days + x.left, false, true, by omega, by go_num, rfl, rfl, rfl, by omega, by omega, (fun h => by cases h), hR4, hb⟩, by simp [intOf]; omega⟩
                · skip
                  have hR4 := Lib.hid ((by rw [canGo, E1.out, E2.out]; simp [q1, q2, q3] : (false && canGo xs days u ((workL xs).drop (j + 1)) (a + days + x.left) true) = (true && canGo xs days u ((k : Int) :: (workL xs).drop (j + 1)) a false)).trans hR3.out)
                  clear hR3
                  go_wp2_with fail
                  exact ⟨⟨j + 1, a + days + x.left, false, true, by omega, by go_num, rfl, rfl, rfl, by omega, by omega, (fun h => by cases h), hR4, hb⟩, by simp [intOf]; omega⟩
              · skip
                cases fi
                · skip
                  have hR4 := Lib.hid ((by rw [canGo, E1.out, E2.out]; simp [q1, q2, q3] : (false && canGo xs days u ((workL xs).drop (j + 1)) (a + days + x.left) true) = (false && canGo xs days u ((k : Int) :: (workL xs).drop (j + 1)) a false)).trans hR3.out)
                  clear hR3
                  go_wp2_with fail
                  exact ⟨⟨j + 1, a + days + x.left, false, true, by omega, by go_num, rfl, rfl, rfl, by omega, by omega, (fun h => by cases h), hR4, hb⟩, by simp [intOf]; omega⟩
                · skip
                  have hR4 := Lib.hid ((by rw [canGo, E1.out, E2.out]; simp [q1, q2, q3] : (false && canGo xs days u ((workL xs).drop (j + 1)) (a + days + x.left) true) = (true && canGo xs days u ((k : Int) :: (workL xs).drop (j + 1)) a false)).trans hR3.out)
                  clear hR3
                  go_wp2_with fail
                  exact ⟨⟨j + 1, a + days + x.left, false, true, by omega, by go_num, rfl, rfl, rfl, by omega, by omega, (fun h => by cases h), hR4, hb⟩, by simp [intOf]; omega⟩
          · by_cases q3 : a + x.left ≤ x.due
            · skip
              cases fi
              · skip
                have hR4 := Lib.hid ((by rw [canGo, E1.out, E2.out]; simp [q1, q3] : (false && canGo xs days u ((workL xs).drop (j + 1)) (a + x.left) false) = (false && canGo xs days u ((k : Int) :: (workL xs).drop (j + 1)) a false)).trans hR3.out)
                clear hR3
                go_wp2_with fail
                exact ⟨⟨j + 1, a + x.left, false, false, by omega, by go_num, rfl, rfl, rfl, by omega, by omega, (fun _ => by omega), hR4, hb⟩, by simp [intOf]; omega⟩
              · skip
                have hR4 := Lib.hid ((by rw [canGo, E1.out, E2.out]; simp [q1, q3] : (true && canGo xs days u ((workL xs).drop (j + 1)) (a + x.left) false) = (true && canGo xs days u ((k : Int) :: (workL xs).drop (j + 1)) a false)).trans hR3.out)
                clear hR3
                go_wp2_with fail
                exact ⟨⟨j + 1, a + x.left, true, false, by omega, by go_num, rfl, rfl, rfl, by omega, by omega, (fun _ => by omega), hR4, hb⟩, by simp [intOf]; omega⟩
            · skip
              cases fi
              · skip
                have hR4 := Lib.hid ((by rw [canGo, E1.out, E2.out]; simp [q1, q3] : (false && canGo xs days u ((workL xs).drop (j + 1)) (a + x.left) false) = (false && canGo xs days u ((k : Int) :: (workL xs).drop (j + 1)) a false)).trans hR3.out)
                clear hR3
                go_wp2_with fail
                exact ⟨⟨j + 1, a + x.left, false, false, by omega, by go_num, rfl, rfl, rfl, by omega, by omega, (fun _ => by omega), hR4, hb⟩, by simp [intOf]; omega⟩
              · skip
                have hR4 := Lib.hid ((by rw [canGo, E1.out, E2.out]; simp [q1, q3] : (true && canGo xs days u ((workL xs).drop (j + 1)) (a + x.left) false) = (true && canGo xs days u ((k : Int) :: (workL xs).drop (j + 1)) a false)).trans hR3.out)
                clear hR3
                go_wp2_with fail
                exact ⟨⟨j + 1, a + x.left, true, false, by omega, by go_num, rfl, rfl, rfl, by omega, by omega, (fun _ => by omega), hR4, hb⟩, by simp [intOf]; omega⟩
        · clear ha2
          by_cases q3 : a + x.left ≤ x.due
          · skip
            cases fi
            · skip
              have hR4 := Lib.hid ((by rw [canGo, E1.out, E2.out]; simp [q3] : (false && canGo xs days u ((workL xs).drop (j + 1)) (a + x.left) true) = (false && canGo xs days u ((k : Int) :: (workL xs).drop (j + 1)) a true)).trans hR3.out)
              clear hR3
              go_wp2_with fail
              exact ⟨⟨j + 1, a + x.left, false, true, by omega, by go_num, rfl, rfl, rfl, by omega, by omega, (fun h => by cases h), hR4, hb⟩, by simp [intOf]; omega⟩
            · skip
              have hR4 := Lib.hid ((by rw [canGo, E1.out, E2.out]; simp [q3] : (true && canGo xs days u ((workL xs).drop (j + 1)) (a + x.left) true) = (true && canGo xs days u ((k : Int) :: (workL xs).drop (j + 1)) a true)).trans hR3.out)
              clear hR3
              go_wp2_with fail
              exact ⟨⟨j + 1, a + x.left, true, true, by omega, by go_num, rfl, rfl, rfl, by omega, by omega, (fun h => by cases h), hR4, hb⟩, by simp [intOf]; omega⟩
          · skip
            cases fi
            · skip
              have hR4 := Lib.hid ((by rw [canGo, E1.out, E2.out]; simp [q3] : (false && canGo xs days u ((workL xs).drop (j + 1)) (a + x.left) true) = (false && canGo xs days u ((k : Int) :: (workL xs).drop (j + 1)) a true)).trans hR3.out)
              clear hR3
              go_wp2_with fail
              exact ⟨⟨j + 1, a + x.left, false, true, by omega, by go_num, rfl, rfl, rfl, by omega, by omega, (fun h => by cases h), hR4, hb⟩, by simp [intOf]; omega⟩
            · skip
              have hR4 := Lib.hid ((by rw [canGo, E1.out, E2.out]; simp [q3] : (false && canGo xs days u ((workL xs).drop (j + 1)) (a + x.left) true) = (true && canGo xs days u ((k : Int) :: (workL xs).drop (j + 1)) a true)).trans hR3.out)
              clear hR3
              go_wp2_with fail
              exact ⟨⟨j + 1, a + x.left, false, true, by omega, by go_num, rfl, rfl, rfl, by omega, by omega, (fun h => by cases h), hR4, hb⟩, by simp [intOf]; omega⟩
      · have hjm : j = m := by omega
        subst hjm
        have hR3 := Lib.hid ((by rw [List.drop_eq_nil_of_le (by rw [HM.out]; exact Nat.le_refl _)] : (fi && canGo xs days u [] a b) = (fi && canGo xs days u ((workL xs).drop j) a b)).trans hR.out)
        clear hR
        cases b
        · have ha3 := ha2 rfl
          clear ha2
          cases fi
          · by_cases q5 : a + days ≤ u
            · skip
              have hR4 := Lib.hid ((by simp [canGo, q5] : false = (false && canGo xs days u [] a false)).trans hR3.out)
              clear hR3
              have hR5 := Lib.hid (show promP xs day days = promGo (canP xs day days) (10001 - (u + 1)).toNat (u + 1) from hR2.out.trans (by rw [← hR4.out]; rfl))
              clear hR4 hR2
              go_wp2_with fail
              go_roundw
              case rel => exact ⟨u + 1, rfl, by omega, by omega, hR5, hb⟩
              case measure => simp [intOf]; omega
            · skip
              have hR4 := Lib.hid ((by simp [canGo, q5] : false = (false && canGo xs days u [] a false)).trans hR3.out)
              clear hR3
              have hR5 := Lib.hid (show promP xs day days = promGo (canP xs day days) (10001 - (u + 1)).toNat (u + 1) from hR2.out.trans (by rw [← hR4.out]; rfl))
              clear hR4 hR2
              go_wp2_with fail
              go_roundw
              case rel => exact ⟨u + 1, rfl, by omega, by omega, hR5, hb⟩
              case measure => simp [intOf]; omega
          · by_cases q5 : a + days ≤ u
            · skip
              have hR4 := Lib.hid ((by simp [canGo, q5] : true = (true && canGo xs days u [] a false)).trans hR3.out)
              clear hR3
              have hR5 := Lib.hid (show promP xs day days = (u, 0) from hR2.out.trans (by rw [← hR4.out]; rfl))
              clear hR4 hR2
              go_wp2_with fail
              go_returns
              exact RetT.mk (by rw [HV.out, HC.out, hR5.out]; rfl) (bl_trans hv2 hb)
            · skip
              have hR4 := Lib.hid ((by simp [canGo, q5] : false = (true && canGo xs days u [] a false)).trans hR3.out)
              clear hR3
              have hR5 := Lib.hid (show promP xs day days = promGo (canP xs day days) (10001 - (u + 1)).toNat (u + 1) from hR2.out.trans (by rw [← hR4.out]; rfl))
              clear hR4 hR2
              go_wp2_with fail
              go_roundw
              case rel => exact ⟨u + 1, rfl, by omega, by omega, hR5, hb⟩
              case measure => simp [intOf]; omega
        · cases fi
          · skip
            have hR4 := Lib.hid ((by simp [canGo] : false = (false && canGo xs days u [] a true)).trans hR3.out)
            clear hR3
            have hR5 := Lib.hid (show promP xs day days = promGo (canP xs day days) (10001 - (u + 1)).toNat (u + 1) from hR2.out.trans (by rw [← hR4.out]; rfl))
            clear hR4 hR2
            go_wp2_with fail
            go_roundw
            case rel => exact ⟨u + 1, rfl, by omega, by omega, hR5, hb⟩
            case measure => simp [intOf]; omega
          · skip
            have hR4 := Lib.hid ((by simp [canGo] : true = (true && canGo xs days u [] a true)).trans hR3.out)
            clear hR3
            have hR5 := Lib.hid (show promP xs day days = (u, 0) from hR2.out.trans (by rw [← hR4.out]; rfl))
            clear hR4 hR2
            go_wp2_with fail
            go_returns
            exact RetT.mk (by rw [HV.out, HC.out, hR5.out]; rfl) (bl_trans hv2 hb)
end Go.Proofs.Ytggficacnmddiaa
