/- The greatest delay: both sides. -/
import Derived.Test.YtggficacnmddiaaWrkD
namespace Go.Proofs.Ytggficacnmddiaa
open Go.RowKit

def gdI (xs : List Order) (day : Int) : Int := if codeD xs day = 0 then mostGo xs (workL xs) day 0 else 0
set_option maxRecDepth 100000 in
set_option maxHeartbeats 3200000 in
theorem GreatestDelay_c (A : Option Addr) (xs : List Order) (n c : Nat) (day : Int) (hn : Hid (xs.length = n)) (hm : (n : Int) ≤ 1048576) (hs : Hid (∀ x ∈ xs, x.customer.size ≤ 9223372036854775807)) (w : World) (hA : Arr w A (flat Order.cells xs)) : Calls Try.prog 11 #[.slice A n c, .int .i64 day] w (RetT #[.int .i64 (gdI xs day), .int .i64 (codeD xs day)] w) := by
  go_enter Try.func11, Try.ntmps11
  go_wp2_with fail
  refine (ordersCode_c A xs n c day hn hm hs _ hA).mono ?_
  rintro e W ⟨rfl, hv⟩
  obtain ⟨cd, hcd⟩ : ∃ cd, cd = codeD xs day := ⟨_, rfl⟩
  rw [← hcd]
  by_cases h0 : cd = 0
  case neg =>
    have HL := Lib.hid (show gdI xs day = 0 by unfold gdI; rw [if_neg (by rw [← hcd]; exact h0)])
    have HC := Lib.hid hcd
    have hne : (cd != 0) = true := by rw [bne_iff_ne]; exact h0
    clear hcd
    go_wp2_with fail
    go_returns
    exact RetT.mk (by rw [HL.out, ← HC.out]; rfl) hv
  have HL := Lib.hid (show gdI xs day = mostGo xs (workL xs) day 0 by unfold gdI; rw [if_pos (by rw [← hcd]; exact h0)])
  obtain ⟨ho, hd0, hd1⟩ := codeD_ok (xs := xs) (day := day) (by rw [← hcd]; exact h0)
  have HO := Lib.hid ho
  have hk := workL_le ho
  have hn30 := (ords_small ho).1
  have HC := Lib.hid hcd
  subst h0
  clear hcd ho
  go_wp2_with fail
  refine (delays_c A xs n c day hn HO hd0 hd1 _ (hA.below hv)).mono ?_
  rintro e W2 ⟨A2, c2, rfl, hown, hb2⟩
  have hv2 := bl_trans hv hb2
  have hB := Arr.own hown
  obtain ⟨D, hD⟩ : ∃ D, D = delays xs day := ⟨_, rfl⟩
  have hDn := Lib.hid (show D.length = n by rw [hD, delays_len]; exact hn.out)
  have HM := Lib.hid (show maxL 0 D = mostGo xs (workL xs) day 0 by rw [hD]; exact most_delays xs day)
  rw [← hD] at hB
  have hn3 : n ≤ 30 := by have := hn.out; omega
  clear hD hown hv hb2 hk hn30
  go_wp2_with fail
  go_loopw [7, 20] (fun mv iv wr => ∃ (k : Nat) (m : Int), k ≤ n ∧ iv = .int .i64 k ∧ mv = .int .i64 m ∧ Hid (maxL 0 D = maxL m (D.drop k)) ∧ Below W2.heap.size W2 wr) (fun _ iv _ => n - (intOf iv).toNat)
  case atStart => exact ⟨0, 0, by omega, rfl, rfl, Lib.hid rfl, Below.refl _ _⟩
  case round =>
    obtain ⟨k, m, hk, rfl, rfl, hR, hb⟩ := hrel
    by_cases hlt : k < n
    · obtain ⟨v, hx⟩ := get_of_lt (xs := D) (k := k) (by rw [hDn.out]; exact hlt)
      obtain ⟨ad, rfl, hab, c0⟩ := icell_at (hB.below hb) hx
      have hR2 := Lib.hid (hR.out.trans (by rw [drop_at hx]; simp only [maxL, List.foldl_cons]; congr 1; split <;> omega : _ = maxL (if m < v then v else m) (D.drop (k + 1))))
      clear hR hx
      go_wp2_with fail
      exact ⟨⟨k + 1, if m < v then v else m, by omega, by go_num, rfl, hR2, hb⟩, by simp [intOf]; omega⟩
    · have hkn : k = n := by omega
      subst hkn
      have hR2 := Lib.hid (hR.out.trans (by rw [List.drop_eq_nil_of_le (by rw [hDn.out]; exact Nat.le_refl _)]; rfl : _ = m))
      clear hR
      go_wp2_with fail
      go_returns
      exact RetT.mk (by rw [HL.out, ← HM.out, hR2.out, ← HC.out]; rfl) (bl_trans hv2 hb)
set_option maxRecDepth 100000 in
set_option maxHeartbeats 3200000 in
theorem SGreatestDelay_c (A : Option Addr) (xs : List Order) (n c : Nat) (day : Int) (hn : Hid (xs.length = n)) (hm : (n : Int) ≤ 1048576) (hs : Hid (∀ x ∈ xs, x.customer.size ≤ 9223372036854775807)) (w : World) (hA : Arr w A (flat Order.cells xs)) : Calls Try.prog 12 #[.slice A n c, .int .i64 day] w (RetT #[.int .i64 (gdI xs day), .int .i64 (codeD xs day)] w) := by
  go_enter Try.func12, Try.ntmps12
  go_wp2_with fail
  refine (l25Code_c A xs n c day hn hm hs _ hA).mono ?_
  rintro e W ⟨rfl, hv⟩
  obtain ⟨cd, hcd⟩ : ∃ cd, cd = codeD xs day := ⟨_, rfl⟩
  rw [← hcd]
  by_cases h0 : cd = 0
  case neg =>
    have HL := Lib.hid (show gdI xs day = 0 by unfold gdI; rw [if_neg (by rw [← hcd]; exact h0)])
    have HC := Lib.hid hcd
    have hne : (cd != 0) = true := by rw [bne_iff_ne]; exact h0
    clear hcd
    go_wp2_with fail
    go_returns
    exact RetT.mk (by rw [HL.out, ← HC.out]; rfl) hv
  have HL := Lib.hid (show gdI xs day = mostGo xs (workL xs) day 0 by unfold gdI; rw [if_pos (by rw [← hcd]; exact h0)])
  obtain ⟨ho, hd0, hd1⟩ := codeD_ok (xs := xs) (day := day) (by rw [← hcd]; exact h0)
  have HO := Lib.hid ho
  have hk := workL_le ho
  have hn30 := (ords_small ho).1
  have HC := Lib.hid hcd
  subst h0
  clear hcd ho
  go_wp2_with fail
  refine (l25Work_c A xs n c hn (by have := hn.out; omega) (Lib.hid (ords_small HO.out).2.1) _ (hA.below hv)).mono ?_
  rintro e W2 ⟨A2, c2, rfl, hown, hb2⟩
  have hv2 := bl_trans hv hb2
  have hB := Arr.own hown
  obtain ⟨m, hm0⟩ : ∃ m, m = (workL xs).length := ⟨_, rfl⟩
  rw [← hm0] at hk ⊢
  have HM := Lib.hid hm0.symm
  have HR := Lib.hid (show mostGo xs (workL xs) day 0 = mostGo xs ((workL xs).drop 0) day 0 from rfl)
  clear hm0 hown hv hb2 hn30
  go_wp2_with fail
  go_loopw [1, 7, 9] (fun dv mv iv wr => ∃ (j : Nat) (d mo : Int), j ≤ m ∧ iv = .int .i64 j ∧ dv = .int .i64 d ∧ mv = .int .i64 mo ∧ 0 ≤ d ∧ d ≤ 10000 + 100 * j ∧ 0 ≤ mo ∧ mo ≤ 20000 ∧ Hid (mostGo xs (workL xs) day 0 = mostGo xs ((workL xs).drop j) d mo) ∧ Below W2.heap.size W2 wr) (fun _ _ iv _ => m - (intOf iv).toNat)
  case atStart => exact ⟨0, day, 0, by omega, rfl, rfl, rfl, hd0, by omega, by omega, by omega, HR, Below.refl _ _⟩
  case round =>
    clear HR
    obtain ⟨j, d, mo, hj, rfl, rfl, rfl, hd0', hd1', hm0', hm1', hR, hb⟩ := hrel
    by_cases hlt : j < m
    · obtain ⟨z, hz⟩ := get_of_lt (xs := workL xs) (k := j) (by rw [HM.out]; exact hlt)
      obtain ⟨k, x, hzk, hx⟩ := workL_inR xs z (List.mem_of_getElem? hz)
      subst hzk
      obtain ⟨ad, hA2, hab, o0⟩ := icell_at (hB.below hb) hz
      have hkn : k < n := by have := (List.getElem?_eq_some_iff.1 hx).1; have := hn.out; omega
      obtain ⟨ad', hA', hab', c0, c1, c2', c3, c4, c5⟩ := Order.at_ (hA.below (bl_trans hv2 hb)) hx
      obtain ⟨e1, e2, f1, f2, f3, f4⟩ := order_facts HO.out hx
      have hR2 := Lib.hid (hR.out.trans (by rw [drop_at hz]; simp only [mostGo, e1, e2] : _ = mostGo xs ((workL xs).drop (j + 1)) (d + x.left) (max mo (d + x.left - x.due))))
      subst hA2
      subst hA'
      have k0 : (0 : Int) ≤ (k : Int) := by omega
      have k1 : (k : Int) < (n : Int) := by omega
      have b1 : 0 ≤ max mo (d + x.left - x.due) := by omega
      have b2 : max mo (d + x.left - x.due) ≤ 20000 := by omega
      obtain ⟨mo2, hmo2⟩ : ∃ mo2, mo2 = max mo (d + x.left - x.due) := ⟨_, rfl⟩
      have hmx := fun w => l00Max_c mo (d + x.left - x.due) w
      rw [← hmo2] at hmx hR2 b1 b2
      replace hmx := Lib.hid hmx
      clear hz hx e1 e2 hR hmo2
      go_wp2_with fail
      refine (hmx.out _).mono ?_
      rintro e w' ⟨rfl, rfl⟩
      go_wp2_with fail
      exact ⟨⟨j + 1, d + x.left, mo2, by omega, by go_num, rfl, rfl, by omega, by omega, b1, b2, hR2, hb⟩, by simp [intOf]; omega⟩
    · have hjm : j = m := by omega
      subst hjm
      have hR2 := Lib.hid (hR.out.trans (by rw [List.drop_eq_nil_of_le (by rw [HM.out]; exact Nat.le_refl _)]; rfl : _ = mo))
      clear hR
      go_wp2_with fail
      go_returns
      exact RetT.mk (by rw [HL.out, hR2.out, ← HC.out]; rfl) (bl_trans hv2 hb)
end Go.Proofs.Ytggficacnmddiaa
