/- A number read from its decimal form: the reference's function. -/
import Derived.Test.YtihgjmhhpiobbaaGreatDoorRdP
import Derived.Test.YtihgjmhhpiobbaaGreatDoorOwn
namespace Go.Proofs.YtihgjmhhpiobbaaGreatDoor
open Go.RowKit

def numV (s : ByteArray) : Int := if okN s.data.toList = true then numL s.data.toList else 0
theorem numV_no {s : ByteArray} (h : okN s.data.toList = false) : numV s = 0 := by unfold numV; rw [h]; rfl
theorem numV_yes {s : ByteArray} (h : okN s.data.toList = true) : numV s = numL s.data.toList := by unfold numV; rw [h]; rfl
theorem numV_bd (s : ByteArray) : -1000000000000000000 < numV s ∧ numV s < 1000000000000000000 := by
  cases h : okN s.data.toList
  · rw [numV_no h]; omega
  · rw [numV_yes h]; exact numL_bd (okN_iff.1 h).2.2.1 (okN_iff.1 h).2.1
theorem okN_short {l : List UInt8} (h : (bare l).length < 1) : okN l = false := by
  cases ho : okN l
  · rfl
  · obtain ⟨h2, _⟩ := okN_iff.1 ho
    omega
theorem okN_all {l : List UInt8} (h : (bare l).all isDig = false) : okN l = false := by
  cases ho : okN l
  · rfl
  · rw [(okN_iff.1 ho).2.2.1] at h; exact absurd h (by simp)
theorem okN_last {l : List UInt8} (h1 : 1 ≤ (bare l).length) (h2 : (bare l).length ≤ 18) (h3 : (bare l).all isDig = true) : okN l = decide (Lib.itoa (numL l) = l) := by
  unfold okN
  rw [decide_eq_true h1, decide_eq_true h2, h3, Bool.true_and, Bool.true_and, Bool.true_and]
theorem pow_step {v k d : Nat} (h : v + 1 ≤ 10 ^ k) (hd : d ≤ 9) (hk : k < 18) : 10 * v + d + 1 ≤ 10 ^ (k + 1) ∧ 10 * v + d < 1000000000000000000 := by
  have h1 : 10 ^ (k + 1) = 10 * 10 ^ k := by rw [Nat.pow_succ, Nat.mul_comm]
  have h2 := pow_le (k := k + 1) (by omega)
  omega
theorem dval_step {t : ByteArray} {k : Nat} (h : k < t.size) (v : Nat) : dval (t.data.toList.drop k) v = dval (t.data.toList.drop (k + 1)) (10 * v + (t[k].toNat - 48)) := by
  rw [drop_at (byte_at h)]
  simp only [dval]
  rw [Nat.mul_comm]
theorem all_step {t : ByteArray} {k : Nat} (h : k < t.size) : (t.data.toList.drop k).all isDig = (isDig t[k] && (t.data.toList.drop (k + 1)).all isDig) := by rw [drop_at (byte_at h), List.all_cons]
theorem bare_no {s : ByteArray} (h : 0 < s.size) (h45 : ¬ s[0].toNat = 45) : s.data.toList = bare s.data.toList ∧ ∀ n, sgn s.data.toList n = n := by
  have e0 : s.data.toList = s[0] :: s.data.toList.drop 1 := by have := drop_at (byte_at h); simpa using this
  have hc : ¬ s[0] = 45 := fun e => h45 (c45.2 e)
  rw [e0]
  exact ⟨by simp [bare, hc], by intro n; simp [sgn, hc]⟩
theorem bare_yes {s : ByteArray} (h : 0 < s.size) (h45 : s[0].toNat = 45) : (s.extract 1 s.size).data.toList = bare s.data.toList ∧ ∀ n, sgn s.data.toList n = -(n : Int) := by
  have e0 : s.data.toList = s[0] :: s.data.toList.drop 1 := by have := drop_at (byte_at h); simpa using this
  have hc : s[0] = 45 := c45.1 h45
  have e1 : (s.extract 1 s.size).data.toList = s.data.toList.drop 1 := by
    rw [ByteArray.data_extract, Array.toList_extract]
    simp [List.take_of_length_le]
  rw [e1]
  generalize s.data.toList.drop 1 = r at e0
  rw [e0]
  exact ⟨by simp [bare, hc], by intro n; simp [sgn, hc]⟩
set_option maxRecDepth 100000 in
set_option maxHeartbeats 2000000 in
theorem l01Number_c (s : ByteArray) (hs : s.size ≤ 9223372036854775807) (w : World) : Calls Tryz.prog 129 #[.string s] w (RetT #[.int .i64 (numV s), .bool (okN s.data.toList)] w) := by
  by_cases h0 : s.size = 0
  · have he : (s.toList == []) = true := by rw [bytes_nil]; simp only [h0]; rfl
    have hnil : s.data.toList = [] := List.eq_nil_of_length_eq_zero (by rw [bytes_len]; exact h0)
    have HO := Lib.hid (show okN s.data.toList = false by rw [hnil]; rfl)
    clear hnil
    have hd1 : (s.size : Int) < 1 := by omega
    go_enter Tryz.func129, Tryz.ntmps129
    go_wp2_with fail
    go_returns
    exact RetT.mk (by rw [numV_no HO.out, HO.out]; rfl) (Below.refl _ _)
  have he : (s.toList == []) = false := by rw [bytes_nil]; exact decide_eq_false h0
  have hp : 0 < s.size := by omega
  clear h0
  by_cases h45 : s[0].toNat = 45
  · obtain ⟨hbt, hsg⟩ := bare_yes hp h45
    have hq : (s[0].toNat : Int) = 45 := by omega
    have hsz : (s.extract 1 s.size).size < s.size := by simp; omega
    obtain ⟨t, ht⟩ : ∃ t, s.extract 1 s.size = t := ⟨_, rfl⟩
    rw [ht] at hbt hsz
    go_enter Tryz.func129, Tryz.ntmps129
    have hts : t.size = (bare s.data.toList).length := by rw [← bytes_len]; exact congrArg List.length hbt
    by_cases hl1 : t.size < 1
    · have HO := Lib.hid (okN_short (l := s.data.toList) (by omega))
      clear hbt hsg hts
      go_wp2_with fail
      all_goals
        go_returns
        exact RetT.mk (by rw [numV_no HO.out, HO.out]; rfl) (Below.refl _ _)
    have hl1' : 1 ≤ (t.size : Int) := by omega
    have hdl : decide ((t.size : Int) < 1) = false := decide_eq_false (by omega)
    by_cases hl2 : 18 < (t.size : Int)
    · have HO := Lib.hid (okN_long (l := s.data.toList) (by omega))
      clear hbt hsg hts
      go_wp2_with fail
      all_goals
        go_returns
        exact RetT.mk (by rw [numV_no HO.out, HO.out]; rfl) (Below.refl _ _)
    have hl2' : (t.size : Int) ≤ 18 := by omega
    have HB := Lib.hid hbt
    have HG := Lib.hid hsg
    have HTS := Lib.hid hts
    have hR := Lib.hid (show dval (bare s.data.toList) 0 = dval (t.data.toList.drop 0) 0 by rw [List.drop_zero]; exact congrArg (dval · 0) hbt.symm)
    have hD := Lib.hid (show (bare s.data.toList).all isDig = (t.data.toList.drop 0).all isDig by rw [List.drop_zero]; exact congrArg (List.all · isDig) hbt.symm)
    clear hbt hsg hts
    go_wp2_with fail
    go_loop [5, 6] (fun n i => ∃ (k v : Nat), k ≤ t.size ∧ i = .int .i64 k ∧ n = .int .i64 v ∧ v < 1000000000000000000 ∧ Hid (v + 1 ≤ 10 ^ k) ∧ Hid (dval (bare s.data.toList) 0 = dval (t.data.toList.drop k) v) ∧ Hid ((bare s.data.toList).all isDig = (t.data.toList.drop k).all isDig)) (fun _ i => t.size - (intOf i).toNat)
    case atStart => exact ⟨0, 0, by omega, rfl, rfl, by omega, Lib.hid (by simp), hR, hD⟩
    case round =>
      clear hR hD
      obtain ⟨k, v, hk, rfl, rfl, hv, hP, hR, hD⟩ := hrel
      by_cases hlt : k < t.size
      · have hR2 := Lib.hid (hR.out.trans (dval_step hlt v))
        have hD2 := Lib.hid (hD.out.trans (all_step hlt))
        clear hR hD
        cases hd : digB t[k]
        · have HO := Lib.hid (okN_all (l := s.data.toList) (by rw [hD2.out, show isDig t[k] = digB t[k] from rfl, hd, Bool.false_and]))
          go_wp2_with (go_at_call 107; refine (l01Digit_c _ _).mono ?_; rintro e w' ⟨rfl, rfl⟩)
          go_returns
          exact RetT.mk (by rw [numV_no HO.out, HO.out]; rfl) (Below.refl _ _)
        · have hd2 := isDig_iff.1 (show isDig t[k] = true from hd)
          have hD3 := Lib.hid (hD2.out.trans (by rw [show isDig t[k] = digB t[k] from rfl, hd, Bool.true_and]))
          have hst := pow_step (d := t[k].toNat - 48) hP.out (by omega) (by omega)
          have HP2 := Lib.hid hst.1
          have hb2 := hst.2
          have hb3 : (10 : Int) * v + ((t[k].toNat : Int) - 48) < 1000000000000000000 := by omega
          have hd48 : 48 ≤ (t[k].toNat : Int) := by omega
          have hd57 : (t[k].toNat : Int) ≤ 57 := by omega
          clear hD2 hP hst
          go_wp2_with (go_at_call 107; refine (l01Digit_c _ _).mono ?_; rintro e w' ⟨rfl, rfl⟩)
          exact ⟨⟨k + 1, 10 * v + (t[k].toNat - 48), by omega, by go_num, vi (by omega), hb2, HP2, hR2, hD3⟩, by simp [intOf]; omega⟩
      · have hkt : k = t.size := by omega
        have HV := Lib.hid (hR.out.trans (by rw [List.drop_eq_nil_of_le (by rw [bytes_len]; omega)]; rfl : _ = v))
        have HA := Lib.hid (hD.out.trans (by rw [List.drop_eq_nil_of_le (by rw [bytes_len]; omega)]; rfl : _ = true))
        have HN := Lib.hid (show numL s.data.toList = -(v : Int) by unfold numL; rw [HG.out, HV.out])
        have HL := Lib.hid (okN_last (l := s.data.toList) (by rw [← HTS.out]; omega) (by rw [← HTS.out]; omega) HA.out)
        clear hR hD hP
        go_wp2_with fail
        refine (l01DecI_c _ (by omega) (by omega) _).mono ?_
        rintro e W ⟨rfl, hb⟩
        obtain ⟨u, hu⟩ : ∃ u : Int, u = -(v : Int) := ⟨_, rfl⟩
        have hN2 := HN.out
        rw [← hu] at hN2 ⊢
        have hL2 := HL.out
        rw [hN2] at hL2
        clear hu HN HL
        have hbq : ((decI u).toList == s.toList) = decide (Lib.itoa u = s.data.toList) := by
          rw [bytes_beq, Bool.eq_iff_iff, decide_eq_true_eq, decide_eq_true_eq]
          constructor
          · intro h; rw [← h]; rfl
          · intro h; unfold decI; rw [h]
        have HL := Lib.hid (hL2.trans hbq.symm)
        have HN := Lib.hid hN2
        clear hL2 hbq hN2
        cases hq2 : ((decI u).toList == s.toList)
        · have HO := Lib.hid (HL.out.trans hq2)
          go_wp2_with fail
          go_returns
          exact RetT.mk (by rw [numV_no HO.out, HO.out]; rfl) hb
        · have HO := Lib.hid (HL.out.trans hq2)
          go_wp2_with fail
          go_returns
          exact RetT.mk (by rw [numV_yes HO.out, HO.out, HN.out]; rfl) hb
  · have hne : ¬ (s[0].toNat : Int) = 45 := by omega
    obtain ⟨hbt, hsg⟩ := bare_no hp h45
    have hne2 : ((s[0].toNat : Int) == 45) = false := by simpa using hne
    clear h45
    go_enter Tryz.func129, Tryz.ntmps129
    have hts : s.size = (bare s.data.toList).length := by rw [← bytes_len]; exact congrArg List.length hbt
    by_cases hl1 : s.size < 1
    · have HO := Lib.hid (okN_short (l := s.data.toList) (by omega))
      clear hbt hsg hts
      go_wp2_with fail
      all_goals
        go_returns
        exact RetT.mk (by rw [numV_no HO.out, HO.out]; rfl) (Below.refl _ _)
    have hl1' : 1 ≤ (s.size : Int) := by omega
    have hdl : decide ((s.size : Int) < 1) = false := decide_eq_false (by omega)
    by_cases hl2 : 18 < (s.size : Int)
    · have HO := Lib.hid (okN_long (l := s.data.toList) (by omega))
      clear hbt hsg hts
      go_wp2_with fail
      all_goals
        go_returns
        exact RetT.mk (by rw [numV_no HO.out, HO.out]; rfl) (Below.refl _ _)
    have hl2' : (s.size : Int) ≤ 18 := by omega
    have HB := Lib.hid hbt
    have HG := Lib.hid hsg
    have HTS := Lib.hid hts
    have hR := Lib.hid (show dval (bare s.data.toList) 0 = dval (s.data.toList.drop 0) 0 by rw [List.drop_zero]; exact congrArg (dval · 0) hbt.symm)
    have hD := Lib.hid (show (bare s.data.toList).all isDig = (s.data.toList.drop 0).all isDig by rw [List.drop_zero]; exact congrArg (List.all · isDig) hbt.symm)
    clear hbt hsg hts
    go_wp2_with fail
    go_loop [5, 6] (fun n i => ∃ (k v : Nat), k ≤ s.size ∧ i = .int .i64 k ∧ n = .int .i64 v ∧ v < 1000000000000000000 ∧ Hid (v + 1 ≤ 10 ^ k) ∧ Hid (dval (bare s.data.toList) 0 = dval (s.data.toList.drop k) v) ∧ Hid ((bare s.data.toList).all isDig = (s.data.toList.drop k).all isDig)) (fun _ i => s.size - (intOf i).toNat)
    case atStart => exact ⟨0, 0, by omega, rfl, rfl, by omega, Lib.hid (by simp), hR, hD⟩
    case round =>
      clear hR hD
      obtain ⟨k, v, hk, rfl, rfl, hv, hP, hR, hD⟩ := hrel
      by_cases hlt : k < s.size
      · have hR2 := Lib.hid (hR.out.trans (dval_step hlt v))
        have hD2 := Lib.hid (hD.out.trans (all_step hlt))
        clear hR hD
        cases hd : digB s[k]
        · have HO := Lib.hid (okN_all (l := s.data.toList) (by rw [hD2.out, show isDig s[k] = digB s[k] from rfl, hd, Bool.false_and]))
          go_wp2_with (go_at_call 107; refine (l01Digit_c _ _).mono ?_; rintro e w' ⟨rfl, rfl⟩)
          go_returns
          exact RetT.mk (by rw [numV_no HO.out, HO.out]; rfl) (Below.refl _ _)
        · have hd2 := isDig_iff.1 (show isDig s[k] = true from hd)
          have hD3 := Lib.hid (hD2.out.trans (by rw [show isDig s[k] = digB s[k] from rfl, hd, Bool.true_and]))
          have hst := pow_step (d := s[k].toNat - 48) hP.out (by omega) (by omega)
          have HP2 := Lib.hid hst.1
          have hb2 := hst.2
          have hb3 : (10 : Int) * v + ((s[k].toNat : Int) - 48) < 1000000000000000000 := by omega
          have hd48 : 48 ≤ (s[k].toNat : Int) := by omega
          have hd57 : (s[k].toNat : Int) ≤ 57 := by omega
          clear hD2 hP hst
          go_wp2_with (go_at_call 107; refine (l01Digit_c _ _).mono ?_; rintro e w' ⟨rfl, rfl⟩)
          exact ⟨⟨k + 1, 10 * v + (s[k].toNat - 48), by omega, by go_num, vi (by omega), hb2, HP2, hR2, hD3⟩, by simp [intOf]; omega⟩
      · have hkt : k = s.size := by omega
        have HV := Lib.hid (hR.out.trans (by rw [List.drop_eq_nil_of_le (by rw [bytes_len]; omega)]; rfl : _ = v))
        have HA := Lib.hid (hD.out.trans (by rw [List.drop_eq_nil_of_le (by rw [bytes_len]; omega)]; rfl : _ = true))
        have HN := Lib.hid (show numL s.data.toList = (v : Int) by unfold numL; rw [HG.out, HV.out])
        have HL := Lib.hid (okN_last (l := s.data.toList) (by rw [← HTS.out]; omega) (by rw [← HTS.out]; omega) HA.out)
        clear hR hD hP
        go_wp2_with fail
        refine (l01DecI_c _ (by omega) (by omega) _).mono ?_
        rintro e W ⟨rfl, hb⟩
        obtain ⟨u, hu⟩ : ∃ u : Int, u = (v : Int) := ⟨_, rfl⟩
        have hN2 := HN.out
        rw [← hu] at hN2 ⊢
        have hL2 := HL.out
        rw [hN2] at hL2
        clear hu HN HL
        have hbq : ((decI u).toList == s.toList) = decide (Lib.itoa u = s.data.toList) := by
          rw [bytes_beq, Bool.eq_iff_iff, decide_eq_true_eq, decide_eq_true_eq]
          constructor
          · intro h; rw [← h]; rfl
          · intro h; unfold decI; rw [h]
        have HL := Lib.hid (hL2.trans hbq.symm)
        have HN := Lib.hid hN2
        clear hL2 hbq hN2
        cases hq2 : ((decI u).toList == s.toList)
        · have HO := Lib.hid (HL.out.trans hq2)
          go_wp2_with fail
          go_returns
          exact RetT.mk (by rw [numV_no HO.out, HO.out]; rfl) hb
        · have HO := Lib.hid (HL.out.trans hq2)
          go_wp2_with fail
          go_returns
          exact RetT.mk (by rw [numV_yes HO.out, HO.out, HN.out]; rfl) hb
end Go.Proofs.YtihgjmhhpiobbaaGreatDoor
