/- Lemmas for the law on the console: the parts RdS, RdA, EntA, StampA, LogP. -/
import Derived.Test.YtpiehlfffjhoaaaGreatDoorQ0
import Derived.Test.YtpiehlfffjhoaaaGreatDoorQ5
import Derived.Test.YtpiehlfffjhoaaaGreatDoorQ2
import Derived.Test.YtpiehlfffjhoaaaGreatDoorQ1
import Derived.Lib.AppendStr
namespace Go.Proofs.YtpiehlfffjhoaaaGreatDoor
open Go.RowKit
def numV (s : ByteArray) : Int := if okN s.data.toList = true then numL s.data.toList else 0
theorem numV_no {s : ByteArray} (h : okN s.data.toList = false) : numV s = 0 := by unfold numV; rw [h]; rfl
theorem numV_yes {s : ByteArray} (h : okN s.data.toList = true) : numV s = numL s.data.toList := by unfold numV; rw [h]; rfl
theorem numV_bd (s : ByteArray) : -1000000000000000000 < numV s ∧ numV s < 1000000000000000000 := by
 cases h : okN s.data.toList
 · rw [numV_no h]; omega
 · rw [numV_yes h]; exact numL_bd (okN_iff.1 h).2.2.1 (okN_iff.1 h).2.1
theorem okN_short {l : List UInt8} (h : (bare l).length < 1) : okN l = false := by
 cases ho : okN l
 · rfl
 · obtain ⟨h2, _⟩ := okN_iff.1 ho
   omega
theorem okN_all {l : List UInt8} (h : (bare l).all isDig = false) : okN l = false := by
 cases ho : okN l
 · rfl
 · rw [(okN_iff.1 ho).2.2.1] at h; exact absurd h (by simp)
theorem okN_last {l : List UInt8} (h1 : 1 ≤ (bare l).length) (h2 : (bare l).length ≤ 18) (h3 : (bare l).all isDig = true) : okN l = decide (Lib.itoa (numL l) = l) := by
 unfold okN
 rw [decide_eq_true h1, decide_eq_true h2, h3, Bool.true_and, Bool.true_and, Bool.true_and]
theorem pow_step {v k d : Nat} (h : v + 1 ≤ 10 ^ k) (hd : d ≤ 9) (hk : k < 18) : 10 * v + d + 1 ≤ 10 ^ (k + 1) ∧ 10 * v + d < 1000000000000000000 := by
 have h1 : 10 ^ (k + 1) = 10 * 10 ^ k := by rw [Nat.pow_succ, Nat.mul_comm]
 have h2 := pow_le (k := k + 1) (by omega)
 omega
theorem dval_step {t : ByteArray} {k : Nat} (h : k < t.size) (v : Nat) : dval (t.data.toList.drop k) v = dval (t.data.toList.drop (k + 1)) (10 * v + (t[k].toNat - 48)) := by
 rw [drop_at (byte_at h)]
 simp only [dval]
 rw [Nat.mul_comm]
theorem all_step {t : ByteArray} {k : Nat} (h : k < t.size) : (t.data.toList.drop k).all isDig = (isDig t[k] && (t.data.toList.drop (k + 1)).all isDig) := by rw [drop_at (byte_at h), List.all_cons]
theorem bare_no {s : ByteArray} (h : 0 < s.size) (h45 : ¬ s[0].toNat = 45) : s.data.toList = bare s.data.toList ∧ ∀ n, sgn s.data.toList n = n := by
 have e0 : s.data.toList = s[0] :: s.data.toList.drop 1 := by have := drop_at (byte_at h); simpa using this
 have hc : ¬ s[0] = 45 := fun e => h45 (c45.2 e)
 rw [e0]
 exact ⟨by simp [bare, hc], by intro n; simp [sgn, hc]⟩
theorem bare_yes {s : ByteArray} (h : 0 < s.size) (h45 : s[0].toNat = 45) : (s.extract 1 s.size).data.toList = bare s.data.toList ∧ ∀ n, sgn s.data.toList n = -(n : Int) := by
 have e0 : s.data.toList = s[0] :: s.data.toList.drop 1 := by have := drop_at (byte_at h); simpa using this
 have hc : s[0] = 45 := c45.1 h45
 have e1 : (s.extract 1 s.size).data.toList = s.data.toList.drop 1 := by
   rw [ByteArray.data_extract, Array.toList_extract]
   simp [List.take_of_length_le]
 rw [e1]
 generalize s.data.toList.drop 1 = r at e0
 rw [e0]
 exact ⟨by simp [bare, hc], by intro n; simp [sgn, hc]⟩
set_option maxRecDepth 100000 in
set_option maxHeartbeats 2000000 in
theorem l01Number_c (s : ByteArray) (hs : s.size ≤ 9223372036854775807) (w : World) : Calls Tryz.prog 156 #[.string s] w (RetT #[.int .i64 (numV s), .bool (okN s.data.toList)] w) := by
 by_cases h0 : s.size = 0
 · have he : (s.toList == []) = true := by rw [bytes_nil]; simp only [h0]; rfl
   have hnil : s.data.toList = [] := List.eq_nil_of_length_eq_zero (by rw [bytes_len]; exact h0)
   have HO := qH (show okN s.data.toList = false by rw [hnil]; rfl)
   clear hnil
   have hd1 : (s.size : Int) < 1 := by omega
   go_enter Tryz.func156, Tryz.ntmps156
   go_wp2_with fail
   go_returns
   exact RetT.mk (by rw [numV_no HO.out, HO.out]; rfl) (Below.refl _ _)
 have he : (s.toList == []) = false := by rw [bytes_nil]; exact decide_eq_false h0
 have hp : 0 < s.size := by omega
 clear h0
 by_cases h45 : s[0].toNat = 45
 · obtain ⟨hbt, hsg⟩ := bare_yes hp h45
   have hq : (s[0].toNat : Int) = 45 := by omega
   have hsz : (s.extract 1 s.size).size < s.size := by simp; omega
   obtain ⟨t, ht⟩ : ∃ t, s.extract 1 s.size = t := ⟨_, rfl⟩
   rw [ht] at hbt hsz
   go_enter Tryz.func156, Tryz.ntmps156
   have hts : t.size = (bare s.data.toList).length := by rw [← bytes_len]; exact congrArg List.length hbt
   by_cases hl1 : t.size < 1
   · have HO := qH (okN_short (l := s.data.toList) (by omega))
     clear hbt hsg hts
     go_wp2_with fail
     all_goals
       go_returns
       exact RetT.mk (by rw [numV_no HO.out, HO.out]; rfl) (Below.refl _ _)
   have hl1' : 1 ≤ (t.size : Int) := by omega
   have hdl : decide ((t.size : Int) < 1) = false := decide_eq_false (by omega)
   by_cases hl2 : 18 < (t.size : Int)
   · have HO := qH (okN_long (l := s.data.toList) (by omega))
     clear hbt hsg hts
     go_wp2_with fail
     all_goals
       go_returns
       exact RetT.mk (by rw [numV_no HO.out, HO.out]; rfl) (Below.refl _ _)
   have hl2' : (t.size : Int) ≤ 18 := by omega
   have HB := qH hbt
   have HG := qH hsg
   have HTS := qH hts
   have hR := qH (show dval (bare s.data.toList) 0 = dval (t.data.toList.drop 0) 0 by rw [List.drop_zero]; exact congrArg (dval · 0) hbt.symm)
   have hD := qH (show (bare s.data.toList).all isDig = (t.data.toList.drop 0).all isDig by rw [List.drop_zero]; exact congrArg (List.all · isDig) hbt.symm)
   clear hbt hsg hts
   go_wp2_with fail
   go_loop [5, 6] (fun n i => ∃ (k v : Nat), k ≤ t.size ∧ i = .int .i64 k ∧ n = .int .i64 v ∧ v < 1000000000000000000 ∧ Hid (v + 1 ≤ 10 ^ k) ∧ Hid (dval (bare s.data.toList) 0 = dval (t.data.toList.drop k) v) ∧ Hid ((bare s.data.toList).all isDig = (t.data.toList.drop k).all isDig)) (fun _ i => t.size - (intOf i).toNat)
   case atStart => exact ⟨0, 0, by omega, rfl, rfl, by omega, qH (by simp), hR, hD⟩
   case round =>
     clear hR hD
     obtain ⟨k, v, hk, rfl, rfl, hv, hP, hR, hD⟩ := hrel
     by_cases hlt : k < t.size
     · have hR2 := qH (hR.out.trans (dval_step hlt v))
       have hD2 := qH (hD.out.trans (all_step hlt))
       clear hR hD
       cases hd : digB t[k]
       · have HO := qH (okN_all (l := s.data.toList) (by rw [hD2.out, show isDig t[k] = digB t[k] from rfl, hd, Bool.false_and]))
         go_wp2_with (go_at_call 218; refine (l01Digit_c _ _).mono ?_; rintro e w' ⟨rfl, rfl⟩)
         go_returns
         exact RetT.mk (by rw [numV_no HO.out, HO.out]; rfl) (Below.refl _ _)
       · have hd2 := isDig_iff.1 (show isDig t[k] = true from hd)
         have hD3 := qH (hD2.out.trans (by rw [show isDig t[k] = digB t[k] from rfl, hd, Bool.true_and]))
         have hst := pow_step (d := t[k].toNat - 48) hP.out (by omega) (by omega)
         have HP2 := qH hst.1
         have hb2 := hst.2
         have hb3 : (10 : Int) * v + ((t[k].toNat : Int) - 48) < 1000000000000000000 := by omega
         have hd48 : 48 ≤ (t[k].toNat : Int) := by omega
         have hd57 : (t[k].toNat : Int) ≤ 57 := by omega
         clear hD2 hP hst
         go_wp2_with (go_at_call 218; refine (l01Digit_c _ _).mono ?_; rintro e w' ⟨rfl, rfl⟩)
         exact ⟨⟨k + 1, 10 * v + (t[k].toNat - 48), by omega, by go_num, vi (by omega), hb2, HP2, hR2, hD3⟩, by simp [intOf]; omega⟩
     · have hkt : k = t.size := by omega
       have HV := qH (hR.out.trans (by rw [List.drop_eq_nil_of_le (by rw [bytes_len]; omega)]; rfl : _ = v))
       have HA := qH (hD.out.trans (by rw [List.drop_eq_nil_of_le (by rw [bytes_len]; omega)]; rfl : _ = true))
       have HN := qH (show numL s.data.toList = -(v : Int) by unfold numL; rw [HG.out, HV.out])
       have HL := qH (okN_last (l := s.data.toList) (by rw [← HTS.out]; omega) (by rw [← HTS.out]; omega) HA.out)
       clear hR hD hP
       go_wp2_with fail
       refine (l01DecI_c _ (by omega) (by omega) _).mono ?_
       rintro e W ⟨rfl, hb⟩
       obtain ⟨u, hu⟩ : ∃ u : Int, u = -(v : Int) := ⟨_, rfl⟩
       have hN2 := HN.out
       rw [← hu] at hN2 ⊢
       have hL2 := HL.out
       rw [hN2] at hL2
       clear hu HN HL
       have hbq : ((decI u).toList == s.toList) = decide (Lib.itoa u = s.data.toList) := by
         rw [bytes_beq, Bool.eq_iff_iff, decide_eq_true_eq, decide_eq_true_eq]
         constructor
         · intro h; rw [← h]; rfl
         · intro h; unfold decI; rw [h]
       have HL := qH (hL2.trans hbq.symm)
       have HN := qH hN2
       clear hL2 hbq hN2
       cases hq2 : ((decI u).toList == s.toList)
       · have HO := qH (HL.out.trans hq2)
         go_wp2_with fail
         go_returns
         exact RetT.mk (by rw [numV_no HO.out, HO.out]; rfl) hb
       · have HO := qH (HL.out.trans hq2)
         go_wp2_with fail
         go_returns
         exact RetT.mk (by rw [numV_yes HO.out, HO.out, HN.out]; rfl) hb
 · have hne : ¬ (s[0].toNat : Int) = 45 := by omega
   obtain ⟨hbt, hsg⟩ := bare_no hp h45
   have hne2 : ((s[0].toNat : Int) == 45) = false := by simpa using hne
   clear h45
   go_enter Tryz.func156, Tryz.ntmps156
   have hts : s.size = (bare s.data.toList).length := by rw [← bytes_len]; exact congrArg List.length hbt
   by_cases hl1 : s.size < 1
   · have HO := qH (okN_short (l := s.data.toList) (by omega))
     clear hbt hsg hts
     go_wp2_with fail
     all_goals
       go_returns
       exact RetT.mk (by rw [numV_no HO.out, HO.out]; rfl) (Below.refl _ _)
   have hl1' : 1 ≤ (s.size : Int) := by omega
   have hdl : decide ((s.size : Int) < 1) = false := decide_eq_false (by omega)
   by_cases hl2 : 18 < (s.size : Int)
   · have HO := qH (okN_long (l := s.data.toList) (by omega))
     clear hbt hsg hts
     go_wp2_with fail
     all_goals
       go_returns
       exact RetT.mk (by rw [numV_no HO.out, HO.out]; rfl) (Below.refl _ _)
   have hl2' : (s.size : Int) ≤ 18 := by omega
   have HB := qH hbt
   have HG := qH hsg
   have HTS := qH hts
   have hR := qH (show dval (bare s.data.toList) 0 = dval (s.data.toList.drop 0) 0 by rw [List.drop_zero]; exact congrArg (dval · 0) hbt.symm)
   have hD := qH (show (bare s.data.toList).all isDig = (s.data.toList.drop 0).all isDig by rw [List.drop_zero]; exact congrArg (List.all · isDig) hbt.symm)
   clear hbt hsg hts
   go_wp2_with fail
   go_loop [5, 6] (fun n i => ∃ (k v : Nat), k ≤ s.size ∧ i = .int .i64 k ∧ n = .int .i64 v ∧ v < 1000000000000000000 ∧ Hid (v + 1 ≤ 10 ^ k) ∧ Hid (dval (bare s.data.toList) 0 = dval (s.data.toList.drop k) v) ∧ Hid ((bare s.data.toList).all isDig = (s.data.toList.drop k).all isDig)) (fun _ i => s.size - (intOf i).toNat)
   case atStart => exact ⟨0, 0, by omega, rfl, rfl, by omega, qH (by simp), hR, hD⟩
   case round =>
     clear hR hD
     obtain ⟨k, v, hk, rfl, rfl, hv, hP, hR, hD⟩ := hrel
     by_cases hlt : k < s.size
     · have hR2 := qH (hR.out.trans (dval_step hlt v))
       have hD2 := qH (hD.out.trans (all_step hlt))
       clear hR hD
       cases hd : digB s[k]
       · have HO := qH (okN_all (l := s.data.toList) (by rw [hD2.out, show isDig s[k] = digB s[k] from rfl, hd, Bool.false_and]))
         go_wp2_with (go_at_call 218; refine (l01Digit_c _ _).mono ?_; rintro e w' ⟨rfl, rfl⟩)
         go_returns
         exact RetT.mk (by rw [numV_no HO.out, HO.out]; rfl) (Below.refl _ _)
       · have hd2 := isDig_iff.1 (show isDig s[k] = true from hd)
         have hD3 := qH (hD2.out.trans (by rw [show isDig s[k] = digB s[k] from rfl, hd, Bool.true_and]))
         have hst := pow_step (d := s[k].toNat - 48) hP.out (by omega) (by omega)
         have HP2 := qH hst.1
         have hb2 := hst.2
         have hb3 : (10 : Int) * v + ((s[k].toNat : Int) - 48) < 1000000000000000000 := by omega
         have hd48 : 48 ≤ (s[k].toNat : Int) := by omega
         have hd57 : (s[k].toNat : Int) ≤ 57 := by omega
         clear hD2 hP hst
         go_wp2_with (go_at_call 218; refine (l01Digit_c _ _).mono ?_; rintro e w' ⟨rfl, rfl⟩)
         exact ⟨⟨k + 1, 10 * v + (s[k].toNat - 48), by omega, by go_num, vi (by omega), hb2, HP2, hR2, hD3⟩, by simp [intOf]; omega⟩
     · have hkt : k = s.size := by omega
       have HV := qH (hR.out.trans (by rw [List.drop_eq_nil_of_le (by rw [bytes_len]; omega)]; rfl : _ = v))
       have HA := qH (hD.out.trans (by rw [List.drop_eq_nil_of_le (by rw [bytes_len]; omega)]; rfl : _ = true))
       have HN := qH (show numL s.data.toList = (v : Int) by unfold numL; rw [HG.out, HV.out])
       have HL := qH (okN_last (l := s.data.toList) (by rw [← HTS.out]; omega) (by rw [← HTS.out]; omega) HA.out)
       clear hR hD hP
       go_wp2_with fail
       refine (l01DecI_c _ (by omega) (by omega) _).mono ?_
       rintro e W ⟨rfl, hb⟩
       obtain ⟨u, hu⟩ : ∃ u : Int, u = (v : Int) := ⟨_, rfl⟩
       have hN2 := HN.out
       rw [← hu] at hN2 ⊢
       have hL2 := HL.out
       rw [hN2] at hL2
       clear hu HN HL
       have hbq : ((decI u).toList == s.toList) = decide (Lib.itoa u = s.data.toList) := by
         rw [bytes_beq, Bool.eq_iff_iff, decide_eq_true_eq, decide_eq_true_eq]
         constructor
         · intro h; rw [← h]; rfl
         · intro h; unfold decI; rw [h]
       have HL := qH (hL2.trans hbq.symm)
       have HN := qH hN2
       clear hL2 hbq hN2
       cases hq2 : ((decI u).toList == s.toList)
       · have HO := qH (HL.out.trans hq2)
         go_wp2_with fail
         go_returns
         exact RetT.mk (by rw [numV_no HO.out, HO.out]; rfl) hb
       · have HO := qH (HL.out.trans hq2)
         go_wp2_with fail
         go_returns
         exact RetT.mk (by rw [numV_yes HO.out, HO.out, HN.out]; rfl) hb
theorem below_bytes {w w' : World} {t : TypeId} (h : w' = w ∨ ∃ k, w' = Lib.bytesWorld w t k) : Below w.heap.size w w' := by
 rcases h with rfl | ⟨k, rfl⟩
 · exact Below.refl _ _
 · exact Lib.bytesWorld_below _ _ _
set_option maxRecDepth 100000 in
set_option maxHeartbeats 2000000 in
theorem ReadDecimal_c (s : ByteArray) (hs : s.size ≤ 281474976710656) (w : World) (hT : Tabs w) : Calls Tryz.prog 33 #[.string s] w (RetT #[.int .i64 (numV s), .bool (okN s.data.toList)] w) := by
 have HT := qH hT
 clear hT
 have hbl := bare_len s.data.toList
 rw [bytes_len] at hbl
 by_cases h19 : 19 < (s.size : Int)
 · have HO := qH (okN_long (l := s.data.toList) (by omega))
   clear hbl
   go_enter Tryz.func33, Tryz.ntmps33
   go_wp2_with fail
   go_returns
   exact RetT.mk (by rw [numV_no HO.out, HO.out]; rfl) (Below.refl _ _)
 have hd19 : decide (19 < (s.size : Int)) = false := decide_eq_false h19
 obtain ⟨t, ht⟩ : ∃ t : ByteArray, t = ⟨(bare s.data.toList).toArray⟩ := ⟨_, rfl⟩
 have hTr := fun (w : World) => Tryz.strings_TrimPrefix s ⟨#[45]⟩ w
 rw [show (ByteArray.mk #[45]).data.toList = [45] from rfl, trim_bare, ← ht] at hTr
 have hts : t.size = (bare s.data.toList).length := by rw [ht]; simp [ByteArray.size]
 replace hTr := qH hTr
 clear ht
 by_cases h18 : 18 < (t.size : Int)
 · have HO := qH (okN_long (l := s.data.toList) (by omega))
   clear hbl hts
   go_enter Tryz.func33, Tryz.ntmps33
   go_wp2_with (go_at_call 66; refine (hTr.out _).mono ?_; rintro e w' ⟨rfl, rfl⟩)
   go_returns
   exact RetT.mk (by rw [numV_no HO.out, HO.out]; rfl) (Below.refl _ _)
 have hd18 : decide (18 < (t.size : Int)) = false := decide_eq_false h18
 have HL := qH (show (bare s.data.toList).length ≤ 18 by omega)
 clear hbl hts
 obtain ⟨evs, hes, hes2⟩ := HT.out.syn
 obtain ⟨evr, her, her2⟩ := HT.out.rng
 match hp : Lib.parseIntB 64 s.data.toList with
 | Lib.NumEnd.syntax =>
   have HO := qH (okN_no_parse (l := s.data.toList) (by intro v; rw [hp]; intro h; cases h))
   have hPI := qH (Tryz.strconv_ParseInt_10_at64_syntax s hs hp evs w hes hes2)
   clear hp hes hes2 her her2
   go_enter Tryz.func33, Tryz.ntmps33
   go_wp2_with (go_at_call 66; refine (hTr.out _).mono ?_; rintro e w' ⟨rfl, rfl⟩)
   refine hPI.out.mono ?_
   rintro e W ⟨N, rfl, _, _, hb⟩
   go_wp2_with fail
   go_returns
   exact RetT.mk (by rw [numV_no HO.out, HO.out]; rfl) hb
 | .range =>
   have HO := qH (okN_no_parse (l := s.data.toList) (by intro v; rw [hp]; intro h; cases h))
   have hPI := qH (Tryz.strconv_ParseInt_10_at64_range s hs hp evr w her her2)
   clear hp hes hes2 her her2
   go_enter Tryz.func33, Tryz.ntmps33
   go_wp2_with (go_at_call 66; refine (hTr.out _).mono ?_; rintro e w' ⟨rfl, rfl⟩)
   refine hPI.out.mono ?_
   rintro e W ⟨N, rfl, _, _, hb⟩
   go_wp2_with fail
   go_returns
   exact RetT.mk (by rw [numV_no HO.out, HO.out]; rfl) hb
 | .ok v =>
   have hvb := parse_bd HL.out hp
   have hv0 := hvb.1
   have hv1 := hvb.2
   clear hvb
   have hPI := qH (Tryz.strconv_ParseInt_10_at64_ok s (by omega) v hp w)
   have hbq : ((decI v).toList == s.toList) = decide (Lib.itoa v = s.data.toList) := by
     rw [bytes_beq, Bool.eq_iff_iff, decide_eq_true_eq, decide_eq_true_eq]
     constructor
     · intro h; rw [← h]; rfl
     · intro h; unfold decI; rw [h]
   have HB := qH hbq
   have HP := qH hp
   clear hp hbq hes hes2 her her2
   go_enter Tryz.func33, Tryz.ntmps33
   go_wp2_with (go_at_call 66; refine (hTr.out _).mono ?_; rintro e w' ⟨rfl, rfl⟩)
   refine hPI.out.mono ?_
   rintro e W ⟨rfl, hW⟩
   have hb := below_bytes hW
   clear hW
   go_wp2_with fail
   refine (DecimalI_c v (by omega) (by omega) _ (HT.out.below hb).pow).mono ?_
   rintro e W2 ⟨rfl, hb2⟩
   replace hb := bl_trans hb hb2
   clear hb2
   cases hq2 : ((decI v).toList == s.toList)
   · have HO := qH (okN_ne HP.out (of_decide_eq_false (HB.out.symm.trans hq2)))
     go_wp2_with fail
     go_returns
     exact RetT.mk (by rw [numV_no HO.out, HO.out]; rfl) hb
   · have HO := qH (okN_eq HL.out (of_decide_eq_true (HB.out.symm.trans hq2)))
     go_wp2_with fail
     go_returns
     exact RetT.mk (by rw [numV_yes HO.out.1, HO.out.1, HO.out.2]; rfl) hb
def entB (x : Entry) : Bool := inB x.day 0 100000 && nameB x.what && inB x.value (-1000000) 1000000
theorem l27Day_c (n : Int) (w : World) : Calls Tryz.prog 269 #[.int .i64 n] w (RetQ (.bool (inB n 0 100000)) w) := by
 go_enter Tryz.func269, Tryz.ntmps269
 go_wp2_with (go_at_call 155; refine (l00In_c _ _ _ _).mono ?_; rintro e w' ⟨rfl, rfl⟩)
 go_returns
 exact RetQ.mk rfl
set_option maxRecDepth 100000 in
set_option maxHeartbeats 2000000 in
theorem ValidEntry_c (x : Entry) (hs : x.what.size ≤ 9223372036854775807) (w : World) :
   Calls Tryz.prog 211 #[.agg #[.int .i64 x.day, .string x.what, .int .i64 x.value]] w (Ret (.bool (entB x)) w) := by
 cases h1 : inB x.day 0 100000
 · go_enter Tryz.func211, Tryz.ntmps211
   go_wp2_with (first | (go_at_call 118; refine (IsName_c _ hs _).mono ?_; rintro e w' ⟨rfl, rfl⟩) | (go_at_call 68; refine (within_c _ _ _ _).mono ?_; rintro e w' ⟨rfl, rfl⟩))
   all_goals first | (exfalso; omega) | (go_returns; refine Ret.mk (vb ?_) (by go_grown); simp [entB, h1])
 cases h2 : nameB x.what
 · go_enter Tryz.func211, Tryz.ntmps211
   go_wp2_with (first | (go_at_call 118; refine (IsName_c _ hs _).mono ?_; rintro e w' ⟨rfl, rfl⟩) | (go_at_call 68; refine (within_c _ _ _ _).mono ?_; rintro e w' ⟨rfl, rfl⟩))
   all_goals first | (exfalso; omega) | (go_returns; refine Ret.mk (vb ?_) (by go_grown); simp [entB, h1, h2])
 cases h3 : inB x.value (-1000000) 1000000
 · go_enter Tryz.func211, Tryz.ntmps211
   go_wp2_with (first | (go_at_call 118; refine (IsName_c _ hs _).mono ?_; rintro e w' ⟨rfl, rfl⟩) | (go_at_call 68; refine (within_c _ _ _ _).mono ?_; rintro e w' ⟨rfl, rfl⟩))
   all_goals first | (exfalso; omega) | (go_returns; refine Ret.mk (vb ?_) (by go_grown); simp [entB, h1, h2, h3])
 go_enter Tryz.func211, Tryz.ntmps211
 go_wp2_with (first | (go_at_call 118; refine (IsName_c _ hs _).mono ?_; rintro e w' ⟨rfl, rfl⟩) | (go_at_call 68; refine (within_c _ _ _ _).mono ?_; rintro e w' ⟨rfl, rfl⟩))
 all_goals first | (exfalso; omega) | (go_returns; refine Ret.mk (vb ?_) (by go_grown); simp [entB, h1, h2, h3])
set_option maxRecDepth 100000 in
set_option maxHeartbeats 2000000 in
theorem l27Ok_c (g : Addr) (x : Entry) (hs : x.what.size ≤ 9223372036854775807) (w : World) (c0 : w.cell? g = some (.int .i64 x.day)) (c1 : w.cell? ⟨g.block, g.off + 1, none⟩ = some (.string x.what)) (c2 : w.cell? ⟨g.block, g.off + 2, none⟩ = some (.int .i64 x.value)) :
   Calls Tryz.prog 229 #[.pointer (some g)] w (RetQ (.bool (entB x)) w) := by
 cases h1 : inB x.day 0 100000
 · go_enter Tryz.func229, Tryz.ntmps229
   go_wp2_with (first | (go_at_call 153; refine (SIsName_c _ hs _).mono ?_; rintro e w' ⟨rfl, rfl⟩) | (go_at_call 155; refine (l00In_c _ _ _ _).mono ?_; rintro e w' ⟨rfl, rfl⟩) | (go_at_call 269; refine (l27Day_c _ _).mono ?_; rintro e w' ⟨rfl, rfl⟩))
   all_goals first | (exfalso; omega) | (go_returns; refine RetQ.mk (vb ?_); simp [entB, h1])
 cases h2 : nameB x.what
 · go_enter Tryz.func229, Tryz.ntmps229
   go_wp2_with (first | (go_at_call 153; refine (SIsName_c _ hs _).mono ?_; rintro e w' ⟨rfl, rfl⟩) | (go_at_call 155; refine (l00In_c _ _ _ _).mono ?_; rintro e w' ⟨rfl, rfl⟩) | (go_at_call 269; refine (l27Day_c _ _).mono ?_; rintro e w' ⟨rfl, rfl⟩))
   all_goals first | (exfalso; omega) | (go_returns; refine RetQ.mk (vb ?_); simp [entB, h1, h2])
 cases h3 : inB x.value (-1000000) 1000000
 · go_enter Tryz.func229, Tryz.ntmps229
   go_wp2_with (first | (go_at_call 153; refine (SIsName_c _ hs _).mono ?_; rintro e w' ⟨rfl, rfl⟩) | (go_at_call 155; refine (l00In_c _ _ _ _).mono ?_; rintro e w' ⟨rfl, rfl⟩) | (go_at_call 269; refine (l27Day_c _ _).mono ?_; rintro e w' ⟨rfl, rfl⟩))
   all_goals first | (exfalso; omega) | (go_returns; refine RetQ.mk (vb ?_); simp [entB, h1, h2, h3])
 go_enter Tryz.func229, Tryz.ntmps229
 go_wp2_with (first | (go_at_call 153; refine (SIsName_c _ hs _).mono ?_; rintro e w' ⟨rfl, rfl⟩) | (go_at_call 155; refine (l00In_c _ _ _ _).mono ?_; rintro e w' ⟨rfl, rfl⟩) | (go_at_call 269; refine (l27Day_c _ _).mono ?_; rintro e w' ⟨rfl, rfl⟩))
 all_goals first | (exfalso; omega) | (go_returns; refine RetQ.mk (vb ?_); simp [entB, h1, h2, h3])
theorem decI_size (n : Int) : (decI n).size ≤ n.natAbs + 2 := by
 have h := nDigits_le n.natAbs
 unfold decI Lib.itoa
 rw [ByteArray.size_mk', List.size_toArray]
 split
 · simp [Lib.decDigits_length]; omega
 · rw [Lib.decDigits_length, show n.toNat = n.natAbs from by omega]; omega
def wordsB (x : Entry) : ByteArray := decI x.day ++ ⟨#[32]⟩ ++ x.what ++ ⟨#[32]⟩ ++ decI x.value
theorem entB_bd {x : Entry} (h : entB x = true) : 0 ≤ x.day ∧ x.day ≤ 100000 ∧ -1000000 ≤ x.value ∧ x.value ≤ 1000000 ∧ x.what.size ≤ 12 := by
 simp only [entB, Bool.and_eq_true, inB_iff] at h
 have h2 := h.1.2
 simp only [nameB, nameL, Bool.and_eq_true, decide_eq_true_eq, bytes_len] at h2
 omega
set_option maxRecDepth 100000 in
set_option maxHeartbeats 2000000 in
theorem l27Words_c (g : Addr) (x : Entry) (hx : entB x = true) (w : World) (c0 : w.cell? g = some (.int .i64 x.day)) (c1 : w.cell? ⟨g.block, g.off + 1, none⟩ = some (.string x.what)) (c2 : w.cell? ⟨g.block, g.off + 2, none⟩ = some (.int .i64 x.value)) :
   Calls Tryz.prog 174 #[.pointer (some g)] w (Ret (.string (wordsB x)) w) := by
 obtain ⟨d0, d1, v0, v1, ws⟩ := entB_bd hx
 have sa := decI_size x.day
 have sb := decI_size x.value
 have hadd1 := fun (w : World) => run_string_add_sum (P := Tryz.prog) w (decI x.day) ⟨#[32]⟩ (by rw [show (ByteArray.mk #[32]).size = 1 from rfl]; omega)
 have hadd2 := fun (w : World) => run_string_add_sum (P := Tryz.prog) w (decI x.day ++ ⟨#[32]⟩) x.what (by rw [ByteArray.size_append', show (ByteArray.mk #[32]).size = 1 from rfl]; omega)
 have hadd3 := fun (w : World) => run_string_add_sum (P := Tryz.prog) w (decI x.day ++ ⟨#[32]⟩ ++ x.what) ⟨#[32]⟩ (by rw [ByteArray.size_append', ByteArray.size_append', show (ByteArray.mk #[32]).size = 1 from rfl]; omega)
 have hadd4 := fun (w : World) => run_string_add_sum (P := Tryz.prog) w (decI x.day ++ ⟨#[32]⟩ ++ x.what ++ ⟨#[32]⟩) (decI x.value) (by rw [ByteArray.size_append', ByteArray.size_append', ByteArray.size_append', show (ByteArray.mk #[32]).size = 1 from rfl]; omega)
 clear sa sb ws
 clear hx
 have hv := Below.refl w.heap.size w
 go_enter Tryz.func174, Tryz.ntmps174
 go_wp2_with fail
 go_region_held3 (fun w' => Below w.heap.size w w' ∧ w'.cell? g = some (.int .i64 x.day) ∧ w'.cell? ⟨g.block, g.off + 1, none⟩ = some (.string x.what) ∧ w'.cell? ⟨g.block, g.off + 2, none⟩ = some (.int .i64 x.value))
   (first | exact ⟨hv.drew, c0, c1, c2⟩ | (go_split_ands; exact ⟨bl_trans (by assumption) hb, bl_cell hb (by assumption), bl_cell hb (by assumption), bl_cell hb (by assumption)⟩))
   (first | (go_at_call 165; refine (l01DecI_c _ (by omega) (by omega) _).mono ?_; rintro e W ⟨rfl, hb⟩))
 go_split_ands
 go_wp2_with fail
 go_returns
 exact Ret.mk (vs (by rw [wordsB])) (by assumption)
set_option maxRecDepth 100000 in
set_option maxHeartbeats 2000000 in
theorem words_c (x : Entry) (hx : entB x = true) (w : World) (hT : Pow10 w) :
   Calls Tryz.prog 89 #[.agg #[.int .i64 x.day, .string x.what, .int .i64 x.value]] w (Ret (.string (wordsB x)) w) := by
 obtain ⟨d0, d1, v0, v1, ws⟩ := entB_bd hx
 have sa := decI_size x.day
 have sb := decI_size x.value
 have hadd1 := fun (w : World) => run_string_add_sum (P := Tryz.prog) w (decI x.day) ⟨#[32]⟩ (by rw [show (ByteArray.mk #[32]).size = 1 from rfl]; omega)
 have hadd2 := fun (w : World) => run_string_add_sum (P := Tryz.prog) w (decI x.day ++ ⟨#[32]⟩) x.what (by rw [ByteArray.size_append', show (ByteArray.mk #[32]).size = 1 from rfl]; omega)
 have hadd3 := fun (w : World) => run_string_add_sum (P := Tryz.prog) w (decI x.day ++ ⟨#[32]⟩ ++ x.what) ⟨#[32]⟩ (by rw [ByteArray.size_append', ByteArray.size_append', show (ByteArray.mk #[32]).size = 1 from rfl]; omega)
 have hadd4 := fun (w : World) => run_string_add_sum (P := Tryz.prog) w (decI x.day ++ ⟨#[32]⟩ ++ x.what ++ ⟨#[32]⟩) (decI x.value) (by rw [ByteArray.size_append', ByteArray.size_append', ByteArray.size_append', show (ByteArray.mk #[32]).size = 1 from rfl]; omega)
 clear sa sb ws
 clear hx
 have HT := qH hT
 clear hT
 go_enter Tryz.func89, Tryz.ntmps89
 go_wp2_with fail
 obtain ⟨W0, hW0⟩ : ∃ W0, W0 = w.alloc (Obj.cells #[.int .i64 x.day, .string x.what, .int .i64 x.value] 141) := ⟨_, rfl⟩
 obtain ⟨g, hg⟩ : ∃ g, g = w.heap.size := ⟨_, rfl⟩
 have hv : Below w.heap.size w W0 := by rw [hW0]; exact bl_alloc (Below.refl _ _) _
 have hB0 : Blk W0 g 141 #[.int .i64 x.day, .string x.what, .int .i64 x.value] := by rw [hW0, hg]; exact Blk.new _ _ _
 rw [← hW0, ← hg]
 clear hW0 hg
 obtain ⟨c0, c1, c2⟩ := qC3 hB0
 go_region_held3 (fun w' => Below w.heap.size w w' ∧ w'.cell? ⟨g, 0, none⟩ = some (.int .i64 x.day) ∧ w'.cell? ⟨g, 1, none⟩ = some (.string x.what) ∧ w'.cell? ⟨g, 2, none⟩ = some (.int .i64 x.value))
   (first | exact ⟨hv.drew, c0, c1, c2⟩ | (go_split_ands; exact ⟨bl_trans (by assumption) hb, bl_cell hb (by assumption), bl_cell hb (by assumption), bl_cell hb (by assumption)⟩))
   (first | (go_at_call 38; go_split_ands; refine (DecimalI_c _ (by omega) (by omega) _ (HT.out.below (by assumption))).mono ?_; rintro e W ⟨rfl, hb⟩))
 go_split_ands
 go_wp2_with fail
 go_returns
 exact Ret.mk (vs (by rw [wordsB])) (by assumption)
def stampGo : List UInt8 → Int → Int
 | [], s => s
 | b :: r, s => stampGo r ((37 * s + (b.toNat : Int)) % 65519)
def stampV (before : Int) (s : ByteArray) : Int := stampGo s.data.toList ((before + 29) % 65519)
theorem stamp_step {s : ByteArray} {k : Nat} (h : k < s.size) (a : Int) : stampGo (s.data.toList.drop k) a = stampGo (s.data.toList.drop (k + 1)) ((37 * a + (s[k].toNat : Int)) % 65519) := by
 rw [drop_at (byte_at h)]; rfl
set_option maxRecDepth 100000 in
set_option maxHeartbeats 1600000 in
theorem l27Stamp_c (before : Int) (s : ByteArray) (h0 : 0 ≤ before) (h1 : before ≤ 65518) (hs : s.size ≤ 9223372036854775807) (w : World) :
   Calls Tryz.prog 232 #[.int .i64 before, .string s] w (RetQ (.int .i64 (stampV before s)) w) := by
 go_enter Tryz.func232, Tryz.ntmps232
 go_wp2_with fail
 go_loop [5, 6] (fun sm i => ∃ (k : Nat) (a : Int), k ≤ s.size ∧ i = .int .i64 k ∧ sm = .int .i64 a ∧ 0 ≤ a ∧ a < 65519 ∧ Hid (stampV before s = stampGo (s.data.toList.drop k) a)) (fun _ i => s.size - (intOf i).toNat)
 case atStart => exact ⟨0, (before + 29) % 65519, by omega, rfl, rfl, by omega, by omega, qH rfl⟩
 case round =>
   obtain ⟨k, a, hk, rfl, rfl, ha0, ha1, hR⟩ := hrel
   by_cases hlt : k < s.size
   · have hR2 := qH (hR.out.trans (stamp_step hlt a))
     have hb : (s[k].toNat : Int) ≤ 255 := by have := s[k].toNat_lt; omega
     clear hR
     go_wp2_with fail
     exact ⟨⟨k + 1, _, by omega, by go_num, rfl, by omega, by omega, hR2⟩, by simp [intOf]; omega⟩
   · have hR2 := qH (hR.out.trans (by rw [List.drop_eq_nil_of_le (by rw [bytes_len]; omega)]; rfl : _ = a))
     clear hR
     go_wp2_with fail
     go_returns
     exact RetQ.mk (vi hR2.out.symm)
set_option maxRecDepth 100000 in
set_option maxHeartbeats 1600000 in
theorem stampOf_c (before : Int) (x : Entry) (h0 : 0 ≤ before) (h1 : before ≤ 65518) (hx : entB x = true) (w : World) (hT : Pow10 w) :
   Calls Tryz.prog 146 #[.int .i64 before, .agg #[.int .i64 x.day, .string x.what, .int .i64 x.value]] w (Ret (.int .i64 (stampV before (wordsB x))) w) := by
 have hsz : (wordsB x).size ≤ 9223372036854775807 := by
   obtain ⟨d0, d1, v0, v1, ws⟩ := entB_bd hx
   have sa := decI_size x.day
   have sb := decI_size x.value
   unfold wordsB
   rw [ByteArray.size_append', ByteArray.size_append', ByteArray.size_append', ByteArray.size_append', show (ByteArray.mk #[32]).size = 1 from rfl]
   omega
 have HT := qH hT
 have hwd := fun w hT => words_c x hx w hT
 obtain ⟨s, hs⟩ : ∃ s, s = wordsB x := ⟨_, rfl⟩
 rw [← hs] at hwd hsz ⊢
 replace hwd := qH hwd
 clear hT hs hx
 go_enter Tryz.func146, Tryz.ntmps146
 go_wp2_with fail
 refine (hwd.out _ (HT.out.below (bl_alloc (Below.refl _ _) _))).mono ?_
 rintro e W ⟨rfl, hb⟩
 have hv : Below w.heap.size w W := bl_trans (bl_alloc (Below.refl _ _) _) hb
 go_wp2_with fail
 go_loop [5, 15] (fun sm i => ∃ (k : Nat) (a : Int), k ≤ s.size ∧ i = .int .i64 k ∧ sm = .int .i64 a ∧ 0 ≤ a ∧ a < 65519 ∧ Hid (stampV before s = stampGo (s.data.toList.drop k) a)) (fun _ i => s.size - (intOf i).toNat)
 case atStart => exact ⟨0, (before + 29) % 65519, by omega, rfl, rfl, by omega, by omega, qH rfl⟩
 case round =>
   obtain ⟨k, a, hk, rfl, rfl, ha0, ha1, hR⟩ := hrel
   by_cases hlt : k < s.size
   · have hR2 := qH (hR.out.trans (stamp_step hlt a))
     have hb : (s[k].toNat : Int) ≤ 255 := by have := s[k].toNat_lt; omega
     clear hR
     go_wp2_with fail
     exact ⟨⟨k + 1, _, by omega, by go_num, rfl, by omega, by omega, hR2⟩, by simp [intOf]; omega⟩
   · have hR2 := qH (hR.out.trans (by rw [List.drop_eq_nil_of_le (by rw [bytes_len]; omega)]; rfl : _ = a))
     clear hR
     go_wp2_with fail
     go_returns
     exact Ret.mk (vi hR2.out.symm) hv
def stp (s : Int) (x : Entry) : Int := stampV s (wordsB x)
def lineE (s : Int) (x : Entry) : ByteArray := wordsB x ++ ⟨#[32]⟩ ++ decI s ++ ⟨#[10]⟩
theorem stampGo_bd : ∀ (l : List UInt8) (s : Int), 0 ≤ s → s ≤ 65518 → 0 ≤ stampGo l s ∧ stampGo l s ≤ 65518 := by
 intro l
 induction l with
 | nil => intro s h0 h1; exact ⟨h0, h1⟩
 | cons b r ih => intro s h0 h1; exact ih _ (by omega) (by omega)
theorem stp_bd (s : Int) (x : Entry) : 0 ≤ stp s x ∧ stp s x ≤ 65518 := stampGo_bd _ _ (by omega) (by omega)
theorem wordsB_size {x : Entry} (h : entB x = true) : (wordsB x).size ≤ 1100100 := by
 obtain ⟨d0, d1, v0, v1, ws⟩ := entB_bd h
 have sa := decI_size x.day
 have sb := decI_size x.value
 unfold wordsB
 rw [ByteArray.size_append', ByteArray.size_append', ByteArray.size_append', ByteArray.size_append', show (ByteArray.mk #[32]).size = 1 from rfl]
 omega
theorem lineE_size {x : Entry} (h : entB x = true) (s : Int) (h0 : 0 ≤ s) (h1 : s ≤ 65518) : (lineE s x).size ≤ 1200000 := by
 have a := wordsB_size h
 have b := decI_size s
 unfold lineE
 rw [ByteArray.size_append', ByteArray.size_append', ByteArray.size_append', show (ByteArray.mk #[32]).size = 1 from rfl, show (ByteArray.mk #[10]).size = 1 from rfl]
 omega
end Go.Proofs.YtpiehlfffjhoaaaGreatDoor
