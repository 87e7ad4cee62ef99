/- A number read from its decimal form: the program's function. -/
import Derived.Test.YtnhkdcebldppmaaDoorTabs
import Derived.Test.YtnhkdcebldppmaaDoorRdS
namespace Go.Proofs.YtnhkdcebldppmaaDoor
open Go.RowKit

theorem below_bytes {w w' : World} {t : TypeId} (h : w' = w ∨ ∃ k, w' = Lib.bytesWorld w t k) : Below w.heap.size w w' := by
  rcases h with rfl | ⟨k, rfl⟩
  · exact Below.refl _ _
  · exact Lib.bytesWorld_below _ _ _
theorem bytes_mk_list (l : List UInt8) : (ByteArray.mk l.toArray).data.toList = l := by simp
set_option maxRecDepth 100000 in
set_option maxHeartbeats 2000000 in
theorem ReadDecimal_c (s : ByteArray) (hs : s.size ≤ 281474976710656) (w : World) (hT : Tabs w) : Calls Tryd.prog 101 #[.string s] w (RetT #[.int .i64 (numV s), .bool (okN s.data.toList)] w) := by
  have HT := Lib.hid hT
  clear hT
  have hbl := bare_len s.data.toList
  rw [bytes_len] at hbl
  by_cases h19 : 19 < (s.size : Int)
  · have HO := Lib.hid (okN_long (l := s.data.toList) (by omega))
    clear hbl
    go_enter Tryd.func101, Tryd.ntmps101
    go_wp2_with fail
    go_returns
    exact RetT.mk (by rw [numV_no HO.out, HO.out]; rfl) (Below.refl _ _)
  have hd19 : decide (19 < (s.size : Int)) = false := decide_eq_false h19
  obtain ⟨t, ht⟩ : ∃ t : ByteArray, t = ⟨(bare s.data.toList).toArray⟩ := ⟨_, rfl⟩
  have hTr := fun (w : World) => Tryd.strings_TrimPrefix s ⟨#[45]⟩ w
  rw [show (ByteArray.mk #[45]).data.toList = [45] from rfl, trim_bare, ← ht] at hTr
  have hts : t.size = (bare s.data.toList).length := by rw [ht]; simp [ByteArray.size]
  replace hTr := Lib.hid hTr
  clear ht
  by_cases h18 : 18 < (t.size : Int)
  · have HO := Lib.hid (okN_long (l := s.data.toList) (by omega))
    clear hbl hts
    go_enter Tryd.func101, Tryd.ntmps101
    go_wp2_with (go_at_call 109; refine (hTr.out _).mono ?_; rintro e w' ⟨rfl, rfl⟩)
    go_returns
    exact RetT.mk (by rw [numV_no HO.out, HO.out]; rfl) (Below.refl _ _)
  have hd18 : decide (18 < (t.size : Int)) = false := decide_eq_false h18
  have HL := Lib.hid (show (bare s.data.toList).length ≤ 18 by omega)
  clear hbl hts
  obtain ⟨evs, hes, hes2⟩ := HT.out.syn
  obtain ⟨evr, her, her2⟩ := HT.out.rng
  match hp : Lib.parseIntB 64 s.data.toList with
  | Lib.NumEnd.syntax =>
    have HO := Lib.hid (okN_no_parse (l := s.data.toList) (by intro v; rw [hp]; intro h; cases h))
    have hPI := Lib.hid (Tryd.strconv_ParseInt_10_at64_syntax s hs hp evs w hes hes2)
    clear hp hes hes2 her her2
    go_enter Tryd.func101, Tryd.ntmps101
    go_wp2_with (go_at_call 109; refine (hTr.out _).mono ?_; rintro e w' ⟨rfl, rfl⟩)
    refine hPI.out.mono ?_
    rintro e W ⟨N, rfl, _, _, hb⟩
    go_wp2_with fail
    go_returns
    exact RetT.mk (by rw [numV_no HO.out, HO.out]; rfl) hb
  | .range =>
    have HO := Lib.hid (okN_no_parse (l := s.data.toList) (by intro v; rw [hp]; intro h; cases h))
    have hPI := Lib.hid (Tryd.strconv_ParseInt_10_at64_range s hs hp evr w her her2)
    clear hp hes hes2 her her2
    go_enter Tryd.func101, Tryd.ntmps101
    go_wp2_with (go_at_call 109; refine (hTr.out _).mono ?_; rintro e w' ⟨rfl, rfl⟩)
    refine hPI.out.mono ?_
    rintro e W ⟨N, rfl, _, _, hb⟩
    go_wp2_with fail
    go_returns
    exact RetT.mk (by rw [numV_no HO.out, HO.out]; rfl) hb
  | .ok v =>
    have hvb := parse_bd HL.out hp
    have hv0 := hvb.1
    have hv1 := hvb.2
    clear hvb
    have hPI := Lib.hid (Tryd.strconv_ParseInt_10_at64_ok s (by omega) v hp w)
    have hbq : ((decI v).toList == s.toList) = decide (Lib.itoa v = s.data.toList) := by
      rw [bytes_beq, Bool.eq_iff_iff, decide_eq_true_eq, decide_eq_true_eq]
      constructor
      · intro h; rw [← h]; rfl
      · intro h; unfold decI; rw [h]
    have HB := Lib.hid hbq
    have HP := Lib.hid hp
    clear hp hbq hes hes2 her her2
    go_enter Tryd.func101, Tryd.ntmps101
    go_wp2_with (go_at_call 109; refine (hTr.out _).mono ?_; rintro e w' ⟨rfl, rfl⟩)
    refine hPI.out.mono ?_
    rintro e W ⟨rfl, hW⟩
    have hb := below_bytes hW
    clear hW
    go_wp2_with fail
    refine (DecimalI_c v (by omega) (by omega) _ (HT.out.below hb).pow).mono ?_
    rintro e W2 ⟨rfl, hb2⟩
    replace hb := bl_trans hb hb2
    clear hb2
    cases hq2 : ((decI v).toList == s.toList)
    · have HO := Lib.hid (okN_ne HP.out (of_decide_eq_false (HB.out.symm.trans hq2)))
      go_wp2_with fail
      go_returns
      exact RetT.mk (by rw [numV_no HO.out, HO.out]; rfl) hb
    · have HO := Lib.hid (okN_eq HL.out (of_decide_eq_true (HB.out.symm.trans hq2)))
      go_wp2_with fail
      go_returns
      exact RetT.mk (by rw [numV_yes HO.out.1, HO.out.1, HO.out.2]; rfl) hb
end Go.Proofs.YtnhkdcebldppmaaDoor
