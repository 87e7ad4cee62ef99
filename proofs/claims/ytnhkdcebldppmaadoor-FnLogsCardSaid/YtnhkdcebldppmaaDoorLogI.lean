
/- ValuesOf: both sides; the law walked. -/
import Derived.Test.YtnhkdcebldppmaaDoorLogH
namespace Go.Proofs.YtnhkdcebldppmaaDoor
open Go.RowKit

def valG (t : ByteArray) (es : List Entry) : List Int := (es.filter fun x => x.what.toList == t.toList).map (·.value)
def valV (s t : ByteArray) : List Int := if cdW s t = 0 then valG t (rdL s).1 else []
theorem valV_ok {s t : ByteArray} (h : cdW s t = 0) : valV s t = valG t (rdL s).1 := by unfold valV; rw [if_pos h]
theorem valV_no {s t : ByteArray} (h : ¬ cdW s t = 0) : valV s t = [] := by unfold valV; rw [if_neg h]
theorem valG_len (t : ByteArray) (es : List Entry) : (valG t es).length ≤ es.length := by
  unfold valG
  rw [List.length_map]
  exact List.length_filter_le _ _
theorem cdW_zero {s t : ByteArray} (h : cdW s t = 0) : cdL s = 0 := by
  unfold cdW at h
  split at h
  · assumption
  · exact h
theorem valV_len (s t : ByteArray) : (valV s t).length ≤ 4000 := by
  by_cases h : cdW s t = 0
  · rw [valV_ok h]
    exact Nat.le_trans (valG_len _ _) (Nat.le_trans (rdL_few s) (cdL_small (cdW_zero h)))
  · rw [valV_no h]; simp
theorem valG_step {t : ByteArray} {es : List Entry} {k : Nat} {x : Entry} (h : es[k]? = some x) : valG t (es.take (k + 1)) = valG t (es.take k) ++ if (x.what.toList == t.toList) = true then [x.value] else [] := by
  rw [take_at h]
  unfold valG
  rw [List.filter_append, List.map_append]
  cases hq : (x.what.toList == t.toList) <;> simp [hq]
theorem infoI64 : (Tryd.prog.info? 2).map (fun i => (i.zero, i.size, i.bytes)) = some (some (.int .i64 0), 1, 8) := by kernel_rfl
set_option maxRecDepth 100000 in
set_option maxHeartbeats 4000000 in
theorem ValuesOf_c (s t : ByteArray) (hs : s.size ≤ 1048576) (ht : t.size ≤ 9223372036854775807) (w : World) (hT : Tabs w) : Calls Tryd.prog 28 #[.string s, .string t] w (OutL 2 1 (valV s t).length (flat icell (valV s t)) (cdW s t) w) := by
  obtain ⟨i0, hi0, hz0, hz1, hz2⟩ := info_parts (P := Tryd.prog) (e := 2) (z := .int .i64 0) (size := 1) (bytes := 8) infoI64
  have HT := Lib.hid hT
  clear hT
  go_enter Tryd.func28, Tryd.ntmps28
  go_wp2_with fail
  refine (logCode_c s hs _ HT.out).mono ?_
  rintro e W ⟨A, c, m, es, st, n, rfl, hG, hm0, hown, hok, hno, hb0⟩
  obtain ⟨WB, hWB⟩ : ∃ WB, WB = W.alloc (Obj.cells #[.slice A m c, .int .i64 st, .int .i64 n] 86) := ⟨_, rfl⟩
  have hb : Below w.heap.size w WB := by rw [hWB]; exact bl_alloc hb0 _
  have hAr : Arr WB A (flat Entry.cells es) := by rw [hWB]; exact (Arr.own hown).alloc _
  have hX : Blk WB W.heap.size 86 #[.slice A m c, .int .i64 st, .int .i64 n] := by rw [hWB]; exact Blk.new _ _ _
  have HWB := Lib.hid hWB
  clear hWB hown hb0
  by_cases h0 : cdL s = 0
  case neg =>
    have HW := Lib.hid (cdW_no (t := t) h0)
    have HC := Lib.hid (valV_no (s := s) (t := t) (by rw [HW.out]; exact h0))
    have hne : (cdL s == 0) = false := by rw [beq_eq_false_iff_ne]; exact h0
    have hne2 : (cdL s != 0) = true := by rw [bne_iff_ne]; exact h0
    clear hok hno hX hAr
    generalize cdL s = C at *
    clear h0
    go_wp2_with fail
    rw [← HWB.out]
    go_returns
    rw [HC.out, HW.out]
    exact OutL.nil hb
  have HRD := Lib.hid (hok h0)
  have hfew : m ≤ 4000 := by rw [← hm0]; have := rdL_few s; rw [HRD.out] at this; exact Nat.le_trans this (cdL_small h0)
  have H0 := Lib.hid h0
  rw [h0]
  have hent := Lib.hid hG.ent
  have hm := Lib.hid hm0
  clear hok hno h0 hG hm0
  cases hn : nameB t
  · have HW := Lib.hid (cdW_name (t := t) H0.out hn)
    have HC := Lib.hid (valV_no (s := s) (t := t) (by rw [HW.out]; decide))
    go_wp2_with (go_at_call 64; refine (IsName_c t ht _).mono ?_; rintro e w' ⟨rfl, hq⟩; rw [hq]; clear hq w'; rw [hn])
    rw [← HWB.out]
    go_returns
    rw [HC.out, HW.out]
    exact OutL.nil hb
  have HW := Lib.hid (cdW_ok (t := t) H0.out hn)
  have HZ := HW
  have HC := Lib.hid ((valV_ok HW.out).trans (by rw [HRD.out] : _ = valG t es))
  go_wp2_with (go_at_call 64; refine (IsName_c t ht _).mono ?_; rintro e w' ⟨rfl, hq⟩; rw [hq]; clear hq w'; rw [hn])
  rw [← HWB.out, show W.heap.size + 1 = WB.heap.size from by rw [HWB.out, World.size_alloc]]
  clear hn
  have hR := Lib.hid (show (valG t (es.take 0)).length = 0 from rfl)
  go_loopw [8, 30] (fun ov i wr => ∃ (k r : Nat) (A' : Option Addr) (c' : Nat), k ≤ m ∧ r ≤ k ∧ i = .int .i64 k ∧ ov = .slice A' r c' ∧ Hid ((valG t (es.take k)).length = r) ∧ wr.ownsRow WB.heap.size 2 1 (.slice A' r c') r (flat icell (valG t (es.take k))) ∧ Below WB.heap.size WB wr) (fun _ i _ => m - (intOf i).toNat)
  case atStart => exact ⟨0, 0, _, _, by omega, by omega, rfl, rfl, hR, own_empty WB WB.heap.size 2 1 (Nat.le_refl _), bl_alloc (Below.refl _ _) _⟩
  case round =>
    clear hR
    obtain ⟨k, r, A', c', hk, hrk, rfl, rfl, hR, hownV, hv⟩ := hrel
    by_cases hlt : k < m
    · obtain ⟨x, hx⟩ := get_of_lt (xs := es) (k := k) (by rw [hm.out]; exact hlt)
      obtain ⟨ad, rfl, hab, c0, c1, c2⟩ := Entry.at_ (hAr.below hv) hx
      obtain ⟨v0, v1, _, _, _⟩ := ent_val hent.out hx
      have hj0 : (0 : Int) ≤ (k : Int) := by omega
      have hj1 : (k : Int) < (m : Int) := by omega
      have hst := valG_step (t := t) hx
      clear hx
      have HO := Lib.hid hownV
      cases hq1 : (x.what.toList == t.toList)
      · have HST := Lib.hid (hst.trans (by rw [hq1]; simp : _ = valG t (es.take k)))
        clear hst
        go_wp2_with fail
        exact ⟨⟨k + 1, r, A', c', by omega, by omega, by go_num, rfl, Lib.hid (by rw [HST.out]; exact hR.out), by rw [HST.out]; exact hownV.alloc _, bl_alloc hv _⟩, by simp [intOf]; omega⟩
      · have HST := Lib.hid (hst.trans (by rw [hq1]; simp : _ = valG t (es.take k) ++ [x.value]))
        clear hst
        go_wp2_with (at_builtin; refine app_ownX _ _ rfl _ _ 49 2 rfl i0 _ 1 8 Tryd.underlying49 hi0 hz0 hz1 hz2 rfl (by omega) WB.heap.size (.slice A' r c') r (flat icell (valG t (es.take k))) rfl _ (World.size_alloc _ _).symm rfl (HO.out.alloc _) rfl (by simp [Value.oneCell']) (by unfold maxLen; omega) (by omega) (Nat.le_trans hv.size (by simp)) ?_; intro A2 c2 w2 hown2 hg2)
        refine ⟨⟨k + 1, r + 1, A2, c2, by omega, by omega, by go_num, rfl, Lib.hid (by rw [HST.out, List.length_append, hR.out]; rfl), by rw [HST.out, flat_append]; exact hown2, bl_grown (bl_alloc hv _) hg2 (own_at HO.out)⟩, by simp [intOf]; omega⟩
    · have HV := Lib.hid (show valG t es = valG t (es.take k) by rw [List.take_of_length_le (by rw [hm.out]; omega)])
      go_wp2_with fail
      go_returns
      exact OutL.mk (own_base hownV hb.size) (by rw [HC.out, HV.out]; exact hR.out.symm) (by rw [HC.out, HV.out]) (by first | rfl | exact HZ.out.symm) (bl_trans hb hv)


end Go.Proofs.YtnhkdcebldppmaaDoor
