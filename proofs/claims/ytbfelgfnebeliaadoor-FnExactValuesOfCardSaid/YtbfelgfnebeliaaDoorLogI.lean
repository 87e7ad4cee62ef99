/- ValuesOf: both sides; the law walked. -/
import Derived.Test.YtbfelgfnebeliaaDoorLogH
namespace Go.Proofs.YtbfelgfnebeliaaDoor
open Go.RowKit

def valG (t : ByteArray) (es : List Entry) : List Int := (es.filter fun x => x.what.toList == t.toList).map (·.value)
def valV (s t : ByteArray) : List Int := if cdW s t = 0 then valG t (rdL s).1 else []
theorem valV_ok {s t : ByteArray} (h : cdW s t = 0) : valV s t = valG t (rdL s).1 := by unfold valV; rw [if_pos h]
theorem valV_no {s t : ByteArray} (h : ¬ cdW s t = 0) : valV s t = [] := by unfold valV; rw [if_neg h]
theorem valG_len (t : ByteArray) (es : List Entry) : (valG t es).length ≤ es.length := by
  unfold valG
  rw [List.length_map]
  exact List.length_filter_le _ _
theorem cdW_zero {s t : ByteArray} (h : cdW s t = 0) : cdL s = 0 := by
  unfold cdW at h
  split at h
  · assumption
  · exact h
theorem valV_len (s t : ByteArray) : (valV s t).length ≤ 4000 := by
  by_cases h : cdW s t = 0
  · rw [valV_ok h]
    exact Nat.le_trans (valG_len _ _) (Nat.le_trans (rdL_few s) (cdL_small (cdW_zero h)))
  · rw [valV_no h]; simp
theorem valG_step {t : ByteArray} {es : List Entry} {k : Nat} {x : Entry} (h : es[k]? = some x) : valG t (es.take (k + 1)) = valG t (es.take k) ++ if (x.what.toList == t.toList) = true then [x.value] else [] := by
  rw [take_at h]
  unfold valG
  rw [List.filter_append, List.map_append]
  cases hq : (x.what.toList == t.toList) <;> simp [hq]
theorem infoI64 : (Tryd.prog.info? 2).map (fun i => (i.zero, i.size, i.bytes)) = some (some (.int .i64 0), 1, 8) := by kernel_rfl
set_option maxRecDepth 100000 in
set_option maxHeartbeats 4000000 in
theorem SValuesOf_c (s t : ByteArray) (hs : s.size ≤ 1048576) (ht : t.size ≤ 9223372036854775807) (w : World) : Calls Tryd.prog 24 #[.string s, .string t] w (OutL 2 1 (valV s t).length (flat icell (valV s t)) (cdW s t) w) := by
  obtain ⟨i0, hi0, hz0, hz1, hz2⟩ := info_parts (P := Tryd.prog) (e := 2) (z := .int .i64 0) (size := 1) (bytes := 8) infoI64
  go_enter Tryd.func24, Tryd.ntmps24
  go_wp2_with fail
  refine (l27What_c s t hs ht _).mono ?_
  rintro e W ⟨g, rfl, hg, hRS, hb⟩
  by_cases h0 : cdW s t = 0
  case neg =>
    have HC := Lib.hid (valV_no h0)
    have hne2 : (cdW s t != 0) = true := by rw [bne_iff_ne]; exact h0
    clear hRS
    generalize cdW s t = C at *
    clear h0
    go_wp2_with fail
    go_returns
    rw [HC.out]
    exact OutL.nil hb
  obtain ⟨hz, A, c, hB, hown, _⟩ := hRS h0
  have hG := rdL_good s
  have hfew : (rdL s).1.length ≤ 4000 := Nat.le_trans (rdL_few s) (cdL_small hz)
  have HC := Lib.hid (valV_ok h0)
  have HZ := Lib.hid h0
  rw [h0]
  clear hRS h0 hz
  have hent := Lib.hid hG.ent
  clear hG
  generalize (rdL s).1 = es at *
  generalize (rdL s).2.1 = st at *
  generalize (rdL s).2.2 = n at *
  obtain ⟨m, hm0⟩ : ∃ m, m = es.length := ⟨_, rfl⟩
  rw [← hm0] at hB hown hfew
  have hm := Lib.hid hm0.symm
  clear hm0
  have hAr := Arr.own hown
  clear hown
  go_wp2_with fail
  have hR := Lib.hid (show (valG t (es.take 0)).length = 0 from rfl)
  go_loopw [8, 9] (fun ov i wr => ∃ (k r : Nat) (A' : Option Addr) (c' : Nat), k ≤ m ∧ r ≤ k ∧ i = .int .i64 k ∧ ov = .slice A' r c' ∧ Hid ((valG t (es.take k)).length = r) ∧ wr.ownsRow W.heap.size 2 1 (.slice A' r c') r (flat icell (valG t (es.take k))) ∧ Below W.heap.size W wr) (fun _ i _ => m - (intOf i).toNat)
  case atStart => exact ⟨0, 0, _, _, by omega, by omega, rfl, rfl, hR, own_empty W W.heap.size 2 1 (Nat.le_refl _), bl_alloc (Below.refl _ _) _⟩
  case round =>
    clear hR
    obtain ⟨k, r, A', c', hk, hrk, rfl, rfl, hR, hownV, hv⟩ := hrel
    have k3 : wr.cell? ⟨g, 3, none⟩ = some (.slice A m c) := (hB.below hv).cell 3
    by_cases hlt : k < m
    · obtain ⟨x, hx⟩ := get_of_lt (xs := es) (k := k) (by rw [hm.out]; exact hlt)
      obtain ⟨ad, rfl, hab, c0, c1, c2⟩ := Entry.at_ (hAr.below hv) hx
      obtain ⟨v0, v1, _, _, _⟩ := ent_val hent.out hx
      have hj0 : (0 : Int) ≤ (k : Int) := by omega
      have hj1 : (k : Int) < (m : Int) := by omega
      have hst := valG_step (t := t) hx
      clear hx
      have HO := Lib.hid hownV
      cases hq1 : (x.what.toList == t.toList)
      · have HST := Lib.hid (hst.trans (by rw [hq1]; simp : _ = valG t (es.take k)))
        clear hst
        go_wp2_with fail
        exact ⟨⟨k + 1, r, A', c', by omega, by omega, by go_num, rfl, Lib.hid (by rw [HST.out]; exact hR.out), by rw [HST.out]; exact hownV, hv⟩, by simp [intOf]; omega⟩
      · have HST := Lib.hid (hst.trans (by rw [hq1]; simp : _ = valG t (es.take k) ++ [x.value]))
        clear hst
        go_wp2_with (at_builtin; refine app_ownX _ _ rfl _ _ 42 2 rfl i0 _ 1 8 Tryd.underlying42 hi0 hz0 hz1 hz2 rfl (by omega) W.heap.size (.slice A' r c') r (flat icell (valG t (es.take k))) rfl _ rfl rfl HO.out rfl (by simp [Value.oneCell']) (by unfold maxLen; omega) (by omega) hv.size ?_; intro A2 c2 w2 hown2 hg2)
        refine ⟨⟨k + 1, r + 1, A2, c2, by omega, by omega, by go_num, rfl, Lib.hid (by rw [HST.out, List.length_append, hR.out]; rfl), by rw [HST.out, flat_append]; exact hown2, bl_grown hv hg2 (own_at HO.out)⟩, by simp [intOf]; omega⟩
    · have HV := Lib.hid (show valG t es = valG t (es.take k) by rw [List.take_of_length_le (by rw [hm.out]; omega)])
      go_wp2_with fail
      go_returns
      exact OutL.mk (own_base hownV hb.size) (by rw [HC.out, HV.out]; exact hR.out.symm) (by rw [HC.out, HV.out]) (by first | rfl | exact HZ.out.symm) (bl_trans hb hv)

set_option maxRecDepth 100000 in
set_option maxHeartbeats 4000000 in
theorem ValuesOf_c (s t : ByteArray) (hs : s.size ≤ 1048576) (ht : t.size ≤ 9223372036854775807) (w : World) (hT : Tabs w) : Calls Tryd.prog 25 #[.string s, .string t] w (OutL 2 1 (valV s t).length (flat icell (valV s t)) (cdW s t) w) := by
  obtain ⟨i0, hi0, hz0, hz1, hz2⟩ := info_parts (P := Tryd.prog) (e := 2) (z := .int .i64 0) (size := 1) (bytes := 8) infoI64
  have HT := Lib.hid hT
  clear hT
  go_enter Tryd.func25, Tryd.ntmps25
  go_wp2_with fail
  refine (logCode_c s hs _ HT.out).mono ?_
  rintro e W ⟨A, c, m, es, st, n, rfl, hG, hm0, hown, hok, hno, hb0⟩
  obtain ⟨WB, hWB⟩ : ∃ WB, WB = W.alloc (Obj.cells #[.slice A m c, .int .i64 st, .int .i64 n] 74) := ⟨_, rfl⟩
  have hb : Below w.heap.size w WB := by rw [hWB]; exact bl_alloc hb0 _
  have hAr : Arr WB A (flat Entry.cells es) := by rw [hWB]; exact (Arr.own hown).alloc _
  have hX : Blk WB W.heap.size 74 #[.slice A m c, .int .i64 st, .int .i64 n] := by rw [hWB]; exact Blk.new _ _ _
  have HWB := Lib.hid hWB
  clear hWB hown hb0
  by_cases h0 : cdL s = 0
  case neg =>
    have HW := Lib.hid (cdW_no (t := t) h0)
    have HC := Lib.hid (valV_no (s := s) (t := t) (by rw [HW.out]; exact h0))
    have hne : (cdL s == 0) = false := by rw [beq_eq_false_iff_ne]; exact h0
    have hne2 : (cdL s != 0) = true := by rw [bne_iff_ne]; exact h0
    clear hok hno hX hAr
    generalize cdL s = C at *
    clear h0
    go_wp2_with fail
    rw [← HWB.out]
    go_returns
    rw [HC.out, HW.out]
    exact OutL.nil hb
  have HRD := Lib.hid (hok h0)
  have hfew : m ≤ 4000 := by rw [← hm0]; have := rdL_few s; rw [HRD.out] at this; exact Nat.le_trans this (cdL_small h0)
  have H0 := Lib.hid h0
  rw [h0]
  have hent := Lib.hid hG.ent
  have hm := Lib.hid hm0
  clear hok hno h0 hG hm0
  cases hn : nameB t
  · have HW := Lib.hid (cdW_name (t := t) H0.out hn)
    have HC := Lib.hid (valV_no (s := s) (t := t) (by rw [HW.out]; decide))
    go_wp2_with (go_at_call 54; refine (IsName_c t ht _).mono ?_; rintro e w' ⟨rfl, hq⟩; rw [hq]; clear hq w'; rw [hn])
    rw [← HWB.out]
    go_returns
    rw [HC.out, HW.out]
    exact OutL.nil hb
  have HW := Lib.hid (cdW_ok (t := t) H0.out hn)
  have HZ := HW
  have HC := Lib.hid ((valV_ok HW.out).trans (by rw [HRD.out] : _ = valG t es))
  go_wp2_with (go_at_call 54; refine (IsName_c t ht _).mono ?_; rintro e w' ⟨rfl, hq⟩; rw [hq]; clear hq w'; rw [hn])
  rw [← HWB.out, show W.heap.size + 1 = WB.heap.size from by rw [HWB.out, World.size_alloc]]
  clear hn
  have hR := Lib.hid (show (valG t (es.take 0)).length = 0 from rfl)
  go_loopw [8, 30] (fun ov i wr => ∃ (k r : Nat) (A' : Option Addr) (c' : Nat), k ≤ m ∧ r ≤ k ∧ i = .int .i64 k ∧ ov = .slice A' r c' ∧ Hid ((valG t (es.take k)).length = r) ∧ wr.ownsRow WB.heap.size 2 1 (.slice A' r c') r (flat icell (valG t (es.take k))) ∧ Below WB.heap.size WB wr) (fun _ i _ => m - (intOf i).toNat)
  case atStart => exact ⟨0, 0, _, _, by omega, by omega, rfl, rfl, hR, own_empty WB WB.heap.size 2 1 (Nat.le_refl _), bl_alloc (Below.refl _ _) _⟩
  case round =>
    clear hR
    obtain ⟨k, r, A', c', hk, hrk, rfl, rfl, hR, hownV, hv⟩ := hrel
    by_cases hlt : k < m
    · obtain ⟨x, hx⟩ := get_of_lt (xs := es) (k := k) (by rw [hm.out]; exact hlt)
      obtain ⟨ad, rfl, hab, c0, c1, c2⟩ := Entry.at_ (hAr.below hv) hx
      obtain ⟨v0, v1, _, _, _⟩ := ent_val hent.out hx
      have hj0 : (0 : Int) ≤ (k : Int) := by omega
      have hj1 : (k : Int) < (m : Int) := by omega
      have hst := valG_step (t := t) hx
      clear hx
      have HO := Lib.hid hownV
      cases hq1 : (x.what.toList == t.toList)
      · have HST := Lib.hid (hst.trans (by rw [hq1]; simp : _ = valG t (es.take k)))
        clear hst
        go_wp2_with fail
        exact ⟨⟨k + 1, r, A', c', by omega, by omega, by go_num, rfl, Lib.hid (by rw [HST.out]; exact hR.out), by rw [HST.out]; exact hownV.alloc _, bl_alloc hv _⟩, by simp [intOf]; omega⟩
      · have HST := Lib.hid (hst.trans (by rw [hq1]; simp : _ = valG t (es.take k) ++ [x.value]))
        clear hst
        go_wp2_with (at_builtin; refine app_ownX _ _ rfl _ _ 42 2 rfl i0 _ 1 8 Tryd.underlying42 hi0 hz0 hz1 hz2 rfl (by omega) WB.heap.size (.slice A' r c') r (flat icell (valG t (es.take k))) rfl _ (World.size_alloc _ _).symm rfl (HO.out.alloc _) rfl (by simp [Value.oneCell']) (by unfold maxLen; omega) (by omega) (Nat.le_trans hv.size (by simp)) ?_; intro A2 c2 w2 hown2 hg2)
        refine ⟨⟨k + 1, r + 1, A2, c2, by omega, by omega, by go_num, rfl, Lib.hid (by rw [HST.out, List.length_append, hR.out]; rfl), by rw [HST.out, flat_append]; exact hown2, bl_grown (bl_alloc hv _) hg2 (own_at HO.out)⟩, by simp [intOf]; omega⟩
    · have HV := Lib.hid (show valG t es = valG t (es.take k) by rw [List.take_of_length_le (by rw [hm.out]; omega)])
      go_wp2_with fail
      go_returns
      exact OutL.mk (own_base hownV hb.size) (by rw [HC.out, HV.out]; exact hR.out.symm) (by rw [HC.out, HV.out]) (by first | rfl | exact HZ.out.symm) (bl_trans hb hv)

theorem eqInt64S_same (A B : Option Addr) (xs : List Int) (n c d : Nat) (hn : Hid (xs.length = n)) (hz : (n : Int) ≤ 9223372036854775807) (w : World) (hA : Arr w A (flat icell xs)) (hB : Arr w B (flat icell xs)) :
    Calls Tryd.prog 26 #[.slice A n c, .slice B n d] w (Ret (.bool true) w) := by
  have h := eqInt64S_c A B xs xs n n c d hn hn hz w hA hB
  rwa [decide_eq_true (rfl : xs = xs)] at h

set_option maxRecDepth 100000 in
set_option maxHeartbeats 2000000 in
theorem FnExactValuesOf_law (s : ByteArray) (hm_s : s.size ≤ 9223372036854775807) (t : ByteArray) (hm_t : t.size ≤ 9223372036854775807) (w : World) (hT : Tabs w) : Calls Tryd.prog 8 #[.string s, .string t] w (Ret (.bool true) w) := by
  have HT := Lib.hid hT
  clear hT
  by_cases hb_s : 1048576 < (s.size : Int)
  · go_enter Tryd.func8, Tryd.ntmps8
    go_wp2_with fail
    go_returns
    exact Ret.mk rfl (Below.refl _ _)
  have hd_s : decide (1048576 < (s.size : Int)) = false := decide_eq_false hb_s
  have hz_s : s.size ≤ 1048576 := by omega
  by_cases hb_t : 1048576 < (t.size : Int)
  · go_enter Tryd.func8, Tryd.ntmps8
    go_wp2_with fail
    go_returns
    exact Ret.mk rfl (Below.refl _ _)
  have hd_t : decide (1048576 < (t.size : Int)) = false := decide_eq_false hb_t
  have hz_t : t.size ≤ 1048576 := by omega
  have hv := Below.refl w.heap.size w
  obtain ⟨l, hl⟩ : ∃ l, l = valV s t := ⟨_, rfl⟩
  obtain ⟨co, hco⟩ : ∃ co, co = cdW s t := ⟨_, rfl⟩
  have hlen : l.length ≤ 4000 := by rw [hl]; exact valV_len s t
  obtain ⟨r, hr⟩ : ∃ r, r = l.length := ⟨_, rfl⟩
  have HW := fun (w : World) => SValuesOf_c s t (by omega) (by omega) w
  have HG' := fun (w : World) (ht : Tabs w) => ValuesOf_c s t (by omega) (by omega) w ht
  rw [← hl, ← hco, ← hr] at HW HG'
  rw [← hr] at hlen
  have hr1 := Lib.hid hr.symm
  clear hl hco hr
  have hcc : (co != co) = false := by simp
  replace HW := Lib.hid HW
  replace HG' := Lib.hid HG'
  go_enter Tryd.func8, Tryd.ntmps8
  go_wp2_with fail
  refine (HW.out _).mono ?_
  rintro e W ⟨Aw, cw, rfl, how, hb⟩
  obtain ⟨lw, uw, h_own, z0, z1⟩ := Own.named how hb
  replace how := h_own
  clear h_own
  have z2 := Lib.hid hb.size
  replace hv := bl_trans hv hb
  clear hb
  go_wp2_with fail
  refine (HG'.out _ (HT.out.below hv)).mono ?_
  rintro e W ⟨Ag, cg, rfl, hog, hb⟩
  obtain ⟨lg, ug, h_own, z3, z4⟩ := Own.named hog hb
  replace hog := h_own
  clear h_own
  have z5 := Lib.hid hb.size
  replace hv := bl_trans hv hb
  replace how := how.below hb
  clear hb
  go_wp2_with fail
  refine (eqInt64S_same Ag Aw l r cg cw hr1 (by omega) _ hog.arr how.arr).mono ?_
  rintro e W ⟨rfl, hb⟩
  have z6 := Lib.hid hb.size
  replace hv := bl_trans hv hb
  replace how := how.below hb
  replace hog := hog.below hb
  clear hb
  go_wp2_with fail
  refine (markInt64S_c Ag r cg lg _ 1 (by omega) (by omega) (by omega) _ hog.1).mono ?_
  rintro e W ⟨rfl, hown, hg⟩
  have y0 := z0.out
  have y1 := z1.out
  have y2 := z2.out
  have y3 := z3.out
  have y4 := z4.out
  have y5 := z5.out
  have y6 := z6.out
  have hr := hog.row
  have l_how := how.2.1
  have l_hog := hog.2.1
  replace hv := bl_grown hv hg (fun k e => by have h1 := hr k e; omega)
  replace how := how.grown hg (fun k e => by have h1 := hr k e; omega)
  replace hog := hog.marked hg hown
  clear hg hown hr l_how l_hog
  clear y0 y1 y2 y3 y4 y5 y6
  go_wp2_with fail
  refine (heldInt64S_c Ag r cg 1 (by omega) (by omega) (by omega) _ hog.arr).mono ?_
  rintro e W ⟨rfl, hb⟩
  have z7 := Lib.hid hb.size
  replace hv := bl_trans hv hb
  replace how := how.below hb
  replace hog := hog.below hb
  clear hb
  go_wp2_with fail
  refine (HG'.out _ (HT.out.below hv)).mono ?_
  rintro e W ⟨Ah, ch, rfl, hoh, hb⟩
  obtain ⟨lh, uh, h_own, z8, z9⟩ := Own.named hoh hb
  replace hoh := h_own
  clear h_own
  have z10 := Lib.hid hb.size
  replace hv := bl_trans hv hb
  replace how := how.below hb
  replace hog := hog.below hb
  clear hb
  go_wp2_with fail
  refine (eqInt64S_same Ah Aw l r ch cw hr1 (by omega) _ hoh.arr how.arr).mono ?_
  rintro e W ⟨rfl, hb⟩
  have z11 := Lib.hid hb.size
  replace hv := bl_trans hv hb
  replace how := how.below hb
  replace hog := hog.below hb
  replace hoh := hoh.below hb
  clear hb
  go_wp2_with fail
  refine (heldInt64S_c Ag r cg 1 (by omega) (by omega) (by omega) _ hog.arr).mono ?_
  rintro e W ⟨rfl, hb⟩
  have z12 := Lib.hid hb.size
  replace hv := bl_trans hv hb
  replace how := how.below hb
  replace hog := hog.below hb
  replace hoh := hoh.below hb
  clear hb
  go_wp2_with fail
  go_returns
  exact Ret.mk rfl hv

end Go.Proofs.YtbfelgfnebeliaaDoor
