/- EntriesOf: both sides; the law walked. -/
import Derived.Test.YtbfelgfnebeliaaDoorLogW
namespace Go.Proofs.YtbfelgfnebeliaaDoor
open Go.RowKit

def entV (s : ByteArray) : List Entry := if cdL s = 0 then (rdL s).1 else []
theorem entV_ok {s : ByteArray} (h : cdL s = 0) : entV s = (rdL s).1 := by unfold entV; rw [if_pos h]
theorem entV_no {s : ByteArray} (h : ¬ cdL s = 0) : entV s = [] := by unfold entV; rw [if_neg h]
theorem rdL_few (s : ByteArray) : (rdL s).1.length ≤ s.size := Nat.le_trans (rdL_good s).few (rdL_good s).le
theorem cdL_small {s : ByteArray} (h : cdL s = 0) : s.size ≤ 4000 := by
  unfold cdL at h
  split at h
  · cases h
  · omega
theorem entV_len (s : ByteArray) : (entV s).length ≤ 4000 := by
  by_cases h : cdL s = 0
  · rw [entV_ok h]; exact Nat.le_trans (rdL_few s) (cdL_small h)
  · rw [entV_no h]; simp
set_option maxRecDepth 100000 in
set_option maxHeartbeats 2000000 in
theorem EntriesOf_c (s : ByteArray) (hs : s.size ≤ 1048576) (w : World) (hT : Tabs w) : Calls Tryd.prog 30 #[.string s] w (OutL 39 3 (entV s).length (flat Entry.cells (entV s)) (cdL s) w) := by
  have HT := Lib.hid hT
  clear hT
  go_enter Tryd.func30, Tryd.ntmps30
  go_wp2_with fail
  refine (logCode_c s hs _ HT.out).mono ?_
  rintro e W ⟨A, c, m, es, st, n, rfl, hG, hm, hown, hok, hno, hb⟩
  have HE : Hid (entV s = es ∧ es.length = m) := by
    by_cases h0 : cdL s = 0
    · exact Lib.hid ⟨by rw [entV_ok h0, hok h0], hm⟩
    · have h1 := hno h0
      have h2 : es = [] := List.eq_nil_of_length_eq_zero (by rw [hm]; exact h1.2.1)
      exact Lib.hid ⟨by rw [entV_no h0, h2], hm⟩
  generalize cdL s = C at *
  clear hok hno hm
  go_wp2_with fail
  go_returns
  exact OutL.mk (hown.alloc _) (by rw [HE.out.1]; exact HE.out.2.symm) (by rw [HE.out.1]) rfl (bl_alloc hb _)
set_option maxRecDepth 100000 in
set_option maxHeartbeats 2000000 in
theorem SEntriesOf_c (s : ByteArray) (hs : s.size ≤ 1048576) (w : World) : Calls Tryd.prog 29 #[.string s] w (OutL 39 3 (entV s).length (flat Entry.cells (entV s)) (cdL s) w) := by
  go_enter Tryd.func29, Tryd.ntmps29
  go_wp2_with fail
  refine (l27Code_c s hs _).mono ?_
  rintro e W ⟨g, rfl, hg, hRS, hb⟩
  by_cases h0 : cdL s = 0
  · obtain ⟨A, c, hB, hown, _⟩ := hRS h0
    have HE := Lib.hid (entV_ok h0)
    rw [h0]
    generalize (rdL s).1 = es at *
    generalize (rdL s).2.1 = st at *
    generalize (rdL s).2.2 = n at *
    obtain ⟨m, hm⟩ : ∃ m, m = es.length := ⟨_, rfl⟩
    rw [← hm] at hB hown
    have HM := Lib.hid hm
    have k3 : W.cell? ⟨g, 3, none⟩ = some (.slice A m c) := hB.cell 3
    clear hm hRS
    have H0 := Lib.hid h0
    clear h0
    go_wp2_with fail
    go_returns
    exact OutL.mk hown (by rw [HE.out]; exact HM.out) (by rw [HE.out]) H0.out.symm hb
  · have HE := Lib.hid (entV_no h0)
    have hne : (cdL s != 0) = true := by rw [bne_iff_ne]; exact h0
    clear hRS
    generalize cdL s = C at *
    clear h0
    go_wp2_with fail
    go_returns
    rw [HE.out]
    exact OutL.nil hb
theorem eqEntryS_same (A B : Option Addr) (xs : List Entry) (n c d : Nat) (hn : Hid (xs.length = n)) (hz : (n : Int) ≤ 1048576) (w : World) (hA : Arr w A (flat Entry.cells xs)) (hB : Arr w B (flat Entry.cells xs)) :
    Calls Tryd.prog 31 #[.slice A n c, .slice B n d] w (Ret (.bool true) w) := by
  have h := eqEntryS_c A B xs xs n n c d hn hn hz w hA hB
  rwa [(listBeq_iff Entry.beq_iff xs xs).2 rfl] at h

set_option maxRecDepth 100000 in
set_option maxHeartbeats 2000000 in
theorem FnExactEntriesOf_law (s : ByteArray) (hm_s : s.size ≤ 9223372036854775807) (w : World) (hT : Tabs w) : Calls Tryd.prog 9 #[.string s] w (Ret (.bool true) w) := by
  have HT := Lib.hid hT
  clear hT
  by_cases hb_s : 1048576 < (s.size : Int)
  · go_enter Tryd.func9, Tryd.ntmps9
    go_wp2_with fail
    go_returns
    exact Ret.mk rfl (Below.refl _ _)
  have hd_s : decide (1048576 < (s.size : Int)) = false := decide_eq_false hb_s
  have hz_s : s.size ≤ 1048576 := by omega
  have hv := Below.refl w.heap.size w
  obtain ⟨l, hl⟩ : ∃ l, l = entV s := ⟨_, rfl⟩
  obtain ⟨co, hco⟩ : ∃ co, co = cdL s := ⟨_, rfl⟩
  have hlen : l.length ≤ 4000 := by rw [hl]; exact entV_len s
  obtain ⟨r, hr⟩ : ∃ r, r = l.length := ⟨_, rfl⟩
  have HW := fun (w : World) => SEntriesOf_c s (by omega) w
  have HG' := fun (w : World) (ht : Tabs w) => EntriesOf_c s (by omega) w ht
  rw [← hl, ← hco, ← hr] at HW HG'
  rw [← hr] at hlen
  have hr1 := Lib.hid hr.symm
  clear hl hco hr
  have hcc : (co != co) = false := by simp
  replace HW := Lib.hid HW
  replace HG' := Lib.hid HG'
  go_enter Tryd.func9, Tryd.ntmps9
  go_wp2_with fail
  refine (HW.out _).mono ?_
  rintro e W ⟨Aw, cw, rfl, how, hb⟩
  obtain ⟨lw, uw, h_own, z0, z1⟩ := Own.named how hb
  replace how := h_own
  clear h_own
  have z2 := Lib.hid hb.size
  replace hv := bl_trans hv hb
  clear hb
  go_wp2_with fail
  refine (HG'.out _ (HT.out.below hv)).mono ?_
  rintro e W ⟨Ag, cg, rfl, hog, hb⟩
  obtain ⟨lg, ug, h_own, z3, z4⟩ := Own.named hog hb
  replace hog := h_own
  clear h_own
  have z5 := Lib.hid hb.size
  replace hv := bl_trans hv hb
  replace how := how.below hb
  clear hb
  go_wp2_with fail
  refine (eqEntryS_same Ag Aw l r cg cw hr1 (by omega) _ hog.arr how.arr).mono ?_
  rintro e W ⟨rfl, hb⟩
  have z6 := Lib.hid hb.size
  replace hv := bl_trans hv hb
  replace how := how.below hb
  replace hog := hog.below hb
  clear hb
  go_wp2_with fail
  refine (markEntryS_c Ag r cg lg _ 1 (by omega) (by omega) (by omega) _ hog.1).mono ?_
  rintro e W ⟨rfl, hown, hg⟩
  have y0 := z0.out
  have y1 := z1.out
  have y2 := z2.out
  have y3 := z3.out
  have y4 := z4.out
  have y5 := z5.out
  have y6 := z6.out
  have hr := hog.row
  have l_how := how.2.1
  have l_hog := hog.2.1
  replace hv := bl_grown hv hg (fun k e => by have h1 := hr k e; omega)
  replace how := how.grown hg (fun k e => by have h1 := hr k e; omega)
  replace hog := hog.marked hg hown
  clear hg hown hr l_how l_hog
  clear y0 y1 y2 y3 y4 y5 y6
  go_wp2_with fail
  refine (heldEntryS_c Ag r cg 1 (by omega) (by omega) (by omega) _ hog.arr).mono ?_
  rintro e W ⟨rfl, hb⟩
  have z7 := Lib.hid hb.size
  replace hv := bl_trans hv hb
  replace how := how.below hb
  replace hog := hog.below hb
  clear hb
  go_wp2_with fail
  refine (HG'.out _ (HT.out.below hv)).mono ?_
  rintro e W ⟨Ah, ch, rfl, hoh, hb⟩
  obtain ⟨lh, uh, h_own, z8, z9⟩ := Own.named hoh hb
  replace hoh := h_own
  clear h_own
  have z10 := Lib.hid hb.size
  replace hv := bl_trans hv hb
  replace how := how.below hb
  replace hog := hog.below hb
  clear hb
  go_wp2_with fail
  refine (eqEntryS_same Ah Aw l r ch cw hr1 (by omega) _ hoh.arr how.arr).mono ?_
  rintro e W ⟨rfl, hb⟩
  have z11 := Lib.hid hb.size
  replace hv := bl_trans hv hb
  replace how := how.below hb
  replace hog := hog.below hb
  replace hoh := hoh.below hb
  clear hb
  go_wp2_with fail
  refine (heldEntryS_c Ag r cg 1 (by omega) (by omega) (by omega) _ hog.arr).mono ?_
  rintro e W ⟨rfl, hb⟩
  have z12 := Lib.hid hb.size
  replace hv := bl_trans hv hb
  replace how := how.below hb
  replace hog := hog.below hb
  replace hoh := hoh.below hb
  clear hb
  go_wp2_with fail
  go_returns
  exact Ret.mk rfl hv

end Go.Proofs.YtbfelgfnebeliaaDoor
