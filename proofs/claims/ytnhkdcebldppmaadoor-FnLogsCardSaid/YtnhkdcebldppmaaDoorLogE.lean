/- EntriesOf: both sides; the law walked. -/
import Derived.Test.YtnhkdcebldppmaaDoorLogW
namespace Go.Proofs.YtnhkdcebldppmaaDoor
open Go.RowKit

def entV (s : ByteArray) : List Entry := if cdL s = 0 then (rdL s).1 else []
theorem entV_ok {s : ByteArray} (h : cdL s = 0) : entV s = (rdL s).1 := by unfold entV; rw [if_pos h]
theorem entV_no {s : ByteArray} (h : ¬ cdL s = 0) : entV s = [] := by unfold entV; rw [if_neg h]
theorem rdL_few (s : ByteArray) : (rdL s).1.length ≤ s.size := Nat.le_trans (rdL_good s).few (rdL_good s).le
theorem cdL_small {s : ByteArray} (h : cdL s = 0) : s.size ≤ 4000 := by
  unfold cdL at h
  split at h
  · cases h
  · omega
theorem entV_len (s : ByteArray) : (entV s).length ≤ 4000 := by
  by_cases h : cdL s = 0
  · rw [entV_ok h]; exact Nat.le_trans (rdL_few s) (cdL_small h)
  · rw [entV_no h]; simp
set_option maxRecDepth 100000 in
set_option maxHeartbeats 2000000 in
theorem EntriesOf_c (s : ByteArray) (hs : s.size ≤ 1048576) (w : World) (hT : Tabs w) : Calls Tryd.prog 31 #[.string s] w (OutL 54 3 (entV s).length (flat Entry.cells (entV s)) (cdL s) w) := by
  have HT := Lib.hid hT
  clear hT
  go_enter Tryd.func31, Tryd.ntmps31
  go_wp2_with fail
  refine (logCode_c s hs _ HT.out).mono ?_
  rintro e W ⟨A, c, m, es, st, n, rfl, hG, hm, hown, hok, hno, hb⟩
  have HE : Hid (entV s = es ∧ es.length = m) := by
    by_cases h0 : cdL s = 0
    · exact Lib.hid ⟨by rw [entV_ok h0, hok h0], hm⟩
    · have h1 := hno h0
      have h2 : es = [] := List.eq_nil_of_length_eq_zero (by rw [hm]; exact h1.2.1)
      exact Lib.hid ⟨by rw [entV_no h0, h2], hm⟩
  generalize cdL s = C at *
  clear hok hno hm
  go_wp2_with fail
  go_returns
  exact OutL.mk (hown.alloc _) (by rw [HE.out.1]; exact HE.out.2.symm) (by rw [HE.out.1]) rfl (bl_alloc hb _)
set_option maxRecDepth 100000 in
set_option maxHeartbeats 2000000 in
theorem SEntriesOf_c (s : ByteArray) (hs : s.size ≤ 1048576) (w : World) : Calls Tryd.prog 36 #[.string s] w (OutL 54 3 (entV s).length (flat Entry.cells (entV s)) (cdL s) w) := by
  go_enter Tryd.func36, Tryd.ntmps36
  go_wp2_with fail
  refine (l27Code_c s hs _).mono ?_
  rintro e W ⟨g, rfl, hg, hRS, hb⟩
  by_cases h0 : cdL s = 0
  · obtain ⟨A, c, hB, hown, _⟩ := hRS h0
    have HE := Lib.hid (entV_ok h0)
    rw [h0]
    generalize (rdL s).1 = es at *
    generalize (rdL s).2.1 = st at *
    generalize (rdL s).2.2 = n at *
    obtain ⟨m, hm⟩ : ∃ m, m = es.length := ⟨_, rfl⟩
    rw [← hm] at hB hown
    have HM := Lib.hid hm
    have k3 : W.cell? ⟨g, 3, none⟩ = some (.slice A m c) := hB.cell 3
    clear hm hRS
    have H0 := Lib.hid h0
    clear h0
    go_wp2_with fail
    go_returns
    exact OutL.mk hown (by rw [HE.out]; exact HM.out) (by rw [HE.out]) H0.out.symm hb
  · have HE := Lib.hid (entV_no h0)
    have hne : (cdL s != 0) = true := by rw [bne_iff_ne]; exact h0
    clear hRS
    generalize cdL s = C at *
    clear h0
    go_wp2_with fail
    go_returns
    rw [HE.out]
    exact OutL.nil hb

end Go.Proofs.YtnhkdcebldppmaaDoor
