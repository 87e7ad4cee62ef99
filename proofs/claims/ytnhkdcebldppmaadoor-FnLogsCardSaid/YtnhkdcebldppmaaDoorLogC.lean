/- CheckLog, RecoverLog: both sides; the laws walked. -/
import Derived.Test.YtnhkdcebldppmaaDoorLogW
namespace Go.Proofs.YtnhkdcebldppmaaDoor
open Go.RowKit

def chkV (s : ByteArray) : Int := if 4000 < s.size then 0 else ((rdL s).2.2 : Int)
def chkC (s : ByteArray) : Int := if 4000 < s.size then 5 else 0
def cutV (s : ByteArray) : ByteArray := if 4000 < s.size then ⟨#[]⟩ else s.extract 0 (rdL s).2.2
def cutN (s : ByteArray) : Int := if 4000 < s.size then 0 else (s.size : Int) - ((rdL s).2.2 : Int)
set_option maxRecDepth 100000 in
set_option maxHeartbeats 2000000 in
theorem CheckLog_c (s : ByteArray) (hs : s.size ≤ 1048576) (w : World) (hT : Tabs w) : Calls Tryd.prog 35 #[.string s] w (RetT #[.int .i64 (chkV s), .int .i64 (chkC s)] w) := by
  have HT := Lib.hid hT
  clear hT
  by_cases h4 : 4000 < (s.size : Int)
  · have H4 := Lib.hid (show 4000 < s.size by omega)
    go_enter Tryd.func35, Tryd.ntmps35
    go_wp2_with fail
    go_returns
    refine RetT.mk ?_ (Below.refl _ _)
    simp only [chkV, chkC, H4.out, if_true]
    rfl
  have hd4 : decide (4000 < (s.size : Int)) = false := decide_eq_false h4
  have H4 := Lib.hid (show ¬ 4000 < s.size by omega)
  have hle := (rdL_good s).le
  go_enter Tryd.func35, Tryd.ntmps35
  go_wp2_with fail
  refine (readLog_c s hs _ HT.out).mono ?_
  rintro e W ⟨A, c, rfl, hown, hb⟩
  obtain ⟨n, hn⟩ : ∃ n, n = (rdL s).2.2 := ⟨_, rfl⟩
  rw [← hn] at hle
  have HN := Lib.hid hn
  have hnI : (n : Int) ≤ (s.size : Int) := by omega
  rw [← hn]
  clear hn hown
  generalize (rdL s).1.length = m
  generalize (rdL s).2.1 = st
  have hfld : ∀ w, (Instr.field 86 (.agg #[.slice A m c, .int .i64 st, .int .i64 n]) 2).run Tryd.prog w = .ok (.int .i64 n) w := fun w => by kernel_rfl
  go_wp2_with fail
  go_returns
  refine RetT.mk ?_ hb
  simp only [chkV, chkC, H4.out, if_false, ← HN.out]
  rfl

set_option maxRecDepth 100000 in
set_option maxHeartbeats 2000000 in
theorem RecoverLog_c (s : ByteArray) (hs : s.size ≤ 1048576) (w : World) (hT : Tabs w) : Calls Tryd.prog 34 #[.string s] w (RetT #[.string (cutV s), .int .i64 (cutN s), .int .i64 (chkC s)] w) := by
  have HT := Lib.hid hT
  clear hT
  by_cases h4 : 4000 < (s.size : Int)
  · have H4 := Lib.hid (show 4000 < s.size by omega)
    go_enter Tryd.func34, Tryd.ntmps34
    go_wp2_with fail
    go_returns
    refine RetT.mk ?_ (Below.refl _ _)
    simp only [cutV, cutN, chkC, H4.out, if_true]
    rfl
  have hd4 : decide (4000 < (s.size : Int)) = false := decide_eq_false h4
  have H4 := Lib.hid (show ¬ 4000 < s.size by omega)
  have hle := (rdL_good s).le
  go_enter Tryd.func34, Tryd.ntmps34
  go_wp2_with fail
  refine (readLog_c s hs _ HT.out).mono ?_
  rintro e W ⟨A, c, rfl, hown, hb⟩
  obtain ⟨n, hn⟩ : ∃ n, n = (rdL s).2.2 := ⟨_, rfl⟩
  rw [← hn] at hle
  have HN := Lib.hid hn
  have hnI : (n : Int) ≤ (s.size : Int) := by omega
  rw [← hn]
  clear hn hown
  generalize (rdL s).1.length = m
  generalize (rdL s).2.1 = st
  have hfld : ∀ w, (Instr.field 86 (.agg #[.slice A m c, .int .i64 st, .int .i64 n]) 2).run Tryd.prog w = .ok (.int .i64 n) w := fun w => by kernel_rfl
  go_wp2_with fail
  go_returns
  refine RetT.mk ?_ hb
  simp only [cutV, cutN, chkC, H4.out, if_false, ← HN.out]
  rfl

end Go.Proofs.YtnhkdcebldppmaaDoor
