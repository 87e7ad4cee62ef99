/- CheckLog, RecoverLog: both sides; the laws walked. -/
import Derived.Test.YtbfelgfnebeliaaDoorLogW
namespace Go.Proofs.YtbfelgfnebeliaaDoor
open Go.RowKit

def chkV (s : ByteArray) : Int := if 4000 < s.size then 0 else ((rdL s).2.2 : Int)
def chkC (s : ByteArray) : Int := if 4000 < s.size then 5 else 0
def cutV (s : ByteArray) : ByteArray := if 4000 < s.size then ⟨#[]⟩ else s.extract 0 (rdL s).2.2
def cutN (s : ByteArray) : Int := if 4000 < s.size then 0 else (s.size : Int) - ((rdL s).2.2 : Int)
set_option maxRecDepth 100000 in
set_option maxHeartbeats 2000000 in
theorem SCheckLog_c (s : ByteArray) (hs : s.size ≤ 1048576) (w : World) : Calls Tryd.prog 14 #[.string s] w (RetT #[.int .i64 (chkV s), .int .i64 (chkC s)] w) := by
  by_cases h4 : 4000 < (s.size : Int)
  · have H4 := Lib.hid (show 4000 < s.size by omega)
    go_enter Tryd.func14, Tryd.ntmps14
    go_wp2_with fail
    go_returns
    refine RetT.mk ?_ (Below.refl _ _)
    simp only [chkV, chkC, H4.out, if_true]
    rfl
  have hd4 : decide (4000 < (s.size : Int)) = false := decide_eq_false h4
  have H4 := Lib.hid (show ¬ 4000 < s.size by omega)
  have hle := (rdL_good s).le
  go_enter Tryd.func14, Tryd.ntmps14
  go_wp2_with fail
  refine (l27Read_c s hs _).mono ?_
  rintro e W ⟨g, rfl, hg, hRS, hb⟩
  obtain ⟨n, hn⟩ : ∃ n, n = (rdL s).2.2 := ⟨_, rfl⟩
  rw [← hn] at hle
  have HN := Lib.hid hn
  have hnI : (n : Int) ≤ (s.size : Int) := by omega
  obtain ⟨A, c, hB, _, _⟩ := hRS
  rw [← hn] at hB
  have k1 : W.cell? ⟨g, 1, none⟩ = some (.int .i64 n) := hB.cell 1
  clear hn
  go_wp2_with fail
  go_returns
  refine RetT.mk ?_ hb
  simp only [chkV, chkC, H4.out, if_false, ← HN.out]
  rfl

set_option maxRecDepth 100000 in
set_option maxHeartbeats 2000000 in
theorem CheckLog_c (s : ByteArray) (hs : s.size ≤ 1048576) (w : World) (hT : Tabs w) : Calls Tryd.prog 15 #[.string s] w (RetT #[.int .i64 (chkV s), .int .i64 (chkC s)] w) := by
  have HT := Lib.hid hT
  clear hT
  by_cases h4 : 4000 < (s.size : Int)
  · have H4 := Lib.hid (show 4000 < s.size by omega)
    go_enter Tryd.func15, Tryd.ntmps15
    go_wp2_with fail
    go_returns
    refine RetT.mk ?_ (Below.refl _ _)
    simp only [chkV, chkC, H4.out, if_true]
    rfl
  have hd4 : decide (4000 < (s.size : Int)) = false := decide_eq_false h4
  have H4 := Lib.hid (show ¬ 4000 < s.size by omega)
  have hle := (rdL_good s).le
  go_enter Tryd.func15, Tryd.ntmps15
  go_wp2_with fail
  refine (readLog_c s hs _ HT.out).mono ?_
  rintro e W ⟨A, c, rfl, hown, hb⟩
  obtain ⟨n, hn⟩ : ∃ n, n = (rdL s).2.2 := ⟨_, rfl⟩
  rw [← hn] at hle
  have HN := Lib.hid hn
  have hnI : (n : Int) ≤ (s.size : Int) := by omega
  rw [← hn]
  clear hn hown
  generalize (rdL s).1.length = m
  generalize (rdL s).2.1 = st
  have hfld : ∀ w, (Instr.field 74 (.agg #[.slice A m c, .int .i64 st, .int .i64 n]) 2).run Tryd.prog w = .ok (.int .i64 n) w := fun w => by kernel_rfl
  go_wp2_with fail
  go_returns
  refine RetT.mk ?_ hb
  simp only [chkV, chkC, H4.out, if_false, ← HN.out]
  rfl

set_option maxRecDepth 100000 in
set_option maxHeartbeats 2000000 in
theorem SRecoverLog_c (s : ByteArray) (hs : s.size ≤ 1048576) (w : World) : Calls Tryd.prog 16 #[.string s] w (RetT #[.string (cutV s), .int .i64 (cutN s), .int .i64 (chkC s)] w) := by
  by_cases h4 : 4000 < (s.size : Int)
  · have H4 := Lib.hid (show 4000 < s.size by omega)
    go_enter Tryd.func16, Tryd.ntmps16
    go_wp2_with fail
    go_returns
    refine RetT.mk ?_ (Below.refl _ _)
    simp only [cutV, cutN, chkC, H4.out, if_true]
    rfl
  have hd4 : decide (4000 < (s.size : Int)) = false := decide_eq_false h4
  have H4 := Lib.hid (show ¬ 4000 < s.size by omega)
  have hle := (rdL_good s).le
  go_enter Tryd.func16, Tryd.ntmps16
  go_wp2_with fail
  refine (l27Read_c s hs _).mono ?_
  rintro e W ⟨g, rfl, hg, hRS, hb⟩
  obtain ⟨n, hn⟩ : ∃ n, n = (rdL s).2.2 := ⟨_, rfl⟩
  rw [← hn] at hle
  have HN := Lib.hid hn
  have hnI : (n : Int) ≤ (s.size : Int) := by omega
  obtain ⟨A, c, hB, _, _⟩ := hRS
  rw [← hn] at hB
  have k1 : W.cell? ⟨g, 1, none⟩ = some (.int .i64 n) := hB.cell 1
  clear hn
  go_wp2_with fail
  go_returns
  refine RetT.mk ?_ hb
  simp only [cutV, cutN, chkC, H4.out, if_false, ← HN.out]
  rfl

set_option maxRecDepth 100000 in
set_option maxHeartbeats 2000000 in
theorem RecoverLog_c (s : ByteArray) (hs : s.size ≤ 1048576) (w : World) (hT : Tabs w) : Calls Tryd.prog 17 #[.string s] w (RetT #[.string (cutV s), .int .i64 (cutN s), .int .i64 (chkC s)] w) := by
  have HT := Lib.hid hT
  clear hT
  by_cases h4 : 4000 < (s.size : Int)
  · have H4 := Lib.hid (show 4000 < s.size by omega)
    go_enter Tryd.func17, Tryd.ntmps17
    go_wp2_with fail
    go_returns
    refine RetT.mk ?_ (Below.refl _ _)
    simp only [cutV, cutN, chkC, H4.out, if_true]
    rfl
  have hd4 : decide (4000 < (s.size : Int)) = false := decide_eq_false h4
  have H4 := Lib.hid (show ¬ 4000 < s.size by omega)
  have hle := (rdL_good s).le
  go_enter Tryd.func17, Tryd.ntmps17
  go_wp2_with fail
  refine (readLog_c s hs _ HT.out).mono ?_
  rintro e W ⟨A, c, rfl, hown, hb⟩
  obtain ⟨n, hn⟩ : ∃ n, n = (rdL s).2.2 := ⟨_, rfl⟩
  rw [← hn] at hle
  have HN := Lib.hid hn
  have hnI : (n : Int) ≤ (s.size : Int) := by omega
  rw [← hn]
  clear hn hown
  generalize (rdL s).1.length = m
  generalize (rdL s).2.1 = st
  have hfld : ∀ w, (Instr.field 74 (.agg #[.slice A m c, .int .i64 st, .int .i64 n]) 2).run Tryd.prog w = .ok (.int .i64 n) w := fun w => by kernel_rfl
  go_wp2_with fail
  go_returns
  refine RetT.mk ?_ hb
  simp only [cutV, cutN, chkC, H4.out, if_false, ← HN.out]
  rfl

set_option maxRecDepth 100000 in
set_option maxHeartbeats 1600000 in
theorem FnExactCheckLog_law (s : ByteArray) (hmax : s.size ≤ 9223372036854775807) (w : World) (hT : Tabs w) : Calls Tryd.prog 4 #[.string s] w (Ret (.bool true) w) := by
  have HT := Lib.hid hT
  clear hT
  by_cases hbig : 1048576 < (s.size : Int)
  · go_enter Tryd.func4, Tryd.ntmps4
    go_wp2_with fail
    go_returns
    exact Ret.mk rfl (Below.refl _ _)
  have hd : decide (1048576 < (s.size : Int)) = false := decide_eq_false hbig
  have HS0 := fun (w : World) => SCheckLog_c s (by omega) w
  have HI0 := fun (w : World) (hT : Tabs w) => CheckLog_c s (by omega) w hT
  obtain ⟨V, hV⟩ : ∃ x, x = chkV s := ⟨_, rfl⟩
  rw [← hV] at HS0 HI0
  clear hV
  obtain ⟨C, hC⟩ : ∃ x, x = chkC s := ⟨_, rfl⟩
  rw [← hC] at HS0 HI0
  clear hC
  have q0 : (V != V) = false := by simp
  have q1 : (C != C) = false := by simp
  replace HS0 := Lib.hid HS0
  replace HI0 := Lib.hid HI0
  go_enter Tryd.func4, Tryd.ntmps4
  go_wp2_with fail
  refine (HS0.out _).mono ?_
  rintro e W ⟨rfl, hb⟩
  go_wp2_with fail
  refine (HI0.out _ (HT.out.below hb)).mono ?_
  rintro e W2 ⟨rfl, hb2⟩
  replace hb := bl_trans hb hb2
  go_wp2_with fail
  go_returns
  exact Ret.mk rfl hb

set_option maxRecDepth 100000 in
set_option maxHeartbeats 1600000 in
theorem FnExactRecoverLog_law (s : ByteArray) (hmax : s.size ≤ 9223372036854775807) (w : World) (hT : Tabs w) : Calls Tryd.prog 5 #[.string s] w (Ret (.bool true) w) := by
  have HT := Lib.hid hT
  clear hT
  by_cases hbig : 1048576 < (s.size : Int)
  · go_enter Tryd.func5, Tryd.ntmps5
    go_wp2_with fail
    go_returns
    exact Ret.mk rfl (Below.refl _ _)
  have hd : decide (1048576 < (s.size : Int)) = false := decide_eq_false hbig
  have HS0 := fun (w : World) => SRecoverLog_c s (by omega) w
  have HI0 := fun (w : World) (hT : Tabs w) => RecoverLog_c s (by omega) w hT
  obtain ⟨V, hV⟩ : ∃ x, x = cutV s := ⟨_, rfl⟩
  rw [← hV] at HS0 HI0
  clear hV
  obtain ⟨N, hN⟩ : ∃ x, x = cutN s := ⟨_, rfl⟩
  rw [← hN] at HS0 HI0
  clear hN
  obtain ⟨C, hC⟩ : ∃ x, x = chkC s := ⟨_, rfl⟩
  rw [← hC] at HS0 HI0
  clear hC
  have q0 : (!V.toList == V.toList) = false := by simp
  have q1 : (N != N) = false := by simp
  have q2 : (C != C) = false := by simp
  replace HS0 := Lib.hid HS0
  replace HI0 := Lib.hid HI0
  go_enter Tryd.func5, Tryd.ntmps5
  go_wp2_with fail
  refine (HS0.out _).mono ?_
  rintro e W ⟨rfl, hb⟩
  go_wp2_with fail
  refine (HI0.out _ (HT.out.below hb)).mono ?_
  rintro e W2 ⟨rfl, hb2⟩
  replace hb := bl_trans hb hb2
  go_wp2_with fail
  go_returns
  exact Ret.mk rfl hb

end Go.Proofs.YtbfelgfnebeliaaDoor
