/- The law on NewDesk, walked. -/
import Derived.Test.YtilfcjibpohpiaaDeskA
namespace Go.Proofs.Ytilfcjibpohpiaa
open Go.RowKit

set_option maxRecDepth 100000 in
set_option maxHeartbeats 4000000 in
theorem newDesk_gen (i0 i1 i2 i3 i4 i5 i6 i7 : Int) (s0 s1 s2 s3 s4 : ByteArray) (tb : Bool) (HW : ∀ w, Calls Try.prog 15 #[] w (Ret (.agg #[Value.int IntKind.i64 i0, Value.int IntKind.i64 i1, Value.int IntKind.i64 i2, Value.int IntKind.i64 i3, Value.slice none 0 0, Value.string s0, Value.string s1, Value.string s2, Value.string s3, Value.int IntKind.i64 i4, Value.int IntKind.i64 i5, Value.int IntKind.i64 i6, Value.int IntKind.i64 i7, Value.bool tb, Value.string s4]) w)) (HG : ∀ w, Calls Try.prog 16 #[] w (Ret (.agg #[Value.int IntKind.i64 i0, Value.int IntKind.i64 i1, Value.int IntKind.i64 i2, Value.int IntKind.i64 i3, Value.slice none 0 0, Value.string s0, Value.string s1, Value.string s2, Value.string s3, Value.int IntKind.i64 i4, Value.int IntKind.i64 i5, Value.int IntKind.i64 i6, Value.int IntKind.i64 i7, Value.bool tb, Value.string s4]) w)) (HE : ∀ w, Calls Try.prog 17 #[(.agg #[Value.int IntKind.i64 i0, Value.int IntKind.i64 i1, Value.int IntKind.i64 i2, Value.int IntKind.i64 i3, Value.slice none 0 0, Value.string s0, Value.string s1, Value.string s2, Value.string s3, Value.int IntKind.i64 i4, Value.int IntKind.i64 i5, Value.int IntKind.i64 i6, Value.int IntKind.i64 i7, Value.bool tb, Value.string s4]), (.agg #[Value.int IntKind.i64 i0, Value.int IntKind.i64 i1, Value.int IntKind.i64 i2, Value.int IntKind.i64 i3, Value.slice none 0 0, Value.string s0, Value.string s1, Value.string s2, Value.string s3, Value.int IntKind.i64 i4, Value.int IntKind.i64 i5, Value.int IntKind.i64 i6, Value.int IntKind.i64 i7, Value.bool tb, Value.string s4])] w (Ret (.bool true) w))
    (HM : ∀ w, Calls Try.prog 18 #[(.agg #[Value.int IntKind.i64 i0, Value.int IntKind.i64 i1, Value.int IntKind.i64 i2, Value.int IntKind.i64 i3, Value.slice none 0 0, Value.string s0, Value.string s1, Value.string s2, Value.string s3, Value.int IntKind.i64 i4, Value.int IntKind.i64 i5, Value.int IntKind.i64 i6, Value.int IntKind.i64 i7, Value.bool tb, Value.string s4]), .int .i64 1] w (Ret (.int .i64 1) w)) (HH : ∀ w, Calls Try.prog 19 #[(.agg #[Value.int IntKind.i64 i0, Value.int IntKind.i64 i1, Value.int IntKind.i64 i2, Value.int IntKind.i64 i3, Value.slice none 0 0, Value.string s0, Value.string s1, Value.string s2, Value.string s3, Value.int IntKind.i64 i4, Value.int IntKind.i64 i5, Value.int IntKind.i64 i6, Value.int IntKind.i64 i7, Value.bool tb, Value.string s4]), .int .i64 1] w (Ret (.int .i64 1) w)) (w : World) : Calls Try.prog 3 #[] w (Ret (.bool true) w) := by
  have hv := Below.refl w.heap.size w
  replace HW := Lib.hid HW
  replace HG := Lib.hid HG
  replace HE := Lib.hid HE
  replace HM := Lib.hid HM
  replace HH := Lib.hid HH
  go_enter Try.func3, Try.ntmps3
  go_wp2_with fail
  refine (HW.out _).mono ?_
  rintro e W ⟨rfl, hb⟩
  have z0 := Lib.hid hb.size
  replace hv := bl_trans hv hb
  clear hb
  obtain ⟨W0, hW0⟩ : ∃ W0, W0 = W.alloc (Obj.cells #[Value.int IntKind.i64 i0, Value.int IntKind.i64 i1, Value.int IntKind.i64 i2, Value.int IntKind.i64 i3, Value.slice none 0 0, Value.string s0, Value.string s1, Value.string s2, Value.string s3, Value.int IntKind.i64 i4, Value.int IntKind.i64 i5, Value.int IntKind.i64 i6, Value.int IntKind.i64 i7, Value.bool tb, Value.string s4] 28) := ⟨_, rfl⟩
  obtain ⟨gw, hgx⟩ : ∃ gx, gx = W.heap.size := ⟨_, rfl⟩
  have hb : Below W.heap.size W W0 := by rw [hW0]; exact bl_alloc (Below.refl _ _) _
  have hBw : Blk W0 gw 28 #[Value.int IntKind.i64 i0, Value.int IntKind.i64 i1, Value.int IntKind.i64 i2, Value.int IntKind.i64 i3, Value.slice none 0 0, Value.string s0, Value.string s1, Value.string s2, Value.string s3, Value.int IntKind.i64 i4, Value.int IntKind.i64 i5, Value.int IntKind.i64 i6, Value.int IntKind.i64 i7, Value.bool tb, Value.string s4] := by rw [hW0, hgx]; exact Blk.new _ _ _
  have z1 := Lib.hid (Nat.le_of_eq hgx.symm)
  have z2 := Lib.hid hBw.lt
  go_wp2_with fail
  rw [← hW0, ← hgx]
  clear hW0 hgx
  have z3 := Lib.hid hb.size
  replace hv := bl_trans hv hb
  clear hb
  refine (HG.out _).mono ?_
  rintro e W ⟨rfl, hb⟩
  have z4 := Lib.hid hb.size
  replace hv := bl_trans hv hb
  replace hBw := hBw.below hb
  clear hb
  obtain ⟨W0, hW0⟩ : ∃ W0, W0 = W.alloc (Obj.cells #[Value.int IntKind.i64 i0, Value.int IntKind.i64 i1, Value.int IntKind.i64 i2, Value.int IntKind.i64 i3, Value.slice none 0 0, Value.string s0, Value.string s1, Value.string s2, Value.string s3, Value.int IntKind.i64 i4, Value.int IntKind.i64 i5, Value.int IntKind.i64 i6, Value.int IntKind.i64 i7, Value.bool tb, Value.string s4] 28) := ⟨_, rfl⟩
  obtain ⟨gg, hgx⟩ : ∃ gx, gx = W.heap.size := ⟨_, rfl⟩
  have hb : Below W.heap.size W W0 := by rw [hW0]; exact bl_alloc (Below.refl _ _) _
  have hBg : Blk W0 gg 28 #[Value.int IntKind.i64 i0, Value.int IntKind.i64 i1, Value.int IntKind.i64 i2, Value.int IntKind.i64 i3, Value.slice none 0 0, Value.string s0, Value.string s1, Value.string s2, Value.string s3, Value.int IntKind.i64 i4, Value.int IntKind.i64 i5, Value.int IntKind.i64 i6, Value.int IntKind.i64 i7, Value.bool tb, Value.string s4] := by rw [hW0, hgx]; exact Blk.new _ _ _
  have z5 := Lib.hid (Nat.le_of_eq hgx.symm)
  have z6 := Lib.hid hBg.lt
  go_wp2_with (refine wpList_load_row rfl _ _ rfl _ rfl _ _ (0, 0) _ (hBw.alloc _) Try.underlying28 rfl (by kernel_rfl) ?_)
  rw [← hW0, ← hgx]
  clear hW0 hgx
  have z7 := Lib.hid hb.size
  replace hv := bl_trans hv hb
  replace hBw := hBw.below hb
  clear hb
  refine (HE.out _).mono ?_
  rintro e W ⟨rfl, hb⟩
  have z8 := Lib.hid hb.size
  replace hv := bl_trans hv hb
  replace hBw := hBw.below hb
  replace hBg := hBg.below hb
  clear hb
  go_wp2_with (refine wpList_load_row rfl _ _ rfl _ rfl _ _ (0, 0) _ hBg Try.underlying28 rfl (by kernel_rfl) ?_)
  refine (HM.out _).mono ?_
  rintro e W ⟨rfl, hb⟩
  have z9 := Lib.hid hb.size
  replace hv := bl_trans hv hb
  replace hBw := hBw.below hb
  replace hBg := hBg.below hb
  clear hb
  go_wp2_with (refine wpList_load_row rfl _ _ rfl _ rfl _ _ (0, 0) _ hBg Try.underlying28 rfl (by kernel_rfl) ?_)
  refine (HH.out _).mono ?_
  rintro e W ⟨rfl, hb⟩
  have z10 := Lib.hid hb.size
  replace hv := bl_trans hv hb
  replace hBw := hBw.below hb
  replace hBg := hBg.below hb
  clear hb
  go_wp2_with fail
  refine (HG.out _).mono ?_
  rintro e W ⟨rfl, hb⟩
  have z11 := Lib.hid hb.size
  replace hv := bl_trans hv hb
  replace hBw := hBw.below hb
  replace hBg := hBg.below hb
  clear hb
  obtain ⟨W0, hW0⟩ : ∃ W0, W0 = W.alloc (Obj.cells #[Value.int IntKind.i64 i0, Value.int IntKind.i64 i1, Value.int IntKind.i64 i2, Value.int IntKind.i64 i3, Value.slice none 0 0, Value.string s0, Value.string s1, Value.string s2, Value.string s3, Value.int IntKind.i64 i4, Value.int IntKind.i64 i5, Value.int IntKind.i64 i6, Value.int IntKind.i64 i7, Value.bool tb, Value.string s4] 28) := ⟨_, rfl⟩
  obtain ⟨gh, hgx⟩ : ∃ gx, gx = W.heap.size := ⟨_, rfl⟩
  have hb : Below W.heap.size W W0 := by rw [hW0]; exact bl_alloc (Below.refl _ _) _
  have hBh : Blk W0 gh 28 #[Value.int IntKind.i64 i0, Value.int IntKind.i64 i1, Value.int IntKind.i64 i2, Value.int IntKind.i64 i3, Value.slice none 0 0, Value.string s0, Value.string s1, Value.string s2, Value.string s3, Value.int IntKind.i64 i4, Value.int IntKind.i64 i5, Value.int IntKind.i64 i6, Value.int IntKind.i64 i7, Value.bool tb, Value.string s4] := by rw [hW0, hgx]; exact Blk.new _ _ _
  have z12 := Lib.hid (Nat.le_of_eq hgx.symm)
  have z13 := Lib.hid hBh.lt
  go_wp2_with (refine wpList_load_row rfl _ _ rfl _ rfl _ _ (0, 0) _ (hBw.alloc _) Try.underlying28 rfl (by kernel_rfl) ?_)
  rw [← hW0, ← hgx]
  clear hW0 hgx
  have z14 := Lib.hid hb.size
  replace hv := bl_trans hv hb
  replace hBw := hBw.below hb
  replace hBg := hBg.below hb
  clear hb
  refine (HE.out _).mono ?_
  rintro e W ⟨rfl, hb⟩
  have z15 := Lib.hid hb.size
  replace hv := bl_trans hv hb
  replace hBw := hBw.below hb
  replace hBg := hBg.below hb
  replace hBh := hBh.below hb
  clear hb
  go_wp2_with (refine wpList_load_row rfl _ _ rfl _ rfl _ _ (0, 0) _ hBg Try.underlying28 rfl (by kernel_rfl) ?_)
  refine (HH.out _).mono ?_
  rintro e W ⟨rfl, hb⟩
  have z16 := Lib.hid hb.size
  replace hv := bl_trans hv hb
  replace hBw := hBw.below hb
  replace hBg := hBg.below hb
  replace hBh := hBh.below hb
  clear hb
  go_wp2_with fail
  go_returns
  exact Ret.mk rfl hv

theorem FnExactNewDesk_law (w : World) : Calls Try.prog 3 #[] w (Ret (.bool true) w) :=
  newDesk_gen _ _ _ _ _ _ _ _ _ _ _ _ _ _ SNewDesk_c NewDesk_c eqDesk0_c (markDesk0_c 1 (by omega) (by omega)) (heldDesk0_c 1 (by omega) (by omega)) w
end Go.Proofs.Ytilfcjibpohpiaa
