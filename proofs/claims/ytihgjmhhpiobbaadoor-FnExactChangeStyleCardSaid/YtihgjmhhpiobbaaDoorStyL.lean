/- The law FnExactChangeStyle, walked. builds (5 s). -/
import Derived.Test.YtihgjmhhpiobbaaDoorStyZ
namespace Go.Proofs.YtihgjmhhpiobbaaDoor
open Go.RowKit

set_option maxRecDepth 100000 in
set_option maxHeartbeats 8000000 in
theorem FnExactChangeStyle_law (x : Style) (hz : x.upper.size ≤ 9223372036854775807 ∧ x.color.size ≤ 9223372036854775807 ∧ x.lining.size ≤ 9223372036854775807 ∧ x.sole.size ≤ 9223372036854775807)
    (hi : (-9223372036854775808 ≤ x.thick ∧ x.thick ≤ 9223372036854775807) ∧ (-9223372036854775808 ≤ x.heel ∧ x.heel ≤ 9223372036854775807) ∧ (-9223372036854775808 ≤ x.eyelets ∧ x.eyelets ≤ 9223372036854775807) ∧ (-9223372036854775808 ≤ x.density ∧ x.density ≤ 9223372036854775807))
    (s : ByteArray) (hm : s.size ≤ 9223372036854775807) (w : World) (hT : Tabs w) : Calls Tryd.prog 3 #[.agg #[.string x.upper, .string x.color, .string x.lining, .string x.sole, .int .i64 x.thick, .int .i64 x.heel, .int .i64 x.eyelets, .int .i64 x.density, .bool x.double], .string s] w (Ret (.bool true) w) := by
  have HT := Lib.hid hT
  clear hT
  obtain ⟨W, hW⟩ : ∃ W, W = w.alloc (Obj.cells #[Value.string x.upper, Value.string x.color, Value.string x.lining, Value.string x.sole, Value.int IntKind.i64 x.thick, Value.int IntKind.i64 x.heel, Value.int IntKind.i64 x.eyelets, Value.int IntKind.i64 x.density, Value.bool x.double] 23) := ⟨_, rfl⟩
  obtain ⟨gx, hgx⟩ : ∃ g, g = w.heap.size := ⟨_, rfl⟩
  have hv : Below w.heap.size w W := by rw [hW]; exact bl_alloc (Below.refl _ _) _
  have hX : Hid (Blk W gx 23 #[Value.string x.upper, Value.string x.color, Value.string x.lining, Value.string x.sole, Value.int IntKind.i64 x.thick, Value.int IntKind.i64 x.heel, Value.int IntKind.i64 x.eyelets, Value.int IntKind.i64 x.density, Value.bool x.double]) := Lib.hid (by rw [hW, hgx]; exact Blk.new _ _ _)
  have HW := Lib.hid hW
  have HGX := Lib.hid hgx
  clear hW hgx
  go_enter Tryd.func3, Tryd.ntmps3
  go_upto_region 1 with fail
  rw [← HW.out, ← HGX.out]
  clear HW HGX
  by_cases hb : 1048576 < (s.size : Int)
  · go_wp2_with fail
    go_returns
    exact Ret.mk rfl hv
  have hs : s.size ≤ 1048576 := by omega
  have HSZ := Lib.hid (fun w => szStyle_c x 1048576 hz.1 hz.2.1 hz.2.2.1 hz.2.2.2 (by omega) (by omega) w)
  obtain ⟨lf, hlf⟩ : ∃ z, z = szGo x.sizes 1048576 := ⟨_, rfl⟩
  have hfit : 0 ≤ lf → x.fits := by
    intro h0
    rw [hlf] at h0
    have h := szGo_sum _ _ h0
    rw [h] at h0
    simp only [Style.sizes, List.sum_cons, List.sum_nil] at h0
    exact ⟨by omega, hi⟩
  rw [← hlf] at HSZ
  have HF := Lib.hid hfit
  clear hlf hz hi hfit
  go_wp2_with (refine wpList_load_row rfl 23 _ rfl gx rfl 23 #[Value.string x.upper, Value.string x.color, Value.string x.lining, Value.string x.sole, Value.int IntKind.i64 x.thick, Value.int IntKind.i64 x.heel, Value.int IntKind.i64 x.eyelets, Value.int IntKind.i64 x.density, Value.bool x.double] (0, 0) _ hX.out Tryd.underlying23 rfl (by kernel_rfl) ?_)
  refine (HSZ.out _).mono ?_
  rintro e W1 ⟨rfl, hb1⟩
  replace hv := bl_trans hv hb1
  replace hX := Lib.hid (hX.out.below hb1)
  clear hb1 HSZ
  by_cases hneg : lf < 0
  · go_wp2_with fail
    go_returns
    exact Ret.mk rfl hv
  have hx := Lib.hid (HF.out (by omega))
  have hx2 : Hid (x.upper.size ≤ 4194304 ∧ x.color.size ≤ 4194304 ∧ x.lining.size ≤ 4194304 ∧ x.sole.size ≤ 4194304) := Lib.hid (by have h := hx.out.1; omega)
  have HS := fun w => SChangeStyle_c x hx s hs w
  have HI := fun w h => ChangeStyle_c x hx2 s hs w h
  obtain ⟨Y, hY⟩ : ∃ z, z = chgS x s := ⟨_, rfl⟩
  obtain ⟨cy, hcy⟩ : ∃ z, z = chgC x s := ⟨_, rfl⟩
  rw [← hY, ← hcy] at HS HI
  replace HS := Lib.hid HS
  replace HI := Lib.hid HI
  clear hY hcy HF
  go_wp2_with (refine wpList_load_row rfl 23 _ rfl gx rfl 23 #[Value.string x.upper, Value.string x.color, Value.string x.lining, Value.string x.sole, Value.int IntKind.i64 x.thick, Value.int IntKind.i64 x.heel, Value.int IntKind.i64 x.eyelets, Value.int IntKind.i64 x.density, Value.bool x.double] (0, 0) _ hX.out Tryd.underlying23 rfl (by kernel_rfl) ?_)
  refine (toStyle_c x _).mono ?_
  rintro e W2 ⟨rfl, hb1⟩
  replace hv := bl_trans hv hb1
  replace hX := Lib.hid (hX.out.below hb1)
  clear hb1
  go_wp2_with fail
  refine (HS.out _).mono ?_
  rintro e W3 ⟨rfl, hb1⟩
  replace hv := bl_trans hv hb1
  replace hX := Lib.hid (hX.out.below hb1)
  clear hb1 HS
  obtain ⟨W4, hW4⟩ : ∃ z, z = W3.alloc (Obj.cells #[Value.string Y.upper, Value.string Y.color, Value.string Y.lining, Value.string Y.sole, Value.int IntKind.i64 Y.thick, Value.int IntKind.i64 Y.heel, Value.int IntKind.i64 Y.eyelets, Value.int IntKind.i64 Y.density, Value.bool Y.double] 25) := ⟨_, rfl⟩
  obtain ⟨g6, hg6⟩ : ∃ z, z = W3.heap.size := ⟨_, rfl⟩
  have h6 : Hid (Blk W4 g6 25 #[Value.string Y.upper, Value.string Y.color, Value.string Y.lining, Value.string Y.sole, Value.int IntKind.i64 Y.thick, Value.int IntKind.i64 Y.heel, Value.int IntKind.i64 Y.eyelets, Value.int IntKind.i64 Y.density, Value.bool Y.double]) := Lib.hid (by rw [hW4, hg6]; exact Blk.new _ _ _)
  have hb1 : Below W3.heap.size W3 W4 := by rw [hW4]; exact bl_alloc (Below.refl _ _) _
  go_upto_region 8 with fail
  rw [← hW4, ← hg6]
  replace hv := bl_trans hv hb1
  replace hX := Lib.hid (hX.out.below hb1)
  clear hb1 hW4 hg6
  go_wp2_with (refine wpList_load_row rfl 23 _ rfl gx rfl 23 #[Value.string x.upper, Value.string x.color, Value.string x.lining, Value.string x.sole, Value.int IntKind.i64 x.thick, Value.int IntKind.i64 x.heel, Value.int IntKind.i64 x.eyelets, Value.int IntKind.i64 x.density, Value.bool x.double] (0, 0) _ hX.out Tryd.underlying23 rfl (by kernel_rfl) ?_)
  refine (toStyle_c x _).mono ?_
  rintro e W5 ⟨rfl, hb1⟩
  replace hv := bl_trans hv hb1
  replace h6 := Lib.hid (h6.out.below hb1)
  clear hb1 hX
  go_wp2_with fail
  refine (HI.out _ (HT.out.below hv)).mono ?_
  rintro e W6 ⟨rfl, hb1⟩
  replace hv := bl_trans hv hb1
  replace h6 := Lib.hid (h6.out.below hb1)
  clear hb1 HI
  obtain ⟨W7, hW7⟩ : ∃ z, z = W6.alloc (Obj.cells #[Value.string Y.upper, Value.string Y.color, Value.string Y.lining, Value.string Y.sole, Value.int IntKind.i64 Y.thick, Value.int IntKind.i64 Y.heel, Value.int IntKind.i64 Y.eyelets, Value.int IntKind.i64 Y.density, Value.bool Y.double] 25) := ⟨_, rfl⟩
  obtain ⟨g8, hg8⟩ : ∃ z, z = W6.heap.size := ⟨_, rfl⟩
  have h8 : Hid (Blk W7 g8 25 #[Value.string Y.upper, Value.string Y.color, Value.string Y.lining, Value.string Y.sole, Value.int IntKind.i64 Y.thick, Value.int IntKind.i64 Y.heel, Value.int IntKind.i64 Y.eyelets, Value.int IntKind.i64 Y.density, Value.bool Y.double]) := Lib.hid (by rw [hW7, hg8]; exact Blk.new _ _ _)
  have hb1 : Below W6.heap.size W6 W7 := by rw [hW7]; exact bl_alloc (Below.refl _ _) _
  go_upto_region 9 with fail
  rw [← hW7, ← hg8]
  replace hv := bl_trans hv hb1
  replace h6 := Lib.hid (h6.out.below hb1)
  clear hb1 hW7 hg8
  have hcc : (cy != cy) = false := by simp
  go_wp2_with (first | (refine wpList_load_row rfl 25 _ rfl g8 rfl 25 #[Value.string Y.upper, Value.string Y.color, Value.string Y.lining, Value.string Y.sole, Value.int IntKind.i64 Y.thick, Value.int IntKind.i64 Y.heel, Value.int IntKind.i64 Y.eyelets, Value.int IntKind.i64 Y.density, Value.bool Y.double] (0, 0) _ h8.out Tryd.underlying25 rfl (by kernel_rfl) ?_) | (refine wpList_load_row rfl 25 _ rfl g6 rfl 25 #[Value.string Y.upper, Value.string Y.color, Value.string Y.lining, Value.string Y.sole, Value.int IntKind.i64 Y.thick, Value.int IntKind.i64 Y.heel, Value.int IntKind.i64 Y.eyelets, Value.int IntKind.i64 Y.density, Value.bool Y.double] (0, 0) _ h6.out Tryd.underlying25 rfl (by kernel_rfl) ?_))
  refine (eqStyle_c Y Y _).mono ?_
  rintro e W8 ⟨rfl, hb1⟩
  rw [Style.beq_self]
  go_wp2_with fail
  go_returns
  exact Ret.mk rfl (bl_trans hv hb1)
end Go.Proofs.YtihgjmhhpiobbaaDoor
