/- A valid entry: the program's and the reference's; the law walked. -/
import Derived.Test.YtiplnpbeoaefaaaBase
import Derived.Test.YtiplnpbeoaefaaaOwn
namespace Go.Proofs.Ytiplnpbeoaefaaa
open Go.RowKit

def entB (x : Entry) : Bool := inB x.day 0 100000 && nameB x.what && inB x.value (-1000000) 1000000
theorem l27Day_c (n : Int) (w : World) : Calls Try.prog 88 #[.int .i64 n] w (RetQ (.bool (inB n 0 100000)) w) := by
  go_enter Try.func88, Try.ntmps88
  go_wp2_with (go_at_call 59; refine (l00In_c _ _ _ _).mono ?_; rintro e w' ⟨rfl, rfl⟩)
  go_returns
  exact RetQ.mk rfl

set_option maxRecDepth 100000 in
set_option maxHeartbeats 2000000 in
theorem ValidEntry_c (x : Entry) (hs : x.what.size ≤ 9223372036854775807) (w : World) :
    Calls Try.prog 37 #[.agg #[.int .i64 x.day, .string x.what, .int .i64 x.value]] w (Ret (.bool (entB x)) w) := by
  cases h1 : inB x.day 0 100000
  · go_enter Try.func37, Try.ntmps37
    go_wp2_with (first | (go_at_call 67; refine (IsName_c _ hs _).mono ?_; rintro e w' ⟨rfl, rfl⟩) | (go_at_call 60; refine (within_c _ _ _ _).mono ?_; rintro e w' ⟨rfl, rfl⟩))
    all_goals first | (exfalso; omega) | (go_returns; refine Ret.mk (vb ?_) (by go_grown); simp [entB, h1])
  cases h2 : nameB x.what
  · go_enter Try.func37, Try.ntmps37
    go_wp2_with (first | (go_at_call 67; refine (IsName_c _ hs _).mono ?_; rintro e w' ⟨rfl, rfl⟩) | (go_at_call 60; refine (within_c _ _ _ _).mono ?_; rintro e w' ⟨rfl, rfl⟩))
    all_goals first | (exfalso; omega) | (go_returns; refine Ret.mk (vb ?_) (by go_grown); simp [entB, h1, h2])
  cases h3 : inB x.value (-1000000) 1000000
  · go_enter Try.func37, Try.ntmps37
    go_wp2_with (first | (go_at_call 67; refine (IsName_c _ hs _).mono ?_; rintro e w' ⟨rfl, rfl⟩) | (go_at_call 60; refine (within_c _ _ _ _).mono ?_; rintro e w' ⟨rfl, rfl⟩))
    all_goals first | (exfalso; omega) | (go_returns; refine Ret.mk (vb ?_) (by go_grown); simp [entB, h1, h2, h3])
  go_enter Try.func37, Try.ntmps37
  go_wp2_with (first | (go_at_call 67; refine (IsName_c _ hs _).mono ?_; rintro e w' ⟨rfl, rfl⟩) | (go_at_call 60; refine (within_c _ _ _ _).mono ?_; rintro e w' ⟨rfl, rfl⟩))
  all_goals first | (exfalso; omega) | (go_returns; refine Ret.mk (vb ?_) (by go_grown); simp [entB, h1, h2, h3])

set_option maxRecDepth 100000 in
set_option maxHeartbeats 2000000 in
theorem l27Ok_c (g : Addr) (x : Entry) (hs : x.what.size ≤ 9223372036854775807) (w : World) (c0 : w.cell? g = some (.int .i64 x.day)) (c1 : w.cell? ⟨g.block, g.off + 1, none⟩ = some (.string x.what)) (c2 : w.cell? ⟨g.block, g.off + 2, none⟩ = some (.int .i64 x.value)) :
    Calls Try.prog 66 #[.pointer (some g)] w (RetQ (.bool (entB x)) w) := by
  cases h1 : inB x.day 0 100000
  · go_enter Try.func66, Try.ntmps66
    go_wp2_with (first | (go_at_call 89; refine (SIsName_c _ hs _).mono ?_; rintro e w' ⟨rfl, rfl⟩) | (go_at_call 59; refine (l00In_c _ _ _ _).mono ?_; rintro e w' ⟨rfl, rfl⟩) | (go_at_call 88; refine (l27Day_c _ _).mono ?_; rintro e w' ⟨rfl, rfl⟩))
    all_goals first | (exfalso; omega) | (go_returns; refine RetQ.mk (vb ?_); simp [entB, h1])
  cases h2 : nameB x.what
  · go_enter Try.func66, Try.ntmps66
    go_wp2_with (first | (go_at_call 89; refine (SIsName_c _ hs _).mono ?_; rintro e w' ⟨rfl, rfl⟩) | (go_at_call 59; refine (l00In_c _ _ _ _).mono ?_; rintro e w' ⟨rfl, rfl⟩) | (go_at_call 88; refine (l27Day_c _ _).mono ?_; rintro e w' ⟨rfl, rfl⟩))
    all_goals first | (exfalso; omega) | (go_returns; refine RetQ.mk (vb ?_); simp [entB, h1, h2])
  cases h3 : inB x.value (-1000000) 1000000
  · go_enter Try.func66, Try.ntmps66
    go_wp2_with (first | (go_at_call 89; refine (SIsName_c _ hs _).mono ?_; rintro e w' ⟨rfl, rfl⟩) | (go_at_call 59; refine (l00In_c _ _ _ _).mono ?_; rintro e w' ⟨rfl, rfl⟩) | (go_at_call 88; refine (l27Day_c _ _).mono ?_; rintro e w' ⟨rfl, rfl⟩))
    all_goals first | (exfalso; omega) | (go_returns; refine RetQ.mk (vb ?_); simp [entB, h1, h2, h3])
  go_enter Try.func66, Try.ntmps66
  go_wp2_with (first | (go_at_call 89; refine (SIsName_c _ hs _).mono ?_; rintro e w' ⟨rfl, rfl⟩) | (go_at_call 59; refine (l00In_c _ _ _ _).mono ?_; rintro e w' ⟨rfl, rfl⟩) | (go_at_call 88; refine (l27Day_c _ _).mono ?_; rintro e w' ⟨rfl, rfl⟩))
  all_goals first | (exfalso; omega) | (go_returns; refine RetQ.mk (vb ?_); simp [entB, h1, h2, h3])

theorem SValidEntry_c (x : Entry) (hs : x.what.size ≤ 9223372036854775807) (w : World) :
    Calls Try.prog 35 #[.agg #[.int .i64 x.day, .string x.what, .int .i64 x.value]] w (Ret (.bool (entB x)) w) := by
  have hY : Blk (w.alloc (Obj.cells #[Value.int IntKind.i64 x.day, Value.string x.what, Value.int IntKind.i64 x.value] 54)) w.heap.size 54 #[Value.int IntKind.i64 x.day, Value.string x.what, Value.int IntKind.i64 x.value] := Blk.new _ _ _
  have HY := Lib.hid hY
  clear hY
  go_enter Try.func35, Try.ntmps35
  go_wp2_with fail
  refine (l27Ok_c ⟨w.heap.size, 0, none⟩ x hs _ (HY.out.cell 0) (HY.out.cell 1) (HY.out.cell 2)).mono ?_
  rintro e w' ⟨rfl, rfl⟩
  go_wp2_with fail
  go_returns
  exact Ret.mk rfl (bl_alloc (Below.refl _ _) _)

set_option maxRecDepth 100000 in
set_option maxHeartbeats 2000000 in
theorem FnExactValidEntry_law (x : Entry) (hs : x.what.size ≤ 9223372036854775807) (w : World) :
    Calls Try.prog 9 #[.agg #[.int .i64 x.day, .string x.what, .int .i64 x.value]] w (Ret (.bool true) w) := by
  have hle := szGo_le x.sizes 1048576 (by omega)
  obtain ⟨r, hr⟩ : ∃ r, r = entB x := ⟨_, rfl⟩
  have HS0 := fun (w : World) => SValidEntry_c x hs w
  have HI0 := fun (w : World) => ValidEntry_c x hs w
  rw [← hr] at HS0 HI0
  have hrr : (r != r) = false := by simp
  clear hr
  replace HS0 := Lib.hid HS0
  replace HI0 := Lib.hid HI0
  go_enter Try.func9, Try.ntmps9
  go_wp2_with fail
  obtain ⟨W, hW⟩ : ∃ W, W = w.alloc (Obj.cells #[Value.int IntKind.i64 x.day, Value.string x.what, Value.int IntKind.i64 x.value] 51) := ⟨_, rfl⟩
  obtain ⟨g, hg⟩ : ∃ g, g = w.heap.size := ⟨_, rfl⟩
  have hv : Below w.heap.size w W := by rw [hW]; exact bl_alloc (Below.refl _ _) _
  have hB0 : Blk W g 51 #[Value.int IntKind.i64 x.day, Value.string x.what, Value.int IntKind.i64 x.value] := by rw [hW, hg]; exact Blk.new _ _ _
  rw [← hW]
  try rw [← hg]
  clear hW hg
  refine (szEntry_c x 1048576 hs (by omega) (by omega) _).mono ?_
  rintro e W ⟨rfl, hb⟩
  have z0 := Lib.hid hb.size
  replace hv := bl_trans hv hb
  replace hB0 := hB0.below hb
  clear hb
  have k0 : W.cell? ⟨g, 0, none⟩ = some (.int .i64 x.day) := hB0.cell 0
  have k1 : W.cell? ⟨g, 1, none⟩ = some (.string x.what) := hB0.cell 1
  have k2 : W.cell? ⟨g, 2, none⟩ = some (.int .i64 x.value) := hB0.cell 2
  obtain ⟨q, hq'⟩ : ∃ q, q = szGo x.sizes 1048576 := ⟨_, rfl⟩
  rw [← hq'] at hle ⊢
  clear hq'
  by_cases hq : q < 0
  · go_wp2_with fail
    go_returns
    exact Ret.mk rfl hv
  go_wp2_with fail
  refine (toEntry_c x _).mono ?_
  rintro e W ⟨rfl, hb⟩
  have z1 := Lib.hid hb.size
  replace hv := bl_trans hv hb
  replace hB0 := hB0.below hb
  clear hb
  have k0 : W.cell? ⟨g, 0, none⟩ = some (.int .i64 x.day) := hB0.cell 0
  have k1 : W.cell? ⟨g, 1, none⟩ = some (.string x.what) := hB0.cell 1
  have k2 : W.cell? ⟨g, 2, none⟩ = some (.int .i64 x.value) := hB0.cell 2
  go_wp2_with fail
  refine (HS0.out _).mono ?_
  rintro e W ⟨rfl, hb⟩
  have z2 := Lib.hid hb.size
  replace hv := bl_trans hv hb
  replace hB0 := hB0.below hb
  clear hb
  have k0 : W.cell? ⟨g, 0, none⟩ = some (.int .i64 x.day) := hB0.cell 0
  have k1 : W.cell? ⟨g, 1, none⟩ = some (.string x.what) := hB0.cell 1
  have k2 : W.cell? ⟨g, 2, none⟩ = some (.int .i64 x.value) := hB0.cell 2
  go_wp2_with fail
  refine (toEntry_c x _).mono ?_
  rintro e W ⟨rfl, hb⟩
  have z3 := Lib.hid hb.size
  replace hv := bl_trans hv hb
  replace hB0 := hB0.below hb
  clear hb
  have k0 : W.cell? ⟨g, 0, none⟩ = some (.int .i64 x.day) := hB0.cell 0
  have k1 : W.cell? ⟨g, 1, none⟩ = some (.string x.what) := hB0.cell 1
  have k2 : W.cell? ⟨g, 2, none⟩ = some (.int .i64 x.value) := hB0.cell 2
  go_wp2_with fail
  refine (HI0.out _).mono ?_
  rintro e W ⟨rfl, hb⟩
  have z4 := Lib.hid hb.size
  replace hv := bl_trans hv hb
  replace hB0 := hB0.below hb
  clear hb
  have k0 : W.cell? ⟨g, 0, none⟩ = some (.int .i64 x.day) := hB0.cell 0
  have k1 : W.cell? ⟨g, 1, none⟩ = some (.string x.what) := hB0.cell 1
  have k2 : W.cell? ⟨g, 2, none⟩ = some (.int .i64 x.value) := hB0.cell 2
  go_wp2_with fail
  go_returns
  exact Ret.mk rfl hv

end Go.Proofs.Ytiplnpbeoaefaaa
