/- StampOf: the program's and the reference's; the law walked. -/
import Derived.Test.YtiplnpbeoaefaaaDoorStampA
namespace Go.Proofs.YtiplnpbeoaefaaaDoor
open Go.RowKit

theorem wordsB_size {x : Entry} (hx : entB x = true) : (wordsB x).size ≤ 9223372036854775807 := by
  obtain ⟨d0, d1, v0, v1, ws⟩ := entB_bd hx
  have sa := decI_size x.day
  have sb := decI_size x.value
  unfold wordsB
  rw [ByteArray.size_append', ByteArray.size_append', ByteArray.size_append', ByteArray.size_append', show (ByteArray.mk #[32]).size = 1 from rfl]
  omega
def rStamp (before : Int) (x : Entry) : Array Value := if entB x = true then (if inB before 0 65518 = true then #[.int .i64 (stampV before (wordsB x)), .int .i64 0] else #[.int .i64 0, .int .i64 2]) else #[.int .i64 0, .int .i64 1]
theorem rStamp_form (before : Int) (x : Entry) : ∃ ra rb : Int, rStamp before x = #[.int .i64 ra, .int .i64 rb] := by
  unfold rStamp
  repeat' split
  all_goals exact ⟨_, _, rfl⟩
set_option maxRecDepth 100000 in
set_option maxHeartbeats 2000000 in
theorem SStampOf_c (before : Int) (x : Entry) (hs : x.what.size ≤ 9223372036854775807) (w : World) :
    Calls Tryd.prog 11 #[.int .i64 before, .agg #[.int .i64 x.day, .string x.what, .int .i64 x.value]] w (RetT (rStamp before x) w) := by
  go_enter Tryd.func11, Tryd.ntmps11
  go_wp2_with fail
  obtain ⟨W0, hW0⟩ : ∃ W0, W0 = w.alloc (Obj.cells #[Value.int IntKind.i64 x.day, Value.string x.what, Value.int IntKind.i64 x.value] 29) := ⟨_, rfl⟩
  obtain ⟨g, hg⟩ : ∃ g, g = w.heap.size := ⟨_, rfl⟩
  have hv : Below w.heap.size w W0 := by rw [hW0]; exact bl_alloc (Below.refl _ _) _
  have hB0 : Blk W0 g 29 #[Value.int IntKind.i64 x.day, Value.string x.what, Value.int IntKind.i64 x.value] := by rw [hW0, hg]; exact Blk.new _ _ _
  rw [← hW0]
  try rw [← hg]
  clear hW0 hg
  refine (l27Ok_c ⟨g, 0, none⟩ x hs _ (hB0.cell 0) (hB0.cell 1) (hB0.cell 2)).mono ?_
  rintro e w' ⟨rfl, rfl⟩
  cases hx : entB x
  · have HX := Lib.hid hx
    clear hx
    go_wp2_with fail
    go_returns
    exact RetT.mk (by rw [rStamp, HX.out]; rfl) hv
  · have HX := Lib.hid hx
    clear hx
    cases hi : inB before 0 65518
    · have HI := Lib.hid hi
      have hin := fun w => l00In_c before 0 65518 w
      rw [hi] at hin
      replace hin := Lib.hid hin
      clear hi
      go_wp2_with fail
      refine (hin.out _).mono ?_
      rintro e w' ⟨rfl, rfl⟩
      go_wp2_with fail
      go_returns
      exact RetT.mk (by rw [rStamp, HX.out, HI.out]; rfl) hv
    · have HI := Lib.hid hi
      obtain ⟨hb0, hb1⟩ := inB_iff.1 hi
      have hin := fun w => l00In_c before 0 65518 w
      rw [hi] at hin
      replace hin := Lib.hid hin
      clear hi
      have hsz := wordsB_size HX.out
      go_wp2_with fail
      refine (hin.out _).mono ?_
      rintro e w' ⟨rfl, rfl⟩
      go_wp2_with fail
      refine (l27Words_c ⟨g, 0, none⟩ x HX.out _ (hB0.cell 0) (hB0.cell 1) (hB0.cell 2)).mono ?_
      rintro e W ⟨rfl, hb⟩
      go_wp2_with fail
      refine (l27Stamp_c before _ hb0 hb1 hsz _).mono ?_
      rintro e w' ⟨rfl, rfl⟩
      go_wp2_with fail
      go_returns
      exact RetT.mk (by rw [rStamp, HX.out, HI.out]; rfl) (bl_trans hv hb)
set_option maxRecDepth 100000 in
set_option maxHeartbeats 2000000 in
theorem StampOf_c (before : Int) (x : Entry) (hs : x.what.size ≤ 9223372036854775807) (w : World) (hT : Pow10 w) :
    Calls Tryd.prog 13 #[.int .i64 before, .agg #[.int .i64 x.day, .string x.what, .int .i64 x.value]] w (RetT (rStamp before x) w) := by
  have HT := Lib.hid hT
  clear hT
  go_enter Tryd.func13, Tryd.ntmps13
  go_wp2_with fail
  obtain ⟨W0, hW0⟩ : ∃ W0, W0 = w.alloc (Obj.cells #[Value.int IntKind.i64 x.day, Value.string x.what, Value.int IntKind.i64 x.value] 29) := ⟨_, rfl⟩
  obtain ⟨g, hg⟩ : ∃ g, g = w.heap.size := ⟨_, rfl⟩
  have hv : Below w.heap.size w W0 := by rw [hW0]; exact bl_alloc (Below.refl _ _) _
  have hB0 : Blk W0 g 29 #[Value.int IntKind.i64 x.day, Value.string x.what, Value.int IntKind.i64 x.value] := by rw [hW0, hg]; exact Blk.new _ _ _
  rw [← hW0]
  try rw [← hg]
  clear hW0 hg
  refine (ValidEntry_c x hs _).mono ?_
  rintro e W ⟨rfl, hb⟩
  replace hv := bl_trans hv hb
  replace hB0 := hB0.below hb
  have c0 : W.cell? ⟨g, 0, none⟩ = some (.int .i64 x.day) := hB0.cell 0
  have c1 : W.cell? ⟨g, 1, none⟩ = some (.string x.what) := hB0.cell 1
  have c2 : W.cell? ⟨g, 2, none⟩ = some (.int .i64 x.value) := hB0.cell 2
  clear hb
  cases hx : entB x
  · have HX := Lib.hid hx
    clear hx
    go_wp2_with fail
    go_returns
    exact RetT.mk (by rw [rStamp, HX.out]; rfl) hv
  · have HX := Lib.hid hx
    clear hx
    cases hi : inB before 0 65518
    · have HI := Lib.hid hi
      have hin := fun w => within_c before 0 65518 w
      rw [hi] at hin
      replace hin := Lib.hid hin
      clear hi
      go_wp2_with fail
      refine (hin.out _).mono ?_
      rintro e w' ⟨rfl, rfl⟩
      go_wp2_with fail
      go_returns
      exact RetT.mk (by rw [rStamp, HX.out, HI.out]; rfl) hv
    · have HI := Lib.hid hi
      obtain ⟨hb0, hb1⟩ := inB_iff.1 hi
      have hin := fun w => within_c before 0 65518 w
      rw [hi] at hin
      replace hin := Lib.hid hin
      clear hi
      go_wp2_with fail
      refine (hin.out _).mono ?_
      rintro e w' ⟨rfl, rfl⟩
      go_wp2_with fail
      refine (stampOf_c before x hb0 hb1 HX.out _ (HT.out.below hv)).mono ?_
      rintro e W2 ⟨rfl, hb⟩
      go_wp2_with fail
      go_returns
      exact RetT.mk (by rw [rStamp, HX.out, HI.out]; rfl) (bl_trans hv hb)
set_option maxRecDepth 100000 in
set_option maxHeartbeats 2000000 in
theorem FnExactStampOf_law (before : Int) (x : Entry) (hs : x.what.size ≤ 9223372036854775807) (w : World) (hT : Pow10 w) :
    Calls Tryd.prog 5 #[.int .i64 before, .agg #[.int .i64 x.day, .string x.what, .int .i64 x.value]] w (Ret (.bool true) w) := by
  have hle := szGo_le x.sizes 1048576 (by omega)
  obtain ⟨ra, rb, hform⟩ := rStamp_form before x
  have HS0 := fun (w : World) => SStampOf_c before x hs w
  have HI0 := fun (w : World) (hT : Pow10 w) => StampOf_c before x hs w hT
  rw [hform] at HS0 HI0
  clear hform
  replace HS0 := Lib.hid HS0
  replace HI0 := Lib.hid HI0
  have HT := Lib.hid hT
  clear hT
  go_enter Tryd.func5, Tryd.ntmps5
  go_wp2_with fail
  obtain ⟨W, hW⟩ : ∃ W, W = w.alloc (Obj.cells #[Value.int IntKind.i64 x.day, Value.string x.what, Value.int IntKind.i64 x.value] 25) := ⟨_, rfl⟩
  obtain ⟨g, hg⟩ : ∃ g, g = w.heap.size := ⟨_, rfl⟩
  have hv : Below w.heap.size w W := by rw [hW]; exact bl_alloc (Below.refl _ _) _
  have hB0 : Blk W g 25 #[Value.int IntKind.i64 x.day, Value.string x.what, Value.int IntKind.i64 x.value] := by rw [hW, hg]; exact Blk.new _ _ _
  rw [← hW]
  try rw [← hg]
  clear hW hg
  refine (szEntry_c x 1048576 hs (by omega) (by omega) _).mono ?_
  rintro e W ⟨rfl, hb⟩
  have z0 := Lib.hid hb.size
  replace hv := bl_trans hv hb
  replace hB0 := hB0.below hb
  clear hb
  have k0 : W.cell? ⟨g, 0, none⟩ = some (.int .i64 x.day) := hB0.cell 0
  have k1 : W.cell? ⟨g, 1, none⟩ = some (.string x.what) := hB0.cell 1
  have k2 : W.cell? ⟨g, 2, none⟩ = some (.int .i64 x.value) := hB0.cell 2
  obtain ⟨q, hq'⟩ : ∃ q, q = szGo x.sizes 1048576 := ⟨_, rfl⟩
  rw [← hq'] at hle ⊢
  clear hq'
  by_cases hq : q < 0
  · go_wp2_with fail
    go_returns
    exact Ret.mk rfl hv
  go_wp2_with fail
  refine (toEntry_c x _).mono ?_
  rintro e W ⟨rfl, hb⟩
  have z1 := Lib.hid hb.size
  replace hv := bl_trans hv hb
  replace hB0 := hB0.below hb
  clear hb
  have k0 : W.cell? ⟨g, 0, none⟩ = some (.int .i64 x.day) := hB0.cell 0
  have k1 : W.cell? ⟨g, 1, none⟩ = some (.string x.what) := hB0.cell 1
  have k2 : W.cell? ⟨g, 2, none⟩ = some (.int .i64 x.value) := hB0.cell 2
  go_wp2_with fail
  refine (HS0.out _).mono ?_
  rintro e W ⟨rfl, hb⟩
  have z2 := Lib.hid hb.size
  replace hv := bl_trans hv hb
  replace hB0 := hB0.below hb
  clear hb
  have k0 : W.cell? ⟨g, 0, none⟩ = some (.int .i64 x.day) := hB0.cell 0
  have k1 : W.cell? ⟨g, 1, none⟩ = some (.string x.what) := hB0.cell 1
  have k2 : W.cell? ⟨g, 2, none⟩ = some (.int .i64 x.value) := hB0.cell 2
  go_wp2_with fail
  refine (toEntry_c x _).mono ?_
  rintro e W ⟨rfl, hb⟩
  have z3 := Lib.hid hb.size
  replace hv := bl_trans hv hb
  replace hB0 := hB0.below hb
  clear hb
  have k0 : W.cell? ⟨g, 0, none⟩ = some (.int .i64 x.day) := hB0.cell 0
  have k1 : W.cell? ⟨g, 1, none⟩ = some (.string x.what) := hB0.cell 1
  have k2 : W.cell? ⟨g, 2, none⟩ = some (.int .i64 x.value) := hB0.cell 2
  go_wp2_with fail
  refine (HI0.out _ (HT.out.below hv)).mono ?_
  rintro e W ⟨rfl, hb⟩
  have z4 := Lib.hid hb.size
  replace hv := bl_trans hv hb
  replace hB0 := hB0.below hb
  clear hb
  have k0 : W.cell? ⟨g, 0, none⟩ = some (.int .i64 x.day) := hB0.cell 0
  have k1 : W.cell? ⟨g, 1, none⟩ = some (.string x.what) := hB0.cell 1
  have k2 : W.cell? ⟨g, 2, none⟩ = some (.int .i64 x.value) := hB0.cell 2
  go_wp2_with fail
  go_returns
  exact Ret.mk rfl hv

end Go.Proofs.YtiplnpbeoaefaaaDoor
