
/- AddEntry: both sides; the law walked. -/
import Derived.Test.YtnhkdcebldppmaaDoorLogF
namespace Go.Proofs.YtnhkdcebldppmaaDoor
open Go.RowKit

set_option maxRecDepth 100000 in
set_option maxHeartbeats 4000000 in
theorem AddEntry_c (s : ByteArray) (hs : s.size ≤ 1048576) (x : Entry) (hxs : x.what.size ≤ 9223372036854775807) (w : World) (hT : Tabs w) :
    Calls Tryd.prog 32 #[.string s, .agg #[.int .i64 x.day, .string x.what, .int .i64 x.value]] w (RetT #[.string (addV s x).1, .int .i64 (addV s x).2] w) := by
  have HT := Lib.hid hT
  clear hT
  obtain ⟨W0, hW0⟩ : ∃ W0, W0 = w.alloc (Obj.cells #[Value.int IntKind.i64 x.day, Value.string x.what, Value.int IntKind.i64 x.value] 54) := ⟨_, rfl⟩
  obtain ⟨gX, hgX⟩ : ∃ gX, gX = w.heap.size := ⟨_, rfl⟩
  have hv : Below w.heap.size w W0 := by rw [hW0]; exact bl_alloc (Below.refl _ _) _
  have hX : Blk W0 gX 54 #[Value.int IntKind.i64 x.day, Value.string x.what, Value.int IntKind.i64 x.value] := by rw [hW0, hgX]; exact Blk.new _ _ _
  have HW0 := Lib.hid hW0
  have HGX := Lib.hid hgX
  clear hW0 hgX
  go_enter Tryd.func32, Tryd.ntmps32
  go_wp2_with fail
  rw [← HW0.out, ← HGX.out]
  refine (logCode_c s hs _ (HT.out.below hv)).mono ?_
  rintro e W ⟨A, c, m, es, st, n, rfl, hG, hm, hown, hok, hno, hb⟩
  replace hv := bl_trans hv hb
  replace hX := hX.below hb
  clear hb
  have x0 : ∀ O, (W.alloc O).cell? ⟨gX, 0, none⟩ = some (.int .i64 x.day) := fun O => (hX.alloc O).cell 0
  have x1 : ∀ O, (W.alloc O).cell? ⟨gX, 1, none⟩ = some (.string x.what) := fun O => (hX.alloc O).cell 1
  have x2 : ∀ O, (W.alloc O).cell? ⟨gX, 2, none⟩ = some (.int .i64 x.value) := fun O => (hX.alloc O).cell 2
  by_cases h0 : cdL s = 0
  · have HR := Lib.hid (addV_ok (x := x) h0 (hok h0))
    have hle := hG.le
    have hmb : m ≤ 1048576 := by have := hG.few; omega
    have HM := Lib.hid hm
    have hs0 := hG.s0
    have hs1 := hG.s1
    rw [h0]
    clear h0 hok hno hm
    go_wp2_with fail
    refine (added_c s hs A es m c st n x hxs HM hmb hs0 hs1 _ (Arr.own (hown.alloc _)) (HT.out.below (bl_alloc hv _))).mono ?_
    rintro e W2 ⟨rfl, hb⟩
    go_wp2_with fail
    go_returns
    exact RetT.mk (by rw [HR.out]; rfl) (bl_trans (bl_alloc hv _) hb)
  · have HR := Lib.hid (addV_no (x := x) h0)
    have hne : (cdL s != 0) = true := by rw [bne_iff_ne]; exact h0
    clear hok hno
    generalize cdL s = C at *
    clear h0
    go_wp2_with fail
    go_returns
    exact RetT.mk (by rw [HR.out]; rfl) (bl_alloc hv _)
end Go.Proofs.YtnhkdcebldppmaaDoor
