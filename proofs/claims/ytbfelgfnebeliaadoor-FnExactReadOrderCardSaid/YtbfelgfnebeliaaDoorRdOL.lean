/- The law on ReadOrder, walked. -/
import Derived.Test.YtbfelgfnebeliaaDoorRdOA
import Derived.Test.YtbfelgfnebeliaaDoorRdOS
namespace Go.Proofs.YtbfelgfnebeliaaDoor
open Go.RowKit

set_option maxRecDepth 100000 in
set_option maxHeartbeats 4000000 in
theorem FnExactReadOrder_law (s : ByteArray) (hs : s.size ≤ 9223372036854775807) (w : World) (hT : Tabs w) (hW : Words w) : Calls Tryd.prog 3 #[.string s] w (Ret (.bool true) w) := by
  have HT := Lib.hid hT
  have HW := Lib.hid hW
  clear hT hW
  by_cases hb1 : 1048576 < (s.size : Int)
  · go_enter Tryd.func3, Tryd.ntmps3
    go_wp2_with fail
    go_returns
    exact Ret.mk rfl (Below.refl _ _)
  have hd1 : decide (1048576 < (s.size : Int)) = false := decide_eq_false hb1
  have HS0 := fun (w : World) => SReadOrder_c s (by omega) w
  have HI0 := fun (w : World) (hT : Tabs w) (hW : Words w) => ReadOrder_c s (by omega) w hT hW
  rw [show outOs (rdO s.data.toList) = outO (rdO s.data.toList) from rfl] at HS0
  unfold outO at HS0 HI0
  obtain ⟨x, hx⟩ : ∃ x, x = (rdO s.data.toList).getD zO := ⟨_, rfl⟩
  obtain ⟨ok, hok⟩ : ∃ ok, ok = (rdO s.data.toList).isSome := ⟨_, rfl⟩
  rw [← hx, ← hok] at HS0 HI0
  clear hx hok
  have hself := Lib.hid (Order.beq_self x)
  have hcc : (ok != ok) = false := by simp
  replace HS0 := Lib.hid HS0
  replace HI0 := Lib.hid HI0
  go_enter Tryd.func3, Tryd.ntmps3
  go_wp2_with fail
  refine (HS0.out _).mono ?_
  rintro e W ⟨rfl, hv⟩
  obtain ⟨W1, hW1⟩ : ∃ W1, W1 = W.alloc (Obj.cells #[Value.int IntKind.i64 x.id, Value.string x.customer, Value.int IntKind.i64 x.stage, Value.int IntKind.i64 x.due, Value.int IntKind.i64 x.left, Value.int IntKind.i64 x.fittings] 23) := ⟨_, rfl⟩
  obtain ⟨g, hg⟩ : ∃ g, g = W.heap.size := ⟨_, rfl⟩
  have hB : Blk W1 g 23 #[Value.int IntKind.i64 x.id, Value.string x.customer, Value.int IntKind.i64 x.stage, Value.int IntKind.i64 x.due, Value.int IntKind.i64 x.left, Value.int IntKind.i64 x.fittings] := by rw [hW1, hg]; exact Blk.new _ _ _
  have hb : Below W.heap.size W W1 := by rw [hW1]; exact bl_alloc (Below.refl _ _) _
  replace hv := bl_trans hv hb
  go_wp2_with fail
  rw [← hW1, ← hg]
  clear hW1 hg hb
  refine (HI0.out _ (HT.out.below hv) (HW.out.below hv)).mono ?_
  rintro e W2 ⟨rfl, hb⟩
  replace hv := bl_trans hv hb
  replace hB := hB.below hb
  clear hb
  have k0 : ∀ O, (W2.alloc O).cell? ⟨g, 0, none⟩ = some (.int .i64 x.id) := fun O => (hB.alloc O).cell 0
  have k1 : ∀ O, (W2.alloc O).cell? ⟨g, 1, none⟩ = some (.string x.customer) := fun O => (hB.alloc O).cell 1
  have k2 : ∀ O, (W2.alloc O).cell? ⟨g, 2, none⟩ = some (.int .i64 x.stage) := fun O => (hB.alloc O).cell 2
  have k3 : ∀ O, (W2.alloc O).cell? ⟨g, 3, none⟩ = some (.int .i64 x.due) := fun O => (hB.alloc O).cell 3
  have k4 : ∀ O, (W2.alloc O).cell? ⟨g, 4, none⟩ = some (.int .i64 x.left) := fun O => (hB.alloc O).cell 4
  have k5 : ∀ O, (W2.alloc O).cell? ⟨g, 5, none⟩ = some (.int .i64 x.fittings) := fun O => (hB.alloc O).cell 5
  go_wp2_with fail
  refine (eqOrder_c x x _).mono ?_
  rintro e W3 ⟨rfl, hb⟩
  rw [hself.out]
  cases ok
  all_goals
    go_wp2_with fail
    go_returns
    exact Ret.mk rfl (bl_trans (bl_alloc hv _) hb)
end Go.Proofs.YtbfelgfnebeliaaDoor
