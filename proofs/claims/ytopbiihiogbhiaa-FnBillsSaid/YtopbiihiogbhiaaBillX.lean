
/- Bills: what the exported functions compute, the program's and the reference's; equality, marks. -/
import Derived.Test.YtopbiihiogbhiaaBillL
namespace Go.Proofs.Ytopbiihiogbhiaa
open Go.RowKit


set_option maxHeartbeats 800000 in
theorem SValidBill_c (A : Option Addr) (xs : List Item) (n c : Nat) (o t p : Int) (hn : Hid (xs.length = n)) (hm : (n : Int) ≤ 1048576) (hs : Hid (∀ x ∈ xs, x.name.size ≤ 9223372036854775807)) (w : World) (hA : Arr w A (flat Item.cells xs)) : Calls Try.prog 47 #[.agg #[.slice A n c, .int .i64 o, .int .i64 t, .int .i64 p]] w (Ret (.bool (billB xs o t p)) w) := by
  go_enter Try.func47, Try.ntmps47
  go_wp2_with fail
  obtain ⟨w0, hw0⟩ : ∃ w0, w0 = w.alloc (Obj.cells #[Value.slice A n c, Value.int IntKind.i64 o, Value.int IntKind.i64 t, Value.int IntKind.i64 p] 49) := ⟨_, rfl⟩
  obtain ⟨g, hg⟩ : ∃ g, g = w.heap.size := ⟨_, rfl⟩
  have hb0 : Below w.heap.size w w0 := by rw [hw0]; exact bl_alloc (Below.refl _ _) _
  have hB0 : Blk w0 g 49 #[Value.slice A n c, Value.int IntKind.i64 o, Value.int IntKind.i64 t, Value.int IntKind.i64 p] := by rw [hw0, hg]; exact Blk.new _ _ _
  rw [← hw0, ← hg]
  clear hw0
  have HG := Lib.hid hg
  clear hg
  refine (l26Ok_c g A xs n c o t p hn hm hs w0 hB0 (hA.below hb0)).mono ?_
  rintro e w1 ⟨rfl, hb1⟩
  go_wp2_with fail
  go_returns
  exact Ret.mk rfl (bl_trans hb0 hb1)

end Go.Proofs.Ytopbiihiogbhiaa
