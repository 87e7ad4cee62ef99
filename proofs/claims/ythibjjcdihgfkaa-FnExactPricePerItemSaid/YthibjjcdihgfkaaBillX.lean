
/- Bills: what the exported functions compute, the program's and the reference's; equality, marks. -/
import Derived.Test.YthibjjcdihgfkaaBillL
namespace Go.Proofs.Ythibjjcdihgfkaa
open Go.RowKit


set_option maxRecDepth 100000 in
set_option maxHeartbeats 800000 in
theorem eqBill_c (A B : Option Addr) (xs ys : List Item) (n m c d : Nat) (o t p o' t' p' : Int) (hn : Hid (xs.length = n)) (hm : Hid (ys.length = m)) (hz : (n : Int) ≤ 1048576) (w : World) (hA : Arr w A (flat Item.cells xs)) (hB : Arr w B (flat Item.cells ys)) :
    Calls Try.prog 29 #[.agg #[.slice A n c, .int .i64 o, .int .i64 t, .int .i64 p], .agg #[.slice B m d, .int .i64 o', .int .i64 t', .int .i64 p']] w
      (Ret (.bool (listBeq Item.beq xs ys && decide (o = o') && decide (t = t') && decide (p = p'))) w) := by
  go_enter Try.func29, Try.ntmps29
  go_wp2_with fail
  obtain ⟨w2, hw2⟩ : ∃ w2, w2 = (w.alloc (Obj.cells #[Value.slice A n c, Value.int IntKind.i64 o, Value.int IntKind.i64 t, Value.int IntKind.i64 p] 60)).alloc (Obj.cells #[Value.slice B m d, Value.int IntKind.i64 o', Value.int IntKind.i64 t', Value.int IntKind.i64 p'] 60) := ⟨_, rfl⟩
  have hb0 : Below w.heap.size w w2 := by rw [hw2]; exact bl_alloc (bl_alloc (Below.refl _ _) _) _
  have hB0 : Blk w2 w.heap.size 60 #[Value.slice A n c, Value.int IntKind.i64 o, Value.int IntKind.i64 t, Value.int IntKind.i64 p] := by rw [hw2]; exact (Blk.new _ _ _).alloc _
  have hB1 : Blk w2 (w.heap.size + 1) 60 #[Value.slice B m d, Value.int IntKind.i64 o', Value.int IntKind.i64 t', Value.int IntKind.i64 p'] := by
    rw [hw2]; have h := Blk.new (w.alloc (Obj.cells #[Value.slice A n c, Value.int IntKind.i64 o, Value.int IntKind.i64 t, Value.int IntKind.i64 p] 60)) 60 #[Value.slice B m d, Value.int IntKind.i64 o', Value.int IntKind.i64 t', Value.int IntKind.i64 p']; simpa using h
  rw [← hw2]
  clear hw2
  refine (eqItemS_c A B xs ys n m c d hn hm hz _ (hA.below hb0) (hB.below hb0)).mono ?_
  rintro e w1 ⟨rfl, hb1⟩
  have a1 : w1.cell? ⟨w.heap.size, 1, none⟩ = some (.int .i64 o) := (hB0.below hb1).cell 1
  have a2 : w1.cell? ⟨w.heap.size, 2, none⟩ = some (.int .i64 t) := (hB0.below hb1).cell 2
  have a3 : w1.cell? ⟨w.heap.size, 3, none⟩ = some (.int .i64 p) := (hB0.below hb1).cell 3
  have b1 : w1.cell? ⟨w.heap.size + 1, 1, none⟩ = some (.int .i64 o') := (hB1.below hb1).cell 1
  have b2 : w1.cell? ⟨w.heap.size + 1, 2, none⟩ = some (.int .i64 t') := (hB1.below hb1).cell 2
  have b3 : w1.cell? ⟨w.heap.size + 1, 3, none⟩ = some (.int .i64 p') := (hB1.below hb1).cell 3
  have hw : Below w.heap.size w w1 := bl_trans hb0 hb1
  cases hq : listBeq Item.beq xs ys
  · have HQ := Lib.hid hq
    clear hq
    go_wp2_with fail
    go_returns
    exact Ret.mk (vb (by rw [HQ.out]; rfl)) hw
  · have HQ := Lib.hid hq
    clear hq
    by_cases e1 : o = o'
    · by_cases e2 : t = t'
      · by_cases e3 : p = p'
        · subst e1 e2 e3
          have f1 : (o != o) = false := by simp
          have f2 : (t != t) = false := by simp
          have f3 : (p != p) = false := by simp
          go_wp2_with (go_quiet (fail))
          go_returns
          refine Ret.mk (vb (by simp [HQ.out])) ?_
          first | exact hw | exact below_drewN hw _
        · subst e1 e2
          have f1 : (o != o) = false := by simp
          have f2 : (t != t) = false := by simp
          have f3 : (p != p') = true := by rw [bne_iff_ne]; exact e3
          have E3 := Lib.hid e3
          clear e3
          go_wp2_with (go_quiet (fail))
          go_returns
          refine Ret.mk (vb (by simp [HQ.out, E3.out])) ?_
          first | exact hw | exact below_drewN hw _
      · subst e1
        have f1 : (o != o) = false := by simp
        have f2 : (t != t') = true := by rw [bne_iff_ne]; exact e2
        have E2 := Lib.hid e2
        clear e2
        go_wp2_with (go_quiet (fail))
        go_returns
        refine Ret.mk (vb (by simp [HQ.out, E2.out])) ?_
        first | exact hw | exact below_drewN hw _
    · have f1 : (o != o') = true := by rw [bne_iff_ne]; exact e1
      have E1 := Lib.hid e1
      clear e1
      go_wp2_with (go_quiet (fail))
      go_returns
      refine Ret.mk (vb (by simp [HQ.out, E1.out])) ?_
      first | exact hw | exact below_drewN hw _

end Go.Proofs.Ythibjjcdihgfkaa
