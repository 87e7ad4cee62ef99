/- Bills: what the exported functions compute, the program's and the reference's; equality, marks. -/
import Derived.Test.YtgohahcdkgbocaaBillL
namespace Go.Proofs.Ytgohahcdkgbocaa
open Go.RowKit


set_option maxRecDepth 100000 in
set_option maxHeartbeats 800000 in
theorem eqBill_c (A B : Option Addr) (xs ys : List Item) (n m c d : Nat) (o t p o' t' p' : Int) (hn : Hid (xs.length = n)) (hm : Hid (ys.length = m)) (hz : (n : Int) ≤ 1048576) (w : World) (hA : Arr w A (flat Item.cells xs)) (hB : Arr w B (flat Item.cells ys)) :
    Calls Try.prog 19 #[.agg #[.slice A n c, .int .i64 o, .int .i64 t, .int .i64 p], .agg #[.slice B m d, .int .i64 o', .int .i64 t', .int .i64 p']] w
      (Ret (.bool (listBeq Item.beq xs ys && decide (o = o') && decide (t = t') && decide (p = p'))) w) := by
  go_enter Try.func19, Try.ntmps19
  go_wp2_with fail
  obtain ⟨w2, hw2⟩ : ∃ w2, w2 = (w.alloc (Obj.cells #[Value.slice A n c, Value.int IntKind.i64 o, Value.int IntKind.i64 t, Value.int IntKind.i64 p] 29)).alloc (Obj.cells #[Value.slice B m d, Value.int IntKind.i64 o', Value.int IntKind.i64 t', Value.int IntKind.i64 p'] 29) := ⟨_, rfl⟩
  have hb0 : Below w.heap.size w w2 := by rw [hw2]; exact bl_alloc (bl_alloc (Below.refl _ _) _) _
  have hB0 : Blk w2 w.heap.size 29 #[Value.slice A n c, Value.int IntKind.i64 o, Value.int IntKind.i64 t, Value.int IntKind.i64 p] := by rw [hw2]; exact (Blk.new _ _ _).alloc _
  have hB1 : Blk w2 (w.heap.size + 1) 29 #[Value.slice B m d, Value.int IntKind.i64 o', Value.int IntKind.i64 t', Value.int IntKind.i64 p'] := by
    rw [hw2]; have h := Blk.new (w.alloc (Obj.cells #[Value.slice A n c, Value.int IntKind.i64 o, Value.int IntKind.i64 t, Value.int IntKind.i64 p] 29)) 29 #[Value.slice B m d, Value.int IntKind.i64 o', Value.int IntKind.i64 t', Value.int IntKind.i64 p']; simpa using h
  rw [← hw2]
  clear hw2
  refine (eqItemS_c A B xs ys n m c d hn hm hz _ (hA.below hb0) (hB.below hb0)).mono ?_
  rintro e w1 ⟨rfl, hb1⟩
  have a1 : w1.cell? ⟨w.heap.size, 1, none⟩ = some (.int .i64 o) := (hB0.below hb1).cell 1
  have a2 : w1.cell? ⟨w.heap.size, 2, none⟩ = some (.int .i64 t) := (hB0.below hb1).cell 2
  have a3 : w1.cell? ⟨w.heap.size, 3, none⟩ = some (.int .i64 p) := (hB0.below hb1).cell 3
  have b1 : w1.cell? ⟨w.heap.size + 1, 1, none⟩ = some (.int .i64 o') := (hB1.below hb1).cell 1
  have b2 : w1.cell? ⟨w.heap.size + 1, 2, none⟩ = some (.int .i64 t') := (hB1.below hb1).cell 2
  have b3 : w1.cell? ⟨w.heap.size + 1, 3, none⟩ = some (.int .i64 p') := (hB1.below hb1).cell 3
  have hw : Below w.heap.size w w1 := bl_trans hb0 hb1
  cases hq : listBeq Item.beq xs ys
  · have HQ := Lib.hid hq
    clear hq
    go_wp2_with fail
    go_returns
    exact Ret.mk (vb (by rw [HQ.out]; rfl)) hw
  · have HQ := Lib.hid hq
    clear hq
    by_cases e1 : o = o'
    · by_cases e2 : t = t'
      · by_cases e3 : p = p'
        · subst e1 e2 e3
          have f1 : (o != o) = false := by simp
          have f2 : (t != t) = false := by simp
          have f3 : (p != p) = false := by simp
          go_wp2_with (go_quiet (fail))
          go_returns
          refine Ret.mk (vb (by simp [HQ.out])) ?_
          first | exact hw | exact below_drewN hw _
        · subst e1 e2
          have f1 : (o != o) = false := by simp
          have f2 : (t != t) = false := by simp
          have f3 : (p != p') = true := by rw [bne_iff_ne]; exact e3
          have E3 := Lib.hid e3
          clear e3
          go_wp2_with (go_quiet (fail))
          go_returns
          refine Ret.mk (vb (by simp [HQ.out, E3.out])) ?_
          first | exact hw | exact below_drewN hw _
      · subst e1
        have f1 : (o != o) = false := by simp
        have f2 : (t != t') = true := by rw [bne_iff_ne]; exact e2
        have E2 := Lib.hid e2
        clear e2
        go_wp2_with (go_quiet (fail))
        go_returns
        refine Ret.mk (vb (by simp [HQ.out, E2.out])) ?_
        first | exact hw | exact below_drewN hw _
    · have f1 : (o != o') = true := by rw [bne_iff_ne]; exact e1
      have E1 := Lib.hid e1
      clear e1
      go_wp2_with (go_quiet (fail))
      go_returns
      refine Ret.mk (vb (by simp [HQ.out, E1.out])) ?_
      first | exact hw | exact below_drewN hw _

set_option maxHeartbeats 800000 in
theorem SValidBill_c (A : Option Addr) (xs : List Item) (n c : Nat) (o t p : Int) (hn : Hid (xs.length = n)) (hm : (n : Int) ≤ 1048576) (hs : Hid (∀ x ∈ xs, x.name.size ≤ 9223372036854775807)) (w : World) (hA : Arr w A (flat Item.cells xs)) : Calls Try.prog 20 #[.agg #[.slice A n c, .int .i64 o, .int .i64 t, .int .i64 p]] w (Ret (.bool (billB xs o t p)) w) := by
  go_enter Try.func20, Try.ntmps20
  go_wp2_with fail
  obtain ⟨w0, hw0⟩ : ∃ w0, w0 = w.alloc (Obj.cells #[Value.slice A n c, Value.int IntKind.i64 o, Value.int IntKind.i64 t, Value.int IntKind.i64 p] 29) := ⟨_, rfl⟩
  obtain ⟨g, hg⟩ : ∃ g, g = w.heap.size := ⟨_, rfl⟩
  have hb0 : Below w.heap.size w w0 := by rw [hw0]; exact bl_alloc (Below.refl _ _) _
  have hB0 : Blk w0 g 29 #[Value.slice A n c, Value.int IntKind.i64 o, Value.int IntKind.i64 t, Value.int IntKind.i64 p] := by rw [hw0, hg]; exact Blk.new _ _ _
  rw [← hw0, ← hg]
  clear hw0
  have HG := Lib.hid hg
  clear hg
  refine (l26Ok_c g A xs n c o t p hn hm hs w0 hB0 (hA.below hb0)).mono ?_
  rintro e w1 ⟨rfl, hb1⟩
  go_wp2_with fail
  go_returns
  exact Ret.mk rfl (bl_trans hb0 hb1)

set_option maxRecDepth 100000 in
set_option maxHeartbeats 1600000 in
theorem FnExactValidBill_law (A : Option Addr) (xs : List Item) (n c : Nat) (o t p : Int) (hn : Hid (xs.length = n)) (hmax : n ≤ 9223372036854775807) (hs : Hid (∀ x ∈ xs, x.name.size ≤ 9223372036854775807)) (w : World) (hA : Arr w A (flat Item.cells xs)) :
    Calls Try.prog 4 #[.agg #[.slice A n c, .int .i64 o, .int .i64 t, .int .i64 p]] w (Ret (.bool true) w) := by
  have hself : listBeq Item.beq xs xs = true := (listBeq_iff Item.beq_iff xs xs).2 rfl
  have hle := szS_le Item.sizes xs 1048576 (by omega)
  go_enter Try.func4, Try.ntmps4
  go_wp2_with fail
  obtain ⟨w0, hw0⟩ : ∃ w0, w0 = w.alloc (Obj.cells #[Value.slice A n c, Value.int IntKind.i64 o, Value.int IntKind.i64 t, Value.int IntKind.i64 p] 24) := ⟨_, rfl⟩
  obtain ⟨g, hg⟩ : ∃ g, g = w.heap.size := ⟨_, rfl⟩
  have hb0 : Below w.heap.size w w0 := by rw [hw0]; exact bl_alloc (Below.refl _ _) _
  have hB0 : Blk w0 g 24 #[Value.slice A n c, Value.int IntKind.i64 o, Value.int IntKind.i64 t, Value.int IntKind.i64 p] := by rw [hw0, hg]; exact Blk.new _ _ _
  rw [← hw0, ← hg]
  clear hw0
  have HG := Lib.hid hg
  clear hg
  refine (szBill_c A xs n c o t p hn 1048576 hmax hs (by omega) (by omega) _ (hA.below hb0)).mono ?_
  rintro e W ⟨rfl, hb⟩
  have hv := bl_trans hb0 hb
  replace hB0 := hB0.below hb
  have k0 : W.cell? ⟨g, 0, none⟩ = some (.slice A n c) := hB0.cell 0
  have k1 : W.cell? ⟨g, 1, none⟩ = some (.int .i64 o) := hB0.cell 1
  have k2 : W.cell? ⟨g, 2, none⟩ = some (.int .i64 t) := hB0.cell 2
  have k3 : W.cell? ⟨g, 3, none⟩ = some (.int .i64 p) := hB0.cell 3
  obtain ⟨q, hq'⟩ : ∃ q, q = szS Item.sizes xs 1048576 := ⟨_, rfl⟩
  rw [← hq'] at hle ⊢
  by_cases hq : q < 0
  · clear hq'
    go_wp2_with fail
    go_returns
    exact Ret.mk rfl hv
  have hz : (n : Int) ≤ 1048576 := by rw [← hn.out]; exact szS_len (by rw [← hq']; omega) (by omega)
  clear hq'
  go_wp2_with fail
  refine (toBill_c A xs n c o t p hn hz _ (hA.below hv)).mono ?_
  rintro e W ⟨g1, rfl, hown1, hb⟩
  replace hv := bl_trans hv hb
  replace hB0 := hB0.below hb
  have k0 : W.cell? ⟨g, 0, none⟩ = some (.slice A n c) := hB0.cell 0
  have k1 : W.cell? ⟨g, 1, none⟩ = some (.int .i64 o) := hB0.cell 1
  have k2 : W.cell? ⟨g, 2, none⟩ = some (.int .i64 t) := hB0.cell 2
  have k3 : W.cell? ⟨g, 3, none⟩ = some (.int .i64 p) := hB0.cell 3
  go_wp2_with fail
  refine (SValidBill_c _ xs n n o t p hn hz hs _ (Arr.own hown1)).mono ?_
  rintro e W ⟨rfl, hb⟩
  replace hv := bl_trans hv hb
  replace hB0 := hB0.below hb
  have k0 : W.cell? ⟨g, 0, none⟩ = some (.slice A n c) := hB0.cell 0
  have k1 : W.cell? ⟨g, 1, none⟩ = some (.int .i64 o) := hB0.cell 1
  have k2 : W.cell? ⟨g, 2, none⟩ = some (.int .i64 t) := hB0.cell 2
  have k3 : W.cell? ⟨g, 3, none⟩ = some (.int .i64 p) := hB0.cell 3
  go_wp2_with fail
  refine (toBill_c A xs n c o t p hn hz _ (hA.below hv)).mono ?_
  rintro e W ⟨g2, rfl, hown2, hb⟩
  replace hv := bl_trans hv hb
  replace hB0 := hB0.below hb
  have k0 : W.cell? ⟨g, 0, none⟩ = some (.slice A n c) := hB0.cell 0
  have k1 : W.cell? ⟨g, 1, none⟩ = some (.int .i64 o) := hB0.cell 1
  have k2 : W.cell? ⟨g, 2, none⟩ = some (.int .i64 t) := hB0.cell 2
  have k3 : W.cell? ⟨g, 3, none⟩ = some (.int .i64 p) := hB0.cell 3
  go_wp2_with fail
  obtain ⟨W0, hW0⟩ : ∃ W0, W0 = W.alloc (Obj.cells #[Value.slice (some ⟨g2, 0, none⟩) n n, Value.int IntKind.i64 o, Value.int IntKind.i64 t, Value.int IntKind.i64 p] 29) := ⟨_, rfl⟩
  obtain ⟨gx, hgx⟩ : ∃ gx, gx = W.heap.size := ⟨_, rfl⟩
  have hb : Below W.heap.size W W0 := by rw [hW0]; exact bl_alloc (Below.refl _ _) _
  have hX : Blk W0 gx 29 #[Value.slice (some ⟨g2, 0, none⟩) n n, Value.int IntKind.i64 o, Value.int IntKind.i64 t, Value.int IntKind.i64 p] := by rw [hW0, hgx]; exact Blk.new _ _ _
  rw [← hW0, ← hgx]
  clear hW0
  have HGX := Lib.hid hgx
  clear hgx
  replace hv := bl_trans hv hb
  replace hB0 := hB0.below hb
  replace hown2 := own_below hown2 hb
  have k0 : W0.cell? ⟨g, 0, none⟩ = some (.slice A n c) := hB0.cell 0
  have k1 : W0.cell? ⟨g, 1, none⟩ = some (.int .i64 o) := hB0.cell 1
  have k2 : W0.cell? ⟨g, 2, none⟩ = some (.int .i64 t) := hB0.cell 2
  have k3 : W0.cell? ⟨g, 3, none⟩ = some (.int .i64 p) := hB0.cell 3
  have x0 : W0.cell? ⟨gx, 0, none⟩ = some (.slice (some ⟨g2, 0, none⟩) n n) := hX.cell 0
  have x1 : W0.cell? ⟨gx, 1, none⟩ = some (.int .i64 o) := hX.cell 1
  have x2 : W0.cell? ⟨gx, 2, none⟩ = some (.int .i64 t) := hX.cell 2
  have x3 : W0.cell? ⟨gx, 3, none⟩ = some (.int .i64 p) := hX.cell 3
  refine (validBill_c _ xs n n o t p hn hz hs _ (Arr.own hown2)).mono ?_
  rintro e W ⟨rfl, hb⟩
  replace hv := bl_trans hv hb
  replace hB0 := hB0.below hb
  replace hX := hX.below hb
  replace hown2 := own_below hown2 hb
  have k0 : W.cell? ⟨g, 0, none⟩ = some (.slice A n c) := hB0.cell 0
  have k1 : W.cell? ⟨g, 1, none⟩ = some (.int .i64 o) := hB0.cell 1
  have k2 : W.cell? ⟨g, 2, none⟩ = some (.int .i64 t) := hB0.cell 2
  have k3 : W.cell? ⟨g, 3, none⟩ = some (.int .i64 p) := hB0.cell 3
  have x0 : W.cell? ⟨gx, 0, none⟩ = some (.slice (some ⟨g2, 0, none⟩) n n) := hX.cell 0
  have x1 : W.cell? ⟨gx, 1, none⟩ = some (.int .i64 o) := hX.cell 1
  have x2 : W.cell? ⟨gx, 2, none⟩ = some (.int .i64 t) := hX.cell 2
  have x3 : W.cell? ⟨gx, 3, none⟩ = some (.int .i64 p) := hX.cell 3
  go_wp2_with fail
  go_region_held3 (fun w' => Below w.heap.size w w' ∧ w'.ownsRow 0 60 3 (.slice (some ⟨g2, 0, none⟩) n n) n (flat Item.cells xs) ∧ w'.cell? ⟨g, 0, none⟩ = some (.slice A n c) ∧ w'.cell? ⟨g, 1, none⟩ = some (.int .i64 o) ∧ w'.cell? ⟨g, 2, none⟩ = some (.int .i64 t) ∧ w'.cell? ⟨g, 3, none⟩ = some (.int .i64 p) ∧
      w'.cell? ⟨gx, 0, none⟩ = some (.slice (some ⟨g2, 0, none⟩) n n) ∧ w'.cell? ⟨gx, 1, none⟩ = some (.int .i64 o) ∧ w'.cell? ⟨gx, 2, none⟩ = some (.int .i64 t) ∧ w'.cell? ⟨gx, 3, none⟩ = some (.int .i64 p))
    (first | exact ⟨hv.drew, own_base hown2 (Nat.zero_le _), k0, k1, k2, k3, x0, x1, x2, x3⟩ | (go_split_ands; exact ⟨bl_trans (by assumption) hb, own_below (by assumption) hb, bl_cell hb (by assumption), bl_cell hb (by assumption), bl_cell hb (by assumption), bl_cell hb (by assumption), bl_cell hb (by assumption), bl_cell hb (by assumption), bl_cell hb (by assumption), bl_cell hb (by assumption)⟩))
    (first | (go_at_call 17; go_split_ands; refine (toBill_c A xs n c o t p hn hz _ (hA.below (by assumption))).mono ?_; rintro e W ⟨g3, rfl, hown3, hb⟩) | (go_at_call 19; go_split_ands; refine (eqBill_c _ _ xs xs n n n n o t p o t p hn hn hz _ (Arr.own (base := 0) (e := 60) (size := 3) (by assumption)) (Arr.own hown3)).mono ?_; rintro e W ⟨rfl, hb⟩))
  go_wp2_with fail
  go_returns
  go_split_ands
  exact Ret.mk rfl (by assumption)
end Go.Proofs.Ytgohahcdkgbocaa
