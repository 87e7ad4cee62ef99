/- The law on equal bills, walked. -/
import Derived.Test.YtgohahcdkgbocaaSameB
import Derived.Test.YtgohahcdkgbocaaOwn
import Derived.Test.YtgohahcdkgbocaaBillX
namespace Go.Proofs.Ytgohahcdkgbocaa
open Go.RowKit

set_option maxRecDepth 100000 in
set_option maxHeartbeats 2000000 in
theorem FnExactSameBill_law (A B : Option Addr) (xs ys : List Item) (n m c d : Nat) (o t p o' t' p' : Int) (hn : Hid (xs.length = n)) (hm : Hid (ys.length = m)) (hmax : n ≤ 9223372036854775807) (hmax' : m ≤ 9223372036854775807) (hs : Hid (∀ x ∈ xs, x.name.size ≤ 9223372036854775807)) (hs' : Hid (∀ x ∈ ys, x.name.size ≤ 9223372036854775807)) (w : World) (hA : Arr w A (flat Item.cells xs)) (hB : Arr w B (flat Item.cells ys)) :
    Calls Try.prog 3 #[.agg #[.slice A n c, .int .i64 o, .int .i64 t, .int .i64 p], .agg #[.slice B m d, .int .i64 o', .int .i64 t', .int .i64 p']] w (Ret (.bool true) w) := by
  have hself : listBeq Item.beq xs xs = true := (listBeq_iff Item.beq_iff xs xs).2 rfl
  have hself' : listBeq Item.beq ys ys = true := (listBeq_iff Item.beq_iff ys ys).2 rfl
  have hle := szS_le Item.sizes xs 1048576 (by omega)
  go_enter Try.func3, Try.ntmps3
  go_wp2_with fail
  obtain ⟨w0, hw0⟩ : ∃ w0, w0 = (w.alloc (Obj.cells #[Value.slice A n c, Value.int IntKind.i64 o, Value.int IntKind.i64 t, Value.int IntKind.i64 p] 24)).alloc (Obj.cells #[Value.slice B m d, Value.int IntKind.i64 o', Value.int IntKind.i64 t', Value.int IntKind.i64 p'] 24) := ⟨_, rfl⟩
  obtain ⟨g, hg⟩ : ∃ g, g = w.heap.size := ⟨_, rfl⟩
  obtain ⟨g1, hg1⟩ : ∃ g1, g1 = w.heap.size + 1 := ⟨_, rfl⟩
  have hv : Below w.heap.size w w0 := by rw [hw0]; exact bl_alloc (bl_alloc (Below.refl _ _) _) _
  have hB0 : Blk w0 g 24 #[Value.slice A n c, Value.int IntKind.i64 o, Value.int IntKind.i64 t, Value.int IntKind.i64 p] := by rw [hw0, hg]; exact (Blk.new _ _ _).alloc _
  have hB1 : Blk w0 g1 24 #[Value.slice B m d, Value.int IntKind.i64 o', Value.int IntKind.i64 t', Value.int IntKind.i64 p'] := by
    rw [hw0, hg1]; have h := Blk.new (w.alloc (Obj.cells #[Value.slice A n c, Value.int IntKind.i64 o, Value.int IntKind.i64 t, Value.int IntKind.i64 p] 24)) 24 #[Value.slice B m d, Value.int IntKind.i64 o', Value.int IntKind.i64 t', Value.int IntKind.i64 p']; simpa using h
  rw [← hw0, ← hg1, ← hg]
  clear hw0 hg hg1
  refine (szBill_c A xs n c o t p hn 1048576 hmax hs (by omega) (by omega) _ (hA.below hv)).mono ?_
  rintro e W ⟨rfl, hb⟩
  have z0 := Lib.hid hb.size
  replace hv := bl_trans hv hb
  replace hB0 := hB0.below hb
  replace hB1 := hB1.below hb
  clear hb
  have k0 : W.cell? ⟨g, 0, none⟩ = some (Value.slice A n c) := hB0.cell 0
  have k1 : W.cell? ⟨g, 1, none⟩ = some (Value.int IntKind.i64 o) := hB0.cell 1
  have k2 : W.cell? ⟨g, 2, none⟩ = some (Value.int IntKind.i64 t) := hB0.cell 2
  have k3 : W.cell? ⟨g, 3, none⟩ = some (Value.int IntKind.i64 p) := hB0.cell 3
  have m0 : W.cell? ⟨g1, 0, none⟩ = some (Value.slice B m d) := hB1.cell 0
  have m1 : W.cell? ⟨g1, 1, none⟩ = some (Value.int IntKind.i64 o') := hB1.cell 1
  have m2 : W.cell? ⟨g1, 2, none⟩ = some (Value.int IntKind.i64 t') := hB1.cell 2
  have m3 : W.cell? ⟨g1, 3, none⟩ = some (Value.int IntKind.i64 p') := hB1.cell 3
  obtain ⟨q, hq'⟩ : ∃ q, q = szS Item.sizes xs 1048576 := ⟨_, rfl⟩
  rw [← hq'] at hle ⊢
  by_cases hq : q < 0
  · clear hq'
    go_wp2_with fail
    go_returns
    exact Ret.mk rfl hv
  have hz : (n : Int) ≤ 1048576 := by rw [← hn.out]; exact szS_len (by rw [← hq']; omega) (by omega)
  clear hq'
  have hle2 := szS_le Item.sizes ys q (by omega)
  go_wp2_with fail
  refine (szBill_c B ys m d o' t' p' hm q hmax' hs' (by omega) (by omega) _ (hB.below hv)).mono ?_
  rintro e W ⟨rfl, hb⟩
  have z1 := Lib.hid hb.size
  replace hv := bl_trans hv hb
  replace hB0 := hB0.below hb
  replace hB1 := hB1.below hb
  clear hb
  have k0 : W.cell? ⟨g, 0, none⟩ = some (Value.slice A n c) := hB0.cell 0
  have k1 : W.cell? ⟨g, 1, none⟩ = some (Value.int IntKind.i64 o) := hB0.cell 1
  have k2 : W.cell? ⟨g, 2, none⟩ = some (Value.int IntKind.i64 t) := hB0.cell 2
  have k3 : W.cell? ⟨g, 3, none⟩ = some (Value.int IntKind.i64 p) := hB0.cell 3
  have m0 : W.cell? ⟨g1, 0, none⟩ = some (Value.slice B m d) := hB1.cell 0
  have m1 : W.cell? ⟨g1, 1, none⟩ = some (Value.int IntKind.i64 o') := hB1.cell 1
  have m2 : W.cell? ⟨g1, 2, none⟩ = some (Value.int IntKind.i64 t') := hB1.cell 2
  have m3 : W.cell? ⟨g1, 3, none⟩ = some (Value.int IntKind.i64 p') := hB1.cell 3
  obtain ⟨q2, hq2'⟩ : ∃ q2, q2 = szS Item.sizes ys q := ⟨_, rfl⟩
  rw [← hq2'] at hle2 ⊢
  by_cases hq2 : q2 < 0
  · clear hq2'
    go_wp2_with fail
    go_returns
    exact Ret.mk rfl hv
  have hz' : (m : Int) ≤ 1048576 := by rw [← hm.out]; exact szS_len (by rw [← hq2']; omega) (by omega)
  clear hq2'
  obtain ⟨r, hr⟩ : ∃ r, r = sameB xs ys o t p o' t' p' := ⟨_, rfl⟩
  have HS0 := fun (a b : Option Addr) (w : World) (h : Arr w a (flat Item.cells xs)) (h' : Arr w b (flat Item.cells ys)) => SSameBill_c a b xs ys n m n m o t p o' t' p' hn hm hz w h h'
  have HI0 := fun (a b : Option Addr) (w : World) (h : Arr w a (flat Item.cells xs)) (h' : Arr w b (flat Item.cells ys)) => SameBill_c a b xs ys n m n m o t p o' t' p' hn hm hz w h h'
  rw [← hr] at HS0 HI0
  have hrr : (r != r) = false := by simp
  clear hr
  replace HS0 := Lib.hid HS0
  replace HI0 := Lib.hid HI0
  go_wp2_with fail
  have HS := Lib.hid (show (fun w' : World => (Below w.heap.size w w') ∧ (Blk w' g 24 #[Value.slice A n c, Value.int IntKind.i64 o, Value.int IntKind.i64 t, Value.int IntKind.i64 p]) ∧ (Blk w' g1 24 #[Value.slice B m d, Value.int IntKind.i64 o', Value.int IntKind.i64 t', Value.int IntKind.i64 p']) ∧ (World.cell? w' ⟨g, 0, none⟩ = some (Value.slice A n c)) ∧ (World.cell? w' ⟨g, 1, none⟩ = some (Value.int IntKind.i64 o)) ∧ (World.cell? w' ⟨g, 2, none⟩ = some (Value.int IntKind.i64 t)) ∧ (World.cell? w' ⟨g, 3, none⟩ = some (Value.int IntKind.i64 p)) ∧ (World.cell? w' ⟨g1, 0, none⟩ = some (Value.slice B m d)) ∧ (World.cell? w' ⟨g1, 1, none⟩ = some (Value.int IntKind.i64 o')) ∧ (World.cell? w' ⟨g1, 2, none⟩ = some (Value.int IntKind.i64 t')) ∧ (World.cell? w' ⟨g1, 3, none⟩ = some (Value.int IntKind.i64 p'))) W.drew from ⟨hv.drew, hB0.below (Below.refl _ _).drew, hB1.below (Below.refl _ _).drew, k0, k1, k2, k3, m0, m1, m2, m3⟩)
  clear m3 m2 m1 m0 k3 k2 k1 k0 hB1 hB0 hv
  go_region_held3 (fun w' => (Below w.heap.size w w') ∧ (Blk w' g 24 #[Value.slice A n c, Value.int IntKind.i64 o, Value.int IntKind.i64 t, Value.int IntKind.i64 p]) ∧ (Blk w' g1 24 #[Value.slice B m d, Value.int IntKind.i64 o', Value.int IntKind.i64 t', Value.int IntKind.i64 p']) ∧ (World.cell? w' ⟨g, 0, none⟩ = some (Value.slice A n c)) ∧ (World.cell? w' ⟨g, 1, none⟩ = some (Value.int IntKind.i64 o)) ∧ (World.cell? w' ⟨g, 2, none⟩ = some (Value.int IntKind.i64 t)) ∧ (World.cell? w' ⟨g, 3, none⟩ = some (Value.int IntKind.i64 p)) ∧ (World.cell? w' ⟨g1, 0, none⟩ = some (Value.slice B m d)) ∧ (World.cell? w' ⟨g1, 1, none⟩ = some (Value.int IntKind.i64 o')) ∧ (World.cell? w' ⟨g1, 2, none⟩ = some (Value.int IntKind.i64 t')) ∧ (World.cell? w' ⟨g1, 3, none⟩ = some (Value.int IntKind.i64 p')))
    (first | exact HS.out | (go_split_ands; exact ⟨bl_trans (by assumption) hb, Blk.below (by assumption) hb, Blk.below (by assumption) hb, bl_cell hb (by assumption), bl_cell hb (by assumption), bl_cell hb (by assumption), bl_cell hb (by assumption), bl_cell hb (by assumption), bl_cell hb (by assumption), bl_cell hb (by assumption), bl_cell hb (by assumption)⟩))
    (first | (go_at_call 17; go_split_ands; refine (toBill_c _ _ _ _ _ _ _ (by assumption) (by assumption) _ (Arr.below (by assumption) (by assumption))).mono ?_; rintro e W ⟨gN, rfl, hownN, hbN⟩; have hb := hbN) | (go_at_call 16; go_split_ands; refine (HS0.out _ _ _ (by first | exact Arr.own (e := 60) (size := 3) (by assumption) | exact Arr.own (e := 60) (size := 3) (own_below (by assumption) (by assumption))) (by first | exact Arr.own (e := 60) (size := 3) (by assumption) | exact Arr.own (e := 60) (size := 3) (own_below (by assumption) (by assumption)))).mono ?_; rintro e W ⟨rfl, hb⟩))
  go_split_ands
  have hv := (by assumption : Below w.heap.size w _)
  have hB0 := (by assumption : Blk _ g 24 #[Value.slice A n c, Value.int IntKind.i64 o, Value.int IntKind.i64 t, Value.int IntKind.i64 p])
  have hB1 := (by assumption : Blk _ g1 24 #[Value.slice B m d, Value.int IntKind.i64 o', Value.int IntKind.i64 t', Value.int IntKind.i64 p'])
  have k0 := (by assumption : World.cell? _ ⟨g, 0, none⟩ = some (Value.slice A n c))
  have k1 := (by assumption : World.cell? _ ⟨g, 1, none⟩ = some (Value.int IntKind.i64 o))
  have k2 := (by assumption : World.cell? _ ⟨g, 2, none⟩ = some (Value.int IntKind.i64 t))
  have k3 := (by assumption : World.cell? _ ⟨g, 3, none⟩ = some (Value.int IntKind.i64 p))
  have m0 := (by assumption : World.cell? _ ⟨g1, 0, none⟩ = some (Value.slice B m d))
  have m1 := (by assumption : World.cell? _ ⟨g1, 1, none⟩ = some (Value.int IntKind.i64 o'))
  have m2 := (by assumption : World.cell? _ ⟨g1, 2, none⟩ = some (Value.int IntKind.i64 t'))
  have m3 := (by assumption : World.cell? _ ⟨g1, 3, none⟩ = some (Value.int IntKind.i64 p'))
  go_wp2_with fail
  refine (toBill_c A xs n c o t p hn hz _ (hA.below hv)).mono ?_
  rintro e W ⟨g2, rfl, hox, hb⟩
  obtain ⟨lx, ux, h_own, z2, z3⟩ := Own.named hox hb
  replace hox := h_own
  clear h_own
  have z4 := Lib.hid hb.size
  replace hv := bl_trans hv hb
  replace hB0 := hB0.below hb
  replace hB1 := hB1.below hb
  clear hb
  have k0 : W.cell? ⟨g, 0, none⟩ = some (Value.slice A n c) := hB0.cell 0
  have k1 : W.cell? ⟨g, 1, none⟩ = some (Value.int IntKind.i64 o) := hB0.cell 1
  have k2 : W.cell? ⟨g, 2, none⟩ = some (Value.int IntKind.i64 t) := hB0.cell 2
  have k3 : W.cell? ⟨g, 3, none⟩ = some (Value.int IntKind.i64 p) := hB0.cell 3
  have m0 : W.cell? ⟨g1, 0, none⟩ = some (Value.slice B m d) := hB1.cell 0
  have m1 : W.cell? ⟨g1, 1, none⟩ = some (Value.int IntKind.i64 o') := hB1.cell 1
  have m2 : W.cell? ⟨g1, 2, none⟩ = some (Value.int IntKind.i64 t') := hB1.cell 2
  have m3 : W.cell? ⟨g1, 3, none⟩ = some (Value.int IntKind.i64 p') := hB1.cell 3
  obtain ⟨W0, hW0⟩ : ∃ W0, W0 = W.alloc (Obj.cells #[Value.slice (some ⟨g2, 0, none⟩) n n, Value.int IntKind.i64 o, Value.int IntKind.i64 t, Value.int IntKind.i64 p] 29) := ⟨_, rfl⟩
  obtain ⟨gx, hgx⟩ : ∃ gx, gx = W.heap.size := ⟨_, rfl⟩
  have hb : Below W.heap.size W W0 := by rw [hW0]; exact bl_alloc (Below.refl _ _) _
  have hX : Blk W0 gx 29 #[Value.slice (some ⟨g2, 0, none⟩) n n, Value.int IntKind.i64 o, Value.int IntKind.i64 t, Value.int IntKind.i64 p] := by rw [hW0, hgx]; exact Blk.new _ _ _
  have a_k0 := bl_cell hb k0
  have a_k1 := bl_cell hb k1
  have a_k2 := bl_cell hb k2
  have a_k3 := bl_cell hb k3
  have a_m0 := bl_cell hb m0
  have a_m1 := bl_cell hb m1
  have a_m2 := bl_cell hb m2
  have a_m3 := bl_cell hb m3
  rw [hW0] at a_k0 a_k1 a_k2 a_k3 a_m0 a_m1 a_m2 a_m3
  go_wp2_with fail
  rw [← hW0, ← hgx]
  clear hW0 hgx a_k0 a_k1 a_k2 a_k3 a_m0 a_m1 a_m2 a_m3
  have z5 := Lib.hid hb.size
  replace hv := bl_trans hv hb
  replace hB0 := hB0.below hb
  replace hB1 := hB1.below hb
  replace hox := hox.below hb
  clear hb
  have k0 : W0.cell? ⟨g, 0, none⟩ = some (Value.slice A n c) := hB0.cell 0
  have k1 : W0.cell? ⟨g, 1, none⟩ = some (Value.int IntKind.i64 o) := hB0.cell 1
  have k2 : W0.cell? ⟨g, 2, none⟩ = some (Value.int IntKind.i64 t) := hB0.cell 2
  have k3 : W0.cell? ⟨g, 3, none⟩ = some (Value.int IntKind.i64 p) := hB0.cell 3
  have m0 : W0.cell? ⟨g1, 0, none⟩ = some (Value.slice B m d) := hB1.cell 0
  have m1 : W0.cell? ⟨g1, 1, none⟩ = some (Value.int IntKind.i64 o') := hB1.cell 1
  have m2 : W0.cell? ⟨g1, 2, none⟩ = some (Value.int IntKind.i64 t') := hB1.cell 2
  have m3 : W0.cell? ⟨g1, 3, none⟩ = some (Value.int IntKind.i64 p') := hB1.cell 3
  have x0 : W0.cell? ⟨gx, 0, none⟩ = some (Value.slice (some ⟨g2, 0, none⟩) n n) := hX.cell 0
  have x1 : W0.cell? ⟨gx, 1, none⟩ = some (Value.int IntKind.i64 o) := hX.cell 1
  have x2 : W0.cell? ⟨gx, 2, none⟩ = some (Value.int IntKind.i64 t) := hX.cell 2
  have x3 : W0.cell? ⟨gx, 3, none⟩ = some (Value.int IntKind.i64 p) := hX.cell 3
  refine (toBill_c B ys m d o' t' p' hm hz' _ (hB.below hv)).mono ?_
  rintro e W ⟨g3, rfl, hoy, hb⟩
  obtain ⟨ly, uy, h_own, z6, z7⟩ := Own.named hoy hb
  replace hoy := h_own
  clear h_own
  have z8 := Lib.hid hb.size
  replace hv := bl_trans hv hb
  replace hB0 := hB0.below hb
  replace hB1 := hB1.below hb
  replace hX := hX.below hb
  replace hox := hox.below hb
  clear hb
  have k0 : W.cell? ⟨g, 0, none⟩ = some (Value.slice A n c) := hB0.cell 0
  have k1 : W.cell? ⟨g, 1, none⟩ = some (Value.int IntKind.i64 o) := hB0.cell 1
  have k2 : W.cell? ⟨g, 2, none⟩ = some (Value.int IntKind.i64 t) := hB0.cell 2
  have k3 : W.cell? ⟨g, 3, none⟩ = some (Value.int IntKind.i64 p) := hB0.cell 3
  have m0 : W.cell? ⟨g1, 0, none⟩ = some (Value.slice B m d) := hB1.cell 0
  have m1 : W.cell? ⟨g1, 1, none⟩ = some (Value.int IntKind.i64 o') := hB1.cell 1
  have m2 : W.cell? ⟨g1, 2, none⟩ = some (Value.int IntKind.i64 t') := hB1.cell 2
  have m3 : W.cell? ⟨g1, 3, none⟩ = some (Value.int IntKind.i64 p') := hB1.cell 3
  have x0 : W.cell? ⟨gx, 0, none⟩ = some (Value.slice (some ⟨g2, 0, none⟩) n n) := hX.cell 0
  have x1 : W.cell? ⟨gx, 1, none⟩ = some (Value.int IntKind.i64 o) := hX.cell 1
  have x2 : W.cell? ⟨gx, 2, none⟩ = some (Value.int IntKind.i64 t) := hX.cell 2
  have x3 : W.cell? ⟨gx, 3, none⟩ = some (Value.int IntKind.i64 p) := hX.cell 3
  obtain ⟨W0, hW0⟩ : ∃ W0, W0 = W.alloc (Obj.cells #[Value.slice (some ⟨g3, 0, none⟩) m m, Value.int IntKind.i64 o', Value.int IntKind.i64 t', Value.int IntKind.i64 p'] 29) := ⟨_, rfl⟩
  obtain ⟨gy, hgx⟩ : ∃ gx, gx = W.heap.size := ⟨_, rfl⟩
  have hb : Below W.heap.size W W0 := by rw [hW0]; exact bl_alloc (Below.refl _ _) _
  have hY : Blk W0 gy 29 #[Value.slice (some ⟨g3, 0, none⟩) m m, Value.int IntKind.i64 o', Value.int IntKind.i64 t', Value.int IntKind.i64 p'] := by rw [hW0, hgx]; exact Blk.new _ _ _
  have a_k0 := bl_cell hb k0
  have a_k1 := bl_cell hb k1
  have a_k2 := bl_cell hb k2
  have a_k3 := bl_cell hb k3
  have a_m0 := bl_cell hb m0
  have a_m1 := bl_cell hb m1
  have a_m2 := bl_cell hb m2
  have a_m3 := bl_cell hb m3
  have a_x0 := bl_cell hb x0
  have a_x1 := bl_cell hb x1
  have a_x2 := bl_cell hb x2
  have a_x3 := bl_cell hb x3
  rw [hW0] at a_k0 a_k1 a_k2 a_k3 a_m0 a_m1 a_m2 a_m3 a_x0 a_x1 a_x2 a_x3
  go_wp2_with fail
  rw [← hW0, ← hgx]
  clear hW0 hgx a_k0 a_k1 a_k2 a_k3 a_m0 a_m1 a_m2 a_m3 a_x0 a_x1 a_x2 a_x3
  have z9 := Lib.hid hb.size
  replace hv := bl_trans hv hb
  replace hB0 := hB0.below hb
  replace hB1 := hB1.below hb
  replace hX := hX.below hb
  replace hox := hox.below hb
  replace hoy := hoy.below hb
  clear hb
  have k0 : W0.cell? ⟨g, 0, none⟩ = some (Value.slice A n c) := hB0.cell 0
  have k1 : W0.cell? ⟨g, 1, none⟩ = some (Value.int IntKind.i64 o) := hB0.cell 1
  have k2 : W0.cell? ⟨g, 2, none⟩ = some (Value.int IntKind.i64 t) := hB0.cell 2
  have k3 : W0.cell? ⟨g, 3, none⟩ = some (Value.int IntKind.i64 p) := hB0.cell 3
  have m0 : W0.cell? ⟨g1, 0, none⟩ = some (Value.slice B m d) := hB1.cell 0
  have m1 : W0.cell? ⟨g1, 1, none⟩ = some (Value.int IntKind.i64 o') := hB1.cell 1
  have m2 : W0.cell? ⟨g1, 2, none⟩ = some (Value.int IntKind.i64 t') := hB1.cell 2
  have m3 : W0.cell? ⟨g1, 3, none⟩ = some (Value.int IntKind.i64 p') := hB1.cell 3
  have x0 : W0.cell? ⟨gx, 0, none⟩ = some (Value.slice (some ⟨g2, 0, none⟩) n n) := hX.cell 0
  have x1 : W0.cell? ⟨gx, 1, none⟩ = some (Value.int IntKind.i64 o) := hX.cell 1
  have x2 : W0.cell? ⟨gx, 2, none⟩ = some (Value.int IntKind.i64 t) := hX.cell 2
  have x3 : W0.cell? ⟨gx, 3, none⟩ = some (Value.int IntKind.i64 p) := hX.cell 3
  have y0 : W0.cell? ⟨gy, 0, none⟩ = some (Value.slice (some ⟨g3, 0, none⟩) m m) := hY.cell 0
  have y1 : W0.cell? ⟨gy, 1, none⟩ = some (Value.int IntKind.i64 o') := hY.cell 1
  have y2 : W0.cell? ⟨gy, 2, none⟩ = some (Value.int IntKind.i64 t') := hY.cell 2
  have y3 : W0.cell? ⟨gy, 3, none⟩ = some (Value.int IntKind.i64 p') := hY.cell 3
  refine (HI0.out _ _ _ hox.arr hoy.arr).mono ?_
  rintro e W ⟨rfl, hb⟩
  have z10 := Lib.hid hb.size
  replace hv := bl_trans hv hb
  replace hB0 := hB0.below hb
  replace hB1 := hB1.below hb
  replace hX := hX.below hb
  replace hY := hY.below hb
  replace hox := hox.below hb
  replace hoy := hoy.below hb
  clear hb
  have k0 : W.cell? ⟨g, 0, none⟩ = some (Value.slice A n c) := hB0.cell 0
  have k1 : W.cell? ⟨g, 1, none⟩ = some (Value.int IntKind.i64 o) := hB0.cell 1
  have k2 : W.cell? ⟨g, 2, none⟩ = some (Value.int IntKind.i64 t) := hB0.cell 2
  have k3 : W.cell? ⟨g, 3, none⟩ = some (Value.int IntKind.i64 p) := hB0.cell 3
  have m0 : W.cell? ⟨g1, 0, none⟩ = some (Value.slice B m d) := hB1.cell 0
  have m1 : W.cell? ⟨g1, 1, none⟩ = some (Value.int IntKind.i64 o') := hB1.cell 1
  have m2 : W.cell? ⟨g1, 2, none⟩ = some (Value.int IntKind.i64 t') := hB1.cell 2
  have m3 : W.cell? ⟨g1, 3, none⟩ = some (Value.int IntKind.i64 p') := hB1.cell 3
  have x0 : W.cell? ⟨gx, 0, none⟩ = some (Value.slice (some ⟨g2, 0, none⟩) n n) := hX.cell 0
  have x1 : W.cell? ⟨gx, 1, none⟩ = some (Value.int IntKind.i64 o) := hX.cell 1
  have x2 : W.cell? ⟨gx, 2, none⟩ = some (Value.int IntKind.i64 t) := hX.cell 2
  have x3 : W.cell? ⟨gx, 3, none⟩ = some (Value.int IntKind.i64 p) := hX.cell 3
  have y0 : W.cell? ⟨gy, 0, none⟩ = some (Value.slice (some ⟨g3, 0, none⟩) m m) := hY.cell 0
  have y1 : W.cell? ⟨gy, 1, none⟩ = some (Value.int IntKind.i64 o') := hY.cell 1
  have y2 : W.cell? ⟨gy, 2, none⟩ = some (Value.int IntKind.i64 t') := hY.cell 2
  have y3 : W.cell? ⟨gy, 3, none⟩ = some (Value.int IntKind.i64 p') := hY.cell 3
  go_wp2_with fail
  have HS := Lib.hid (show (fun w' : World => (Below w.heap.size w w') ∧ (Blk w' g 24 #[Value.slice A n c, Value.int IntKind.i64 o, Value.int IntKind.i64 t, Value.int IntKind.i64 p]) ∧ (Blk w' g1 24 #[Value.slice B m d, Value.int IntKind.i64 o', Value.int IntKind.i64 t', Value.int IntKind.i64 p']) ∧ (Blk w' gx 29 #[Value.slice (some ⟨g2, 0, none⟩) n n, Value.int IntKind.i64 o, Value.int IntKind.i64 t, Value.int IntKind.i64 p]) ∧ (Blk w' gy 29 #[Value.slice (some ⟨g3, 0, none⟩) m m, Value.int IntKind.i64 o', Value.int IntKind.i64 t', Value.int IntKind.i64 p']) ∧ (Own w' lx ux 60 3 n (.slice (some ⟨g2, 0, none⟩) n n) (flat Item.cells xs)) ∧ (Own w' ly uy 60 3 m (.slice (some ⟨g3, 0, none⟩) m m) (flat Item.cells ys)) ∧ (World.cell? w' ⟨g, 0, none⟩ = some (Value.slice A n c)) ∧ (World.cell? w' ⟨g, 1, none⟩ = some (Value.int IntKind.i64 o)) ∧ (World.cell? w' ⟨g, 2, none⟩ = some (Value.int IntKind.i64 t)) ∧ (World.cell? w' ⟨g, 3, none⟩ = some (Value.int IntKind.i64 p)) ∧ (World.cell? w' ⟨g1, 0, none⟩ = some (Value.slice B m d)) ∧ (World.cell? w' ⟨g1, 1, none⟩ = some (Value.int IntKind.i64 o')) ∧ (World.cell? w' ⟨g1, 2, none⟩ = some (Value.int IntKind.i64 t')) ∧ (World.cell? w' ⟨g1, 3, none⟩ = some (Value.int IntKind.i64 p')) ∧ (World.cell? w' ⟨gx, 0, none⟩ = some (Value.slice (some ⟨g2, 0, none⟩) n n)) ∧ (World.cell? w' ⟨gx, 1, none⟩ = some (Value.int IntKind.i64 o)) ∧ (World.cell? w' ⟨gx, 2, none⟩ = some (Value.int IntKind.i64 t)) ∧ (World.cell? w' ⟨gx, 3, none⟩ = some (Value.int IntKind.i64 p)) ∧ (World.cell? w' ⟨gy, 0, none⟩ = some (Value.slice (some ⟨g3, 0, none⟩) m m)) ∧ (World.cell? w' ⟨gy, 1, none⟩ = some (Value.int IntKind.i64 o')) ∧ (World.cell? w' ⟨gy, 2, none⟩ = some (Value.int IntKind.i64 t')) ∧ (World.cell? w' ⟨gy, 3, none⟩ = some (Value.int IntKind.i64 p'))) W.drew from ⟨hv.drew, hB0.below (Below.refl _ _).drew, hB1.below (Below.refl _ _).drew, hX.below (Below.refl _ _).drew, hY.below (Below.refl _ _).drew, hox.drew, hoy.drew, k0, k1, k2, k3, m0, m1, m2, m3, x0, x1, x2, x3, y0, y1, y2, y3⟩)
  clear y3 y2 y1 y0 x3 x2 x1 x0 m3 m2 m1 m0 k3 k2 k1 k0 hoy hox hY hX hB1 hB0 hv
  go_region_held3 (fun w' => (Below w.heap.size w w') ∧ (Blk w' g 24 #[Value.slice A n c, Value.int IntKind.i64 o, Value.int IntKind.i64 t, Value.int IntKind.i64 p]) ∧ (Blk w' g1 24 #[Value.slice B m d, Value.int IntKind.i64 o', Value.int IntKind.i64 t', Value.int IntKind.i64 p']) ∧ (Blk w' gx 29 #[Value.slice (some ⟨g2, 0, none⟩) n n, Value.int IntKind.i64 o, Value.int IntKind.i64 t, Value.int IntKind.i64 p]) ∧ (Blk w' gy 29 #[Value.slice (some ⟨g3, 0, none⟩) m m, Value.int IntKind.i64 o', Value.int IntKind.i64 t', Value.int IntKind.i64 p']) ∧ (Own w' lx ux 60 3 n (.slice (some ⟨g2, 0, none⟩) n n) (flat Item.cells xs)) ∧ (Own w' ly uy 60 3 m (.slice (some ⟨g3, 0, none⟩) m m) (flat Item.cells ys)) ∧ (World.cell? w' ⟨g, 0, none⟩ = some (Value.slice A n c)) ∧ (World.cell? w' ⟨g, 1, none⟩ = some (Value.int IntKind.i64 o)) ∧ (World.cell? w' ⟨g, 2, none⟩ = some (Value.int IntKind.i64 t)) ∧ (World.cell? w' ⟨g, 3, none⟩ = some (Value.int IntKind.i64 p)) ∧ (World.cell? w' ⟨g1, 0, none⟩ = some (Value.slice B m d)) ∧ (World.cell? w' ⟨g1, 1, none⟩ = some (Value.int IntKind.i64 o')) ∧ (World.cell? w' ⟨g1, 2, none⟩ = some (Value.int IntKind.i64 t')) ∧ (World.cell? w' ⟨g1, 3, none⟩ = some (Value.int IntKind.i64 p')) ∧ (World.cell? w' ⟨gx, 0, none⟩ = some (Value.slice (some ⟨g2, 0, none⟩) n n)) ∧ (World.cell? w' ⟨gx, 1, none⟩ = some (Value.int IntKind.i64 o)) ∧ (World.cell? w' ⟨gx, 2, none⟩ = some (Value.int IntKind.i64 t)) ∧ (World.cell? w' ⟨gx, 3, none⟩ = some (Value.int IntKind.i64 p)) ∧ (World.cell? w' ⟨gy, 0, none⟩ = some (Value.slice (some ⟨g3, 0, none⟩) m m)) ∧ (World.cell? w' ⟨gy, 1, none⟩ = some (Value.int IntKind.i64 o')) ∧ (World.cell? w' ⟨gy, 2, none⟩ = some (Value.int IntKind.i64 t')) ∧ (World.cell? w' ⟨gy, 3, none⟩ = some (Value.int IntKind.i64 p')))
    (first | exact HS.out | (go_split_ands; exact ⟨bl_trans (by assumption) hb, Blk.below (by assumption) hb, Blk.below (by assumption) hb, Blk.below (by assumption) hb, Blk.below (by assumption) hb, Own.below (by assumption) hb, Own.below (by assumption) hb, bl_cell hb (by assumption), bl_cell hb (by assumption), bl_cell hb (by assumption), bl_cell hb (by assumption), bl_cell hb (by assumption), bl_cell hb (by assumption), bl_cell hb (by assumption), bl_cell hb (by assumption), bl_cell hb (by assumption), bl_cell hb (by assumption), bl_cell hb (by assumption), bl_cell hb (by assumption), bl_cell hb (by assumption), bl_cell hb (by assumption), bl_cell hb (by assumption), bl_cell hb (by assumption)⟩))
    (first | (go_at_call 17; go_split_ands; refine (toBill_c _ _ _ _ _ _ _ (by assumption) (by assumption) _ (Arr.below (by assumption) (by assumption))).mono ?_; rintro e W ⟨gN, rfl, hownN, hbN⟩; have hb := hbN) | (go_at_call 19; go_split_ands; refine (eqBill_c _ _ _ _ _ _ _ _ _ _ _ _ _ _ (by assumption) (by assumption) (by assumption) _ (Own.arr (lo := lx) (hi := ux) (e := 60) (size := 3) (by assumption)) (Arr.own hownN)).mono ?_; rintro e W ⟨rfl, hb⟩))
  go_split_ands
  have hv := (by assumption : Below w.heap.size w _)
  have hB0 := (by assumption : Blk _ g 24 #[Value.slice A n c, Value.int IntKind.i64 o, Value.int IntKind.i64 t, Value.int IntKind.i64 p])
  have hB1 := (by assumption : Blk _ g1 24 #[Value.slice B m d, Value.int IntKind.i64 o', Value.int IntKind.i64 t', Value.int IntKind.i64 p'])
  have hX := (by assumption : Blk _ gx 29 #[Value.slice (some ⟨g2, 0, none⟩) n n, Value.int IntKind.i64 o, Value.int IntKind.i64 t, Value.int IntKind.i64 p])
  have hY := (by assumption : Blk _ gy 29 #[Value.slice (some ⟨g3, 0, none⟩) m m, Value.int IntKind.i64 o', Value.int IntKind.i64 t', Value.int IntKind.i64 p'])
  have hox := (by assumption : Own _ lx ux 60 3 n (.slice (some ⟨g2, 0, none⟩) n n) (flat Item.cells xs))
  have hoy := (by assumption : Own _ ly uy 60 3 m (.slice (some ⟨g3, 0, none⟩) m m) (flat Item.cells ys))
  have k0 := (by assumption : World.cell? _ ⟨g, 0, none⟩ = some (Value.slice A n c))
  have k1 := (by assumption : World.cell? _ ⟨g, 1, none⟩ = some (Value.int IntKind.i64 o))
  have k2 := (by assumption : World.cell? _ ⟨g, 2, none⟩ = some (Value.int IntKind.i64 t))
  have k3 := (by assumption : World.cell? _ ⟨g, 3, none⟩ = some (Value.int IntKind.i64 p))
  have m0 := (by assumption : World.cell? _ ⟨g1, 0, none⟩ = some (Value.slice B m d))
  have m1 := (by assumption : World.cell? _ ⟨g1, 1, none⟩ = some (Value.int IntKind.i64 o'))
  have m2 := (by assumption : World.cell? _ ⟨g1, 2, none⟩ = some (Value.int IntKind.i64 t'))
  have m3 := (by assumption : World.cell? _ ⟨g1, 3, none⟩ = some (Value.int IntKind.i64 p'))
  have x0 := (by assumption : World.cell? _ ⟨gx, 0, none⟩ = some (Value.slice (some ⟨g2, 0, none⟩) n n))
  have x1 := (by assumption : World.cell? _ ⟨gx, 1, none⟩ = some (Value.int IntKind.i64 o))
  have x2 := (by assumption : World.cell? _ ⟨gx, 2, none⟩ = some (Value.int IntKind.i64 t))
  have x3 := (by assumption : World.cell? _ ⟨gx, 3, none⟩ = some (Value.int IntKind.i64 p))
  have y0 := (by assumption : World.cell? _ ⟨gy, 0, none⟩ = some (Value.slice (some ⟨g3, 0, none⟩) m m))
  have y1 := (by assumption : World.cell? _ ⟨gy, 1, none⟩ = some (Value.int IntKind.i64 o'))
  have y2 := (by assumption : World.cell? _ ⟨gy, 2, none⟩ = some (Value.int IntKind.i64 t'))
  have y3 := (by assumption : World.cell? _ ⟨gy, 3, none⟩ = some (Value.int IntKind.i64 p'))
  go_wp2_with fail
  have HS := Lib.hid (show (fun w' : World => (Below w.heap.size w w') ∧ (Blk w' g 24 #[Value.slice A n c, Value.int IntKind.i64 o, Value.int IntKind.i64 t, Value.int IntKind.i64 p]) ∧ (Blk w' g1 24 #[Value.slice B m d, Value.int IntKind.i64 o', Value.int IntKind.i64 t', Value.int IntKind.i64 p']) ∧ (Blk w' gx 29 #[Value.slice (some ⟨g2, 0, none⟩) n n, Value.int IntKind.i64 o, Value.int IntKind.i64 t, Value.int IntKind.i64 p]) ∧ (Blk w' gy 29 #[Value.slice (some ⟨g3, 0, none⟩) m m, Value.int IntKind.i64 o', Value.int IntKind.i64 t', Value.int IntKind.i64 p']) ∧ (Own w' lx ux 60 3 n (.slice (some ⟨g2, 0, none⟩) n n) (flat Item.cells xs)) ∧ (Own w' ly uy 60 3 m (.slice (some ⟨g3, 0, none⟩) m m) (flat Item.cells ys)) ∧ (World.cell? w' ⟨g, 0, none⟩ = some (Value.slice A n c)) ∧ (World.cell? w' ⟨g, 1, none⟩ = some (Value.int IntKind.i64 o)) ∧ (World.cell? w' ⟨g, 2, none⟩ = some (Value.int IntKind.i64 t)) ∧ (World.cell? w' ⟨g, 3, none⟩ = some (Value.int IntKind.i64 p)) ∧ (World.cell? w' ⟨g1, 0, none⟩ = some (Value.slice B m d)) ∧ (World.cell? w' ⟨g1, 1, none⟩ = some (Value.int IntKind.i64 o')) ∧ (World.cell? w' ⟨g1, 2, none⟩ = some (Value.int IntKind.i64 t')) ∧ (World.cell? w' ⟨g1, 3, none⟩ = some (Value.int IntKind.i64 p')) ∧ (World.cell? w' ⟨gx, 0, none⟩ = some (Value.slice (some ⟨g2, 0, none⟩) n n)) ∧ (World.cell? w' ⟨gx, 1, none⟩ = some (Value.int IntKind.i64 o)) ∧ (World.cell? w' ⟨gx, 2, none⟩ = some (Value.int IntKind.i64 t)) ∧ (World.cell? w' ⟨gx, 3, none⟩ = some (Value.int IntKind.i64 p)) ∧ (World.cell? w' ⟨gy, 0, none⟩ = some (Value.slice (some ⟨g3, 0, none⟩) m m)) ∧ (World.cell? w' ⟨gy, 1, none⟩ = some (Value.int IntKind.i64 o')) ∧ (World.cell? w' ⟨gy, 2, none⟩ = some (Value.int IntKind.i64 t')) ∧ (World.cell? w' ⟨gy, 3, none⟩ = some (Value.int IntKind.i64 p'))) W.drew from ⟨hv.drew, hB0.below (Below.refl _ _).drew, hB1.below (Below.refl _ _).drew, hX.below (Below.refl _ _).drew, hY.below (Below.refl _ _).drew, hox.drew, hoy.drew, k0, k1, k2, k3, m0, m1, m2, m3, x0, x1, x2, x3, y0, y1, y2, y3⟩)
  clear y3 y2 y1 y0 x3 x2 x1 x0 m3 m2 m1 m0 k3 k2 k1 k0 hoy hox hY hX hB1 hB0 hv
  go_region_held3 (fun w' => (Below w.heap.size w w') ∧ (Blk w' g 24 #[Value.slice A n c, Value.int IntKind.i64 o, Value.int IntKind.i64 t, Value.int IntKind.i64 p]) ∧ (Blk w' g1 24 #[Value.slice B m d, Value.int IntKind.i64 o', Value.int IntKind.i64 t', Value.int IntKind.i64 p']) ∧ (Blk w' gx 29 #[Value.slice (some ⟨g2, 0, none⟩) n n, Value.int IntKind.i64 o, Value.int IntKind.i64 t, Value.int IntKind.i64 p]) ∧ (Blk w' gy 29 #[Value.slice (some ⟨g3, 0, none⟩) m m, Value.int IntKind.i64 o', Value.int IntKind.i64 t', Value.int IntKind.i64 p']) ∧ (Own w' lx ux 60 3 n (.slice (some ⟨g2, 0, none⟩) n n) (flat Item.cells xs)) ∧ (Own w' ly uy 60 3 m (.slice (some ⟨g3, 0, none⟩) m m) (flat Item.cells ys)) ∧ (World.cell? w' ⟨g, 0, none⟩ = some (Value.slice A n c)) ∧ (World.cell? w' ⟨g, 1, none⟩ = some (Value.int IntKind.i64 o)) ∧ (World.cell? w' ⟨g, 2, none⟩ = some (Value.int IntKind.i64 t)) ∧ (World.cell? w' ⟨g, 3, none⟩ = some (Value.int IntKind.i64 p)) ∧ (World.cell? w' ⟨g1, 0, none⟩ = some (Value.slice B m d)) ∧ (World.cell? w' ⟨g1, 1, none⟩ = some (Value.int IntKind.i64 o')) ∧ (World.cell? w' ⟨g1, 2, none⟩ = some (Value.int IntKind.i64 t')) ∧ (World.cell? w' ⟨g1, 3, none⟩ = some (Value.int IntKind.i64 p')) ∧ (World.cell? w' ⟨gx, 0, none⟩ = some (Value.slice (some ⟨g2, 0, none⟩) n n)) ∧ (World.cell? w' ⟨gx, 1, none⟩ = some (Value.int IntKind.i64 o)) ∧ (World.cell? w' ⟨gx, 2, none⟩ = some (Value.int IntKind.i64 t)) ∧ (World.cell? w' ⟨gx, 3, none⟩ = some (Value.int IntKind.i64 p)) ∧ (World.cell? w' ⟨gy, 0, none⟩ = some (Value.slice (some ⟨g3, 0, none⟩) m m)) ∧ (World.cell? w' ⟨gy, 1, none⟩ = some (Value.int IntKind.i64 o')) ∧ (World.cell? w' ⟨gy, 2, none⟩ = some (Value.int IntKind.i64 t')) ∧ (World.cell? w' ⟨gy, 3, none⟩ = some (Value.int IntKind.i64 p')))
    (first | exact HS.out | (go_split_ands; exact ⟨bl_trans (by assumption) hb, Blk.below (by assumption) hb, Blk.below (by assumption) hb, Blk.below (by assumption) hb, Blk.below (by assumption) hb, Own.below (by assumption) hb, Own.below (by assumption) hb, bl_cell hb (by assumption), bl_cell hb (by assumption), bl_cell hb (by assumption), bl_cell hb (by assumption), bl_cell hb (by assumption), bl_cell hb (by assumption), bl_cell hb (by assumption), bl_cell hb (by assumption), bl_cell hb (by assumption), bl_cell hb (by assumption), bl_cell hb (by assumption), bl_cell hb (by assumption), bl_cell hb (by assumption), bl_cell hb (by assumption), bl_cell hb (by assumption), bl_cell hb (by assumption)⟩))
    (first | (go_at_call 17; go_split_ands; refine (toBill_c _ _ _ _ _ _ _ (by assumption) (by assumption) _ (Arr.below (by assumption) (by assumption))).mono ?_; rintro e W ⟨gN, rfl, hownN, hbN⟩; have hb := hbN) | (go_at_call 19; go_split_ands; refine (eqBill_c _ _ _ _ _ _ _ _ _ _ _ _ _ _ (by assumption) (by assumption) (by assumption) _ (Own.arr (lo := ly) (hi := uy) (e := 60) (size := 3) (by assumption)) (Arr.own hownN)).mono ?_; rintro e W ⟨rfl, hb⟩))
  go_split_ands
  have hv := (by assumption : Below w.heap.size w _)
  have hB0 := (by assumption : Blk _ g 24 #[Value.slice A n c, Value.int IntKind.i64 o, Value.int IntKind.i64 t, Value.int IntKind.i64 p])
  have hB1 := (by assumption : Blk _ g1 24 #[Value.slice B m d, Value.int IntKind.i64 o', Value.int IntKind.i64 t', Value.int IntKind.i64 p'])
  have hX := (by assumption : Blk _ gx 29 #[Value.slice (some ⟨g2, 0, none⟩) n n, Value.int IntKind.i64 o, Value.int IntKind.i64 t, Value.int IntKind.i64 p])
  have hY := (by assumption : Blk _ gy 29 #[Value.slice (some ⟨g3, 0, none⟩) m m, Value.int IntKind.i64 o', Value.int IntKind.i64 t', Value.int IntKind.i64 p'])
  have hox := (by assumption : Own _ lx ux 60 3 n (.slice (some ⟨g2, 0, none⟩) n n) (flat Item.cells xs))
  have hoy := (by assumption : Own _ ly uy 60 3 m (.slice (some ⟨g3, 0, none⟩) m m) (flat Item.cells ys))
  have k0 := (by assumption : World.cell? _ ⟨g, 0, none⟩ = some (Value.slice A n c))
  have k1 := (by assumption : World.cell? _ ⟨g, 1, none⟩ = some (Value.int IntKind.i64 o))
  have k2 := (by assumption : World.cell? _ ⟨g, 2, none⟩ = some (Value.int IntKind.i64 t))
  have k3 := (by assumption : World.cell? _ ⟨g, 3, none⟩ = some (Value.int IntKind.i64 p))
  have m0 := (by assumption : World.cell? _ ⟨g1, 0, none⟩ = some (Value.slice B m d))
  have m1 := (by assumption : World.cell? _ ⟨g1, 1, none⟩ = some (Value.int IntKind.i64 o'))
  have m2 := (by assumption : World.cell? _ ⟨g1, 2, none⟩ = some (Value.int IntKind.i64 t'))
  have m3 := (by assumption : World.cell? _ ⟨g1, 3, none⟩ = some (Value.int IntKind.i64 p'))
  have x0 := (by assumption : World.cell? _ ⟨gx, 0, none⟩ = some (Value.slice (some ⟨g2, 0, none⟩) n n))
  have x1 := (by assumption : World.cell? _ ⟨gx, 1, none⟩ = some (Value.int IntKind.i64 o))
  have x2 := (by assumption : World.cell? _ ⟨gx, 2, none⟩ = some (Value.int IntKind.i64 t))
  have x3 := (by assumption : World.cell? _ ⟨gx, 3, none⟩ = some (Value.int IntKind.i64 p))
  have y0 := (by assumption : World.cell? _ ⟨gy, 0, none⟩ = some (Value.slice (some ⟨g3, 0, none⟩) m m))
  have y1 := (by assumption : World.cell? _ ⟨gy, 1, none⟩ = some (Value.int IntKind.i64 o'))
  have y2 := (by assumption : World.cell? _ ⟨gy, 2, none⟩ = some (Value.int IntKind.i64 t'))
  have y3 := (by assumption : World.cell? _ ⟨gy, 3, none⟩ = some (Value.int IntKind.i64 p'))
  go_wp2_with fail
  go_returns
  exact Ret.mk rfl hv

end Go.Proofs.Ytgohahcdkgbocaa
