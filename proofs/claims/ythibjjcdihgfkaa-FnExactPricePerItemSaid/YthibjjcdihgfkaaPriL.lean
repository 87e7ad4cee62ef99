/- The law on the prices of items, walked. -/
import Derived.Test.YthibjjcdihgfkaaPriA
import Derived.Test.YthibjjcdihgfkaaPriS
import Derived.Test.YthibjjcdihgfkaaBillM
namespace Go.Proofs.Ythibjjcdihgfkaa
open Go.RowKit


theorem eqInt64S_same (A B : Option Addr) (xs : List Int) (n c d : Nat) (hn : Hid (xs.length = n)) (hz : (n : Int) ≤ 9223372036854775807) (w : World) (hA : Arr w A (flat icell xs)) (hB : Arr w B (flat icell xs)) :
    Calls Try.prog 28 #[.slice A n c, .slice B n d] w (Ret (.bool true) w) := by
  have h := eqInt64S_c A B xs xs n n c d hn hn hz w hA hB
  rwa [decide_eq_true rfl] at h
theorem iPrice_len (xs : List Item) (o t p : Int) : (iPrice xs o t p).length ≤ 60 := by
  unfold iPrice
  split
  case isTrue h =>
    have h1 := (few_of_all (by simp only [billB, Bool.and_eq_true, decide_eq_true_eq] at h; exact h.1.1.1.1) (by simp only [billB, Bool.and_eq_true] at h; exact h.1.2)).1
    split
    · simp
    · rw [prL_length]; omega
  case isFalse => simp
set_option maxRecDepth 100000 in
set_option maxHeartbeats 1600000 in
theorem FnExactPricePerItem_law (A : Option Addr) (xs : List Item) (n c : Nat) (o t p : Int) (hn : Hid (xs.length = n))  (hmax : n ≤ 9223372036854775807) (hs : Hid (∀ x ∈ xs, x.name.size ≤ 9223372036854775807)) (w : World) (hA : Arr w A (flat Item.cells xs)) :
    Calls Try.prog 6 #[.agg #[.slice A n c, .int .i64 o, .int .i64 t, .int .i64 p]] w (Ret (.bool true) w) := by
  have hself : listBeq Item.beq xs xs = true := (listBeq_iff Item.beq_iff xs xs).2 rfl
  have hle := szS_le Item.sizes xs 1048576 (by omega)
  go_enter Try.func6, Try.ntmps6
  go_wp2_with fail
  obtain ⟨w0, hw0⟩ : ∃ w0, w0 = w.alloc (Obj.cells #[Value.slice A n c, Value.int IntKind.i64 o, Value.int IntKind.i64 t, Value.int IntKind.i64 p] 54) := ⟨_, rfl⟩
  obtain ⟨g, hg⟩ : ∃ g, g = w.heap.size := ⟨_, rfl⟩
  have hb0 : Below w.heap.size w w0 := by rw [hw0]; exact bl_alloc (Below.refl _ _) _
  have hB0 : Blk w0 g 54 #[Value.slice A n c, Value.int IntKind.i64 o, Value.int IntKind.i64 t, Value.int IntKind.i64 p] := by rw [hw0, hg]; exact Blk.new _ _ _
  rw [← hw0, ← hg]
  clear hw0
  have HG := Lib.hid hg
  clear hg
  refine (szBill_c A xs n c o t p hn 1048576 hmax hs (by omega) (by omega) _ (hA.below hb0)).mono ?_
  rintro e W ⟨rfl, hb⟩
  have hv := bl_trans hb0 hb
  replace hB0 := hB0.below hb
  have k0 : W.cell? ⟨g, 0, none⟩ = some (.slice A n c) := hB0.cell 0
  have k1 : W.cell? ⟨g, 1, none⟩ = some (.int .i64 o) := hB0.cell 1
  have k2 : W.cell? ⟨g, 2, none⟩ = some (.int .i64 t) := hB0.cell 2
  have k3 : W.cell? ⟨g, 3, none⟩ = some (.int .i64 p) := hB0.cell 3
  obtain ⟨q, hq'⟩ : ∃ q, q = szS Item.sizes xs 1048576 := ⟨_, rfl⟩
  rw [← hq'] at hle ⊢
  by_cases hq : q < 0
  · clear hq'
    go_wp2_with fail
    go_returns
    exact Ret.mk rfl hv
  have hz : (n : Int) ≤ 1048576 := by rw [← hn.out]; exact szS_len (by rw [← hq']; omega) (by omega)
  clear hq'
  obtain ⟨l, hl⟩ : ∃ l, l = iPrice xs o t p := ⟨_, rfl⟩
  obtain ⟨co, hco⟩ : ∃ co, co = cPrice xs o t p := ⟨_, rfl⟩
  have hlen : l.length ≤ 60 := by rw [hl]; exact iPrice_len _ _ _ _
  obtain ⟨r, hr⟩ : ∃ r, r = l.length := ⟨_, rfl⟩
  have HW := fun (a : Option Addr) (w : World) (h : Arr w a (flat Item.cells xs)) => SPricePerItem_c a xs n n o t p hn hz hs w h
  have HG' := fun (a : Option Addr) (w : World) (h : Arr w a (flat Item.cells xs)) => PricePerItem_c a xs n n o t p hn hz hs w h
  rw [← hl, ← hco, ← hr] at HW HG'
  rw [← hr] at hlen
  have hr1 := Lib.hid hr.symm
  clear hl hco hr
  replace HW := Lib.hid HW
  replace HG' := Lib.hid HG'
  have z0 := Lib.hid hB0.lt
  have z1 := Lib.hid hv.size
  have HG1 := HG.out
  have z2 := Lib.hid (Nat.le_of_eq HG1.symm)
  clear HG1
  go_wp2_with fail
  refine (toBill_c A xs n c o t p hn hz _ (hA.below hv)).mono ?_
  rintro e W ⟨g1, rfl, hown1, hb⟩
  have z3 := Lib.hid hb.size
  replace hv := bl_trans hv hb
  replace hB0 := hB0.below hb
  clear hb
  have k0 : W.cell? ⟨g, 0, none⟩ = some (.slice A n c) := hB0.cell 0
  have k1 : W.cell? ⟨g, 1, none⟩ = some (.int .i64 o) := hB0.cell 1
  have k2 : W.cell? ⟨g, 2, none⟩ = some (.int .i64 t) := hB0.cell 2
  have k3 : W.cell? ⟨g, 3, none⟩ = some (.int .i64 p) := hB0.cell 3
  go_wp2_with fail
  refine (HW.out _ _ (Arr.own hown1)).mono ?_
  rintro e W ⟨Aw, cw, rfl, how, hb⟩
  clear hown1
  obtain ⟨lw, uw, h_own, z4, z5⟩ := Own.named how hb
  replace how := h_own
  clear h_own
  have z6 := Lib.hid hb.size
  replace hv := bl_trans hv hb
  replace hB0 := hB0.below hb
  clear hb
  have k0 : W.cell? ⟨g, 0, none⟩ = some (.slice A n c) := hB0.cell 0
  have k1 : W.cell? ⟨g, 1, none⟩ = some (.int .i64 o) := hB0.cell 1
  have k2 : W.cell? ⟨g, 2, none⟩ = some (.int .i64 t) := hB0.cell 2
  have k3 : W.cell? ⟨g, 3, none⟩ = some (.int .i64 p) := hB0.cell 3
  go_wp2_with fail
  refine (toBill_c A xs n c o t p hn hz _ (hA.below hv)).mono ?_
  rintro e W ⟨g2, rfl, hox, hb⟩
  obtain ⟨lx, ux, h_own, z7, z8⟩ := Own.named hox hb
  replace hox := h_own
  clear h_own
  have z9 := Lib.hid hb.size
  replace hv := bl_trans hv hb
  replace hB0 := hB0.below hb
  replace how := how.below hb
  clear hb
  have k0 : W.cell? ⟨g, 0, none⟩ = some (.slice A n c) := hB0.cell 0
  have k1 : W.cell? ⟨g, 1, none⟩ = some (.int .i64 o) := hB0.cell 1
  have k2 : W.cell? ⟨g, 2, none⟩ = some (.int .i64 t) := hB0.cell 2
  have k3 : W.cell? ⟨g, 3, none⟩ = some (.int .i64 p) := hB0.cell 3
  go_wp2_with fail
  obtain ⟨W0, hW0⟩ : ∃ W0, W0 = W.alloc (Obj.cells #[Value.slice (some ⟨g2, 0, none⟩) n n, Value.int IntKind.i64 o, Value.int IntKind.i64 t, Value.int IntKind.i64 p] 60) := ⟨_, rfl⟩
  obtain ⟨gx, hgx⟩ : ∃ gx, gx = W.heap.size := ⟨_, rfl⟩
  have hb : Below W.heap.size W W0 := by rw [hW0]; exact bl_alloc (Below.refl _ _) _
  have hX : Blk W0 gx 60 #[Value.slice (some ⟨g2, 0, none⟩) n n, Value.int IntKind.i64 o, Value.int IntKind.i64 t, Value.int IntKind.i64 p] := by rw [hW0, hgx]; exact Blk.new _ _ _
  rw [← hW0, ← hgx]
  clear hW0 hgx
  have z10 := Lib.hid hb.size
  replace hv := bl_trans hv hb
  replace hB0 := hB0.below hb
  replace how := how.below hb
  replace hox := hox.below hb
  clear hb
  have k0 : W0.cell? ⟨g, 0, none⟩ = some (.slice A n c) := hB0.cell 0
  have k1 : W0.cell? ⟨g, 1, none⟩ = some (.int .i64 o) := hB0.cell 1
  have k2 : W0.cell? ⟨g, 2, none⟩ = some (.int .i64 t) := hB0.cell 2
  have k3 : W0.cell? ⟨g, 3, none⟩ = some (.int .i64 p) := hB0.cell 3
  have k0 : W0.cell? ⟨g, 0, none⟩ = some (.slice A n c) := hB0.cell 0
  have k1 : W0.cell? ⟨g, 1, none⟩ = some (.int .i64 o) := hB0.cell 1
  have k2 : W0.cell? ⟨g, 2, none⟩ = some (.int .i64 t) := hB0.cell 2
  have k3 : W0.cell? ⟨g, 3, none⟩ = some (.int .i64 p) := hB0.cell 3
  have x0 : W0.cell? ⟨gx, 0, none⟩ = some (.slice (some ⟨g2, 0, none⟩) n n) := hX.cell 0
  have x1 : W0.cell? ⟨gx, 1, none⟩ = some (.int .i64 o) := hX.cell 1
  have x2 : W0.cell? ⟨gx, 2, none⟩ = some (.int .i64 t) := hX.cell 2
  have x3 : W0.cell? ⟨gx, 3, none⟩ = some (.int .i64 p) := hX.cell 3
  go_wp2_with fail
  refine (HG'.out _ _ hox.arr).mono ?_
  rintro e W ⟨Ag, cg, rfl, hog, hb⟩
  obtain ⟨lg, ug, h_own, z11, z12⟩ := Own.named hog hb
  replace hog := h_own
  clear h_own
  have z13 := Lib.hid hb.size
  replace hv := bl_trans hv hb
  replace hB0 := hB0.below hb
  replace hX := hX.below hb
  replace how := how.below hb
  replace hox := hox.below hb
  clear hb
  have k0 : W.cell? ⟨g, 0, none⟩ = some (.slice A n c) := hB0.cell 0
  have k1 : W.cell? ⟨g, 1, none⟩ = some (.int .i64 o) := hB0.cell 1
  have k2 : W.cell? ⟨g, 2, none⟩ = some (.int .i64 t) := hB0.cell 2
  have k3 : W.cell? ⟨g, 3, none⟩ = some (.int .i64 p) := hB0.cell 3
  have x0 : W.cell? ⟨gx, 0, none⟩ = some (.slice (some ⟨g2, 0, none⟩) n n) := hX.cell 0
  have x1 : W.cell? ⟨gx, 1, none⟩ = some (.int .i64 o) := hX.cell 1
  have x2 : W.cell? ⟨gx, 2, none⟩ = some (.int .i64 t) := hX.cell 2
  have x3 : W.cell? ⟨gx, 3, none⟩ = some (.int .i64 p) := hX.cell 3
  go_wp2_with fail
  refine (eqInt64S_same Ag Aw l r cg cw hr1 (by omega) _ hog.arr how.arr).mono ?_
  rintro e W ⟨rfl, hb⟩
  have z14 := Lib.hid hb.size
  replace hv := bl_trans hv hb
  replace hB0 := hB0.below hb
  replace hX := hX.below hb
  replace how := how.below hb
  replace hox := hox.below hb
  replace hog := hog.below hb
  clear hb
  have k0 : W.cell? ⟨g, 0, none⟩ = some (.slice A n c) := hB0.cell 0
  have k1 : W.cell? ⟨g, 1, none⟩ = some (.int .i64 o) := hB0.cell 1
  have k2 : W.cell? ⟨g, 2, none⟩ = some (.int .i64 t) := hB0.cell 2
  have k3 : W.cell? ⟨g, 3, none⟩ = some (.int .i64 p) := hB0.cell 3
  have x0 : W.cell? ⟨gx, 0, none⟩ = some (.slice (some ⟨g2, 0, none⟩) n n) := hX.cell 0
  have x1 : W.cell? ⟨gx, 1, none⟩ = some (.int .i64 o) := hX.cell 1
  have x2 : W.cell? ⟨gx, 2, none⟩ = some (.int .i64 t) := hX.cell 2
  have x3 : W.cell? ⟨gx, 3, none⟩ = some (.int .i64 p) := hX.cell 3
  go_wp2_with fail
  have HS := Lib.hid (show (fun w' : World => (Below w.heap.size w w') ∧ (Blk w' g 54 #[.slice A n c, .int .i64 o, .int .i64 t, .int .i64 p]) ∧ (Blk w' gx 60 #[.slice (some ⟨g2, 0, none⟩) n n, .int .i64 o, .int .i64 t, .int .i64 p]) ∧ (Own w' lw uw 2 1 r (.slice Aw r cw) (flat icell l)) ∧ (Own w' lx ux 108 3 n (.slice (some ⟨g2, 0, none⟩) n n) (flat Item.cells xs)) ∧ (Own w' lg ug 2 1 r (.slice Ag r cg) (flat icell l)) ∧ (World.cell? w' ⟨g, 0, none⟩ = some (.slice A n c)) ∧ (World.cell? w' ⟨g, 1, none⟩ = some (.int .i64 o)) ∧ (World.cell? w' ⟨g, 2, none⟩ = some (.int .i64 t)) ∧ (World.cell? w' ⟨g, 3, none⟩ = some (.int .i64 p)) ∧ (World.cell? w' ⟨gx, 0, none⟩ = some (.slice (some ⟨g2, 0, none⟩) n n)) ∧ (World.cell? w' ⟨gx, 1, none⟩ = some (.int .i64 o)) ∧ (World.cell? w' ⟨gx, 2, none⟩ = some (.int .i64 t)) ∧ (World.cell? w' ⟨gx, 3, none⟩ = some (.int .i64 p))) W.drew from ⟨hv.drew, hB0.below (Below.refl _ _).drew, hX.below (Below.refl _ _).drew, how.drew, hox.drew, hog.drew, k0, k1, k2, k3, x0, x1, x2, x3⟩)
  clear x3 x2 x1 x0 k3 k2 k1 k0 hog hox how hX hB0 hv
  go_region_held3 (fun w' => (Below w.heap.size w w') ∧ (Blk w' g 54 #[.slice A n c, .int .i64 o, .int .i64 t, .int .i64 p]) ∧ (Blk w' gx 60 #[.slice (some ⟨g2, 0, none⟩) n n, .int .i64 o, .int .i64 t, .int .i64 p]) ∧ (Own w' lw uw 2 1 r (.slice Aw r cw) (flat icell l)) ∧ (Own w' lx ux 108 3 n (.slice (some ⟨g2, 0, none⟩) n n) (flat Item.cells xs)) ∧ (Own w' lg ug 2 1 r (.slice Ag r cg) (flat icell l)) ∧ (World.cell? w' ⟨g, 0, none⟩ = some (.slice A n c)) ∧ (World.cell? w' ⟨g, 1, none⟩ = some (.int .i64 o)) ∧ (World.cell? w' ⟨g, 2, none⟩ = some (.int .i64 t)) ∧ (World.cell? w' ⟨g, 3, none⟩ = some (.int .i64 p)) ∧ (World.cell? w' ⟨gx, 0, none⟩ = some (.slice (some ⟨g2, 0, none⟩) n n)) ∧ (World.cell? w' ⟨gx, 1, none⟩ = some (.int .i64 o)) ∧ (World.cell? w' ⟨gx, 2, none⟩ = some (.int .i64 t)) ∧ (World.cell? w' ⟨gx, 3, none⟩ = some (.int .i64 p)))
    (first | exact HS.out | (go_split_ands; exact ⟨bl_trans (by assumption) hb, Blk.below (by assumption) hb, Blk.below (by assumption) hb, Own.below (by assumption) hb, Own.below (by assumption) hb, Own.below (by assumption) hb, bl_cell hb (by assumption), bl_cell hb (by assumption), bl_cell hb (by assumption), bl_cell hb (by assumption), bl_cell hb (by assumption), bl_cell hb (by assumption), bl_cell hb (by assumption), bl_cell hb (by assumption)⟩))
    (first | (go_at_call 26; go_split_ands; refine (toBill_c A xs n c o t p hn hz _ (hA.below (by assumption))).mono ?_; rintro e W ⟨g3, rfl, hown3, hb⟩) | (go_at_call 29; go_split_ands; refine (eqBill_c _ _ xs xs n n n n o t p o t p hn hn hz _ (Own.arr (lo := lx) (hi := ux) (e := 108) (size := 3) (by assumption)) (Arr.own hown3)).mono ?_; rintro e W ⟨rfl, hb⟩))
  go_split_ands
  have hv := (by assumption : Below w.heap.size w _)
  have hB0 := (by assumption : Blk _ g 54 #[.slice A n c, .int .i64 o, .int .i64 t, .int .i64 p])
  have hX := (by assumption : Blk _ gx 60 #[.slice (some ⟨g2, 0, none⟩) n n, .int .i64 o, .int .i64 t, .int .i64 p])
  have how := (by assumption : Own _ lw uw 2 1 r (.slice Aw r cw) (flat icell l))
  have hox := (by assumption : Own _ lx ux 108 3 n (.slice (some ⟨g2, 0, none⟩) n n) (flat Item.cells xs))
  have hog := (by assumption : Own _ lg ug 2 1 r (.slice Ag r cg) (flat icell l))
  have k0 := (by assumption : World.cell? _ ⟨g, 0, none⟩ = some (.slice A n c))
  have k1 := (by assumption : World.cell? _ ⟨g, 1, none⟩ = some (.int .i64 o))
  have k2 := (by assumption : World.cell? _ ⟨g, 2, none⟩ = some (.int .i64 t))
  have k3 := (by assumption : World.cell? _ ⟨g, 3, none⟩ = some (.int .i64 p))
  have x0 := (by assumption : World.cell? _ ⟨gx, 0, none⟩ = some (.slice (some ⟨g2, 0, none⟩) n n))
  have x1 := (by assumption : World.cell? _ ⟨gx, 1, none⟩ = some (.int .i64 o))
  have x2 := (by assumption : World.cell? _ ⟨gx, 2, none⟩ = some (.int .i64 t))
  have x3 := (by assumption : World.cell? _ ⟨gx, 3, none⟩ = some (.int .i64 p))
  go_wp2_with fail
  clear x0 x1 x2 x3
  clear hX
  refine (markBill_c (some ⟨g2, 0, none⟩) n n lx o t p _ 1 (by omega) (by omega) (by omega) _ hox.1).mono ?_
  rintro e W ⟨rfl, cs', hown, hg⟩
  have y0 := z0.out
  have y1 := z1.out
  have y2 := z2.out
  have y3 := z3.out
  have y4 := z4.out
  have y5 := z5.out
  have y6 := z6.out
  have y7 := z7.out
  have y8 := z8.out
  have y9 := z9.out
  have y10 := z10.out
  have y11 := z11.out
  have y12 := z12.out
  have y13 := z13.out
  have y14 := z14.out
  have hr := hox.row
  have l_how := how.2.1
  have l_hox := hox.2.1
  have l_hog := hog.2.1
  replace hv := bl_grown hv hg (fun k e => by have h1 := hr k e; omega)
  replace hB0 := hB0.grown hg (fun e => by have h1 := hr _ e.symm; omega)
  replace how := how.grown hg (fun k e => by have h1 := hr k e; omega)
  replace hog := hog.grown hg (fun k e => by have h1 := hr k e; omega)
  replace hox := hox.marked hg hown
  clear hg hown hr l_how l_hox l_hog
  clear y0 y1 y2 y3 y4 y5 y6 y7 y8 y9 y10 y11 y12 y13 y14
  have k0 : W.cell? ⟨g, 0, none⟩ = some (.slice A n c) := hB0.cell 0
  have k1 : W.cell? ⟨g, 1, none⟩ = some (.int .i64 o) := hB0.cell 1
  have k2 : W.cell? ⟨g, 2, none⟩ = some (.int .i64 t) := hB0.cell 2
  have k3 : W.cell? ⟨g, 3, none⟩ = some (.int .i64 p) := hB0.cell 3
  go_wp2_with fail
  refine (eqInt64S_same Ag Aw l r cg cw hr1 (by omega) _ hog.arr how.arr).mono ?_
  rintro e W ⟨rfl, hb⟩
  have z15 := Lib.hid hb.size
  replace hv := bl_trans hv hb
  replace hB0 := hB0.below hb
  replace how := how.below hb
  replace hox := hox.below hb
  replace hog := hog.below hb
  clear hb
  have k0 : W.cell? ⟨g, 0, none⟩ = some (.slice A n c) := hB0.cell 0
  have k1 : W.cell? ⟨g, 1, none⟩ = some (.int .i64 o) := hB0.cell 1
  have k2 : W.cell? ⟨g, 2, none⟩ = some (.int .i64 t) := hB0.cell 2
  have k3 : W.cell? ⟨g, 3, none⟩ = some (.int .i64 p) := hB0.cell 3
  go_wp2_with fail
  refine (markInt64S_c Ag r cg lg _ 1 (by omega) (by omega) (by omega) _ hog.1).mono ?_
  rintro e W ⟨rfl, hown, hg⟩
  have y0 := z0.out
  have y1 := z1.out
  have y2 := z2.out
  have y3 := z3.out
  have y4 := z4.out
  have y5 := z5.out
  have y6 := z6.out
  have y7 := z7.out
  have y8 := z8.out
  have y9 := z9.out
  have y10 := z10.out
  have y11 := z11.out
  have y12 := z12.out
  have y13 := z13.out
  have y14 := z14.out
  have y15 := z15.out
  have hr := hog.row
  have l_how := how.2.1
  have l_hox := hox.2.1
  have l_hog := hog.2.1
  replace hv := bl_grown hv hg (fun k e => by have h1 := hr k e; omega)
  replace hB0 := hB0.grown hg (fun e => by have h1 := hr _ e.symm; omega)
  replace how := how.grown hg (fun k e => by have h1 := hr k e; omega)
  replace hox := hox.grown hg (fun k e => by have h1 := hr k e; omega)
  replace hog := hog.marked hg hown
  clear hg hown hr l_how l_hox l_hog
  clear y0 y1 y2 y3 y4 y5 y6 y7 y8 y9 y10 y11 y12 y13 y14 y15
  have k0 : W.cell? ⟨g, 0, none⟩ = some (.slice A n c) := hB0.cell 0
  have k1 : W.cell? ⟨g, 1, none⟩ = some (.int .i64 o) := hB0.cell 1
  have k2 : W.cell? ⟨g, 2, none⟩ = some (.int .i64 t) := hB0.cell 2
  have k3 : W.cell? ⟨g, 3, none⟩ = some (.int .i64 p) := hB0.cell 3
  go_wp2_with fail
  refine (heldInt64S_c Ag r cg 1 (by omega) (by omega) (by omega) _ hog.arr).mono ?_
  rintro e W ⟨rfl, hb⟩
  have z16 := Lib.hid hb.size
  replace hv := bl_trans hv hb
  replace hB0 := hB0.below hb
  replace how := how.below hb
  replace hox := hox.below hb
  replace hog := hog.below hb
  clear hb
  have k0 : W.cell? ⟨g, 0, none⟩ = some (.slice A n c) := hB0.cell 0
  have k1 : W.cell? ⟨g, 1, none⟩ = some (.int .i64 o) := hB0.cell 1
  have k2 : W.cell? ⟨g, 2, none⟩ = some (.int .i64 t) := hB0.cell 2
  have k3 : W.cell? ⟨g, 3, none⟩ = some (.int .i64 p) := hB0.cell 3
  go_wp2_with fail
  refine (toBill_c A xs n c o t p hn hz _ (hA.below hv)).mono ?_
  rintro e W ⟨g4, rfl, hoy, hb⟩
  obtain ⟨ly, uy, h_own, z17, z18⟩ := Own.named hoy hb
  replace hoy := h_own
  clear h_own
  have z19 := Lib.hid hb.size
  replace hv := bl_trans hv hb
  replace hB0 := hB0.below hb
  replace how := how.below hb
  replace hox := hox.below hb
  replace hog := hog.below hb
  clear hb
  have k0 : W.cell? ⟨g, 0, none⟩ = some (.slice A n c) := hB0.cell 0
  have k1 : W.cell? ⟨g, 1, none⟩ = some (.int .i64 o) := hB0.cell 1
  have k2 : W.cell? ⟨g, 2, none⟩ = some (.int .i64 t) := hB0.cell 2
  have k3 : W.cell? ⟨g, 3, none⟩ = some (.int .i64 p) := hB0.cell 3
  go_wp2_with fail
  refine (HG'.out _ _ hoy.arr).mono ?_
  rintro e W ⟨Ah, ch, rfl, hoh, hb⟩
  obtain ⟨lh, uh, h_own, z20, z21⟩ := Own.named hoh hb
  replace hoh := h_own
  clear h_own
  have z22 := Lib.hid hb.size
  replace hv := bl_trans hv hb
  replace hB0 := hB0.below hb
  replace how := how.below hb
  replace hox := hox.below hb
  replace hog := hog.below hb
  replace hoy := hoy.below hb
  clear hb
  have k0 : W.cell? ⟨g, 0, none⟩ = some (.slice A n c) := hB0.cell 0
  have k1 : W.cell? ⟨g, 1, none⟩ = some (.int .i64 o) := hB0.cell 1
  have k2 : W.cell? ⟨g, 2, none⟩ = some (.int .i64 t) := hB0.cell 2
  have k3 : W.cell? ⟨g, 3, none⟩ = some (.int .i64 p) := hB0.cell 3
  go_wp2_with fail
  refine (eqInt64S_same Ah Aw l r ch cw hr1 (by omega) _ hoh.arr how.arr).mono ?_
  rintro e W ⟨rfl, hb⟩
  have z23 := Lib.hid hb.size
  replace hv := bl_trans hv hb
  replace hB0 := hB0.below hb
  replace how := how.below hb
  replace hox := hox.below hb
  replace hog := hog.below hb
  replace hoy := hoy.below hb
  replace hoh := hoh.below hb
  clear hb
  have k0 : W.cell? ⟨g, 0, none⟩ = some (.slice A n c) := hB0.cell 0
  have k1 : W.cell? ⟨g, 1, none⟩ = some (.int .i64 o) := hB0.cell 1
  have k2 : W.cell? ⟨g, 2, none⟩ = some (.int .i64 t) := hB0.cell 2
  have k3 : W.cell? ⟨g, 3, none⟩ = some (.int .i64 p) := hB0.cell 3
  go_wp2_with fail
  refine (heldInt64S_c Ag r cg 1 (by omega) (by omega) (by omega) _ hog.arr).mono ?_
  rintro e W ⟨rfl, hb⟩
  have z24 := Lib.hid hb.size
  replace hv := bl_trans hv hb
  replace hB0 := hB0.below hb
  replace how := how.below hb
  replace hox := hox.below hb
  replace hog := hog.below hb
  replace hoy := hoy.below hb
  replace hoh := hoh.below hb
  clear hb
  have k0 : W.cell? ⟨g, 0, none⟩ = some (.slice A n c) := hB0.cell 0
  have k1 : W.cell? ⟨g, 1, none⟩ = some (.int .i64 o) := hB0.cell 1
  have k2 : W.cell? ⟨g, 2, none⟩ = some (.int .i64 t) := hB0.cell 2
  have k3 : W.cell? ⟨g, 3, none⟩ = some (.int .i64 p) := hB0.cell 3
  go_wp2_with fail
  go_returns
  exact Ret.mk rfl hv

end Go.Proofs.Ythibjjcdihgfkaa
