/- The law on the least percentage, walked. -/
import Derived.Test.YtgohahcdkgbocaaBillO
namespace Go.Proofs.Ytgohahcdkgbocaa
open Go.RowKit


theorem rOff_form_OffFor (xs : List Item) (o t p m : Int) : ∃ ra rb : Int, rOff xs o t p m = #[.int .i64 ra, .int .i64 rb] := by
  unfold rOff
  repeat' split
  all_goals exact ⟨_, _, rfl⟩

set_option maxRecDepth 100000 in
set_option maxHeartbeats 1600000 in
theorem FnExactOffFor_law (A : Option Addr) (xs : List Item) (n c : Nat) (o t p : Int) (hn : Hid (xs.length = n)) (m : Int) (hmax : n ≤ 9223372036854775807) (hs : Hid (∀ x ∈ xs, x.name.size ≤ 9223372036854775807)) (w : World) (hA : Arr w A (flat Item.cells xs)) :
    Calls Try.prog 10 #[.agg #[.slice A n c, .int .i64 o, .int .i64 t, .int .i64 p], .int .i64 m] w (Ret (.bool true) w) := by
  have hself : listBeq Item.beq xs xs = true := (listBeq_iff Item.beq_iff xs xs).2 rfl
  have hle := szS_le Item.sizes xs 1048576 (by omega)
  go_enter Try.func10, Try.ntmps10
  go_wp2_with fail
  obtain ⟨w0, hw0⟩ : ∃ w0, w0 = w.alloc (Obj.cells #[Value.slice A n c, Value.int IntKind.i64 o, Value.int IntKind.i64 t, Value.int IntKind.i64 p] 24) := ⟨_, rfl⟩
  obtain ⟨g, hg⟩ : ∃ g, g = w.heap.size := ⟨_, rfl⟩
  have hb0 : Below w.heap.size w w0 := by rw [hw0]; exact bl_alloc (Below.refl _ _) _
  have hB0 : Blk w0 g 24 #[Value.slice A n c, Value.int IntKind.i64 o, Value.int IntKind.i64 t, Value.int IntKind.i64 p] := by rw [hw0, hg]; exact Blk.new _ _ _
  rw [← hw0, ← hg]
  clear hw0
  have HG := Lib.hid hg
  clear hg
  refine (szBill_c A xs n c o t p hn 1048576 hmax hs (by omega) (by omega) _ (hA.below hb0)).mono ?_
  rintro e W ⟨rfl, hb⟩
  have hv := bl_trans hb0 hb
  replace hB0 := hB0.below hb
  have k0 : W.cell? ⟨g, 0, none⟩ = some (.slice A n c) := hB0.cell 0
  have k1 : W.cell? ⟨g, 1, none⟩ = some (.int .i64 o) := hB0.cell 1
  have k2 : W.cell? ⟨g, 2, none⟩ = some (.int .i64 t) := hB0.cell 2
  have k3 : W.cell? ⟨g, 3, none⟩ = some (.int .i64 p) := hB0.cell 3
  obtain ⟨q, hq'⟩ : ∃ q, q = szS Item.sizes xs 1048576 := ⟨_, rfl⟩
  rw [← hq'] at hle ⊢
  by_cases hq : q < 0
  · clear hq'
    go_wp2_with fail
    go_returns
    exact Ret.mk rfl hv
  have hz : (n : Int) ≤ 1048576 := by rw [← hn.out]; exact szS_len (by rw [← hq']; omega) (by omega)
  clear hq'
  obtain ⟨ra, rb, hform⟩ := rOff_form_OffFor xs o t p m
  have HF := Lib.hid hform
  clear hform
  go_wp2_with fail
  refine (toBill_c A xs n c o t p hn hz _ (hA.below hv)).mono ?_
  rintro e W ⟨g1, rfl, hown1, hb⟩
  replace hv := bl_trans hv hb
  replace hB0 := hB0.below hb
  have k0 : W.cell? ⟨g, 0, none⟩ = some (.slice A n c) := hB0.cell 0
  have k1 : W.cell? ⟨g, 1, none⟩ = some (.int .i64 o) := hB0.cell 1
  have k2 : W.cell? ⟨g, 2, none⟩ = some (.int .i64 t) := hB0.cell 2
  have k3 : W.cell? ⟨g, 3, none⟩ = some (.int .i64 p) := hB0.cell 3
  go_wp2_with fail
  refine (SOffFor_c _ xs n n o t p hn m hz hs _ (Arr.own hown1)).mono ?_
  rintro e W ⟨rfl, hb⟩
  rw [HF.out]
  replace hv := bl_trans hv hb
  replace hB0 := hB0.below hb
  have k0 : W.cell? ⟨g, 0, none⟩ = some (.slice A n c) := hB0.cell 0
  have k1 : W.cell? ⟨g, 1, none⟩ = some (.int .i64 o) := hB0.cell 1
  have k2 : W.cell? ⟨g, 2, none⟩ = some (.int .i64 t) := hB0.cell 2
  have k3 : W.cell? ⟨g, 3, none⟩ = some (.int .i64 p) := hB0.cell 3
  go_wp2_with fail
  refine (toBill_c A xs n c o t p hn hz _ (hA.below hv)).mono ?_
  rintro e W ⟨g2, rfl, hown2, hb⟩
  replace hv := bl_trans hv hb
  replace hB0 := hB0.below hb
  have k0 : W.cell? ⟨g, 0, none⟩ = some (.slice A n c) := hB0.cell 0
  have k1 : W.cell? ⟨g, 1, none⟩ = some (.int .i64 o) := hB0.cell 1
  have k2 : W.cell? ⟨g, 2, none⟩ = some (.int .i64 t) := hB0.cell 2
  have k3 : W.cell? ⟨g, 3, none⟩ = some (.int .i64 p) := hB0.cell 3
  go_wp2_with fail
  obtain ⟨W0, hW0⟩ : ∃ W0, W0 = W.alloc (Obj.cells #[Value.slice (some ⟨g2, 0, none⟩) n n, Value.int IntKind.i64 o, Value.int IntKind.i64 t, Value.int IntKind.i64 p] 29) := ⟨_, rfl⟩
  obtain ⟨gx, hgx⟩ : ∃ gx, gx = W.heap.size := ⟨_, rfl⟩
  have hb : Below W.heap.size W W0 := by rw [hW0]; exact bl_alloc (Below.refl _ _) _
  have hX : Blk W0 gx 29 #[Value.slice (some ⟨g2, 0, none⟩) n n, Value.int IntKind.i64 o, Value.int IntKind.i64 t, Value.int IntKind.i64 p] := by rw [hW0, hgx]; exact Blk.new _ _ _
  rw [← hW0, ← hgx]
  clear hW0
  have HGX := Lib.hid hgx
  clear hgx
  replace hv := bl_trans hv hb
  replace hB0 := hB0.below hb
  replace hown2 := own_below hown2 hb
  have k0 : W0.cell? ⟨g, 0, none⟩ = some (.slice A n c) := hB0.cell 0
  have k1 : W0.cell? ⟨g, 1, none⟩ = some (.int .i64 o) := hB0.cell 1
  have k2 : W0.cell? ⟨g, 2, none⟩ = some (.int .i64 t) := hB0.cell 2
  have k3 : W0.cell? ⟨g, 3, none⟩ = some (.int .i64 p) := hB0.cell 3
  have x0 : W0.cell? ⟨gx, 0, none⟩ = some (.slice (some ⟨g2, 0, none⟩) n n) := hX.cell 0
  have x1 : W0.cell? ⟨gx, 1, none⟩ = some (.int .i64 o) := hX.cell 1
  have x2 : W0.cell? ⟨gx, 2, none⟩ = some (.int .i64 t) := hX.cell 2
  have x3 : W0.cell? ⟨gx, 3, none⟩ = some (.int .i64 p) := hX.cell 3
  refine (OffFor_c _ xs n n o t p hn m hz hs _ (Arr.own hown2)).mono ?_
  rintro e W ⟨rfl, hb⟩
  rw [HF.out]
  replace hv := bl_trans hv hb
  replace hB0 := hB0.below hb
  replace hX := hX.below hb
  replace hown2 := own_below hown2 hb
  have k0 : W.cell? ⟨g, 0, none⟩ = some (.slice A n c) := hB0.cell 0
  have k1 : W.cell? ⟨g, 1, none⟩ = some (.int .i64 o) := hB0.cell 1
  have k2 : W.cell? ⟨g, 2, none⟩ = some (.int .i64 t) := hB0.cell 2
  have k3 : W.cell? ⟨g, 3, none⟩ = some (.int .i64 p) := hB0.cell 3
  have x0 : W.cell? ⟨gx, 0, none⟩ = some (.slice (some ⟨g2, 0, none⟩) n n) := hX.cell 0
  have x1 : W.cell? ⟨gx, 1, none⟩ = some (.int .i64 o) := hX.cell 1
  have x2 : W.cell? ⟨gx, 2, none⟩ = some (.int .i64 t) := hX.cell 2
  have x3 : W.cell? ⟨gx, 3, none⟩ = some (.int .i64 p) := hX.cell 3
  go_wp2_with fail
  go_region_held3 (fun w' => Below w.heap.size w w' ∧ w'.ownsRow 0 60 3 (.slice (some ⟨g2, 0, none⟩) n n) n (flat Item.cells xs) ∧ w'.cell? ⟨g, 0, none⟩ = some (.slice A n c) ∧ w'.cell? ⟨g, 1, none⟩ = some (.int .i64 o) ∧ w'.cell? ⟨g, 2, none⟩ = some (.int .i64 t) ∧ w'.cell? ⟨g, 3, none⟩ = some (.int .i64 p) ∧
      w'.cell? ⟨gx, 0, none⟩ = some (.slice (some ⟨g2, 0, none⟩) n n) ∧ w'.cell? ⟨gx, 1, none⟩ = some (.int .i64 o) ∧ w'.cell? ⟨gx, 2, none⟩ = some (.int .i64 t) ∧ w'.cell? ⟨gx, 3, none⟩ = some (.int .i64 p))
    (first | exact ⟨hv.drew, own_base hown2 (Nat.zero_le _), k0, k1, k2, k3, x0, x1, x2, x3⟩ | (go_split_ands; exact ⟨bl_trans (by assumption) hb, own_below (by assumption) hb, bl_cell hb (by assumption), bl_cell hb (by assumption), bl_cell hb (by assumption), bl_cell hb (by assumption), bl_cell hb (by assumption), bl_cell hb (by assumption), bl_cell hb (by assumption), bl_cell hb (by assumption)⟩))
    (first | (go_at_call 17; go_split_ands; refine (toBill_c A xs n c o t p hn hz _ (hA.below (by assumption))).mono ?_; rintro e W ⟨g3, rfl, hown3, hb⟩) | (go_at_call 19; go_split_ands; refine (eqBill_c _ _ xs xs n n n n o t p o t p hn hn hz _ (Arr.own (base := 0) (e := 60) (size := 3) (by assumption)) (Arr.own hown3)).mono ?_; rintro e W ⟨rfl, hb⟩))
  go_wp2_with fail
  go_returns
  go_split_ands
  exact Ret.mk rfl (by assumption)
end Go.Proofs.Ytgohahcdkgbocaa
