/- Bills: the laws' own helpers, and what the exported functions compute. -/
import Derived.Test.YthibjjcdihgfkaaBillS
namespace Go.Proofs.Ythibjjcdihgfkaa
open Go.RowKit

set_option maxHeartbeats 400000 in
theorem szBill_c (A : Option Addr) (xs : List Item) (n c : Nat) (o t p : Int) (hn : Hid (xs.length = n)) (left : Int) (hm : n ≤ 9223372036854775807) (hs : Hid (∀ x ∈ xs, x.name.size ≤ 9223372036854775807)) (h0 : 0 ≤ left) (h1 : left ≤ 1048576) (w : World) (hA : Arr w A (flat Item.cells xs)) :
    Calls Try.prog 24 #[.agg #[.slice A n c, .int .i64 o, .int .i64 t, .int .i64 p], .int .i64 left] w (Ret (.int .i64 (szS Item.sizes xs left)) w) := by
  have hle := szS_le Item.sizes xs left h0
  go_enter Try.func24, Try.ntmps24
  go_wp2_with fail
  refine (szItemS_c A xs n c left hn hm hs h0 h1 _ (hA.alloc _)).mono ?_
  rintro e w1 ⟨rfl, hb1⟩
  obtain ⟨q, hq'⟩ : ∃ q, q = szS Item.sizes xs left := ⟨_, rfl⟩
  rw [← hq'] at hle ⊢
  have HQ := Lib.hid hq'
  clear hq'
  by_cases hq : q < 0
  · go_wp2_with fail
    go_returns
    exact Ret.mk (vi (by rw [← HQ.out]; omega)) (bl_trans (bl_alloc (Below.refl _ _) _) hb1)
  · go_wp2_with fail
    go_returns
    exact Ret.mk (vi HQ.out) (bl_trans (bl_alloc (Below.refl _ _) _) hb1)

def OutBill (n : Nat) (o t p : Int) (cs : List Value) (w : World) (e : Ending) (w' : World) : Prop :=
  ∃ g, e = .returned (.agg #[.slice (some ⟨g, 0, none⟩) n n, .int .i64 o, .int .i64 t, .int .i64 p]) ∧ w'.ownsRow w.heap.size 108 3 (.slice (some ⟨g, 0, none⟩) n n) n cs ∧ Below w.heap.size w w'
set_option maxHeartbeats 800000 in
theorem toBill_c (A : Option Addr) (xs : List Item) (n c : Nat) (o t p : Int) (hn : Hid (xs.length = n)) (hm : (n : Int) ≤ 1048576) (w : World) (hA : Arr w A (flat Item.cells xs)) :
    Calls Try.prog 26 #[.agg #[.slice A n c, .int .i64 o, .int .i64 t, .int .i64 p]] w (OutBill n o t p (flat Item.cells xs) w) := by
  go_enter Try.func26, Try.ntmps26
  go_wp2_with fail
  obtain ⟨w3, hw3⟩ : ∃ w3, w3 = ((w.alloc (Obj.cells #[Value.slice A n c, Value.int IntKind.i64 o, Value.int IntKind.i64 t, Value.int IntKind.i64 p] 54)).alloc (Obj.cells #[Value.slice none 0 0, Value.int IntKind.i64 0, Value.int IntKind.i64 0, Value.int IntKind.i64 0] 60)).alloc (Obj.cells #[Value.slice none 0 0, Value.int IntKind.i64 0, Value.int IntKind.i64 0, Value.int IntKind.i64 0] 60) := ⟨_, rfl⟩
  have hb0 : Below w.heap.size w w3 := by rw [hw3]; exact bl_alloc (bl_alloc (bl_alloc (Below.refl _ _) _) _) _
  have hB0 : Blk w3 w.heap.size 54 #[Value.slice A n c, Value.int IntKind.i64 o, Value.int IntKind.i64 t, Value.int IntKind.i64 p] := by rw [hw3]; exact ((Blk.new _ _ _).alloc _).alloc _
  have hB1 : Blk w3 (w.heap.size + 1) 60 #[Value.slice none 0 0, Value.int IntKind.i64 0, Value.int IntKind.i64 0, Value.int IntKind.i64 0] := by
    rw [hw3]; refine Blk.alloc ?_ _; have h := Blk.new (w.alloc (Obj.cells #[Value.slice A n c, Value.int IntKind.i64 o, Value.int IntKind.i64 t, Value.int IntKind.i64 p] 54)) 60 #[Value.slice none 0 0, Value.int IntKind.i64 0, Value.int IntKind.i64 0, Value.int IntKind.i64 0]; simpa using h
  have hB2 : Blk w3 (w.heap.size + 1 + 1) 60 #[Value.slice none 0 0, Value.int IntKind.i64 0, Value.int IntKind.i64 0, Value.int IntKind.i64 0] := by
    rw [hw3]; have h := Blk.new ((w.alloc (Obj.cells #[Value.slice A n c, Value.int IntKind.i64 o, Value.int IntKind.i64 t, Value.int IntKind.i64 p] 54)).alloc (Obj.cells #[Value.slice none 0 0, Value.int IntKind.i64 0, Value.int IntKind.i64 0, Value.int IntKind.i64 0] 60)) 60 #[Value.slice none 0 0, Value.int IntKind.i64 0, Value.int IntKind.i64 0, Value.int IntKind.i64 0]; simpa using h
  have hsz : w3.heap.size = w.heap.size + 1 + 1 + 1 := by rw [hw3]; simp
  rw [← hw3]
  clear hw3
  refine (toItemS_c A xs n c hn hm _ (hA.below hb0)).mono ?_
  rintro e w1 ⟨g, rfl, hown, hb1⟩
  replace hB0 := hB0.below hb1
  replace hB1 := hB1.below hb1
  replace hB2 := hB2.below hb1
  have hgw : w.heap.size + 1 + 1 < g := by
    have h1 := hown.lt g rfl
    omega
  clear hsz
  have a0 : w1.cell? ⟨w.heap.size, 0, none⟩ = some (.slice A n c) := hB0.cell 0
  have a1 : w1.cell? ⟨w.heap.size, 1, none⟩ = some (.int .i64 o) := hB0.cell 1
  have a2 : w1.cell? ⟨w.heap.size, 2, none⟩ = some (.int .i64 t) := hB0.cell 2
  have a3 : w1.cell? ⟨w.heap.size, 3, none⟩ = some (.int .i64 p) := hB0.cell 3
  have a_0 := hB0.frozen 0
  have a_1 := hB0.frozen 1
  have a_2 := hB0.frozen 2
  have a_3 := hB0.frozen 3
  have b0 : w1.cell? ⟨w.heap.size + 1, 0, none⟩ = some (.slice none 0 0) := hB1.cell 0
  have b1 : w1.cell? ⟨w.heap.size + 1, 1, none⟩ = some (.int .i64 0) := hB1.cell 1
  have b2 : w1.cell? ⟨w.heap.size + 1, 2, none⟩ = some (.int .i64 0) := hB1.cell 2
  have b3 : w1.cell? ⟨w.heap.size + 1, 3, none⟩ = some (.int .i64 0) := hB1.cell 3
  have b_0 := hB1.frozen 0
  have b_1 := hB1.frozen 1
  have b_2 := hB1.frozen 2
  have b_3 := hB1.frozen 3
  have d0 : w1.cell? ⟨w.heap.size + 1 + 1, 0, none⟩ = some (.slice none 0 0) := hB2.cell 0
  have d1 : w1.cell? ⟨w.heap.size + 1 + 1, 1, none⟩ = some (.int .i64 0) := hB2.cell 1
  have d2 : w1.cell? ⟨w.heap.size + 1 + 1, 2, none⟩ = some (.int .i64 0) := hB2.cell 2
  have d3 : w1.cell? ⟨w.heap.size + 1 + 1, 3, none⟩ = some (.int .i64 0) := hB2.cell 3
  have d_0 := hB2.frozen 0
  have d_1 := hB2.frozen 1
  have d_2 := hB2.frozen 2
  have d_3 := hB2.frozen 3
  go_wp2_with fail
  refine bodyPost_ret (results_cell_row (P := Try.prog) rfl _ _ (w.heap.size + 1) 60 #[.slice (some ⟨g, 0, none⟩) n n, .int .i64 o, .int .i64 t, .int .i64 p] (0, 0) _ rfl ?_ Try.underlying60 rfl (by kernel_rfl)) rfl ?_
  · exact (((((((hB1.far (p := ⟨w.heap.size + 1 + 1, 0, none⟩) (by simp) _).far (p := ⟨w.heap.size + 1 + 1, 1, none⟩) (by simp) _).far (p := ⟨w.heap.size + 1 + 1, 2, none⟩) (by simp) _).far (p := ⟨w.heap.size + 1 + 1, 3, none⟩) (by simp) _).set_ 0 _).set_ 1 _).set_ 2 _).set_ 3 _
  · have hg1 : ∀ g', Value.ownBlock (.slice (some ⟨g, 0, none⟩) n n) = some g' → g' ≠ w.heap.size + 1 := by intro g' h; simp [Value.ownBlock] at h; omega
    have hg2 : ∀ g', Value.ownBlock (.slice (some ⟨g, 0, none⟩) n n) = some g' → g' ≠ w.heap.size + 1 + 1 := by intro g' h; simp [Value.ownBlock] at h; omega
    refine ⟨g, rfl, own_base (own_far (own_far (own_far (own_far (own_far (own_far (own_far (own_far hown ?_ _) ?_ _) ?_ _) ?_ _) ?_ _) ?_ _) ?_ _) ?_ _) hb0.size, ?_⟩
    all_goals try first | exact hg1 | exact hg2
    refine bl_set (bl_set (bl_set (bl_set (bl_set (bl_set (bl_set (bl_set (bl_trans hb0 hb1) ?_ _) ?_ _) ?_ _) ?_ _) ?_ _) ?_ _) ?_ _) ?_ _ <;> simp <;> omega
end Go.Proofs.Ythibjjcdihgfkaa
