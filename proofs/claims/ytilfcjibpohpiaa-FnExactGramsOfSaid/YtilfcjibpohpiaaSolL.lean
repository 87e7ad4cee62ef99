/- Soles: the laws' own helpers. -/
import Derived.Test.YtilfcjibpohpiaaSolP
import Derived.Laws.ResultCell
namespace Go.Proofs.Ytilfcjibpohpiaa
open Go.RowKit

set_option maxHeartbeats 400000 in
theorem szSole_c (B : Option Addr) (m d : Nat) (left : Int) (hm : m ≤ 9223372036854775807) (h0 : 0 ≤ left) (h1 : left ≤ 1048576) (w : World) :
    Calls Try.prog 25 #[.agg #[.slice B m d], .int .i64 left] w (Ret (.int .i64 (szGo [m] left)) w) := by
  have hle := szGo_le [m] left h0
  go_enter Try.func25, Try.ntmps25
  go_wp2_with fail
  refine (szInt64S_c B m d left hm h0 h1 _).mono ?_
  rintro e w1 ⟨rfl, rfl⟩
  obtain ⟨q, hq'⟩ : ∃ q, q = szGo [m] left := ⟨_, rfl⟩
  rw [← hq'] at hle ⊢
  have HQ := Lib.hid hq'
  clear hq'
  by_cases hq : q < 0
  · go_wp2_with fail
    go_returns
    exact Ret.mk (vi (by rw [← HQ.out]; omega)) (bl_alloc (Below.refl _ _) _)
  · go_wp2_with fail
    go_returns
    exact Ret.mk (vi HQ.out) (bl_alloc (Below.refl _ _) _)
def OutSole (m : Nat) (cs : List Value) (w : World) (e : Ending) (w' : World) : Prop :=
  ∃ g, e = .returned (.agg #[.slice (some ⟨g, 0, none⟩) m m]) ∧ w'.ownsRow w.heap.size 2 1 (.slice (some ⟨g, 0, none⟩) m m) m cs ∧ Below w.heap.size w w'
set_option maxHeartbeats 800000 in
theorem toSole_c (B : Option Addr) (ps : List Int) (m d : Nat) (hp : Hid (ps.length = m)) (hm : (m : Int) ≤ 1048576) (w : World) (hB : Arr w B (flat icell ps)) :
    Calls Try.prog 28 #[.agg #[.slice B m d]] w (OutSole m (flat icell ps) w) := by
  go_enter Try.func28, Try.ntmps28
  go_wp2_with fail
  obtain ⟨w3, hw3⟩ : ∃ w3, w3 = ((w.alloc (Obj.cells #[Value.slice B m d] 44)).alloc (Obj.cells #[Value.slice none 0 0] 53)).alloc (Obj.cells #[Value.slice none 0 0] 53) := ⟨_, rfl⟩
  have hb0 : Below w.heap.size w w3 := by rw [hw3]; exact bl_alloc (bl_alloc (bl_alloc (Below.refl _ _) _) _) _
  have hB0 : Blk w3 w.heap.size 44 #[Value.slice B m d] := by rw [hw3]; exact ((Blk.new _ _ _).alloc _).alloc _
  have hB1 : Blk w3 (w.heap.size + 1) 53 #[Value.slice none 0 0] := by
    rw [hw3]; refine Blk.alloc ?_ _; have h := Blk.new (w.alloc (Obj.cells #[Value.slice B m d] 44)) 53 #[Value.slice none 0 0]; simpa using h
  have hB2 : Blk w3 (w.heap.size + 1 + 1) 53 #[Value.slice none 0 0] := by
    rw [hw3]; have h := Blk.new ((w.alloc (Obj.cells #[Value.slice B m d] 44)).alloc (Obj.cells #[Value.slice none 0 0] 53)) 53 #[Value.slice none 0 0]; simpa using h
  have hsz : w3.heap.size = w.heap.size + 1 + 1 + 1 := by rw [hw3]; simp
  rw [← hw3]
  clear hw3
  refine (toInt64S_c B ps m d hp hm _ (hB.below hb0)).mono ?_
  rintro e w1 ⟨g, rfl, hown, hb1⟩
  replace hB0 := hB0.below hb1
  replace hB1 := hB1.below hb1
  replace hB2 := hB2.below hb1
  have hgw : w.heap.size + 1 + 1 < g := by
    have h1 := hown.lt g rfl
    omega
  clear hsz
  have a0 : w1.cell? ⟨w.heap.size, 0, none⟩ = some (.slice B m d) := hB0.cell 0
  have b0 : w1.cell? ⟨w.heap.size + 1, 0, none⟩ = some (.slice none 0 0) := hB1.cell 0
  have d0 : w1.cell? ⟨w.heap.size + 1 + 1, 0, none⟩ = some (.slice none 0 0) := hB2.cell 0
  have a_0 := hB0.frozen 0
  have b_0 := hB1.frozen 0
  have d_0 := hB2.frozen 0
  go_wp2_with fail
  refine bodyPost_ret (results_cell_row (P := Try.prog) rfl _ _ (w.heap.size + 1) 53 #[.slice (some ⟨g, 0, none⟩) m m] (0, 0) _ rfl ?_ Try.underlying53 rfl (by kernel_rfl)) rfl ?_
  · exact ((hB1.far (p := ⟨w.heap.size + 1 + 1, 0, none⟩) (by simp) _).set_ 0 _)
  · have hg1 : ∀ g', Value.ownBlock (.slice (some ⟨g, 0, none⟩) m m) = some g' → g' ≠ w.heap.size + 1 := by intro g' h; simp [Value.ownBlock] at h; omega
    have hg2 : ∀ g', Value.ownBlock (.slice (some ⟨g, 0, none⟩) m m) = some g' → g' ≠ w.heap.size + 1 + 1 := by intro g' h; simp [Value.ownBlock] at h; omega
    refine ⟨g, rfl, own_base (own_far (own_far hown ?_ _) ?_ _) hb0.size, ?_⟩
    all_goals try first | exact hg1 | exact hg2
    refine bl_set (bl_set (bl_trans hb0 hb1) ?_ _) ?_ _ <;> simp <;> omega
set_option maxRecDepth 100000 in
set_option maxHeartbeats 800000 in
theorem eqSole_c (A B : Option Addr) (ps : List Int) (m c d : Nat) (hp : Hid (ps.length = m)) (hz : (m : Int) ≤ 1048576) (w : World) (hA : Arr w A (flat icell ps)) (hB : Arr w B (flat icell ps)) :
    Calls Try.prog 32 #[.agg #[.slice A m c], .agg #[.slice B m d]] w (Ret (.bool true) w) := by
  go_enter Try.func32, Try.ntmps32
  go_wp2_with fail
  have h := fun w' (h1 : Arr w' A (flat icell ps)) (h2 : Arr w' B (flat icell ps)) => eqInt64S_c A B ps ps m m c d hp hp (by omega) w' h1 h2
  rw [decide_eq_true rfl] at h
  have H := Lib.hid h
  clear h
  have hb0 : Below w.heap.size w ((w.alloc (Obj.cells #[Value.slice A m c] 53)).alloc (Obj.cells #[Value.slice B m d] 53)) := bl_alloc (bl_alloc (Below.refl _ _) _) _
  refine (H.out _ (hA.below hb0) (hB.below hb0)).mono ?_
  rintro e w1 ⟨rfl, hb1⟩
  go_wp2_with fail
  go_returns
  exact Ret.mk rfl (bl_trans hb0 hb1)
end Go.Proofs.Ytilfcjibpohpiaa
