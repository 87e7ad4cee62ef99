/- A valid order: the program's and the reference's. -/
import Derived.Test.YtapnllbbdfoaaaaGreatDoorBase
import Derived.Test.YtapnllbbdfoaaaaGreatDoorNeq
import Derived.Test.YtapnllbbdfoaaaaGreatDoorMCore
namespace Go.Proofs.YtapnllbbdfoaaaaGreatDoor
open Go.RowKit

def ordB (x : Order) : Bool := inB x.id 1 9999 && nameB x.customer && inB x.stage 0 4 && inB x.due 0 10000 && inB x.left 0 100 && inB x.fittings 0 5 && (decide (x.stage < 2) || decide (x.fittings = 0)) && (decide (x.stage < 3) || decide (x.left = 0))
def ordsGo : Int → List Order → Bool
  | _, [] => true
  | p, x :: xs => ordB x && decide (p < x.id) && ordsGo x.id xs
def ordsB (xs : List Order) : Bool := ordsGo 0 xs && decide (xs.length ≤ 30)
theorem l25Day_c (n : Int) (w : World) : Calls Tryz.prog 72 #[.int .i64 n] w (RetQ (.bool (inB n 0 10000)) w) := by
  go_enter Tryz.func72, Tryz.ntmps72
  go_wp2_with (go_at_call 51; refine (l00In_c _ _ _ _).mono ?_; rintro e w' ⟨rfl, rfl⟩)
  go_returns
  exact RetQ.mk rfl

set_option maxRecDepth 100000 in
set_option maxHeartbeats 4000000 in
theorem validOrder_c (x : Order) (hs : x.customer.size ≤ 9223372036854775807) (w : World) :
    Calls Tryz.prog 37 #[.agg #[.int .i64 x.id, .string x.customer, .int .i64 x.stage, .int .i64 x.due, .int .i64 x.left, .int .i64 x.fittings]] w (Ret (.bool (ordB x)) w) := by
  cases h1 : inB x.id 1 9999
  · go_enter Tryz.func37, Tryz.ntmps37
    go_wp2_with (first | (go_at_call 65; refine (IsName_c _ hs _).mono ?_; rintro e w' ⟨rfl, rfl⟩) | (go_at_call 50; refine (within_c _ _ _ _).mono ?_; rintro e w' ⟨rfl, rfl⟩))
    all_goals first | (exfalso; omega) | (go_returns; refine Ret.mk (vb ?_) (by go_grown); rw [Bool.eq_iff_iff]; simp [ordB, h1] <;> omega)
  cases h2 : nameB x.customer
  · go_enter Tryz.func37, Tryz.ntmps37
    go_wp2_with (first | (go_at_call 65; refine (IsName_c _ hs _).mono ?_; rintro e w' ⟨rfl, rfl⟩) | (go_at_call 50; refine (within_c _ _ _ _).mono ?_; rintro e w' ⟨rfl, rfl⟩))
    all_goals first | (exfalso; omega) | (go_returns; refine Ret.mk (vb ?_) (by go_grown); rw [Bool.eq_iff_iff]; simp [ordB, h1, h2] <;> omega)
  cases h3 : inB x.stage 0 4
  · go_enter Tryz.func37, Tryz.ntmps37
    go_wp2_with (first | (go_at_call 65; refine (IsName_c _ hs _).mono ?_; rintro e w' ⟨rfl, rfl⟩) | (go_at_call 50; refine (within_c _ _ _ _).mono ?_; rintro e w' ⟨rfl, rfl⟩))
    all_goals first | (exfalso; omega) | (go_returns; refine Ret.mk (vb ?_) (by go_grown); rw [Bool.eq_iff_iff]; simp [ordB, h1, h2, h3] <;> omega)
  cases h4 : inB x.due 0 10000
  · go_enter Tryz.func37, Tryz.ntmps37
    go_wp2_with (first | (go_at_call 65; refine (IsName_c _ hs _).mono ?_; rintro e w' ⟨rfl, rfl⟩) | (go_at_call 50; refine (within_c _ _ _ _).mono ?_; rintro e w' ⟨rfl, rfl⟩))
    all_goals first | (exfalso; omega) | (go_returns; refine Ret.mk (vb ?_) (by go_grown); rw [Bool.eq_iff_iff]; simp [ordB, h1, h2, h3, h4] <;> omega)
  cases h5 : inB x.left 0 100
  · go_enter Tryz.func37, Tryz.ntmps37
    go_wp2_with (first | (go_at_call 65; refine (IsName_c _ hs _).mono ?_; rintro e w' ⟨rfl, rfl⟩) | (go_at_call 50; refine (within_c _ _ _ _).mono ?_; rintro e w' ⟨rfl, rfl⟩))
    all_goals first | (exfalso; omega) | (go_returns; refine Ret.mk (vb ?_) (by go_grown); rw [Bool.eq_iff_iff]; simp [ordB, h1, h2, h3, h4, h5] <;> omega)
  cases h6 : inB x.fittings 0 5
  · go_enter Tryz.func37, Tryz.ntmps37
    go_wp2_with (first | (go_at_call 65; refine (IsName_c _ hs _).mono ?_; rintro e w' ⟨rfl, rfl⟩) | (go_at_call 50; refine (within_c _ _ _ _).mono ?_; rintro e w' ⟨rfl, rfl⟩))
    all_goals first | (exfalso; omega) | (go_returns; refine Ret.mk (vb ?_) (by go_grown); rw [Bool.eq_iff_iff]; simp [ordB, h1, h2, h3, h4, h5, h6] <;> omega)
  go_enter Tryz.func37, Tryz.ntmps37
  go_wp2_with (first | (go_at_call 65; refine (IsName_c _ hs _).mono ?_; rintro e w' ⟨rfl, rfl⟩) | (go_at_call 50; refine (within_c _ _ _ _).mono ?_; rintro e w' ⟨rfl, rfl⟩))
  all_goals first | (exfalso; omega) | (go_returns; refine Ret.mk (vb ?_) (by go_grown); rw [Bool.eq_iff_iff]; simp [ordB, h1, h2, h3, h4, h5, h6] <;> omega)

set_option maxRecDepth 100000 in
set_option maxHeartbeats 4000000 in
theorem l25One_c (g : Addr) (x : Order) (hs : x.customer.size ≤ 9223372036854775807) (w : World) (c0 : w.cell? g = some (.int .i64 x.id)) (c1 : w.cell? ⟨g.block, g.off + 1, none⟩ = some (.string x.customer)) (c2 : w.cell? ⟨g.block, g.off + 2, none⟩ = some (.int .i64 x.stage)) (c3 : w.cell? ⟨g.block, g.off + 3, none⟩ = some (.int .i64 x.due)) (c4 : w.cell? ⟨g.block, g.off + 4, none⟩ = some (.int .i64 x.left)) (c5 : w.cell? ⟨g.block, g.off + 5, none⟩ = some (.int .i64 x.fittings)) :
    Calls Tryz.prog 42 #[.pointer (some g)] w (RetQ (.bool (ordB x)) w) := by
  cases h1 : inB x.id 1 9999
  · go_enter Tryz.func42, Tryz.ntmps42
    go_wp2_with (first | (go_at_call 71; refine (SIsName_c _ hs _).mono ?_; rintro e w' ⟨rfl, rfl⟩) | (go_at_call 51; refine (l00In_c _ _ _ _).mono ?_; rintro e w' ⟨rfl, rfl⟩) | (go_at_call 72; refine (l25Day_c _ _).mono ?_; rintro e w' ⟨rfl, rfl⟩))
    all_goals first | (exfalso; omega) | (go_returns; refine RetQ.mk (vb ?_); rw [Bool.eq_iff_iff]; simp [ordB, h1] <;> omega)
  cases h2 : nameB x.customer
  · go_enter Tryz.func42, Tryz.ntmps42
    go_wp2_with (first | (go_at_call 71; refine (SIsName_c _ hs _).mono ?_; rintro e w' ⟨rfl, rfl⟩) | (go_at_call 51; refine (l00In_c _ _ _ _).mono ?_; rintro e w' ⟨rfl, rfl⟩) | (go_at_call 72; refine (l25Day_c _ _).mono ?_; rintro e w' ⟨rfl, rfl⟩))
    all_goals first | (exfalso; omega) | (go_returns; refine RetQ.mk (vb ?_); rw [Bool.eq_iff_iff]; simp [ordB, h1, h2] <;> omega)
  cases h3 : inB x.stage 0 4
  · go_enter Tryz.func42, Tryz.ntmps42
    go_wp2_with (first | (go_at_call 71; refine (SIsName_c _ hs _).mono ?_; rintro e w' ⟨rfl, rfl⟩) | (go_at_call 51; refine (l00In_c _ _ _ _).mono ?_; rintro e w' ⟨rfl, rfl⟩) | (go_at_call 72; refine (l25Day_c _ _).mono ?_; rintro e w' ⟨rfl, rfl⟩))
    all_goals first | (exfalso; omega) | (go_returns; refine RetQ.mk (vb ?_); rw [Bool.eq_iff_iff]; simp [ordB, h1, h2, h3] <;> omega)
  cases h4 : inB x.due 0 10000
  · go_enter Tryz.func42, Tryz.ntmps42
    go_wp2_with (first | (go_at_call 71; refine (SIsName_c _ hs _).mono ?_; rintro e w' ⟨rfl, rfl⟩) | (go_at_call 51; refine (l00In_c _ _ _ _).mono ?_; rintro e w' ⟨rfl, rfl⟩) | (go_at_call 72; refine (l25Day_c _ _).mono ?_; rintro e w' ⟨rfl, rfl⟩))
    all_goals first | (exfalso; omega) | (go_returns; refine RetQ.mk (vb ?_); rw [Bool.eq_iff_iff]; simp [ordB, h1, h2, h3, h4] <;> omega)
  cases h5 : inB x.left 0 100
  · go_enter Tryz.func42, Tryz.ntmps42
    go_wp2_with (first | (go_at_call 71; refine (SIsName_c _ hs _).mono ?_; rintro e w' ⟨rfl, rfl⟩) | (go_at_call 51; refine (l00In_c _ _ _ _).mono ?_; rintro e w' ⟨rfl, rfl⟩) | (go_at_call 72; refine (l25Day_c _ _).mono ?_; rintro e w' ⟨rfl, rfl⟩))
    all_goals first | (exfalso; omega) | (go_returns; refine RetQ.mk (vb ?_); rw [Bool.eq_iff_iff]; simp [ordB, h1, h2, h3, h4, h5] <;> omega)
  cases h6 : inB x.fittings 0 5
  · go_enter Tryz.func42, Tryz.ntmps42
    go_wp2_with (first | (go_at_call 71; refine (SIsName_c _ hs _).mono ?_; rintro e w' ⟨rfl, rfl⟩) | (go_at_call 51; refine (l00In_c _ _ _ _).mono ?_; rintro e w' ⟨rfl, rfl⟩) | (go_at_call 72; refine (l25Day_c _ _).mono ?_; rintro e w' ⟨rfl, rfl⟩))
    all_goals first | (exfalso; omega) | (go_returns; refine RetQ.mk (vb ?_); rw [Bool.eq_iff_iff]; simp [ordB, h1, h2, h3, h4, h5, h6] <;> omega)
  go_enter Tryz.func42, Tryz.ntmps42
  go_wp2_with (first | (go_at_call 71; refine (SIsName_c _ hs _).mono ?_; rintro e w' ⟨rfl, rfl⟩) | (go_at_call 51; refine (l00In_c _ _ _ _).mono ?_; rintro e w' ⟨rfl, rfl⟩) | (go_at_call 72; refine (l25Day_c _ _).mono ?_; rintro e w' ⟨rfl, rfl⟩))
  all_goals first | (exfalso; omega) | (go_returns; refine RetQ.mk (vb ?_); rw [Bool.eq_iff_iff]; simp [ordB, h1, h2, h3, h4, h5, h6] <;> omega)

end Go.Proofs.YtapnllbbdfoaaaaGreatDoor
