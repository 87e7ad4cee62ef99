/- A valid entry: the program's and the reference's; the law walked. -/
import Derived.Test.YtihgjmhhpiobbaaGreatDoorBase
import Derived.Test.YtihgjmhhpiobbaaGreatDoorOwn
namespace Go.Proofs.YtihgjmhhpiobbaaGreatDoor
open Go.RowKit

def entB (x : Entry) : Bool := inB x.day 0 100000 && nameB x.what && inB x.value (-1000000) 1000000
theorem l27Day_c (n : Int) (w : World) : Calls Tryz.prog 153 #[.int .i64 n] w (RetQ (.bool (inB n 0 100000)) w) := by
  go_enter Tryz.func153, Tryz.ntmps153
  go_wp2_with (go_at_call 109; refine (l00In_c _ _ _ _).mono ?_; rintro e w' ⟨rfl, rfl⟩)
  go_returns
  exact RetQ.mk rfl

set_option maxRecDepth 100000 in
set_option maxHeartbeats 2000000 in
theorem ValidEntry_c (x : Entry) (hs : x.what.size ≤ 9223372036854775807) (w : World) :
    Calls Tryz.prog 136 #[.agg #[.int .i64 x.day, .string x.what, .int .i64 x.value]] w (Ret (.bool (entB x)) w) := by
  cases h1 : inB x.day 0 100000
  · go_enter Tryz.func136, Tryz.ntmps136
    go_wp2_with (first | (go_at_call 46; refine (IsName_c _ hs _).mono ?_; rintro e w' ⟨rfl, rfl⟩) | (go_at_call 47; refine (within_c _ _ _ _).mono ?_; rintro e w' ⟨rfl, rfl⟩))
    all_goals first | (exfalso; omega) | (go_returns; refine Ret.mk (vb ?_) (by go_grown); simp [entB, h1])
  cases h2 : nameB x.what
  · go_enter Tryz.func136, Tryz.ntmps136
    go_wp2_with (first | (go_at_call 46; refine (IsName_c _ hs _).mono ?_; rintro e w' ⟨rfl, rfl⟩) | (go_at_call 47; refine (within_c _ _ _ _).mono ?_; rintro e w' ⟨rfl, rfl⟩))
    all_goals first | (exfalso; omega) | (go_returns; refine Ret.mk (vb ?_) (by go_grown); simp [entB, h1, h2])
  cases h3 : inB x.value (-1000000) 1000000
  · go_enter Tryz.func136, Tryz.ntmps136
    go_wp2_with (first | (go_at_call 46; refine (IsName_c _ hs _).mono ?_; rintro e w' ⟨rfl, rfl⟩) | (go_at_call 47; refine (within_c _ _ _ _).mono ?_; rintro e w' ⟨rfl, rfl⟩))
    all_goals first | (exfalso; omega) | (go_returns; refine Ret.mk (vb ?_) (by go_grown); simp [entB, h1, h2, h3])
  go_enter Tryz.func136, Tryz.ntmps136
  go_wp2_with (first | (go_at_call 46; refine (IsName_c _ hs _).mono ?_; rintro e w' ⟨rfl, rfl⟩) | (go_at_call 47; refine (within_c _ _ _ _).mono ?_; rintro e w' ⟨rfl, rfl⟩))
  all_goals first | (exfalso; omega) | (go_returns; refine Ret.mk (vb ?_) (by go_grown); simp [entB, h1, h2, h3])

set_option maxRecDepth 100000 in
set_option maxHeartbeats 2000000 in
theorem l27Ok_c (g : Addr) (x : Entry) (hs : x.what.size ≤ 9223372036854775807) (w : World) (c0 : w.cell? g = some (.int .i64 x.day)) (c1 : w.cell? ⟨g.block, g.off + 1, none⟩ = some (.string x.what)) (c2 : w.cell? ⟨g.block, g.off + 2, none⟩ = some (.int .i64 x.value)) :
    Calls Tryz.prog 130 #[.pointer (some g)] w (RetQ (.bool (entB x)) w) := by
  cases h1 : inB x.day 0 100000
  · go_enter Tryz.func130, Tryz.ntmps130
    go_wp2_with (first | (go_at_call 83; refine (SIsName_c _ hs _).mono ?_; rintro e w' ⟨rfl, rfl⟩) | (go_at_call 109; refine (l00In_c _ _ _ _).mono ?_; rintro e w' ⟨rfl, rfl⟩) | (go_at_call 153; refine (l27Day_c _ _).mono ?_; rintro e w' ⟨rfl, rfl⟩))
    all_goals first | (exfalso; omega) | (go_returns; refine RetQ.mk (vb ?_); simp [entB, h1])
  cases h2 : nameB x.what
  · go_enter Tryz.func130, Tryz.ntmps130
    go_wp2_with (first | (go_at_call 83; refine (SIsName_c _ hs _).mono ?_; rintro e w' ⟨rfl, rfl⟩) | (go_at_call 109; refine (l00In_c _ _ _ _).mono ?_; rintro e w' ⟨rfl, rfl⟩) | (go_at_call 153; refine (l27Day_c _ _).mono ?_; rintro e w' ⟨rfl, rfl⟩))
    all_goals first | (exfalso; omega) | (go_returns; refine RetQ.mk (vb ?_); simp [entB, h1, h2])
  cases h3 : inB x.value (-1000000) 1000000
  · go_enter Tryz.func130, Tryz.ntmps130
    go_wp2_with (first | (go_at_call 83; refine (SIsName_c _ hs _).mono ?_; rintro e w' ⟨rfl, rfl⟩) | (go_at_call 109; refine (l00In_c _ _ _ _).mono ?_; rintro e w' ⟨rfl, rfl⟩) | (go_at_call 153; refine (l27Day_c _ _).mono ?_; rintro e w' ⟨rfl, rfl⟩))
    all_goals first | (exfalso; omega) | (go_returns; refine RetQ.mk (vb ?_); simp [entB, h1, h2, h3])
  go_enter Tryz.func130, Tryz.ntmps130
  go_wp2_with (first | (go_at_call 83; refine (SIsName_c _ hs _).mono ?_; rintro e w' ⟨rfl, rfl⟩) | (go_at_call 109; refine (l00In_c _ _ _ _).mono ?_; rintro e w' ⟨rfl, rfl⟩) | (go_at_call 153; refine (l27Day_c _ _).mono ?_; rintro e w' ⟨rfl, rfl⟩))
  all_goals first | (exfalso; omega) | (go_returns; refine RetQ.mk (vb ?_); simp [entB, h1, h2, h3])

end Go.Proofs.YtihgjmhhpiobbaaGreatDoor
