
/- What the law on bills draws. -/
import Derived.Test.YtnhkdcebldppmaaDoorDrwM
import Derived.Test.YtnhkdcebldppmaaDoorBillQ
namespace Go.Proofs.YtnhkdcebldppmaaDoor
open Go.RowKit

def OutB1 (w : World) (e : Ending) (w' : World) : Prop := ∃ (ga : Nat) (xs : List Item) (n c : Nat) (o t p : Int), e = .returned (.agg #[.slice (some ⟨ga, 0, none⟩) n c, .int .i64 o, .int .i64 t, .int .i64 p]) ∧ xs.length = n ∧ n ≤ 21 ∧ (∀ x ∈ xs, x.name.size ≤ 100) ∧ w'.ownsRow w.heap.size 77 3 (.slice (some ⟨ga, 0, none⟩) n c) n (flat Item.cells xs) ∧ Below w.heap.size w w'
def OutB2 (w : World) (e : Ending) (w' : World) : Prop := ∃ (ga : Nat) (xs : List Item) (n c : Nat) (o t p v : Int), e = .returned (.tuple #[.agg #[.slice (some ⟨ga, 0, none⟩) n c, .int .i64 o, .int .i64 t, .int .i64 p], .int .i64 v]) ∧ xs.length = n ∧ n ≤ 21 ∧ (∀ x ∈ xs, x.name.size ≤ 100) ∧ w'.ownsRow w.heap.size 77 3 (.slice (some ⟨ga, 0, none⟩) n c) n (flat Item.cells xs) ∧ Below w.heap.size w w'
def OutMo (g q : Nat) (w : World) (e : Ending) (w' : World) : Prop := ∃ r : Int, e = .returned (.int .i64 r) ∧ Src w' g (q + 6) ∧ w.grownBy w' (some g)
set_option maxRecDepth 100000 in
set_option maxHeartbeats 2000000 in
theorem l26DrawMoney_c (g q : Nat) (hq : q ≤ 800000000000) (w : World) (hS : Src w g q) : Calls Tryd.prog 50 #[.pointer (some ⟨g, 0, none⟩)] w (OutMo g q w) := by
  have HS := Lib.hid hS
  have hgw := hS.lt
  have HG := Lib.hid (World.grownBy.refl w (some g))
  have HW := Lib.hid (Nat.le_refl w.heap.size)
  clear hS
  go_enter Tryd.func50, Tryd.ntmps50
  go_wp2_with fail
  refine (one_c g _ 10 (by omega) (by omega) _ HS.out).mono ?_
  rintro e W1 ⟨bb, rfl, hS, hg⟩
  replace HS := Lib.hid hS
  replace HG := Lib.hid (grown_trans HG.out hg)
  replace HW := Lib.hid (Nat.le_trans HW.out hg.size)
  clear hS hg
  cases bb
  · skip
    go_wp2_with fail
    refine (pick_c g _ 200 (by omega) (by omega) _ HS.out).mono ?_
    rintro e W2 ⟨r, rfl, r0, r1, hS, hg⟩
    replace HS := Lib.hid hS
    replace HG := Lib.hid (grown_trans HG.out hg)
    replace HW := Lib.hid (Nat.le_trans HW.out hg.size)
    clear hS hg
    go_wp2_with fail
    refine (pick_c g _ 60 (by omega) (by omega) _ HS.out).mono ?_
    rintro e W3 ⟨s, rfl, s0, s1, hS, hg⟩
    replace HS := Lib.hid hS
    replace HG := Lib.hid (grown_trans HG.out hg)
    replace HW := Lib.hid (Nat.le_trans HW.out hg.size)
    clear hS hg
    go_wp2_with fail
    go_returns
    exact ⟨_, rfl, HS.out.more (by omega), HG.out⟩
  · skip
    go_wp2_with fail
    have hA := arr_new W1 2 #[.int .i64 (-1), .int .i64 0, .int .i64 100000000000, .int .i64 100000000001]
    have hgA := HS.out.lt
    replace HS := Lib.hid (HS.out.below (bl_alloc (Below.refl _ _) (.cells #[.int .i64 (-1), .int .i64 0, .int .i64 100000000000, .int .i64 100000000001] 2)))
    replace HG := Lib.hid (grown_alloc HG.out (.cells #[.int .i64 (-1), .int .i64 0, .int .i64 100000000000, .int .i64 100000000001] 2))
    replace HW := Lib.hid (show w.heap.size ≤ (World.alloc W1 (.cells #[.int .i64 (-1), .int .i64 0, .int .i64 100000000000, .int .i64 100000000001] 2)).heap.size by have := HW.out; rw [World.size_alloc]; omega)
    refine (among_c g _ _ [-1, 0, 100000000000, 100000000001] 4 4 (Lib.hid rfl) (by omega) (by omega) (by omega) _ HS.out hA (fun ad e => by injection e with e; subst e; simp only; omega)).mono ?_
    rintro e W2 ⟨v, hv, rfl, hS, hg⟩
    replace HS := Lib.hid hS
    replace HG := Lib.hid (grown_trans HG.out hg)
    replace HW := Lib.hid (Nat.le_trans HW.out hg.size)
    clear hS hg
    clear hA hv hgA
    go_wp2_with fail
    go_returns
    exact ⟨_, rfl, HS.out.more (by omega), HG.out⟩
end Go.Proofs.YtnhkdcebldppmaaDoor
