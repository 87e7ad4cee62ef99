
/- Bills: sums, totals, deposits, refunds: the program's and the reference's functions. -/
import Derived.Test.YtnhkdcebldppmaaDoorBillX
namespace Go.Proofs.YtnhkdcebldppmaaDoor
open Go.RowKit

/-- A bill that is valid, or not: what follows. -/
theorem bill_cases (xs : List Item) (o t p : Int) : Hid (billB xs o t p = false) ∨ (Hid (billB xs o t p = true) ∧ Hid (fewOk xs) ∧ 0 ≤ o ∧ o ≤ 100 ∧ 0 ≤ t ∧ t ≤ 100 ∧ 0 ≤ p ∧ p ≤ totOf (sumGo xs 0) o t ∧ 0 ≤ sumGo xs 0 ∧ sumGo xs 0 ≤ 20000000000 ∧ 0 ≤ totOf (sumGo xs 0) o t ∧ totOf (sumGo xs 0) o t ≤ 40000000000) := by
  cases h : billB xs o t p
  · exact .inl rfl
  · obtain ⟨h1, h2, h3, h4, h5⟩ := billB_few h
    obtain ⟨hs0, hs1⟩ := sum_bd h1
    obtain ⟨hnb0, hnb1⟩ := net_bd hs0 h2.1 h2.2
    obtain ⟨hxb0, hxb1⟩ := tax_bd hs0 h2.1 h2.2 h3.1 h3.2
    exact .inr ⟨rfl, h1, h2.1, h2.2, h3.1, h3.2, h4, h5, hs0, hs1, by unfold totOf; omega, by unfold totOf; omega⟩

def rSum (xs : List Item) (o t p : Int) : Array Value := if billB xs o t p = true then #[.int .i64 (sumGo xs 0), .int .i64 0] else #[.int .i64 0, .int .i64 1]
def rTot (xs : List Item) (o t p : Int) : Array Value := if billB xs o t p = true then #[.int .i64 (totOf (sumGo xs 0) o t), .int .i64 (taxOf (sumGo xs 0) o t), .int .i64 0] else #[.int .i64 0, .int .i64 0, .int .i64 1]
def rLeft (xs : List Item) (o t p : Int) : Array Value := if billB xs o t p = true then #[.int .i64 (totOf (sumGo xs 0) o t - p), .int .i64 0] else #[.int .i64 0, .int .i64 1]

set_option maxRecDepth 100000 in
set_option maxHeartbeats 1600000 in
theorem TotalOfBill_c (A : Option Addr) (xs : List Item) (n c : Nat) (o t p : Int) (hn : Hid (xs.length = n)) (hm : (n : Int) ≤ 1048576) (hs : Hid (∀ x ∈ xs, x.name.size ≤ 9223372036854775807)) (w : World) (hA : Arr w A (flat Item.cells xs)) : Calls Tryd.prog 22 #[.agg #[.slice A n c, .int .i64 o, .int .i64 t, .int .i64 p]] w (RetT (rTot xs o t p) w) := by
  go_enter Tryd.func22, Tryd.ntmps22
  go_wp2_with fail
  obtain ⟨w0, hw0⟩ : ∃ w0, w0 = w.alloc (Obj.cells #[Value.slice A n c, Value.int IntKind.i64 o, Value.int IntKind.i64 t, Value.int IntKind.i64 p] 26) := ⟨_, rfl⟩
  obtain ⟨g, hg⟩ : ∃ g, g = w.heap.size := ⟨_, rfl⟩
  have hv : Below w.heap.size w w0 := by rw [hw0]; exact bl_alloc (Below.refl _ _) _
  have hB : Blk w0 g 26 #[Value.slice A n c, Value.int IntKind.i64 o, Value.int IntKind.i64 t, Value.int IntKind.i64 p] := by rw [hw0, hg]; exact Blk.new _ _ _
  rw [← hw0, ← hg]
  clear hw0
  have HG := Lib.hid hg
  clear hg
  have k0 : w0.cell? ⟨g, 0, none⟩ = some (.slice A n c) := hB.cell 0
  have k1 : w0.cell? ⟨g, 1, none⟩ = some (.int .i64 o) := hB.cell 1
  have k2 : w0.cell? ⟨g, 2, none⟩ = some (.int .i64 t) := hB.cell 2
  have k3 : w0.cell? ⟨g, 3, none⟩ = some (.int .i64 p) := hB.cell 3
  refine (validBill_c A xs n c o t p hn hm hs _ (hA.below hv)).mono ?_
  rintro e W ⟨rfl, hb⟩
  replace hv := bl_trans hv hb
  replace hB := hB.below hb
  have k0 : W.cell? ⟨g, 0, none⟩ = some (.slice A n c) := hB.cell 0
  have k1 : W.cell? ⟨g, 1, none⟩ = some (.int .i64 o) := hB.cell 1
  have k2 : W.cell? ⟨g, 2, none⟩ = some (.int .i64 t) := hB.cell 2
  have k3 : W.cell? ⟨g, 3, none⟩ = some (.int .i64 p) := hB.cell 3
  rcases bill_cases xs o t p with HB | ⟨HB, hx, ho0, ho1, ht0, ht1, hp0, hp1, hs0, hs1, hT0, hT1⟩
  · rw [HB.out]
    go_wp2_with fail
    go_returns
    exact RetT.mk (by rw [rTot, HB.out]; rfl) hv
  · rw [HB.out]
    go_wp2_with fail
    refine (total_c A xs n c o t p o _ hn hx (Lib.hid rfl) ho0 ho1 ht0 ht1 _ (hA.below hv)).mono ?_
    rintro e W ⟨rfl, hb⟩
    go_wp2_with fail
    go_returns
    exact RetT.mk (by rw [rTot, HB.out]; rfl) (bl_trans hv hb)
end Go.Proofs.YtnhkdcebldppmaaDoor
