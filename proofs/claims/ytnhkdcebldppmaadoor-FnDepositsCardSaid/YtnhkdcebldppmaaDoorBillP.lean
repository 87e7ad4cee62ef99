
/- PayBill: the program's and the reference's. -/
import Derived.Test.YtnhkdcebldppmaaDoorBillZ
import Derived.Test.YtnhkdcebldppmaaDoorClone
import Derived.Test.YtnhkdcebldppmaaDoorOwn
import Derived.Laws.ResultCell
namespace Go.Proofs.YtnhkdcebldppmaaDoor
open Go.RowKit

def okPay (xs : List Item) (o t p k : Int) : Bool := billB xs o t p && inB k 0 100000000000 && decide (k ≤ totOf (sumGo xs 0) o t - p)
def cPay (xs : List Item) (o t p k : Int) : Int := if billB xs o t p = true then (if inB k 0 100000000000 = true then (if k ≤ totOf (sumGo xs 0) o t - p then 0 else 5) else 2) else 1
def lPay (xs : List Item) (o t p k : Int) : List Item := if okPay xs o t p k = true then xs else []
def vPay (xs : List Item) (o t p k : Int) (v : Int) : Int := if okPay xs o t p k = true then v else 0
/-- A bill of one's own and a code. -/
def OutP (n : Nat) (o t p : Int) (cs : List Value) (code : Int) (w : World) (e : Ending) (w' : World) : Prop :=
  ∃ A c, e = .returned (.tuple #[.agg #[.slice A n c, .int .i64 o, .int .i64 t, .int .i64 p], .int .i64 code]) ∧ w'.ownsRow w.heap.size 77 3 (.slice A n c) n cs ∧ Below w.heap.size w w'

theorem OutP.nil {xs : List Item} {o t p k code : Int} {w w' : World} (h : okPay xs o t p k = false) (hc : cPay xs o t p k = code) (hb : Below w.heap.size w w') :
    OutP (lPay xs o t p k).length (vPay xs o t p k o) (vPay xs o t p k t) (vPay xs o t p k (p + k)) (flat Item.cells (lPay xs o t p k)) (cPay xs o t p k) w (.returned (.tuple #[.agg #[.slice none 0 0, .int .i64 0, .int .i64 0, .int .i64 0], .int .i64 code])) w' := by
  have e1 : lPay xs o t p k = [] := by unfold lPay; rw [h]; rfl
  have e2 : ∀ v, vPay xs o t p k v = 0 := by intro v; unfold vPay; rw [h]; rfl
  rw [e1, e2, e2, e2, hc]
  exact ⟨none, 0, rfl, World.ownsRow_nil _ _ _ _, hb⟩

theorem OutP.ok {xs : List Item} {o t p k : Int} {n c : Nat} {A : Option Addr} {w w' : World} (h : okPay xs o t p k = true) (hc : cPay xs o t p k = 0) (hn : xs.length = n) (ho : w'.ownsRow w.heap.size 77 3 (.slice A n c) n (flat Item.cells xs)) (hb : Below w.heap.size w w') :
    OutP (lPay xs o t p k).length (vPay xs o t p k o) (vPay xs o t p k t) (vPay xs o t p k (p + k)) (flat Item.cells (lPay xs o t p k)) (cPay xs o t p k) w (.returned (.tuple #[.agg #[.slice A n c, .int .i64 o, .int .i64 t, .int .i64 (p + k)], .int .i64 0])) w' := by
  have e1 : lPay xs o t p k = xs := by unfold lPay; rw [h]; rfl
  have e2 : ∀ v, vPay xs o t p k v = v := by intro v; unfold vPay; rw [h]; rfl
  rw [e1, e2, e2, e2, hc, hn]
  exact ⟨A, c, rfl, ho, hb⟩

end Go.Proofs.YtnhkdcebldppmaaDoor
