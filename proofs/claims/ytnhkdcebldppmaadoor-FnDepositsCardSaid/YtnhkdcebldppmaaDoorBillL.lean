
/- Bills: the laws' own helpers, and what the exported functions compute. -/
import Derived.Test.YtnhkdcebldppmaaDoorBillS
namespace Go.Proofs.YtnhkdcebldppmaaDoor
open Go.RowKit

def OutBill (n : Nat) (o t p : Int) (cs : List Value) (w : World) (e : Ending) (w' : World) : Prop :=
  ∃ g, e = .returned (.agg #[.slice (some ⟨g, 0, none⟩) n n, .int .i64 o, .int .i64 t, .int .i64 p]) ∧ w'.ownsRow w.heap.size 77 3 (.slice (some ⟨g, 0, none⟩) n n) n cs ∧ Below w.heap.size w w'
end Go.Proofs.YtnhkdcebldppmaaDoor
