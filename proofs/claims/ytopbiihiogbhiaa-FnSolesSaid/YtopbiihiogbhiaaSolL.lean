
/- Soles: the laws' own helpers. -/
import Derived.Test.YtopbiihiogbhiaaSolP
import Derived.Laws.ResultCell
namespace Go.Proofs.Ytopbiihiogbhiaa
open Go.RowKit

def OutSole (m : Nat) (cs : List Value) (w : World) (e : Ending) (w' : World) : Prop :=
  ∃ g, e = .returned (.agg #[.slice (some ⟨g, 0, none⟩) m m]) ∧ w'.ownsRow w.heap.size 2 1 (.slice (some ⟨g, 0, none⟩) m m) m cs ∧ Below w.heap.size w w'
end Go.Proofs.Ytopbiihiogbhiaa
