
/- The laws on soles that return numbers, walked. -/
import Derived.Test.YtopbiihiogbhiaaSolT
import Derived.Test.YtopbiihiogbhiaaSolL
namespace Go.Proofs.Ytopbiihiogbhiaa
open Go.RowKit

theorem rSole_form (f : Stuff → Int) (xs : List Stuff) (ps : List Int) : ∃ ra rb : Int, rSole f xs ps = #[.int .i64 ra, .int .i64 rb] := by unfold rSole; split <;> exact ⟨_, _, rfl⟩

end Go.Proofs.Ytopbiihiogbhiaa
