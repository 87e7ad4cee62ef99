
/- The laws on soles that return numbers, walked. -/
import Derived.Test.YtefkfkdpfecnoaaSolT
import Derived.Test.YtefkfkdpfecnoaaSolL
namespace Go.Proofs.Ytefkfkdpfecnoaa
open Go.RowKit

theorem rSole_form (f : Stuff → Int) (xs : List Stuff) (ps : List Int) : ∃ ra rb : Int, rSole f xs ps = #[.int .i64 ra, .int .i64 rb] := by unfold rSole; split <;> exact ⟨_, _, rfl⟩

end Go.Proofs.Ytefkfkdpfecnoaa
