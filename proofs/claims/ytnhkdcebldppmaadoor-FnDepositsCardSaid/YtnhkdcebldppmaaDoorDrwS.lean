/- Drawn materials. -/
import Derived.Test.YtnhkdcebldppmaaDoorSrc
namespace Go.Proofs.YtnhkdcebldppmaaDoor
open Go.RowKit

end Go.Proofs.YtnhkdcebldppmaaDoor
