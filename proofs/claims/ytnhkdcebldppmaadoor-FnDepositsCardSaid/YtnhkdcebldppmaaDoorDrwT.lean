/- Drawn materials: the list. -/
import Derived.Test.YtnhkdcebldppmaaDoorDrwS
namespace Go.Proofs.YtnhkdcebldppmaaDoor
open Go.RowKit

end Go.Proofs.YtnhkdcebldppmaaDoor
