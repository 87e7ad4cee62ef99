/- slices.Clone of a struct. -/
import Derived.Test.YtnhkdcebldppmaaDoorApp
import Derived.Lib.SliceRun
namespace Go.Proofs.YtnhkdcebldppmaaDoor
open Go.RowKit

end Go.Proofs.YtnhkdcebldppmaaDoor
