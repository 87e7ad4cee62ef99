/- '!=' between two structs, as the walk asks it; slices.Equal over them. -/
import Derived.Test.YtnhkdcebldppmaaDoorFam
namespace Go.Proofs.YtnhkdcebldppmaaDoor
open Go.RowKit

end Go.Proofs.YtnhkdcebldppmaaDoor
