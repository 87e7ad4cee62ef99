
/- Bills: what the exported functions compute, the program's and the reference's; equality, marks. -/
import Derived.Test.YtnhkdcebldppmaaDoorBillL
namespace Go.Proofs.YtnhkdcebldppmaaDoor
open Go.RowKit


end Go.Proofs.YtnhkdcebldppmaaDoor
