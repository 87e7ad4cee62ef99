/- Drawn materials: the list. -/
import Derived.Test.YtihgjmhhpiobbaaDoorDrwS
namespace Go.Proofs.YtihgjmhhpiobbaaDoor
open Go.RowKit

end Go.Proofs.YtihgjmhhpiobbaaDoor
