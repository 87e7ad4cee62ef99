/- Drawn materials. -/
import Derived.Test.YtihgjmhhpiobbaaDoorSrc
namespace Go.Proofs.YtihgjmhhpiobbaaDoor
open Go.RowKit

end Go.Proofs.YtihgjmhhpiobbaaDoor
