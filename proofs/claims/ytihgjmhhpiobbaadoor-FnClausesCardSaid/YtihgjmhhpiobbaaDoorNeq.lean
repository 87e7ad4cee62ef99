/- '!=' between two structs, as the walk asks it; slices.Equal over them. -/
import Derived.Test.YtihgjmhhpiobbaaDoorFam
namespace Go.Proofs.YtihgjmhhpiobbaaDoor
open Go.RowKit

end Go.Proofs.YtihgjmhhpiobbaaDoor
