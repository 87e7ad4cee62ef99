/- '!=' between two structs, as the walk asks it; slices.Equal over them. -/
import Derived.Test.YtilfcjibpohpiaaFam
namespace Go.Proofs.Ytilfcjibpohpiaa
open Go.RowKit

end Go.Proofs.Ytilfcjibpohpiaa
