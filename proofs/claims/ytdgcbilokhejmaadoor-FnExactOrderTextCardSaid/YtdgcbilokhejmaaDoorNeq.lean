/- '!=' between two structs, as the walk asks it; slices.Equal over them. -/
import Derived.Test.YtdgcbilokhejmaaDoorFam
namespace Go.Proofs.YtdgcbilokhejmaaDoor
open Go.RowKit

end Go.Proofs.YtdgcbilokhejmaaDoor
