/- '!=' between two structs, as the walk asks it; slices.Equal over them. -/
import Derived.Test.YtbfelgfnebeliaaDoorFam
namespace Go.Proofs.YtbfelgfnebeliaaDoor
open Go.RowKit

end Go.Proofs.YtbfelgfnebeliaaDoor
