/- '!=' between two structs, as the walk asks it; slices.Equal over them. -/
import Derived.Test.YthibjjcdihgfkaaFam
namespace Go.Proofs.Ythibjjcdihgfkaa
open Go.RowKit

end Go.Proofs.Ythibjjcdihgfkaa
