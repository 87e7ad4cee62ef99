/- '!=' between two structs, as the walk asks it; slices.Equal over them. -/
import Derived.Test.YthefcjbfojleiabFam
namespace Go.Proofs.Ythefcjbfojleiab
open Go.RowKit

end Go.Proofs.Ythefcjbfojleiab
