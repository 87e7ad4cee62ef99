/- '!=' between two structs, as the walk asks it; slices.Equal over them. -/
import Derived.Test.YtggficacnmddiaaFam
namespace Go.Proofs.Ytggficacnmddiaa
open Go.RowKit

end Go.Proofs.Ytggficacnmddiaa
