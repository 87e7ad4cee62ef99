/- Drawn materials: the list. -/
import Derived.Test.YtggficacnmddiaaDrwS
namespace Go.Proofs.Ytggficacnmddiaa
open Go.RowKit

end Go.Proofs.Ytggficacnmddiaa
