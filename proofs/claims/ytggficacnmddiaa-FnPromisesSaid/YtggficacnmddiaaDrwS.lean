/- Drawn materials. -/
import Derived.Test.YtggficacnmddiaaSrc
namespace Go.Proofs.Ytggficacnmddiaa
open Go.RowKit

end Go.Proofs.Ytggficacnmddiaa
