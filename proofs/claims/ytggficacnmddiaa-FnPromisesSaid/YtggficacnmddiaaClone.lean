/- slices.Clone of a struct. -/
import Derived.Test.YtggficacnmddiaaApp
import Derived.Lib.SliceRun
namespace Go.Proofs.Ytggficacnmddiaa
open Go.RowKit

end Go.Proofs.Ytggficacnmddiaa
