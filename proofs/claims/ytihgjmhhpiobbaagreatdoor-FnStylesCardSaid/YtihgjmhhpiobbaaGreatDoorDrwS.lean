/- Drawn materials. -/
import Derived.Test.YtihgjmhhpiobbaaGreatDoorSrc
namespace Go.Proofs.YtihgjmhhpiobbaaGreatDoor
open Go.RowKit

end Go.Proofs.YtihgjmhhpiobbaaGreatDoor
