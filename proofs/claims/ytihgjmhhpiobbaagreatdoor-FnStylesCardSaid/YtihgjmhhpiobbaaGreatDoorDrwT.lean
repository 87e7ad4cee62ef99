/- Drawn materials: the list. -/
import Derived.Test.YtihgjmhhpiobbaaGreatDoorDrwS
namespace Go.Proofs.YtihgjmhhpiobbaaGreatDoor
open Go.RowKit

end Go.Proofs.YtihgjmhhpiobbaaGreatDoor
