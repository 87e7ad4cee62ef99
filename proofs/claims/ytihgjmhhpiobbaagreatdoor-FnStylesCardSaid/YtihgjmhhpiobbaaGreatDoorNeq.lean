/- '!=' between two structs, as the walk asks it; slices.Equal over them. -/
import Derived.Test.YtihgjmhhpiobbaaGreatDoorFam
namespace Go.Proofs.YtihgjmhhpiobbaaGreatDoor
open Go.RowKit

end Go.Proofs.YtihgjmhhpiobbaaGreatDoor
