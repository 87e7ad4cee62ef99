
/- SameDesk, the program's and the reference's. -/
import Derived.Test.YtihgjmhhpiobbaaGreatDoorSameL
namespace Go.Proofs.YtihgjmhhpiobbaaGreatDoor
open Go.RowKit

def sameD (f f2 : Foot) (xs ys : List Last) (s s2 : Style) (lg lg2 : ByteArray) : Bool := f.beq f2 && listBeq Last.beq xs ys && s.beq s2 && decide (lg = lg2)
end Go.Proofs.YtihgjmhhpiobbaaGreatDoor
