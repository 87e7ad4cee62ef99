
/- Styles: the reference's setting of a clause. builds (10 s). -/
import Derived.Test.YtihgjmhhpiobbaaGreatDoorStyV
import Derived.Laws.ResultCell
namespace Go.Proofs.YtihgjmhhpiobbaaGreatDoor
open Go.RowKit

def OutSet (x : Style) (g : Nat) (w : World) (e : Ending) (w' : World) : Prop := e = .returned (.tuple #[]) ∧ Blk w' g 33 #[Value.string x.upper, Value.string x.color, Value.string x.lining, Value.string x.sole, Value.int IntKind.i64 x.thick, Value.int IntKind.i64 x.heel, Value.int IntKind.i64 x.eyelets, Value.int IntKind.i64 x.density, Value.bool x.double] ∧ w.grownBy w' (some g)
end Go.Proofs.YtihgjmhhpiobbaaGreatDoor
