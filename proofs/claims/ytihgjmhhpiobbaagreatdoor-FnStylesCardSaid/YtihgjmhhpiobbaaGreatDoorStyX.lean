
/- Styles: ChangeStyle, the reference's. builds (9 s). -/
import Derived.Test.YtihgjmhhpiobbaaGreatDoorStyW
import Derived.Laws.ResultCell
import Derived.Laws.Rows
namespace Go.Proofs.YtihgjmhhpiobbaaGreatDoor
open Go.RowKit

def okCl (s : ByteArray) : Bool := decide ((splC 59 s).length ≤ 1) && decide (prob (wrds s) = 0)
def chgS (x : Style) (s : ByteArray) : Style := if styB x = true then (if okCl s = true then setS x (wrds s) else zeroS) else zeroS
def chgC (x : Style) (s : ByteArray) : Int := if styB x = true then (if okCl s = true then 0 else 7) else 1
theorem grown_rowX (W : World) (g : Nat) (cs : Array Value) : W.grownBy (W.setRow g cs) (some g) :=
  ⟨rfl, rfl, rfl, by simp, fun i _ hne => setRow_other W g i cs (fun e => hne (by rw [e]))⟩
theorem below_rowX {a w : World} {g : Nat} (h : Below a.heap.size a w) (hg : a.heap.size ≤ g) (cs : Array Value) : Below a.heap.size a (w.setRow g cs) :=
  bl_grown h (grown_rowX w g cs) (fun k e => by injection e with e; omega)
end Go.Proofs.YtihgjmhhpiobbaaGreatDoor
