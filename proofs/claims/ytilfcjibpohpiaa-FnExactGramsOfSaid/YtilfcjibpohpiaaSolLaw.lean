/- The laws on soles that return numbers, walked. -/
import Derived.Test.YtilfcjibpohpiaaSolT
import Derived.Test.YtilfcjibpohpiaaSolL
namespace Go.Proofs.Ytilfcjibpohpiaa
open Go.RowKit

theorem eqStuffS_same (A B : Option Addr) (xs : List Stuff) (n c d : Nat) (hn : Hid (xs.length = n)) (hz : (n : Int) ≤ 1048576) (w : World) (hA : Arr w A (flat Stuff.cells xs)) (hB : Arr w B (flat Stuff.cells xs)) :
    Calls Try.prog 31 #[.slice A n c, .slice B n d] w (Ret (.bool true) w) := by
  have h := eqStuffS_c A B xs xs n n c d hn hn hz w hA hB
  rwa [(listBeq_iff Stuff.beq_iff xs xs).2 rfl] at h
theorem rSole_form (f : Stuff → Int) (xs : List Stuff) (ps : List Int) : ∃ ra rb : Int, rSole f xs ps = #[.int .i64 ra, .int .i64 rb] := by unfold rSole; split <;> exact ⟨_, _, rfl⟩

end Go.Proofs.Ytilfcjibpohpiaa
