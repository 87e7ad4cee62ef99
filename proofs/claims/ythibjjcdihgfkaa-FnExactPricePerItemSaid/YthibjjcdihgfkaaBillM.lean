/- Marks on a bill. -/
import Derived.Test.YthibjjcdihgfkaaBillX
import Derived.Test.YthibjjcdihgfkaaOwn
namespace Go.Proofs.Ythibjjcdihgfkaa
open Go.RowKit

def MarkB (base E size : Nat) (A : Option Addr) (n c : Nat) (q : Int) (w : World) (e : Ending) (w' : World) : Prop :=
  e = .returned (.int .i64 q) ∧ ∃ cs, w'.ownsRow base E size (.slice A n c) n cs ∧ w.grownBy w' (A.map (·.block))
set_option maxHeartbeats 800000 in
theorem markBill_c (A : Option Addr) (n c base : Nat) (o t p : Int) (cs : List Value) (q : Int) (h0 : 0 ≤ q) (h1 : q + n * 3 ≤ 100000000) (hz : (n : Int) ≤ 10000000) (w : World) (hO : w.ownsRow base 108 3 (.slice A n c) n cs) :
    Calls Try.prog 30 #[.agg #[.slice A n c, .int .i64 o, .int .i64 t, .int .i64 p], .int .i64 q] w (MarkB base 108 3 A n c (q + n * 3) w) := by
  go_enter Try.func30, Try.ntmps30
  go_wp2_with fail
  refine (markItemS_c A n c base cs q h0 h1 hz _ (own_below hO (bl_alloc (Below.refl _ _) _))).mono ?_
  rintro e W ⟨rfl, hown, hg⟩
  go_wp2_with fail
  go_returns
  exact ⟨rfl, _, hown, grown_trans (grown_alloc (World.grownBy.refl _ _) _) hg⟩
end Go.Proofs.Ythibjjcdihgfkaa
