
/- Soles: the laws' own helpers. -/
import Derived.Test.YthibjjcdihgfkaaSolP
import Derived.Laws.ResultCell
namespace Go.Proofs.Ythibjjcdihgfkaa
open Go.RowKit

def OutSole (m : Nat) (cs : List Value) (w : World) (e : Ending) (w' : World) : Prop :=
  ∃ g, e = .returned (.agg #[.slice (some ⟨g, 0, none⟩) m m]) ∧ w'.ownsRow w.heap.size 2 1 (.slice (some ⟨g, 0, none⟩) m m) m cs ∧ Below w.heap.size w w'
set_option maxRecDepth 100000 in
set_option maxHeartbeats 800000 in
theorem eqSole_c (A B : Option Addr) (ps : List Int) (m c d : Nat) (hp : Hid (ps.length = m)) (hz : (m : Int) ≤ 1048576) (w : World) (hA : Arr w A (flat icell ps)) (hB : Arr w B (flat icell ps)) :
    Calls Try.prog 17 #[.agg #[.slice A m c], .agg #[.slice B m d]] w (Ret (.bool true) w) := by
  go_enter Try.func17, Try.ntmps17
  go_wp2_with fail
  have h := fun w' (h1 : Arr w' A (flat icell ps)) (h2 : Arr w' B (flat icell ps)) => eqInt64S_c A B ps ps m m c d hp hp (by omega) w' h1 h2
  rw [decide_eq_true rfl] at h
  have H := Lib.hid h
  clear h
  have hb0 : Below w.heap.size w ((w.alloc (Obj.cells #[Value.slice A m c] 42)).alloc (Obj.cells #[Value.slice B m d] 42)) := bl_alloc (bl_alloc (Below.refl _ _) _) _
  refine (H.out _ (hA.below hb0) (hB.below hb0)).mono ?_
  rintro e w1 ⟨rfl, hb1⟩
  go_wp2_with fail
  go_returns
  exact Ret.mk rfl (bl_trans hb0 hb1)
end Go.Proofs.Ythibjjcdihgfkaa
