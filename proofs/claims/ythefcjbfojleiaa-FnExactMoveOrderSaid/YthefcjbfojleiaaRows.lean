/-
  No cell of these rows narrows 'for every input' (looked for: loops, veiled, ifaces, maps, wideKeys, modest, calm, conditions, laid).
  DERIVED. THE GIVEN ROWS OF THIS SEAT. 4 by the template 'for every input the law returns true; each argument reads behind the call as it read before'; 0 by the template 'total and deterministic' (their statements: YthefcjbfojleiaaTotals.lean).
  GIVEN WITH THE SEED: the statements are not yours to turn. If you find one false, say at which input.
  Laid BY PROGRAM, IN A SANDBOX (cutbox-rows.mjs): the forced cells as the released guide's own fill.sh prints them over the translation de9ecea4d256759d… (all of the seat's roots in one cut). By AI agents, Wed Nov 11 2026. No macro, syntax, notation, axiom, sorry.
-/
import Derived.Test.YthefcjbfojleiaaChecked
import GoSem.Claim
import GoSem.ClaimJoined
import GoSem.ClaimMapViews
import Derived.JoinedTies
import Derived.KernelRfl
namespace Go.Proofs.Ythefcjbfojleiaa
/- THE CELL 'sum', in the pinned program and in every row, IS THE sha256 OF THE DUMP (.gsa) THAT YthefcjbfojleiaaProg.lean LOADS. Nothing in Lean hashes anything: it is a label: what it is worth is what the hold of that sum in a sandbox is worth. -/
noncomputable def Try.pinned : Pinned := { name := "ythefcjbfojleiaa", sum := "de9ecea4d256759d96aa82e33da41e8e4a7b6d739e06c09fbb99158540424505", checked := Try.checked }
namespace Rows
def none {H : Type} : Left H := { results := [], args := [] }

/-- 'laws.FnExactSameOrders': WHATEVER THE INPUT: true; the input reads as it did. -/
def fnExactSameOrdersSpec : ChangeSpec := { name := "fnExactSameOrders", fn := fun _ => fun
  | [d1, d2] => { results := [.lit (.bool true)], args := [d1, d2] }
  | _ => none }
def fnExactSameOrdersRow : OpenClaim := { program := "ythefcjbfojleiaa", sum := "de9ecea4d256759d96aa82e33da41e8e4a7b6d739e06c09fbb99158540424505", func := "loop.example/g01043/laws.FnExactSameOrders", spec := "fnExactSameOrders", apart := false }
def FnExactSameOrdersSaid : Prop := fnExactSameOrdersRow.holds Try.pinned (OpenSpec.ofChange fnExactSameOrdersSpec)

/-- ITS FALSE NEIGHBOUR: 'it returns false'. Refute it at one input. -/
def fnExactSameOrdersWrong : ChangeSpec := { name := "fnExactSameOrders", fn := fun _ => fun
  | [d1, d2] => { results := [.lit (.bool false)], args := [d1, d2] }
  | _ => none }
def FnExactSameOrdersWrongFalsely : Prop := fnExactSameOrdersRow.holds Try.pinned (OpenSpec.ofChange fnExactSameOrdersWrong)

/-- 'laws.FnExactValidOrders': WHATEVER THE INPUT: true; the input reads as it did. -/
def fnExactValidOrdersSpec : ChangeSpec := { name := "fnExactValidOrders", fn := fun _ => fun
  | [d] => { results := [.lit (.bool true)], args := [d] }
  | _ => none }
def fnExactValidOrdersRow : OpenClaim := { program := "ythefcjbfojleiaa", sum := "de9ecea4d256759d96aa82e33da41e8e4a7b6d739e06c09fbb99158540424505", func := "loop.example/g01043/laws.FnExactValidOrders", spec := "fnExactValidOrders", apart := false }
def FnExactValidOrdersSaid : Prop := fnExactValidOrdersRow.holds Try.pinned (OpenSpec.ofChange fnExactValidOrdersSpec)

/-- ITS FALSE NEIGHBOUR: 'it returns false'. Refute it at one input. -/
def fnExactValidOrdersWrong : ChangeSpec := { name := "fnExactValidOrders", fn := fun _ => fun
  | [d] => { results := [.lit (.bool false)], args := [d] }
  | _ => none }
def FnExactValidOrdersWrongFalsely : Prop := fnExactValidOrdersRow.holds Try.pinned (OpenSpec.ofChange fnExactValidOrdersWrong)

/-- 'laws.FnExactMoveOrder': WHATEVER THE INPUT: true; the input reads as it did. -/
def fnExactMoveOrderSpec : ChangeSpec := { name := "fnExactMoveOrder", fn := fun _ => fun
  | [d1, d2] => { results := [.lit (.bool true)], args := [d1, d2] }
  | _ => none }
def fnExactMoveOrderRow : OpenClaim := { program := "ythefcjbfojleiaa", sum := "de9ecea4d256759d96aa82e33da41e8e4a7b6d739e06c09fbb99158540424505", func := "loop.example/g01043/laws.FnExactMoveOrder", spec := "fnExactMoveOrder", unfollowed := true, recurses := true, apart := false }
def FnExactMoveOrderSaid : Prop := fnExactMoveOrderRow.holds Try.pinned (OpenSpec.ofChange fnExactMoveOrderSpec)

/-- ITS FALSE NEIGHBOUR: 'it returns false'. Refute it at one input. -/
def fnExactMoveOrderWrong : ChangeSpec := { name := "fnExactMoveOrder", fn := fun _ => fun
  | [d1, d2] => { results := [.lit (.bool false)], args := [d1, d2] }
  | _ => none }
def FnExactMoveOrderWrongFalsely : Prop := fnExactMoveOrderRow.holds Try.pinned (OpenSpec.ofChange fnExactMoveOrderWrong)

/-- 'laws.FnExactWorkOn': WHATEVER THE INPUT: true; the input reads as it did. -/
def fnExactWorkOnSpec : ChangeSpec := { name := "fnExactWorkOn", fn := fun _ => fun
  | [d1, d2, d3] => { results := [.lit (.bool true)], args := [d1, d2, d3] }
  | _ => none }
def fnExactWorkOnRow : OpenClaim := { program := "ythefcjbfojleiaa", sum := "de9ecea4d256759d96aa82e33da41e8e4a7b6d739e06c09fbb99158540424505", func := "loop.example/g01043/laws.FnExactWorkOn", spec := "fnExactWorkOn", unfollowed := true, recurses := true, apart := false }
def FnExactWorkOnSaid : Prop := fnExactWorkOnRow.holds Try.pinned (OpenSpec.ofChange fnExactWorkOnSpec)

/-- ITS FALSE NEIGHBOUR: 'it returns false'. Refute it at one input. -/
def fnExactWorkOnWrong : ChangeSpec := { name := "fnExactWorkOn", fn := fun _ => fun
  | [d1, d2, d3] => { results := [.lit (.bool false)], args := [d1, d2, d3] }
  | _ => none }
def FnExactWorkOnWrongFalsely : Prop := fnExactWorkOnRow.holds Try.pinned (OpenSpec.ofChange fnExactWorkOnWrong)

/- THE SECOND FORM. 'bulk': how many values and letters a reading holds, each counted each time it is reached (what is shared counts as often as it is met; a slice's spare places count too). A statement '..UptoSaid' is the law's where the arguments, and the package variables that the reading takes, are together of bulk at most 1048576: NARROWER than '..Said'. Prove '..Said' where nothing that the law and all that it calls make is longer than what came in: it says more and counts as full. Else prove '..UptoSaid'. A law counts once. -/
mutual
def uptoBulk {H : Type} : DataW H → Nat
  | .lit (.string bytes) => bytes.length + 1
  | .lit _ => 1
  | .nil => 1
  | .ptr d => uptoBulk d + 1
  | .slice elems spare => uptoBulkAll elems + uptoBulkAll spare + 1
  | .agg parts => uptoBulkAll parts + 1
  | .iface _ d => uptoBulk d + 1
  | .map entries => uptoBulkEntries entries + 1
  | .held _ => 1
def uptoBulkAll {H : Type} : List (DataW H) → Nat
  | [] => 0
  | d :: r => uptoBulk d + uptoBulkAll r
def uptoBulkEntries {H : Type} : List (Lit × DataW H) → Nat
  | [] => 0
  | x :: r => uptoBulkEntry x + uptoBulkEntries r
def uptoBulkEntry {H : Type} : Lit × DataW H → Nat
  | (.string bytes, d) => bytes.length + uptoBulk d + 1
  | (_, d) => uptoBulk d + 1
 end
def uptoSmall : (H : Type) → List (DataW H) → Bool := fun _ ds => decide (uptoBulkAll ds ≤ 1048576)
def OpenSpec.upto (s : _root_.Go.ChangeSpec) : _root_.Go.OpenSpec := { _root_.Go.OpenSpec.ofChange s with cond := some uptoSmall }

/-- 'laws.FnExactSameOrders', WHERE WHAT IT READS IS OF BULK AT MOST 1048576: true; the input reads as it did. -/
def fnExactSameOrdersUptoRow : OpenClaim := { program := "ythefcjbfojleiaa", sum := "de9ecea4d256759d96aa82e33da41e8e4a7b6d739e06c09fbb99158540424505", func := "loop.example/g01043/laws.FnExactSameOrders", spec := "fnExactSameOrders", apart := false, narrowed := true }
def FnExactSameOrdersUptoSaid : Prop := fnExactSameOrdersUptoRow.holds Try.pinned (OpenSpec.upto fnExactSameOrdersSpec)

/-- 'laws.FnExactValidOrders', WHERE WHAT IT READS IS OF BULK AT MOST 1048576: true; the input reads as it did. -/
def fnExactValidOrdersUptoRow : OpenClaim := { program := "ythefcjbfojleiaa", sum := "de9ecea4d256759d96aa82e33da41e8e4a7b6d739e06c09fbb99158540424505", func := "loop.example/g01043/laws.FnExactValidOrders", spec := "fnExactValidOrders", apart := false, narrowed := true }
def FnExactValidOrdersUptoSaid : Prop := fnExactValidOrdersUptoRow.holds Try.pinned (OpenSpec.upto fnExactValidOrdersSpec)

/-- 'laws.FnExactMoveOrder', WHERE WHAT IT READS IS OF BULK AT MOST 1048576: true; the input reads as it did. -/
def fnExactMoveOrderUptoRow : OpenClaim := { program := "ythefcjbfojleiaa", sum := "de9ecea4d256759d96aa82e33da41e8e4a7b6d739e06c09fbb99158540424505", func := "loop.example/g01043/laws.FnExactMoveOrder", spec := "fnExactMoveOrder", unfollowed := true, recurses := true, apart := false, narrowed := true }
def FnExactMoveOrderUptoSaid : Prop := fnExactMoveOrderUptoRow.holds Try.pinned (OpenSpec.upto fnExactMoveOrderSpec)

/-- 'laws.FnExactWorkOn', WHERE WHAT IT READS IS OF BULK AT MOST 1048576: true; the input reads as it did. -/
def fnExactWorkOnUptoRow : OpenClaim := { program := "ythefcjbfojleiaa", sum := "de9ecea4d256759d96aa82e33da41e8e4a7b6d739e06c09fbb99158540424505", func := "loop.example/g01043/laws.FnExactWorkOn", spec := "fnExactWorkOn", unfollowed := true, recurses := true, apart := false, narrowed := true }
def FnExactWorkOnUptoSaid : Prop := fnExactWorkOnUptoRow.holds Try.pinned (OpenSpec.upto fnExactWorkOnSpec)

end Rows
end Go.Proofs.Ythefcjbfojleiaa
