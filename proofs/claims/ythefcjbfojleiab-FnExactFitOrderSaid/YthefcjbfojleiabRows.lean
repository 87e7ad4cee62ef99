/-
  No cell of these rows narrows 'for every input' (looked for: loops, veiled, ifaces, maps, wideKeys, modest, calm, conditions, laid).
  DERIVED. THE GIVEN ROWS OF THIS SEAT. 6 by the template 'for every input the law returns true; each argument reads behind the call as it read before'; 0 by the template 'total and deterministic' (their statements: YthefcjbfojleiabTotals.lean).
  GIVEN WITH THE SEED: the statements are not yours to turn. If you find one false, say at which input.
  Laid BY PROGRAM, IN A SANDBOX (cutbox-rows.mjs): the forced cells as the released guide's own fill.sh prints them over the translation 126053cb6ed6eb64… (all of the seat's roots in one cut). By AI agents, Wed Nov 11 2026. No macro, syntax, notation, axiom, sorry.
-/
import Derived.Test.YthefcjbfojleiabChecked
import GoSem.Claim
import GoSem.ClaimJoined
import GoSem.ClaimMapViews
import Derived.JoinedTies
import Derived.KernelRfl
namespace Go.Proofs.Ythefcjbfojleiab
/- THE CELL 'sum', in the pinned program and in every row, IS THE sha256 OF THE DUMP (.gsa) THAT YthefcjbfojleiabProg.lean LOADS. Nothing in Lean hashes anything: it is a label: what it is worth is what the hold of that sum in a sandbox is worth. -/
noncomputable def Try.pinned : Pinned := { name := "ythefcjbfojleiab", sum := "126053cb6ed6eb64afb53f0e9e9033332d326270c69c2220dcb9c9bd60408c85", checked := Try.checked }
namespace Rows
def none {H : Type} : Left H := { results := [], args := [] }

/-- 'laws.FnExactFitOrder': WHATEVER THE INPUT: true; the input reads as it did. -/
def fnExactFitOrderSpec : ChangeSpec := { name := "fnExactFitOrder", fn := fun _ => fun
  | [d1, d2, d3] => { results := [.lit (.bool true)], args := [d1, d2, d3] }
  | _ => none }
def fnExactFitOrderRow : OpenClaim := { program := "ythefcjbfojleiab", sum := "126053cb6ed6eb64afb53f0e9e9033332d326270c69c2220dcb9c9bd60408c85", func := "loop.example/g01043/laws.FnExactFitOrder", spec := "fnExactFitOrder", unfollowed := true, recurses := true, apart := false }
def FnExactFitOrderSaid : Prop := fnExactFitOrderRow.holds Try.pinned (OpenSpec.ofChange fnExactFitOrderSpec)

/-- ITS FALSE NEIGHBOUR: 'it returns false'. Refute it at one input. -/
def fnExactFitOrderWrong : ChangeSpec := { name := "fnExactFitOrder", fn := fun _ => fun
  | [d1, d2, d3] => { results := [.lit (.bool false)], args := [d1, d2, d3] }
  | _ => none }
def FnExactFitOrderWrongFalsely : Prop := fnExactFitOrderRow.holds Try.pinned (OpenSpec.ofChange fnExactFitOrderWrong)

/-- 'laws.FnExactGreatestDelay': WHATEVER THE INPUT: true; the input reads as it did. -/
def fnExactGreatestDelaySpec : ChangeSpec := { name := "fnExactGreatestDelay", fn := fun _ => fun
  | [d1, d2] => { results := [.lit (.bool true)], args := [d1, d2] }
  | _ => none }
def fnExactGreatestDelayRow : OpenClaim := { program := "ythefcjbfojleiab", sum := "126053cb6ed6eb64afb53f0e9e9033332d326270c69c2220dcb9c9bd60408c85", func := "loop.example/g01043/laws.FnExactGreatestDelay", spec := "fnExactGreatestDelay", unfollowed := true, recurses := true, apart := false }
def FnExactGreatestDelaySaid : Prop := fnExactGreatestDelayRow.holds Try.pinned (OpenSpec.ofChange fnExactGreatestDelaySpec)

/-- ITS FALSE NEIGHBOUR: 'it returns false'. Refute it at one input. -/
def fnExactGreatestDelayWrong : ChangeSpec := { name := "fnExactGreatestDelay", fn := fun _ => fun
  | [d1, d2] => { results := [.lit (.bool false)], args := [d1, d2] }
  | _ => none }
def FnExactGreatestDelayWrongFalsely : Prop := fnExactGreatestDelayRow.holds Try.pinned (OpenSpec.ofChange fnExactGreatestDelayWrong)

/-- 'laws.FnExactTakeOrder': WHATEVER THE INPUT: true; the input reads as it did. -/
def fnExactTakeOrderSpec : ChangeSpec := { name := "fnExactTakeOrder", fn := fun _ => fun
  | [d1, d2] => { results := [.lit (.bool true)], args := [d1, d2] }
  | _ => none }
def fnExactTakeOrderRow : OpenClaim := { program := "ythefcjbfojleiab", sum := "126053cb6ed6eb64afb53f0e9e9033332d326270c69c2220dcb9c9bd60408c85", func := "loop.example/g01043/laws.FnExactTakeOrder", spec := "fnExactTakeOrder", inPlace := ["slices.overlaps[loop.example/g01043/impl.Order]"], unfollowed := true, recurses := true, apart := false }
def FnExactTakeOrderSaid : Prop := fnExactTakeOrderRow.holds Try.pinned (OpenSpec.ofChange fnExactTakeOrderSpec)

/-- ITS FALSE NEIGHBOUR: 'it returns false'. Refute it at one input. -/
def fnExactTakeOrderWrong : ChangeSpec := { name := "fnExactTakeOrder", fn := fun _ => fun
  | [d1, d2] => { results := [.lit (.bool false)], args := [d1, d2] }
  | _ => none }
def FnExactTakeOrderWrongFalsely : Prop := fnExactTakeOrderRow.holds Try.pinned (OpenSpec.ofChange fnExactTakeOrderWrong)

/-- 'laws.FnExactPromiseFor': WHATEVER THE INPUT: true; the input reads as it did. -/
def fnExactPromiseForSpec : ChangeSpec := { name := "fnExactPromiseFor", fn := fun _ => fun
  | [d1, d2, d3] => { results := [.lit (.bool true)], args := [d1, d2, d3] }
  | _ => none }
def fnExactPromiseForRow : OpenClaim := { program := "ythefcjbfojleiab", sum := "126053cb6ed6eb64afb53f0e9e9033332d326270c69c2220dcb9c9bd60408c85", func := "loop.example/g01043/laws.FnExactPromiseFor", spec := "fnExactPromiseFor", unfollowed := true, recurses := true, apart := false }
def FnExactPromiseForSaid : Prop := fnExactPromiseForRow.holds Try.pinned (OpenSpec.ofChange fnExactPromiseForSpec)

/-- ITS FALSE NEIGHBOUR: 'it returns false'. Refute it at one input. -/
def fnExactPromiseForWrong : ChangeSpec := { name := "fnExactPromiseFor", fn := fun _ => fun
  | [d1, d2, d3] => { results := [.lit (.bool false)], args := [d1, d2, d3] }
  | _ => none }
def FnExactPromiseForWrongFalsely : Prop := fnExactPromiseForRow.holds Try.pinned (OpenSpec.ofChange fnExactPromiseForWrong)

/-- 'laws.FnExactWorkOrder': WHATEVER THE INPUT: true; the input reads as it did. -/
def fnExactWorkOrderSpec : ChangeSpec := { name := "fnExactWorkOrder", fn := fun _ => fun
  | [d1, d2] => { results := [.lit (.bool true)], args := [d1, d2] }
  | _ => none }
def fnExactWorkOrderRow : OpenClaim := { program := "ythefcjbfojleiab", sum := "126053cb6ed6eb64afb53f0e9e9033332d326270c69c2220dcb9c9bd60408c85", func := "loop.example/g01043/laws.FnExactWorkOrder", spec := "fnExactWorkOrder", unfollowed := true, recurses := true, apart := false }
def FnExactWorkOrderSaid : Prop := fnExactWorkOrderRow.holds Try.pinned (OpenSpec.ofChange fnExactWorkOrderSpec)

/-- ITS FALSE NEIGHBOUR: 'it returns false'. Refute it at one input. -/
def fnExactWorkOrderWrong : ChangeSpec := { name := "fnExactWorkOrder", fn := fun _ => fun
  | [d1, d2] => { results := [.lit (.bool false)], args := [d1, d2] }
  | _ => none }
def FnExactWorkOrderWrongFalsely : Prop := fnExactWorkOrderRow.holds Try.pinned (OpenSpec.ofChange fnExactWorkOrderWrong)

/-- 'laws.FnExactLateOrders': WHATEVER THE INPUT: true; the input reads as it did. -/
def fnExactLateOrdersSpec : ChangeSpec := { name := "fnExactLateOrders", fn := fun _ => fun
  | [d1, d2] => { results := [.lit (.bool true)], args := [d1, d2] }
  | _ => none }
def fnExactLateOrdersRow : OpenClaim := { program := "ythefcjbfojleiab", sum := "126053cb6ed6eb64afb53f0e9e9033332d326270c69c2220dcb9c9bd60408c85", func := "loop.example/g01043/laws.FnExactLateOrders", spec := "fnExactLateOrders", unfollowed := true, recurses := true, apart := false }
def FnExactLateOrdersSaid : Prop := fnExactLateOrdersRow.holds Try.pinned (OpenSpec.ofChange fnExactLateOrdersSpec)

/-- ITS FALSE NEIGHBOUR: 'it returns false'. Refute it at one input. -/
def fnExactLateOrdersWrong : ChangeSpec := { name := "fnExactLateOrders", fn := fun _ => fun
  | [d1, d2] => { results := [.lit (.bool false)], args := [d1, d2] }
  | _ => none }
def FnExactLateOrdersWrongFalsely : Prop := fnExactLateOrdersRow.holds Try.pinned (OpenSpec.ofChange fnExactLateOrdersWrong)

/- THE SECOND FORM. 'bulk': how many values and letters a reading holds, each counted each time it is reached (what is shared counts as often as it is met; a slice's spare places count too). A statement '..UptoSaid' is the law's where the arguments, and the package variables that the reading takes, are together of bulk at most 1048576: NARROWER than '..Said'. Prove '..Said' where nothing that the law and all that it calls make is longer than what came in: it says more and counts as full. Else prove '..UptoSaid'. A law counts once. -/
mutual
def uptoBulk {H : Type} : DataW H → Nat
  | .lit (.string bytes) => bytes.length + 1
  | .lit _ => 1
  | .nil => 1
  | .ptr d => uptoBulk d + 1
  | .slice elems spare => uptoBulkAll elems + uptoBulkAll spare + 1
  | .agg parts => uptoBulkAll parts + 1
  | .iface _ d => uptoBulk d + 1
  | .map entries => uptoBulkEntries entries + 1
  | .held _ => 1
def uptoBulkAll {H : Type} : List (DataW H) → Nat
  | [] => 0
  | d :: r => uptoBulk d + uptoBulkAll r
def uptoBulkEntries {H : Type} : List (Lit × DataW H) → Nat
  | [] => 0
  | x :: r => uptoBulkEntry x + uptoBulkEntries r
def uptoBulkEntry {H : Type} : Lit × DataW H → Nat
  | (.string bytes, d) => bytes.length + uptoBulk d + 1
  | (_, d) => uptoBulk d + 1
 end
def uptoSmall : (H : Type) → List (DataW H) → Bool := fun _ ds => decide (uptoBulkAll ds ≤ 1048576)
def OpenSpec.upto (s : _root_.Go.ChangeSpec) : _root_.Go.OpenSpec := { _root_.Go.OpenSpec.ofChange s with cond := some uptoSmall }

/-- 'laws.FnExactFitOrder', WHERE WHAT IT READS IS OF BULK AT MOST 1048576: true; the input reads as it did. -/
def fnExactFitOrderUptoRow : OpenClaim := { program := "ythefcjbfojleiab", sum := "126053cb6ed6eb64afb53f0e9e9033332d326270c69c2220dcb9c9bd60408c85", func := "loop.example/g01043/laws.FnExactFitOrder", spec := "fnExactFitOrder", unfollowed := true, recurses := true, apart := false, narrowed := true }
def FnExactFitOrderUptoSaid : Prop := fnExactFitOrderUptoRow.holds Try.pinned (OpenSpec.upto fnExactFitOrderSpec)

/-- 'laws.FnExactGreatestDelay', WHERE WHAT IT READS IS OF BULK AT MOST 1048576: true; the input reads as it did. -/
def fnExactGreatestDelayUptoRow : OpenClaim := { program := "ythefcjbfojleiab", sum := "126053cb6ed6eb64afb53f0e9e9033332d326270c69c2220dcb9c9bd60408c85", func := "loop.example/g01043/laws.FnExactGreatestDelay", spec := "fnExactGreatestDelay", unfollowed := true, recurses := true, apart := false, narrowed := true }
def FnExactGreatestDelayUptoSaid : Prop := fnExactGreatestDelayUptoRow.holds Try.pinned (OpenSpec.upto fnExactGreatestDelaySpec)

/-- 'laws.FnExactTakeOrder', WHERE WHAT IT READS IS OF BULK AT MOST 1048576: true; the input reads as it did. -/
def fnExactTakeOrderUptoRow : OpenClaim := { program := "ythefcjbfojleiab", sum := "126053cb6ed6eb64afb53f0e9e9033332d326270c69c2220dcb9c9bd60408c85", func := "loop.example/g01043/laws.FnExactTakeOrder", spec := "fnExactTakeOrder", inPlace := ["slices.overlaps[loop.example/g01043/impl.Order]"], unfollowed := true, recurses := true, apart := false, narrowed := true }
def FnExactTakeOrderUptoSaid : Prop := fnExactTakeOrderUptoRow.holds Try.pinned (OpenSpec.upto fnExactTakeOrderSpec)

/-- 'laws.FnExactPromiseFor', WHERE WHAT IT READS IS OF BULK AT MOST 1048576: true; the input reads as it did. -/
def fnExactPromiseForUptoRow : OpenClaim := { program := "ythefcjbfojleiab", sum := "126053cb6ed6eb64afb53f0e9e9033332d326270c69c2220dcb9c9bd60408c85", func := "loop.example/g01043/laws.FnExactPromiseFor", spec := "fnExactPromiseFor", unfollowed := true, recurses := true, apart := false, narrowed := true }
def FnExactPromiseForUptoSaid : Prop := fnExactPromiseForUptoRow.holds Try.pinned (OpenSpec.upto fnExactPromiseForSpec)

/-- 'laws.FnExactWorkOrder', WHERE WHAT IT READS IS OF BULK AT MOST 1048576: true; the input reads as it did. -/
def fnExactWorkOrderUptoRow : OpenClaim := { program := "ythefcjbfojleiab", sum := "126053cb6ed6eb64afb53f0e9e9033332d326270c69c2220dcb9c9bd60408c85", func := "loop.example/g01043/laws.FnExactWorkOrder", spec := "fnExactWorkOrder", unfollowed := true, recurses := true, apart := false, narrowed := true }
def FnExactWorkOrderUptoSaid : Prop := fnExactWorkOrderUptoRow.holds Try.pinned (OpenSpec.upto fnExactWorkOrderSpec)

/-- 'laws.FnExactLateOrders', WHERE WHAT IT READS IS OF BULK AT MOST 1048576: true; the input reads as it did. -/
def fnExactLateOrdersUptoRow : OpenClaim := { program := "ythefcjbfojleiab", sum := "126053cb6ed6eb64afb53f0e9e9033332d326270c69c2220dcb9c9bd60408c85", func := "loop.example/g01043/laws.FnExactLateOrders", spec := "fnExactLateOrders", unfollowed := true, recurses := true, apart := false, narrowed := true }
def FnExactLateOrdersUptoSaid : Prop := fnExactLateOrdersUptoRow.holds Try.pinned (OpenSpec.upto fnExactLateOrdersSpec)

end Rows
end Go.Proofs.Ythefcjbfojleiab
