/-
  No cell of these rows narrows 'for every input' (looked for: loops, veiled, ifaces, maps, wideKeys, modest, calm, conditions, laid).
  DERIVED. THE GIVEN ROWS OF THIS SEAT. 11 by the template 'for every input the law returns true; each argument reads behind the call as it read before'; 0 by the template 'total and deterministic' (their statements: YtbkblikjaklmkaaTotals.lean).
  GIVEN WITH THE SEED: the statements are not yours to turn. If you find one false, say at which input.
  Laid BY PROGRAM, IN A SANDBOX (cutbox-rows.mjs): the forced cells as the released guide's own fill.sh prints them over the translation 338e6caa8d04f704… (all of the seat's roots in one cut). By AI agents, Wed Nov 11 2026. No macro, syntax, notation, axiom, sorry.
-/
import Derived.Test.YtbkblikjaklmkaaChecked
import GoSem.Claim
import GoSem.ClaimJoined
import GoSem.ClaimMapViews
import Derived.JoinedTies
import Derived.KernelRfl
namespace Go.Proofs.Ytbkblikjaklmkaa
/- THE CELL 'sum', in the pinned program and in every row, IS THE sha256 OF THE DUMP (.gsa) THAT YtbkblikjaklmkaaProg.lean LOADS. Nothing in Lean hashes anything: it is a label: what it is worth is what the hold of that sum in a sandbox is worth. -/
noncomputable def Try.pinned : Pinned := { name := "ytbkblikjaklmkaa", sum := "338e6caa8d04f70466ca8895590be5ee81460a60ca9cdbefd638df495359e8aa", checked := Try.checked }
namespace Rows
def none {H : Type} : Left H := { results := [], args := [] }

/-- 'laws.FnExactSameOrders': WHATEVER THE INPUT: true; the input reads as it did. -/
def fnExactSameOrdersSpec : ChangeSpec := { name := "fnExactSameOrders", fn := fun _ => fun
  | [d1, d2] => { results := [.lit (.bool true)], args := [d1, d2] }
  | _ => none }
def fnExactSameOrdersRow : OpenClaim := { program := "ytbkblikjaklmkaa", sum := "338e6caa8d04f70466ca8895590be5ee81460a60ca9cdbefd638df495359e8aa", func := "loop.example/g01043/laws.FnExactSameOrders", spec := "fnExactSameOrders", apart := false }
def FnExactSameOrdersSaid : Prop := fnExactSameOrdersRow.holds Try.pinned (OpenSpec.ofChange fnExactSameOrdersSpec)

/-- ITS FALSE NEIGHBOUR: 'it returns false'. Refute it at one input. -/
def fnExactSameOrdersWrong : ChangeSpec := { name := "fnExactSameOrders", fn := fun _ => fun
  | [d1, d2] => { results := [.lit (.bool false)], args := [d1, d2] }
  | _ => none }
def FnExactSameOrdersWrongFalsely : Prop := fnExactSameOrdersRow.holds Try.pinned (OpenSpec.ofChange fnExactSameOrdersWrong)

/-- 'laws.FnExactValidOrders': WHATEVER THE INPUT: true; the input reads as it did. -/
def fnExactValidOrdersSpec : ChangeSpec := { name := "fnExactValidOrders", fn := fun _ => fun
  | [d] => { results := [.lit (.bool true)], args := [d] }
  | _ => none }
def fnExactValidOrdersRow : OpenClaim := { program := "ytbkblikjaklmkaa", sum := "338e6caa8d04f70466ca8895590be5ee81460a60ca9cdbefd638df495359e8aa", func := "loop.example/g01043/laws.FnExactValidOrders", spec := "fnExactValidOrders", apart := false }
def FnExactValidOrdersSaid : Prop := fnExactValidOrdersRow.holds Try.pinned (OpenSpec.ofChange fnExactValidOrdersSpec)

/-- ITS FALSE NEIGHBOUR: 'it returns false'. Refute it at one input. -/
def fnExactValidOrdersWrong : ChangeSpec := { name := "fnExactValidOrders", fn := fun _ => fun
  | [d] => { results := [.lit (.bool false)], args := [d] }
  | _ => none }
def FnExactValidOrdersWrongFalsely : Prop := fnExactValidOrdersRow.holds Try.pinned (OpenSpec.ofChange fnExactValidOrdersWrong)

/-- 'laws.FnExactMoveOrder': WHATEVER THE INPUT: true; the input reads as it did. -/
def fnExactMoveOrderSpec : ChangeSpec := { name := "fnExactMoveOrder", fn := fun _ => fun
  | [d1, d2] => { results := [.lit (.bool true)], args := [d1, d2] }
  | _ => none }
def fnExactMoveOrderRow : OpenClaim := { program := "ytbkblikjaklmkaa", sum := "338e6caa8d04f70466ca8895590be5ee81460a60ca9cdbefd638df495359e8aa", func := "loop.example/g01043/laws.FnExactMoveOrder", spec := "fnExactMoveOrder", unfollowed := true, recurses := true, apart := false }
def FnExactMoveOrderSaid : Prop := fnExactMoveOrderRow.holds Try.pinned (OpenSpec.ofChange fnExactMoveOrderSpec)

/-- ITS FALSE NEIGHBOUR: 'it returns false'. Refute it at one input. -/
def fnExactMoveOrderWrong : ChangeSpec := { name := "fnExactMoveOrder", fn := fun _ => fun
  | [d1, d2] => { results := [.lit (.bool false)], args := [d1, d2] }
  | _ => none }
def FnExactMoveOrderWrongFalsely : Prop := fnExactMoveOrderRow.holds Try.pinned (OpenSpec.ofChange fnExactMoveOrderWrong)

/-- 'laws.FnExactWorkOn': WHATEVER THE INPUT: true; the input reads as it did. -/
def fnExactWorkOnSpec : ChangeSpec := { name := "fnExactWorkOn", fn := fun _ => fun
  | [d1, d2, d3] => { results := [.lit (.bool true)], args := [d1, d2, d3] }
  | _ => none }
def fnExactWorkOnRow : OpenClaim := { program := "ytbkblikjaklmkaa", sum := "338e6caa8d04f70466ca8895590be5ee81460a60ca9cdbefd638df495359e8aa", func := "loop.example/g01043/laws.FnExactWorkOn", spec := "fnExactWorkOn", unfollowed := true, recurses := true, apart := false }
def FnExactWorkOnSaid : Prop := fnExactWorkOnRow.holds Try.pinned (OpenSpec.ofChange fnExactWorkOnSpec)

/-- ITS FALSE NEIGHBOUR: 'it returns false'. Refute it at one input. -/
def fnExactWorkOnWrong : ChangeSpec := { name := "fnExactWorkOn", fn := fun _ => fun
  | [d1, d2, d3] => { results := [.lit (.bool false)], args := [d1, d2, d3] }
  | _ => none }
def FnExactWorkOnWrongFalsely : Prop := fnExactWorkOnRow.holds Try.pinned (OpenSpec.ofChange fnExactWorkOnWrong)

/-- 'laws.FnExactFitOrder': WHATEVER THE INPUT: true; the input reads as it did. -/
def fnExactFitOrderSpec : ChangeSpec := { name := "fnExactFitOrder", fn := fun _ => fun
  | [d1, d2, d3] => { results := [.lit (.bool true)], args := [d1, d2, d3] }
  | _ => none }
def fnExactFitOrderRow : OpenClaim := { program := "ytbkblikjaklmkaa", sum := "338e6caa8d04f70466ca8895590be5ee81460a60ca9cdbefd638df495359e8aa", func := "loop.example/g01043/laws.FnExactFitOrder", spec := "fnExactFitOrder", unfollowed := true, recurses := true, apart := false }
def FnExactFitOrderSaid : Prop := fnExactFitOrderRow.holds Try.pinned (OpenSpec.ofChange fnExactFitOrderSpec)

/-- ITS FALSE NEIGHBOUR: 'it returns false'. Refute it at one input. -/
def fnExactFitOrderWrong : ChangeSpec := { name := "fnExactFitOrder", fn := fun _ => fun
  | [d1, d2, d3] => { results := [.lit (.bool false)], args := [d1, d2, d3] }
  | _ => none }
def FnExactFitOrderWrongFalsely : Prop := fnExactFitOrderRow.holds Try.pinned (OpenSpec.ofChange fnExactFitOrderWrong)

/-- 'laws.FnExactGreatestDelay': WHATEVER THE INPUT: true; the input reads as it did. -/
def fnExactGreatestDelaySpec : ChangeSpec := { name := "fnExactGreatestDelay", fn := fun _ => fun
  | [d1, d2] => { results := [.lit (.bool true)], args := [d1, d2] }
  | _ => none }
def fnExactGreatestDelayRow : OpenClaim := { program := "ytbkblikjaklmkaa", sum := "338e6caa8d04f70466ca8895590be5ee81460a60ca9cdbefd638df495359e8aa", func := "loop.example/g01043/laws.FnExactGreatestDelay", spec := "fnExactGreatestDelay", unfollowed := true, recurses := true, apart := false }
def FnExactGreatestDelaySaid : Prop := fnExactGreatestDelayRow.holds Try.pinned (OpenSpec.ofChange fnExactGreatestDelaySpec)

/-- ITS FALSE NEIGHBOUR: 'it returns false'. Refute it at one input. -/
def fnExactGreatestDelayWrong : ChangeSpec := { name := "fnExactGreatestDelay", fn := fun _ => fun
  | [d1, d2] => { results := [.lit (.bool false)], args := [d1, d2] }
  | _ => none }
def FnExactGreatestDelayWrongFalsely : Prop := fnExactGreatestDelayRow.holds Try.pinned (OpenSpec.ofChange fnExactGreatestDelayWrong)

/-- 'laws.FnExactTakeOrder': WHATEVER THE INPUT: true; the input reads as it did. -/
def fnExactTakeOrderSpec : ChangeSpec := { name := "fnExactTakeOrder", fn := fun _ => fun
  | [d1, d2] => { results := [.lit (.bool true)], args := [d1, d2] }
  | _ => none }
def fnExactTakeOrderRow : OpenClaim := { program := "ytbkblikjaklmkaa", sum := "338e6caa8d04f70466ca8895590be5ee81460a60ca9cdbefd638df495359e8aa", func := "loop.example/g01043/laws.FnExactTakeOrder", spec := "fnExactTakeOrder", inPlace := ["slices.overlaps[loop.example/g01043/impl.Order]"], unfollowed := true, recurses := true, apart := false }
def FnExactTakeOrderSaid : Prop := fnExactTakeOrderRow.holds Try.pinned (OpenSpec.ofChange fnExactTakeOrderSpec)

/-- ITS FALSE NEIGHBOUR: 'it returns false'. Refute it at one input. -/
def fnExactTakeOrderWrong : ChangeSpec := { name := "fnExactTakeOrder", fn := fun _ => fun
  | [d1, d2] => { results := [.lit (.bool false)], args := [d1, d2] }
  | _ => none }
def FnExactTakeOrderWrongFalsely : Prop := fnExactTakeOrderRow.holds Try.pinned (OpenSpec.ofChange fnExactTakeOrderWrong)

/-- 'laws.FnExactPromiseFor': WHATEVER THE INPUT: true; the input reads as it did. -/
def fnExactPromiseForSpec : ChangeSpec := { name := "fnExactPromiseFor", fn := fun _ => fun
  | [d1, d2, d3] => { results := [.lit (.bool true)], args := [d1, d2, d3] }
  | _ => none }
def fnExactPromiseForRow : OpenClaim := { program := "ytbkblikjaklmkaa", sum := "338e6caa8d04f70466ca8895590be5ee81460a60ca9cdbefd638df495359e8aa", func := "loop.example/g01043/laws.FnExactPromiseFor", spec := "fnExactPromiseFor", unfollowed := true, recurses := true, apart := false }
def FnExactPromiseForSaid : Prop := fnExactPromiseForRow.holds Try.pinned (OpenSpec.ofChange fnExactPromiseForSpec)

/-- ITS FALSE NEIGHBOUR: 'it returns false'. Refute it at one input. -/
def fnExactPromiseForWrong : ChangeSpec := { name := "fnExactPromiseFor", fn := fun _ => fun
  | [d1, d2, d3] => { results := [.lit (.bool false)], args := [d1, d2, d3] }
  | _ => none }
def FnExactPromiseForWrongFalsely : Prop := fnExactPromiseForRow.holds Try.pinned (OpenSpec.ofChange fnExactPromiseForWrong)

/-- 'laws.FnExactWorkOrder': WHATEVER THE INPUT: true; the input reads as it did. -/
def fnExactWorkOrderSpec : ChangeSpec := { name := "fnExactWorkOrder", fn := fun _ => fun
  | [d1, d2] => { results := [.lit (.bool true)], args := [d1, d2] }
  | _ => none }
def fnExactWorkOrderRow : OpenClaim := { program := "ytbkblikjaklmkaa", sum := "338e6caa8d04f70466ca8895590be5ee81460a60ca9cdbefd638df495359e8aa", func := "loop.example/g01043/laws.FnExactWorkOrder", spec := "fnExactWorkOrder", unfollowed := true, recurses := true, apart := false }
def FnExactWorkOrderSaid : Prop := fnExactWorkOrderRow.holds Try.pinned (OpenSpec.ofChange fnExactWorkOrderSpec)

/-- ITS FALSE NEIGHBOUR: 'it returns false'. Refute it at one input. -/
def fnExactWorkOrderWrong : ChangeSpec := { name := "fnExactWorkOrder", fn := fun _ => fun
  | [d1, d2] => { results := [.lit (.bool false)], args := [d1, d2] }
  | _ => none }
def FnExactWorkOrderWrongFalsely : Prop := fnExactWorkOrderRow.holds Try.pinned (OpenSpec.ofChange fnExactWorkOrderWrong)

/-- 'laws.FnExactLateOrders': WHATEVER THE INPUT: true; the input reads as it did. -/
def fnExactLateOrdersSpec : ChangeSpec := { name := "fnExactLateOrders", fn := fun _ => fun
  | [d1, d2] => { results := [.lit (.bool true)], args := [d1, d2] }
  | _ => none }
def fnExactLateOrdersRow : OpenClaim := { program := "ytbkblikjaklmkaa", sum := "338e6caa8d04f70466ca8895590be5ee81460a60ca9cdbefd638df495359e8aa", func := "loop.example/g01043/laws.FnExactLateOrders", spec := "fnExactLateOrders", unfollowed := true, recurses := true, apart := false }
def FnExactLateOrdersSaid : Prop := fnExactLateOrdersRow.holds Try.pinned (OpenSpec.ofChange fnExactLateOrdersSpec)

/-- ITS FALSE NEIGHBOUR: 'it returns false'. Refute it at one input. -/
def fnExactLateOrdersWrong : ChangeSpec := { name := "fnExactLateOrders", fn := fun _ => fun
  | [d1, d2] => { results := [.lit (.bool false)], args := [d1, d2] }
  | _ => none }
def FnExactLateOrdersWrongFalsely : Prop := fnExactLateOrdersRow.holds Try.pinned (OpenSpec.ofChange fnExactLateOrdersWrong)

/-- 'laws.FnPromises': WHATEVER THE INPUT: true; the input reads as it did. -/
def fnPromisesSpec : ChangeSpec := { name := "fnPromises", fn := fun _ => fun
  | [d] => { results := [.lit (.bool true)], args := [d] }
  | _ => none }
def fnPromisesRow : OpenClaim := { program := "ytbkblikjaklmkaa", sum := "338e6caa8d04f70466ca8895590be5ee81460a60ca9cdbefd638df495359e8aa", func := "loop.example/g01043/laws.FnPromises", spec := "fnPromises", unfollowed := true, recurses := true, apart := false }
def FnPromisesSaid : Prop := fnPromisesRow.holds Try.pinned (OpenSpec.ofChange fnPromisesSpec)

/-- ITS FALSE NEIGHBOUR: 'it returns false'. Refute it at one input. -/
def fnPromisesWrong : ChangeSpec := { name := "fnPromises", fn := fun _ => fun
  | [d] => { results := [.lit (.bool false)], args := [d] }
  | _ => none }
def FnPromisesWrongFalsely : Prop := fnPromisesRow.holds Try.pinned (OpenSpec.ofChange fnPromisesWrong)

/- THE SECOND FORM. 'bulk': how many values and letters a reading holds, each counted each time it is reached (what is shared counts as often as it is met; a slice's spare places count too). A statement '..UptoSaid' is the law's where the arguments, and the package variables that the reading takes, are together of bulk at most 1048576: NARROWER than '..Said'. Prove '..Said' where nothing that the law and all that it calls make is longer than what came in: it says more and counts as full. Else prove '..UptoSaid'. A law counts once. -/
mutual
def uptoBulk {H : Type} : DataW H → Nat
  | .lit (.string bytes) => bytes.length + 1
  | .lit _ => 1
  | .nil => 1
  | .ptr d => uptoBulk d + 1
  | .slice elems spare => uptoBulkAll elems + uptoBulkAll spare + 1
  | .agg parts => uptoBulkAll parts + 1
  | .iface _ d => uptoBulk d + 1
  | .map entries => uptoBulkEntries entries + 1
  | .held _ => 1
def uptoBulkAll {H : Type} : List (DataW H) → Nat
  | [] => 0
  | d :: r => uptoBulk d + uptoBulkAll r
def uptoBulkEntries {H : Type} : List (Lit × DataW H) → Nat
  | [] => 0
  | x :: r => uptoBulkEntry x + uptoBulkEntries r
def uptoBulkEntry {H : Type} : Lit × DataW H → Nat
  | (.string bytes, d) => bytes.length + uptoBulk d + 1
  | (_, d) => uptoBulk d + 1
 end
def uptoSmall : (H : Type) → List (DataW H) → Bool := fun _ ds => decide (uptoBulkAll ds ≤ 1048576)
def OpenSpec.upto (s : _root_.Go.ChangeSpec) : _root_.Go.OpenSpec := { _root_.Go.OpenSpec.ofChange s with cond := some uptoSmall }

/-- 'laws.FnExactSameOrders', WHERE WHAT IT READS IS OF BULK AT MOST 1048576: true; the input reads as it did. -/
def fnExactSameOrdersUptoRow : OpenClaim := { program := "ytbkblikjaklmkaa", sum := "338e6caa8d04f70466ca8895590be5ee81460a60ca9cdbefd638df495359e8aa", func := "loop.example/g01043/laws.FnExactSameOrders", spec := "fnExactSameOrders", apart := false, narrowed := true }
def FnExactSameOrdersUptoSaid : Prop := fnExactSameOrdersUptoRow.holds Try.pinned (OpenSpec.upto fnExactSameOrdersSpec)

/-- 'laws.FnExactValidOrders', WHERE WHAT IT READS IS OF BULK AT MOST 1048576: true; the input reads as it did. -/
def fnExactValidOrdersUptoRow : OpenClaim := { program := "ytbkblikjaklmkaa", sum := "338e6caa8d04f70466ca8895590be5ee81460a60ca9cdbefd638df495359e8aa", func := "loop.example/g01043/laws.FnExactValidOrders", spec := "fnExactValidOrders", apart := false, narrowed := true }
def FnExactValidOrdersUptoSaid : Prop := fnExactValidOrdersUptoRow.holds Try.pinned (OpenSpec.upto fnExactValidOrdersSpec)

/-- 'laws.FnExactMoveOrder', WHERE WHAT IT READS IS OF BULK AT MOST 1048576: true; the input reads as it did. -/
def fnExactMoveOrderUptoRow : OpenClaim := { program := "ytbkblikjaklmkaa", sum := "338e6caa8d04f70466ca8895590be5ee81460a60ca9cdbefd638df495359e8aa", func := "loop.example/g01043/laws.FnExactMoveOrder", spec := "fnExactMoveOrder", unfollowed := true, recurses := true, apart := false, narrowed := true }
def FnExactMoveOrderUptoSaid : Prop := fnExactMoveOrderUptoRow.holds Try.pinned (OpenSpec.upto fnExactMoveOrderSpec)

/-- 'laws.FnExactWorkOn', WHERE WHAT IT READS IS OF BULK AT MOST 1048576: true; the input reads as it did. -/
def fnExactWorkOnUptoRow : OpenClaim := { program := "ytbkblikjaklmkaa", sum := "338e6caa8d04f70466ca8895590be5ee81460a60ca9cdbefd638df495359e8aa", func := "loop.example/g01043/laws.FnExactWorkOn", spec := "fnExactWorkOn", unfollowed := true, recurses := true, apart := false, narrowed := true }
def FnExactWorkOnUptoSaid : Prop := fnExactWorkOnUptoRow.holds Try.pinned (OpenSpec.upto fnExactWorkOnSpec)

/-- 'laws.FnExactFitOrder', WHERE WHAT IT READS IS OF BULK AT MOST 1048576: true; the input reads as it did. -/
def fnExactFitOrderUptoRow : OpenClaim := { program := "ytbkblikjaklmkaa", sum := "338e6caa8d04f70466ca8895590be5ee81460a60ca9cdbefd638df495359e8aa", func := "loop.example/g01043/laws.FnExactFitOrder", spec := "fnExactFitOrder", unfollowed := true, recurses := true, apart := false, narrowed := true }
def FnExactFitOrderUptoSaid : Prop := fnExactFitOrderUptoRow.holds Try.pinned (OpenSpec.upto fnExactFitOrderSpec)

/-- 'laws.FnExactGreatestDelay', WHERE WHAT IT READS IS OF BULK AT MOST 1048576: true; the input reads as it did. -/
def fnExactGreatestDelayUptoRow : OpenClaim := { program := "ytbkblikjaklmkaa", sum := "338e6caa8d04f70466ca8895590be5ee81460a60ca9cdbefd638df495359e8aa", func := "loop.example/g01043/laws.FnExactGreatestDelay", spec := "fnExactGreatestDelay", unfollowed := true, recurses := true, apart := false, narrowed := true }
def FnExactGreatestDelayUptoSaid : Prop := fnExactGreatestDelayUptoRow.holds Try.pinned (OpenSpec.upto fnExactGreatestDelaySpec)

/-- 'laws.FnExactTakeOrder', WHERE WHAT IT READS IS OF BULK AT MOST 1048576: true; the input reads as it did. -/
def fnExactTakeOrderUptoRow : OpenClaim := { program := "ytbkblikjaklmkaa", sum := "338e6caa8d04f70466ca8895590be5ee81460a60ca9cdbefd638df495359e8aa", func := "loop.example/g01043/laws.FnExactTakeOrder", spec := "fnExactTakeOrder", inPlace := ["slices.overlaps[loop.example/g01043/impl.Order]"], unfollowed := true, recurses := true, apart := false, narrowed := true }
def FnExactTakeOrderUptoSaid : Prop := fnExactTakeOrderUptoRow.holds Try.pinned (OpenSpec.upto fnExactTakeOrderSpec)

/-- 'laws.FnExactPromiseFor', WHERE WHAT IT READS IS OF BULK AT MOST 1048576: true; the input reads as it did. -/
def fnExactPromiseForUptoRow : OpenClaim := { program := "ytbkblikjaklmkaa", sum := "338e6caa8d04f70466ca8895590be5ee81460a60ca9cdbefd638df495359e8aa", func := "loop.example/g01043/laws.FnExactPromiseFor", spec := "fnExactPromiseFor", unfollowed := true, recurses := true, apart := false, narrowed := true }
def FnExactPromiseForUptoSaid : Prop := fnExactPromiseForUptoRow.holds Try.pinned (OpenSpec.upto fnExactPromiseForSpec)

/-- 'laws.FnExactWorkOrder', WHERE WHAT IT READS IS OF BULK AT MOST 1048576: true; the input reads as it did. -/
def fnExactWorkOrderUptoRow : OpenClaim := { program := "ytbkblikjaklmkaa", sum := "338e6caa8d04f70466ca8895590be5ee81460a60ca9cdbefd638df495359e8aa", func := "loop.example/g01043/laws.FnExactWorkOrder", spec := "fnExactWorkOrder", unfollowed := true, recurses := true, apart := false, narrowed := true }
def FnExactWorkOrderUptoSaid : Prop := fnExactWorkOrderUptoRow.holds Try.pinned (OpenSpec.upto fnExactWorkOrderSpec)

/-- 'laws.FnExactLateOrders', WHERE WHAT IT READS IS OF BULK AT MOST 1048576: true; the input reads as it did. -/
def fnExactLateOrdersUptoRow : OpenClaim := { program := "ytbkblikjaklmkaa", sum := "338e6caa8d04f70466ca8895590be5ee81460a60ca9cdbefd638df495359e8aa", func := "loop.example/g01043/laws.FnExactLateOrders", spec := "fnExactLateOrders", unfollowed := true, recurses := true, apart := false, narrowed := true }
def FnExactLateOrdersUptoSaid : Prop := fnExactLateOrdersUptoRow.holds Try.pinned (OpenSpec.upto fnExactLateOrdersSpec)

/-- 'laws.FnPromises', WHERE WHAT IT READS IS OF BULK AT MOST 1048576: true; the input reads as it did. -/
def fnPromisesUptoRow : OpenClaim := { program := "ytbkblikjaklmkaa", sum := "338e6caa8d04f70466ca8895590be5ee81460a60ca9cdbefd638df495359e8aa", func := "loop.example/g01043/laws.FnPromises", spec := "fnPromises", unfollowed := true, recurses := true, apart := false, narrowed := true }
def FnPromisesUptoSaid : Prop := fnPromisesUptoRow.holds Try.pinned (OpenSpec.upto fnPromisesSpec)

end Rows
end Go.Proofs.Ytbkblikjaklmkaa
