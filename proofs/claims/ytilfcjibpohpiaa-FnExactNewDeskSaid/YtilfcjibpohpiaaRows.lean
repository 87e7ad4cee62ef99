/-
  No cell of these rows narrows 'for every input' (looked for: loops, veiled, ifaces, maps, wideKeys, modest, calm, conditions, laid).
  DERIVED. THE GIVEN ROWS OF THIS SEAT. 12 by the template 'for every input the law returns true; each argument reads behind the call as it read before'; 0 by the template 'total and deterministic' (their statements: YtilfcjibpohpiaaTotals.lean).
  GIVEN WITH THE SEED: the statements are not yours to turn. If you find one false, say at which input.
  Laid BY PROGRAM, IN A SANDBOX (cutbox-rows.mjs): the forced cells as the released guide's own fill.sh prints them over the translation aa25f3742c3e638f… (all of the seat's roots in one cut). By AI agents, Wed Nov 11 2026. No macro, syntax, notation, axiom, sorry.
-/
import Derived.Test.YtilfcjibpohpiaaChecked
import GoSem.Claim
import GoSem.ClaimJoined
import GoSem.ClaimMapViews
import Derived.JoinedTies
import Derived.KernelRfl
namespace Go.Proofs.Ytilfcjibpohpiaa
/- THE CELL 'sum', in the pinned program and in every row, IS THE sha256 OF THE DUMP (.gsa) THAT YtilfcjibpohpiaaProg.lean LOADS. Nothing in Lean hashes anything: it is a label: what it is worth is what the hold of that sum in a sandbox is worth. -/
noncomputable def Try.pinned : Pinned := { name := "ytilfcjibpohpiaa", sum := "aa25f3742c3e638f588e7100f30790ecde737d509c44fd6304f8ff43a487732a", checked := Try.checked }
namespace Rows
def none {H : Type} : Left H := { results := [], args := [] }

/-- 'laws.FnExactNewDesk': WHATEVER THE INPUT: true; the input reads as it did. -/
def fnExactNewDeskSpec : ChangeSpec := { name := "fnExactNewDesk", fn := fun _ => fun
  | [] => { results := [.lit (.bool true)], args := [] }
  | _ => none }
def fnExactNewDeskRow : OpenClaim := { program := "ytilfcjibpohpiaa", sum := "aa25f3742c3e638f588e7100f30790ecde737d509c44fd6304f8ff43a487732a", func := "loop.example/g01043/laws.FnExactNewDesk", spec := "fnExactNewDesk", apart := false }
def FnExactNewDeskSaid : Prop := fnExactNewDeskRow.holds Try.pinned (OpenSpec.ofChange fnExactNewDeskSpec)

/-- ITS FALSE NEIGHBOUR: 'it returns false'. Refute it at one input. -/
def fnExactNewDeskWrong : ChangeSpec := { name := "fnExactNewDesk", fn := fun _ => fun
  | [] => { results := [.lit (.bool false)], args := [] }
  | _ => none }
def FnExactNewDeskWrongFalsely : Prop := fnExactNewDeskRow.holds Try.pinned (OpenSpec.ofChange fnExactNewDeskWrong)

/-- 'laws.FnExactSameDesk': WHATEVER THE INPUT: true; the input reads as it did. -/
def fnExactSameDeskSpec : ChangeSpec := { name := "fnExactSameDesk", fn := fun _ => fun
  | [d1, d2] => { results := [.lit (.bool true)], args := [d1, d2] }
  | _ => none }
def fnExactSameDeskRow : OpenClaim := { program := "ytilfcjibpohpiaa", sum := "aa25f3742c3e638f588e7100f30790ecde737d509c44fd6304f8ff43a487732a", func := "loop.example/g01043/laws.FnExactSameDesk", spec := "fnExactSameDesk", apart := false }
def FnExactSameDeskSaid : Prop := fnExactSameDeskRow.holds Try.pinned (OpenSpec.ofChange fnExactSameDeskSpec)

/-- ITS FALSE NEIGHBOUR: 'it returns false'. Refute it at one input. -/
def fnExactSameDeskWrong : ChangeSpec := { name := "fnExactSameDesk", fn := fun _ => fun
  | [d1, d2] => { results := [.lit (.bool false)], args := [d1, d2] }
  | _ => none }
def FnExactSameDeskWrongFalsely : Prop := fnExactSameDeskRow.holds Try.pinned (OpenSpec.ofChange fnExactSameDeskWrong)

/-- 'laws.FnExactGramsOf': WHATEVER THE INPUT: true; the input reads as it did. -/
def fnExactGramsOfSpec : ChangeSpec := { name := "fnExactGramsOf", fn := fun _ => fun
  | [d1, d2, d3] => { results := [.lit (.bool true)], args := [d1, d2, d3] }
  | _ => none }
def fnExactGramsOfRow : OpenClaim := { program := "ytilfcjibpohpiaa", sum := "aa25f3742c3e638f588e7100f30790ecde737d509c44fd6304f8ff43a487732a", func := "loop.example/g01043/laws.FnExactGramsOf", spec := "fnExactGramsOf", unfollowed := true, recurses := true, apart := false }
def FnExactGramsOfSaid : Prop := fnExactGramsOfRow.holds Try.pinned (OpenSpec.ofChange fnExactGramsOfSpec)

/-- ITS FALSE NEIGHBOUR: 'it returns false'. Refute it at one input. -/
def fnExactGramsOfWrong : ChangeSpec := { name := "fnExactGramsOf", fn := fun _ => fun
  | [d1, d2, d3] => { results := [.lit (.bool false)], args := [d1, d2, d3] }
  | _ => none }
def FnExactGramsOfWrongFalsely : Prop := fnExactGramsOfRow.holds Try.pinned (OpenSpec.ofChange fnExactGramsOfWrong)

/-- 'laws.FnExactPayBill': WHATEVER THE INPUT: true; the input reads as it did. -/
def fnExactPayBillSpec : ChangeSpec := { name := "fnExactPayBill", fn := fun _ => fun
  | [d1, d2] => { results := [.lit (.bool true)], args := [d1, d2] }
  | _ => none }
def fnExactPayBillRow : OpenClaim := { program := "ytilfcjibpohpiaa", sum := "aa25f3742c3e638f588e7100f30790ecde737d509c44fd6304f8ff43a487732a", func := "loop.example/g01043/laws.FnExactPayBill", spec := "fnExactPayBill", unfollowed := true, recurses := true, apart := false }
def FnExactPayBillSaid : Prop := fnExactPayBillRow.holds Try.pinned (OpenSpec.ofChange fnExactPayBillSpec)

/-- ITS FALSE NEIGHBOUR: 'it returns false'. Refute it at one input. -/
def fnExactPayBillWrong : ChangeSpec := { name := "fnExactPayBill", fn := fun _ => fun
  | [d1, d2] => { results := [.lit (.bool false)], args := [d1, d2] }
  | _ => none }
def FnExactPayBillWrongFalsely : Prop := fnExactPayBillRow.holds Try.pinned (OpenSpec.ofChange fnExactPayBillWrong)

/-- 'laws.FnExactTakeOrder': WHATEVER THE INPUT: true; the input reads as it did. -/
def fnExactTakeOrderSpec : ChangeSpec := { name := "fnExactTakeOrder", fn := fun _ => fun
  | [d1, d2] => { results := [.lit (.bool true)], args := [d1, d2] }
  | _ => none }
def fnExactTakeOrderRow : OpenClaim := { program := "ytilfcjibpohpiaa", sum := "aa25f3742c3e638f588e7100f30790ecde737d509c44fd6304f8ff43a487732a", func := "loop.example/g01043/laws.FnExactTakeOrder", spec := "fnExactTakeOrder", inPlace := ["slices.overlaps[loop.example/g01043/impl.Order]"], unfollowed := true, recurses := true, apart := false }
def FnExactTakeOrderSaid : Prop := fnExactTakeOrderRow.holds Try.pinned (OpenSpec.ofChange fnExactTakeOrderSpec)

/-- ITS FALSE NEIGHBOUR: 'it returns false'. Refute it at one input. -/
def fnExactTakeOrderWrong : ChangeSpec := { name := "fnExactTakeOrder", fn := fun _ => fun
  | [d1, d2] => { results := [.lit (.bool false)], args := [d1, d2] }
  | _ => none }
def FnExactTakeOrderWrongFalsely : Prop := fnExactTakeOrderRow.holds Try.pinned (OpenSpec.ofChange fnExactTakeOrderWrong)

/-- 'laws.FnExactGreatestDelay': WHATEVER THE INPUT: true; the input reads as it did. -/
def fnExactGreatestDelaySpec : ChangeSpec := { name := "fnExactGreatestDelay", fn := fun _ => fun
  | [d1, d2] => { results := [.lit (.bool true)], args := [d1, d2] }
  | _ => none }
def fnExactGreatestDelayRow : OpenClaim := { program := "ytilfcjibpohpiaa", sum := "aa25f3742c3e638f588e7100f30790ecde737d509c44fd6304f8ff43a487732a", func := "loop.example/g01043/laws.FnExactGreatestDelay", spec := "fnExactGreatestDelay", unfollowed := true, recurses := true, apart := false }
def FnExactGreatestDelaySaid : Prop := fnExactGreatestDelayRow.holds Try.pinned (OpenSpec.ofChange fnExactGreatestDelaySpec)

/-- ITS FALSE NEIGHBOUR: 'it returns false'. Refute it at one input. -/
def fnExactGreatestDelayWrong : ChangeSpec := { name := "fnExactGreatestDelay", fn := fun _ => fun
  | [d1, d2] => { results := [.lit (.bool false)], args := [d1, d2] }
  | _ => none }
def FnExactGreatestDelayWrongFalsely : Prop := fnExactGreatestDelayRow.holds Try.pinned (OpenSpec.ofChange fnExactGreatestDelayWrong)

/-- 'laws.FnExactPromiseFor': WHATEVER THE INPUT: true; the input reads as it did. -/
def fnExactPromiseForSpec : ChangeSpec := { name := "fnExactPromiseFor", fn := fun _ => fun
  | [d1, d2, d3] => { results := [.lit (.bool true)], args := [d1, d2, d3] }
  | _ => none }
def fnExactPromiseForRow : OpenClaim := { program := "ytilfcjibpohpiaa", sum := "aa25f3742c3e638f588e7100f30790ecde737d509c44fd6304f8ff43a487732a", func := "loop.example/g01043/laws.FnExactPromiseFor", spec := "fnExactPromiseFor", unfollowed := true, recurses := true, apart := false }
def FnExactPromiseForSaid : Prop := fnExactPromiseForRow.holds Try.pinned (OpenSpec.ofChange fnExactPromiseForSpec)

/-- ITS FALSE NEIGHBOUR: 'it returns false'. Refute it at one input. -/
def fnExactPromiseForWrong : ChangeSpec := { name := "fnExactPromiseFor", fn := fun _ => fun
  | [d1, d2, d3] => { results := [.lit (.bool false)], args := [d1, d2, d3] }
  | _ => none }
def FnExactPromiseForWrongFalsely : Prop := fnExactPromiseForRow.holds Try.pinned (OpenSpec.ofChange fnExactPromiseForWrong)

/-- 'laws.FnExactWorkOrder': WHATEVER THE INPUT: true; the input reads as it did. -/
def fnExactWorkOrderSpec : ChangeSpec := { name := "fnExactWorkOrder", fn := fun _ => fun
  | [d1, d2] => { results := [.lit (.bool true)], args := [d1, d2] }
  | _ => none }
def fnExactWorkOrderRow : OpenClaim := { program := "ytilfcjibpohpiaa", sum := "aa25f3742c3e638f588e7100f30790ecde737d509c44fd6304f8ff43a487732a", func := "loop.example/g01043/laws.FnExactWorkOrder", spec := "fnExactWorkOrder", unfollowed := true, recurses := true, apart := false }
def FnExactWorkOrderSaid : Prop := fnExactWorkOrderRow.holds Try.pinned (OpenSpec.ofChange fnExactWorkOrderSpec)

/-- ITS FALSE NEIGHBOUR: 'it returns false'. Refute it at one input. -/
def fnExactWorkOrderWrong : ChangeSpec := { name := "fnExactWorkOrder", fn := fun _ => fun
  | [d1, d2] => { results := [.lit (.bool false)], args := [d1, d2] }
  | _ => none }
def FnExactWorkOrderWrongFalsely : Prop := fnExactWorkOrderRow.holds Try.pinned (OpenSpec.ofChange fnExactWorkOrderWrong)

/-- 'laws.FnExactLateOrders': WHATEVER THE INPUT: true; the input reads as it did. -/
def fnExactLateOrdersSpec : ChangeSpec := { name := "fnExactLateOrders", fn := fun _ => fun
  | [d1, d2] => { results := [.lit (.bool true)], args := [d1, d2] }
  | _ => none }
def fnExactLateOrdersRow : OpenClaim := { program := "ytilfcjibpohpiaa", sum := "aa25f3742c3e638f588e7100f30790ecde737d509c44fd6304f8ff43a487732a", func := "loop.example/g01043/laws.FnExactLateOrders", spec := "fnExactLateOrders", unfollowed := true, recurses := true, apart := false }
def FnExactLateOrdersSaid : Prop := fnExactLateOrdersRow.holds Try.pinned (OpenSpec.ofChange fnExactLateOrdersSpec)

/-- ITS FALSE NEIGHBOUR: 'it returns false'. Refute it at one input. -/
def fnExactLateOrdersWrong : ChangeSpec := { name := "fnExactLateOrders", fn := fun _ => fun
  | [d1, d2] => { results := [.lit (.bool false)], args := [d1, d2] }
  | _ => none }
def FnExactLateOrdersWrongFalsely : Prop := fnExactLateOrdersRow.holds Try.pinned (OpenSpec.ofChange fnExactLateOrdersWrong)

/-- 'laws.FnExactBestSole': WHATEVER THE INPUT: true; the input reads as it did. -/
def fnExactBestSoleSpec : ChangeSpec := { name := "fnExactBestSole", fn := fun _ => fun
  | [d1, d2, d3] => { results := [.lit (.bool true)], args := [d1, d2, d3] }
  | _ => none }
def fnExactBestSoleRow : OpenClaim := { program := "ytilfcjibpohpiaa", sum := "aa25f3742c3e638f588e7100f30790ecde737d509c44fd6304f8ff43a487732a", func := "loop.example/g01043/laws.FnExactBestSole", spec := "fnExactBestSole", unfollowed := true, recurses := true, apart := false }
def FnExactBestSoleSaid : Prop := fnExactBestSoleRow.holds Try.pinned (OpenSpec.ofChange fnExactBestSoleSpec)

/-- ITS FALSE NEIGHBOUR: 'it returns false'. Refute it at one input. -/
def fnExactBestSoleWrong : ChangeSpec := { name := "fnExactBestSole", fn := fun _ => fun
  | [d1, d2, d3] => { results := [.lit (.bool false)], args := [d1, d2, d3] }
  | _ => none }
def FnExactBestSoleWrongFalsely : Prop := fnExactBestSoleRow.holds Try.pinned (OpenSpec.ofChange fnExactBestSoleWrong)

/-- 'laws.FnExactLightestSole': WHATEVER THE INPUT: true; the input reads as it did. -/
def fnExactLightestSoleSpec : ChangeSpec := { name := "fnExactLightestSole", fn := fun _ => fun
  | [d1, d2, d3] => { results := [.lit (.bool true)], args := [d1, d2, d3] }
  | _ => none }
def fnExactLightestSoleRow : OpenClaim := { program := "ytilfcjibpohpiaa", sum := "aa25f3742c3e638f588e7100f30790ecde737d509c44fd6304f8ff43a487732a", func := "loop.example/g01043/laws.FnExactLightestSole", spec := "fnExactLightestSole", unfollowed := true, recurses := true, apart := false }
def FnExactLightestSoleSaid : Prop := fnExactLightestSoleRow.holds Try.pinned (OpenSpec.ofChange fnExactLightestSoleSpec)

/-- ITS FALSE NEIGHBOUR: 'it returns false'. Refute it at one input. -/
def fnExactLightestSoleWrong : ChangeSpec := { name := "fnExactLightestSole", fn := fun _ => fun
  | [d1, d2, d3] => { results := [.lit (.bool false)], args := [d1, d2, d3] }
  | _ => none }
def FnExactLightestSoleWrongFalsely : Prop := fnExactLightestSoleRow.holds Try.pinned (OpenSpec.ofChange fnExactLightestSoleWrong)

/-- 'laws.FnExactPricePerItem': WHATEVER THE INPUT: true; the input reads as it did. -/
def fnExactPricePerItemSpec : ChangeSpec := { name := "fnExactPricePerItem", fn := fun _ => fun
  | [d] => { results := [.lit (.bool true)], args := [d] }
  | _ => none }
def fnExactPricePerItemRow : OpenClaim := { program := "ytilfcjibpohpiaa", sum := "aa25f3742c3e638f588e7100f30790ecde737d509c44fd6304f8ff43a487732a", func := "loop.example/g01043/laws.FnExactPricePerItem", spec := "fnExactPricePerItem", unfollowed := true, recurses := true, named := ["math/bits.divideError", "math/bits.overflowError"], apart := false }
def FnExactPricePerItemSaid : Prop := fnExactPricePerItemRow.holds Try.pinned (OpenSpec.ofChange fnExactPricePerItemSpec)

/-- ITS FALSE NEIGHBOUR: 'it returns false'. Refute it at one input. -/
def fnExactPricePerItemWrong : ChangeSpec := { name := "fnExactPricePerItem", fn := fun _ => fun
  | [d] => { results := [.lit (.bool false)], args := [d] }
  | _ => none }
def FnExactPricePerItemWrongFalsely : Prop := fnExactPricePerItemRow.holds Try.pinned (OpenSpec.ofChange fnExactPricePerItemWrong)

/- THE SECOND FORM. 'bulk': how many values and letters a reading holds, each counted each time it is reached (what is shared counts as often as it is met; a slice's spare places count too). A statement '..UptoSaid' is the law's where the arguments, and the package variables that the reading takes, are together of bulk at most 1048576: NARROWER than '..Said'. Prove '..Said' where nothing that the law and all that it calls make is longer than what came in: it says more and counts as full. Else prove '..UptoSaid'. A law counts once. -/
mutual
def uptoBulk {H : Type} : DataW H → Nat
  | .lit (.string bytes) => bytes.length + 1
  | .lit _ => 1
  | .nil => 1
  | .ptr d => uptoBulk d + 1
  | .slice elems spare => uptoBulkAll elems + uptoBulkAll spare + 1
  | .agg parts => uptoBulkAll parts + 1
  | .iface _ d => uptoBulk d + 1
  | .map entries => uptoBulkEntries entries + 1
  | .held _ => 1
def uptoBulkAll {H : Type} : List (DataW H) → Nat
  | [] => 0
  | d :: r => uptoBulk d + uptoBulkAll r
def uptoBulkEntries {H : Type} : List (Lit × DataW H) → Nat
  | [] => 0
  | x :: r => uptoBulkEntry x + uptoBulkEntries r
def uptoBulkEntry {H : Type} : Lit × DataW H → Nat
  | (.string bytes, d) => bytes.length + uptoBulk d + 1
  | (_, d) => uptoBulk d + 1
 end
def uptoSmall : (H : Type) → List (DataW H) → Bool := fun _ ds => decide (uptoBulkAll ds ≤ 1048576)
def OpenSpec.upto (s : _root_.Go.ChangeSpec) : _root_.Go.OpenSpec := { _root_.Go.OpenSpec.ofChange s with cond := some uptoSmall }

/-- 'laws.FnExactNewDesk', WHERE WHAT IT READS IS OF BULK AT MOST 1048576: true; the input reads as it did. -/
def fnExactNewDeskUptoRow : OpenClaim := { program := "ytilfcjibpohpiaa", sum := "aa25f3742c3e638f588e7100f30790ecde737d509c44fd6304f8ff43a487732a", func := "loop.example/g01043/laws.FnExactNewDesk", spec := "fnExactNewDesk", apart := false, narrowed := true }
def FnExactNewDeskUptoSaid : Prop := fnExactNewDeskUptoRow.holds Try.pinned (OpenSpec.upto fnExactNewDeskSpec)

/-- 'laws.FnExactSameDesk', WHERE WHAT IT READS IS OF BULK AT MOST 1048576: true; the input reads as it did. -/
def fnExactSameDeskUptoRow : OpenClaim := { program := "ytilfcjibpohpiaa", sum := "aa25f3742c3e638f588e7100f30790ecde737d509c44fd6304f8ff43a487732a", func := "loop.example/g01043/laws.FnExactSameDesk", spec := "fnExactSameDesk", apart := false, narrowed := true }
def FnExactSameDeskUptoSaid : Prop := fnExactSameDeskUptoRow.holds Try.pinned (OpenSpec.upto fnExactSameDeskSpec)

/-- 'laws.FnExactGramsOf', WHERE WHAT IT READS IS OF BULK AT MOST 1048576: true; the input reads as it did. -/
def fnExactGramsOfUptoRow : OpenClaim := { program := "ytilfcjibpohpiaa", sum := "aa25f3742c3e638f588e7100f30790ecde737d509c44fd6304f8ff43a487732a", func := "loop.example/g01043/laws.FnExactGramsOf", spec := "fnExactGramsOf", unfollowed := true, recurses := true, apart := false, narrowed := true }
def FnExactGramsOfUptoSaid : Prop := fnExactGramsOfUptoRow.holds Try.pinned (OpenSpec.upto fnExactGramsOfSpec)

/-- 'laws.FnExactPayBill', WHERE WHAT IT READS IS OF BULK AT MOST 1048576: true; the input reads as it did. -/
def fnExactPayBillUptoRow : OpenClaim := { program := "ytilfcjibpohpiaa", sum := "aa25f3742c3e638f588e7100f30790ecde737d509c44fd6304f8ff43a487732a", func := "loop.example/g01043/laws.FnExactPayBill", spec := "fnExactPayBill", unfollowed := true, recurses := true, apart := false, narrowed := true }
def FnExactPayBillUptoSaid : Prop := fnExactPayBillUptoRow.holds Try.pinned (OpenSpec.upto fnExactPayBillSpec)

/-- 'laws.FnExactTakeOrder', WHERE WHAT IT READS IS OF BULK AT MOST 1048576: true; the input reads as it did. -/
def fnExactTakeOrderUptoRow : OpenClaim := { program := "ytilfcjibpohpiaa", sum := "aa25f3742c3e638f588e7100f30790ecde737d509c44fd6304f8ff43a487732a", func := "loop.example/g01043/laws.FnExactTakeOrder", spec := "fnExactTakeOrder", inPlace := ["slices.overlaps[loop.example/g01043/impl.Order]"], unfollowed := true, recurses := true, apart := false, narrowed := true }
def FnExactTakeOrderUptoSaid : Prop := fnExactTakeOrderUptoRow.holds Try.pinned (OpenSpec.upto fnExactTakeOrderSpec)

/-- 'laws.FnExactGreatestDelay', WHERE WHAT IT READS IS OF BULK AT MOST 1048576: true; the input reads as it did. -/
def fnExactGreatestDelayUptoRow : OpenClaim := { program := "ytilfcjibpohpiaa", sum := "aa25f3742c3e638f588e7100f30790ecde737d509c44fd6304f8ff43a487732a", func := "loop.example/g01043/laws.FnExactGreatestDelay", spec := "fnExactGreatestDelay", unfollowed := true, recurses := true, apart := false, narrowed := true }
def FnExactGreatestDelayUptoSaid : Prop := fnExactGreatestDelayUptoRow.holds Try.pinned (OpenSpec.upto fnExactGreatestDelaySpec)

/-- 'laws.FnExactPromiseFor', WHERE WHAT IT READS IS OF BULK AT MOST 1048576: true; the input reads as it did. -/
def fnExactPromiseForUptoRow : OpenClaim := { program := "ytilfcjibpohpiaa", sum := "aa25f3742c3e638f588e7100f30790ecde737d509c44fd6304f8ff43a487732a", func := "loop.example/g01043/laws.FnExactPromiseFor", spec := "fnExactPromiseFor", unfollowed := true, recurses := true, apart := false, narrowed := true }
def FnExactPromiseForUptoSaid : Prop := fnExactPromiseForUptoRow.holds Try.pinned (OpenSpec.upto fnExactPromiseForSpec)

/-- 'laws.FnExactWorkOrder', WHERE WHAT IT READS IS OF BULK AT MOST 1048576: true; the input reads as it did. -/
def fnExactWorkOrderUptoRow : OpenClaim := { program := "ytilfcjibpohpiaa", sum := "aa25f3742c3e638f588e7100f30790ecde737d509c44fd6304f8ff43a487732a", func := "loop.example/g01043/laws.FnExactWorkOrder", spec := "fnExactWorkOrder", unfollowed := true, recurses := true, apart := false, narrowed := true }
def FnExactWorkOrderUptoSaid : Prop := fnExactWorkOrderUptoRow.holds Try.pinned (OpenSpec.upto fnExactWorkOrderSpec)

/-- 'laws.FnExactLateOrders', WHERE WHAT IT READS IS OF BULK AT MOST 1048576: true; the input reads as it did. -/
def fnExactLateOrdersUptoRow : OpenClaim := { program := "ytilfcjibpohpiaa", sum := "aa25f3742c3e638f588e7100f30790ecde737d509c44fd6304f8ff43a487732a", func := "loop.example/g01043/laws.FnExactLateOrders", spec := "fnExactLateOrders", unfollowed := true, recurses := true, apart := false, narrowed := true }
def FnExactLateOrdersUptoSaid : Prop := fnExactLateOrdersUptoRow.holds Try.pinned (OpenSpec.upto fnExactLateOrdersSpec)

/-- 'laws.FnExactBestSole', WHERE WHAT IT READS IS OF BULK AT MOST 1048576: true; the input reads as it did. -/
def fnExactBestSoleUptoRow : OpenClaim := { program := "ytilfcjibpohpiaa", sum := "aa25f3742c3e638f588e7100f30790ecde737d509c44fd6304f8ff43a487732a", func := "loop.example/g01043/laws.FnExactBestSole", spec := "fnExactBestSole", unfollowed := true, recurses := true, apart := false, narrowed := true }
def FnExactBestSoleUptoSaid : Prop := fnExactBestSoleUptoRow.holds Try.pinned (OpenSpec.upto fnExactBestSoleSpec)

/-- 'laws.FnExactLightestSole', WHERE WHAT IT READS IS OF BULK AT MOST 1048576: true; the input reads as it did. -/
def fnExactLightestSoleUptoRow : OpenClaim := { program := "ytilfcjibpohpiaa", sum := "aa25f3742c3e638f588e7100f30790ecde737d509c44fd6304f8ff43a487732a", func := "loop.example/g01043/laws.FnExactLightestSole", spec := "fnExactLightestSole", unfollowed := true, recurses := true, apart := false, narrowed := true }
def FnExactLightestSoleUptoSaid : Prop := fnExactLightestSoleUptoRow.holds Try.pinned (OpenSpec.upto fnExactLightestSoleSpec)

/-- 'laws.FnExactPricePerItem', WHERE WHAT IT READS IS OF BULK AT MOST 1048576: true; the input reads as it did. -/
def fnExactPricePerItemUptoRow : OpenClaim := { program := "ytilfcjibpohpiaa", sum := "aa25f3742c3e638f588e7100f30790ecde737d509c44fd6304f8ff43a487732a", func := "loop.example/g01043/laws.FnExactPricePerItem", spec := "fnExactPricePerItem", unfollowed := true, recurses := true, named := ["math/bits.divideError", "math/bits.overflowError"], apart := false, narrowed := true }
def FnExactPricePerItemUptoSaid : Prop := fnExactPricePerItemUptoRow.holds Try.pinned (OpenSpec.upto fnExactPricePerItemSpec)

end Rows
end Go.Proofs.Ytilfcjibpohpiaa
