/-
  No cell of these rows narrows 'for every input' (looked for: loops, veiled, ifaces, maps, wideKeys, modest, calm, conditions, laid).
  DERIVED. THE GIVEN ROWS OF THIS SEAT. 12 by the template 'for every input the law returns true; each argument reads behind the call as it read before'; 0 by the template 'total and deterministic' (their statements: YtgohahcdkgbocaaTotals.lean).
  GIVEN WITH THE SEED: the statements are not yours to turn. If you find one false, say at which input.
  Laid BY PROGRAM, IN A SANDBOX (cutbox-rows.mjs): the forced cells as the released guide's own fill.sh prints them over the translation 971c480ac24d1f3e… (all of the seat's roots in one cut). By AI agents, Wed Nov 11 2026. No macro, syntax, notation, axiom, sorry.
-/
import Derived.Test.YtgohahcdkgbocaaChecked
import GoSem.Claim
import GoSem.ClaimJoined
import GoSem.ClaimMapViews
import Derived.JoinedTies
import Derived.KernelRfl
namespace Go.Proofs.Ytgohahcdkgbocaa
/- THE CELL 'sum', in the pinned program and in every row, IS THE sha256 OF THE DUMP (.gsa) THAT YtgohahcdkgbocaaProg.lean LOADS. Nothing in Lean hashes anything: it is a label: what it is worth is what the hold of that sum in a sandbox is worth. -/
noncomputable def Try.pinned : Pinned := { name := "ytgohahcdkgbocaa", sum := "971c480ac24d1f3ef1d2786e7d81a279aeac6fbe79d2b616fb084c650f280a41", checked := Try.checked }
namespace Rows
def none {H : Type} : Left H := { results := [], args := [] }

/-- 'laws.FnExactSameBill': WHATEVER THE INPUT: true; the input reads as it did. -/
def fnExactSameBillSpec : ChangeSpec := { name := "fnExactSameBill", fn := fun _ => fun
  | [d1, d2] => { results := [.lit (.bool true)], args := [d1, d2] }
  | _ => none }
def fnExactSameBillRow : OpenClaim := { program := "ytgohahcdkgbocaa", sum := "971c480ac24d1f3ef1d2786e7d81a279aeac6fbe79d2b616fb084c650f280a41", func := "loop.example/g01043/laws.FnExactSameBill", spec := "fnExactSameBill", apart := false }
def FnExactSameBillSaid : Prop := fnExactSameBillRow.holds Try.pinned (OpenSpec.ofChange fnExactSameBillSpec)

/-- ITS FALSE NEIGHBOUR: 'it returns false'. Refute it at one input. -/
def fnExactSameBillWrong : ChangeSpec := { name := "fnExactSameBill", fn := fun _ => fun
  | [d1, d2] => { results := [.lit (.bool false)], args := [d1, d2] }
  | _ => none }
def FnExactSameBillWrongFalsely : Prop := fnExactSameBillRow.holds Try.pinned (OpenSpec.ofChange fnExactSameBillWrong)

/-- 'laws.FnExactValidBill': WHATEVER THE INPUT: true; the input reads as it did. -/
def fnExactValidBillSpec : ChangeSpec := { name := "fnExactValidBill", fn := fun _ => fun
  | [d] => { results := [.lit (.bool true)], args := [d] }
  | _ => none }
def fnExactValidBillRow : OpenClaim := { program := "ytgohahcdkgbocaa", sum := "971c480ac24d1f3ef1d2786e7d81a279aeac6fbe79d2b616fb084c650f280a41", func := "loop.example/g01043/laws.FnExactValidBill", spec := "fnExactValidBill", unfollowed := true, recurses := true, apart := false }
def FnExactValidBillSaid : Prop := fnExactValidBillRow.holds Try.pinned (OpenSpec.ofChange fnExactValidBillSpec)

/-- ITS FALSE NEIGHBOUR: 'it returns false'. Refute it at one input. -/
def fnExactValidBillWrong : ChangeSpec := { name := "fnExactValidBill", fn := fun _ => fun
  | [d] => { results := [.lit (.bool false)], args := [d] }
  | _ => none }
def FnExactValidBillWrongFalsely : Prop := fnExactValidBillRow.holds Try.pinned (OpenSpec.ofChange fnExactValidBillWrong)

/-- 'laws.FnExactSumOfBill': WHATEVER THE INPUT: true; the input reads as it did. -/
def fnExactSumOfBillSpec : ChangeSpec := { name := "fnExactSumOfBill", fn := fun _ => fun
  | [d] => { results := [.lit (.bool true)], args := [d] }
  | _ => none }
def fnExactSumOfBillRow : OpenClaim := { program := "ytgohahcdkgbocaa", sum := "971c480ac24d1f3ef1d2786e7d81a279aeac6fbe79d2b616fb084c650f280a41", func := "loop.example/g01043/laws.FnExactSumOfBill", spec := "fnExactSumOfBill", unfollowed := true, recurses := true, apart := false }
def FnExactSumOfBillSaid : Prop := fnExactSumOfBillRow.holds Try.pinned (OpenSpec.ofChange fnExactSumOfBillSpec)

/-- ITS FALSE NEIGHBOUR: 'it returns false'. Refute it at one input. -/
def fnExactSumOfBillWrong : ChangeSpec := { name := "fnExactSumOfBill", fn := fun _ => fun
  | [d] => { results := [.lit (.bool false)], args := [d] }
  | _ => none }
def FnExactSumOfBillWrongFalsely : Prop := fnExactSumOfBillRow.holds Try.pinned (OpenSpec.ofChange fnExactSumOfBillWrong)

/-- 'laws.FnExactTotalOfBill': WHATEVER THE INPUT: true; the input reads as it did. -/
def fnExactTotalOfBillSpec : ChangeSpec := { name := "fnExactTotalOfBill", fn := fun _ => fun
  | [d] => { results := [.lit (.bool true)], args := [d] }
  | _ => none }
def fnExactTotalOfBillRow : OpenClaim := { program := "ytgohahcdkgbocaa", sum := "971c480ac24d1f3ef1d2786e7d81a279aeac6fbe79d2b616fb084c650f280a41", func := "loop.example/g01043/laws.FnExactTotalOfBill", spec := "fnExactTotalOfBill", unfollowed := true, recurses := true, apart := false }
def FnExactTotalOfBillSaid : Prop := fnExactTotalOfBillRow.holds Try.pinned (OpenSpec.ofChange fnExactTotalOfBillSpec)

/-- ITS FALSE NEIGHBOUR: 'it returns false'. Refute it at one input. -/
def fnExactTotalOfBillWrong : ChangeSpec := { name := "fnExactTotalOfBill", fn := fun _ => fun
  | [d] => { results := [.lit (.bool false)], args := [d] }
  | _ => none }
def FnExactTotalOfBillWrongFalsely : Prop := fnExactTotalOfBillRow.holds Try.pinned (OpenSpec.ofChange fnExactTotalOfBillWrong)

/-- 'laws.FnExactLeftToPay': WHATEVER THE INPUT: true; the input reads as it did. -/
def fnExactLeftToPaySpec : ChangeSpec := { name := "fnExactLeftToPay", fn := fun _ => fun
  | [d] => { results := [.lit (.bool true)], args := [d] }
  | _ => none }
def fnExactLeftToPayRow : OpenClaim := { program := "ytgohahcdkgbocaa", sum := "971c480ac24d1f3ef1d2786e7d81a279aeac6fbe79d2b616fb084c650f280a41", func := "loop.example/g01043/laws.FnExactLeftToPay", spec := "fnExactLeftToPay", unfollowed := true, recurses := true, apart := false }
def FnExactLeftToPaySaid : Prop := fnExactLeftToPayRow.holds Try.pinned (OpenSpec.ofChange fnExactLeftToPaySpec)

/-- ITS FALSE NEIGHBOUR: 'it returns false'. Refute it at one input. -/
def fnExactLeftToPayWrong : ChangeSpec := { name := "fnExactLeftToPay", fn := fun _ => fun
  | [d] => { results := [.lit (.bool false)], args := [d] }
  | _ => none }
def FnExactLeftToPayWrongFalsely : Prop := fnExactLeftToPayRow.holds Try.pinned (OpenSpec.ofChange fnExactLeftToPayWrong)

/-- 'laws.FnExactRefundFor': WHATEVER THE INPUT: true; the input reads as it did. -/
def fnExactRefundForSpec : ChangeSpec := { name := "fnExactRefundFor", fn := fun _ => fun
  | [d1, d2, d3] => { results := [.lit (.bool true)], args := [d1, d2, d3] }
  | _ => none }
def fnExactRefundForRow : OpenClaim := { program := "ytgohahcdkgbocaa", sum := "971c480ac24d1f3ef1d2786e7d81a279aeac6fbe79d2b616fb084c650f280a41", func := "loop.example/g01043/laws.FnExactRefundFor", spec := "fnExactRefundFor", unfollowed := true, recurses := true, apart := false }
def FnExactRefundForSaid : Prop := fnExactRefundForRow.holds Try.pinned (OpenSpec.ofChange fnExactRefundForSpec)

/-- ITS FALSE NEIGHBOUR: 'it returns false'. Refute it at one input. -/
def fnExactRefundForWrong : ChangeSpec := { name := "fnExactRefundFor", fn := fun _ => fun
  | [d1, d2, d3] => { results := [.lit (.bool false)], args := [d1, d2, d3] }
  | _ => none }
def FnExactRefundForWrongFalsely : Prop := fnExactRefundForRow.holds Try.pinned (OpenSpec.ofChange fnExactRefundForWrong)

/-- 'laws.FnExactDepositFor': WHATEVER THE INPUT: true; the input reads as it did. -/
def fnExactDepositForSpec : ChangeSpec := { name := "fnExactDepositFor", fn := fun _ => fun
  | [d1, d2, d3] => { results := [.lit (.bool true)], args := [d1, d2, d3] }
  | _ => none }
def fnExactDepositForRow : OpenClaim := { program := "ytgohahcdkgbocaa", sum := "971c480ac24d1f3ef1d2786e7d81a279aeac6fbe79d2b616fb084c650f280a41", func := "loop.example/g01043/laws.FnExactDepositFor", spec := "fnExactDepositFor", unfollowed := true, recurses := true, apart := false }
def FnExactDepositForSaid : Prop := fnExactDepositForRow.holds Try.pinned (OpenSpec.ofChange fnExactDepositForSpec)

/-- ITS FALSE NEIGHBOUR: 'it returns false'. Refute it at one input. -/
def fnExactDepositForWrong : ChangeSpec := { name := "fnExactDepositFor", fn := fun _ => fun
  | [d1, d2, d3] => { results := [.lit (.bool false)], args := [d1, d2, d3] }
  | _ => none }
def FnExactDepositForWrongFalsely : Prop := fnExactDepositForRow.holds Try.pinned (OpenSpec.ofChange fnExactDepositForWrong)

/-- 'laws.FnExactOffFor': WHATEVER THE INPUT: true; the input reads as it did. -/
def fnExactOffForSpec : ChangeSpec := { name := "fnExactOffFor", fn := fun _ => fun
  | [d1, d2] => { results := [.lit (.bool true)], args := [d1, d2] }
  | _ => none }
def fnExactOffForRow : OpenClaim := { program := "ytgohahcdkgbocaa", sum := "971c480ac24d1f3ef1d2786e7d81a279aeac6fbe79d2b616fb084c650f280a41", func := "loop.example/g01043/laws.FnExactOffFor", spec := "fnExactOffFor", unfollowed := true, recurses := true, apart := false }
def FnExactOffForSaid : Prop := fnExactOffForRow.holds Try.pinned (OpenSpec.ofChange fnExactOffForSpec)

/-- ITS FALSE NEIGHBOUR: 'it returns false'. Refute it at one input. -/
def fnExactOffForWrong : ChangeSpec := { name := "fnExactOffFor", fn := fun _ => fun
  | [d1, d2] => { results := [.lit (.bool false)], args := [d1, d2] }
  | _ => none }
def FnExactOffForWrongFalsely : Prop := fnExactOffForRow.holds Try.pinned (OpenSpec.ofChange fnExactOffForWrong)

/-- 'laws.FnExactInstalments': WHATEVER THE INPUT: true; the input reads as it did. -/
def fnExactInstalmentsSpec : ChangeSpec := { name := "fnExactInstalments", fn := fun _ => fun
  | [d1, d2] => { results := [.lit (.bool true)], args := [d1, d2] }
  | _ => none }
def fnExactInstalmentsRow : OpenClaim := { program := "ytgohahcdkgbocaa", sum := "971c480ac24d1f3ef1d2786e7d81a279aeac6fbe79d2b616fb084c650f280a41", func := "loop.example/g01043/laws.FnExactInstalments", spec := "fnExactInstalments", unfollowed := true, recurses := true, apart := false }
def FnExactInstalmentsSaid : Prop := fnExactInstalmentsRow.holds Try.pinned (OpenSpec.ofChange fnExactInstalmentsSpec)

/-- ITS FALSE NEIGHBOUR: 'it returns false'. Refute it at one input. -/
def fnExactInstalmentsWrong : ChangeSpec := { name := "fnExactInstalments", fn := fun _ => fun
  | [d1, d2] => { results := [.lit (.bool false)], args := [d1, d2] }
  | _ => none }
def FnExactInstalmentsWrongFalsely : Prop := fnExactInstalmentsRow.holds Try.pinned (OpenSpec.ofChange fnExactInstalmentsWrong)

/-- 'laws.FnExactPayBill': WHATEVER THE INPUT: true; the input reads as it did. -/
def fnExactPayBillSpec : ChangeSpec := { name := "fnExactPayBill", fn := fun _ => fun
  | [d1, d2] => { results := [.lit (.bool true)], args := [d1, d2] }
  | _ => none }
def fnExactPayBillRow : OpenClaim := { program := "ytgohahcdkgbocaa", sum := "971c480ac24d1f3ef1d2786e7d81a279aeac6fbe79d2b616fb084c650f280a41", func := "loop.example/g01043/laws.FnExactPayBill", spec := "fnExactPayBill", unfollowed := true, recurses := true, apart := false }
def FnExactPayBillSaid : Prop := fnExactPayBillRow.holds Try.pinned (OpenSpec.ofChange fnExactPayBillSpec)

/-- ITS FALSE NEIGHBOUR: 'it returns false'. Refute it at one input. -/
def fnExactPayBillWrong : ChangeSpec := { name := "fnExactPayBill", fn := fun _ => fun
  | [d1, d2] => { results := [.lit (.bool false)], args := [d1, d2] }
  | _ => none }
def FnExactPayBillWrongFalsely : Prop := fnExactPayBillRow.holds Try.pinned (OpenSpec.ofChange fnExactPayBillWrong)

/-- 'laws.FnExactPricePerItem': WHATEVER THE INPUT: true; the input reads as it did. -/
def fnExactPricePerItemSpec : ChangeSpec := { name := "fnExactPricePerItem", fn := fun _ => fun
  | [d] => { results := [.lit (.bool true)], args := [d] }
  | _ => none }
def fnExactPricePerItemRow : OpenClaim := { program := "ytgohahcdkgbocaa", sum := "971c480ac24d1f3ef1d2786e7d81a279aeac6fbe79d2b616fb084c650f280a41", func := "loop.example/g01043/laws.FnExactPricePerItem", spec := "fnExactPricePerItem", unfollowed := true, recurses := true, named := ["math/bits.divideError", "math/bits.overflowError"], apart := false }
def FnExactPricePerItemSaid : Prop := fnExactPricePerItemRow.holds Try.pinned (OpenSpec.ofChange fnExactPricePerItemSpec)

/-- ITS FALSE NEIGHBOUR: 'it returns false'. Refute it at one input. -/
def fnExactPricePerItemWrong : ChangeSpec := { name := "fnExactPricePerItem", fn := fun _ => fun
  | [d] => { results := [.lit (.bool false)], args := [d] }
  | _ => none }
def FnExactPricePerItemWrongFalsely : Prop := fnExactPricePerItemRow.holds Try.pinned (OpenSpec.ofChange fnExactPricePerItemWrong)

/-- 'laws.FnBills': WHATEVER THE INPUT: true; the input reads as it did. -/
def fnBillsSpec : ChangeSpec := { name := "fnBills", fn := fun _ => fun
  | [d] => { results := [.lit (.bool true)], args := [d] }
  | _ => none }
def fnBillsRow : OpenClaim := { program := "ytgohahcdkgbocaa", sum := "971c480ac24d1f3ef1d2786e7d81a279aeac6fbe79d2b616fb084c650f280a41", func := "loop.example/g01043/laws.FnBills", spec := "fnBills", unfollowed := true, recurses := true, named := ["math/bits.divideError", "math/bits.overflowError"], apart := false }
def FnBillsSaid : Prop := fnBillsRow.holds Try.pinned (OpenSpec.ofChange fnBillsSpec)

/-- ITS FALSE NEIGHBOUR: 'it returns false'. Refute it at one input. -/
def fnBillsWrong : ChangeSpec := { name := "fnBills", fn := fun _ => fun
  | [d] => { results := [.lit (.bool false)], args := [d] }
  | _ => none }
def FnBillsWrongFalsely : Prop := fnBillsRow.holds Try.pinned (OpenSpec.ofChange fnBillsWrong)

/- THE SECOND FORM. 'bulk': how many values and letters a reading holds, each counted each time it is reached (what is shared counts as often as it is met; a slice's spare places count too). A statement '..UptoSaid' is the law's where the arguments, and the package variables that the reading takes, are together of bulk at most 1048576: NARROWER than '..Said'. Prove '..Said' where nothing that the law and all that it calls make is longer than what came in: it says more and counts as full. Else prove '..UptoSaid'. A law counts once. -/
mutual
def uptoBulk {H : Type} : DataW H → Nat
  | .lit (.string bytes) => bytes.length + 1
  | .lit _ => 1
  | .nil => 1
  | .ptr d => uptoBulk d + 1
  | .slice elems spare => uptoBulkAll elems + uptoBulkAll spare + 1
  | .agg parts => uptoBulkAll parts + 1
  | .iface _ d => uptoBulk d + 1
  | .map entries => uptoBulkEntries entries + 1
  | .held _ => 1
def uptoBulkAll {H : Type} : List (DataW H) → Nat
  | [] => 0
  | d :: r => uptoBulk d + uptoBulkAll r
def uptoBulkEntries {H : Type} : List (Lit × DataW H) → Nat
  | [] => 0
  | x :: r => uptoBulkEntry x + uptoBulkEntries r
def uptoBulkEntry {H : Type} : Lit × DataW H → Nat
  | (.string bytes, d) => bytes.length + uptoBulk d + 1
  | (_, d) => uptoBulk d + 1
 end
def uptoSmall : (H : Type) → List (DataW H) → Bool := fun _ ds => decide (uptoBulkAll ds ≤ 1048576)
def OpenSpec.upto (s : _root_.Go.ChangeSpec) : _root_.Go.OpenSpec := { _root_.Go.OpenSpec.ofChange s with cond := some uptoSmall }

/-- 'laws.FnExactSameBill', WHERE WHAT IT READS IS OF BULK AT MOST 1048576: true; the input reads as it did. -/
def fnExactSameBillUptoRow : OpenClaim := { program := "ytgohahcdkgbocaa", sum := "971c480ac24d1f3ef1d2786e7d81a279aeac6fbe79d2b616fb084c650f280a41", func := "loop.example/g01043/laws.FnExactSameBill", spec := "fnExactSameBill", apart := false, narrowed := true }
def FnExactSameBillUptoSaid : Prop := fnExactSameBillUptoRow.holds Try.pinned (OpenSpec.upto fnExactSameBillSpec)

/-- 'laws.FnExactValidBill', WHERE WHAT IT READS IS OF BULK AT MOST 1048576: true; the input reads as it did. -/
def fnExactValidBillUptoRow : OpenClaim := { program := "ytgohahcdkgbocaa", sum := "971c480ac24d1f3ef1d2786e7d81a279aeac6fbe79d2b616fb084c650f280a41", func := "loop.example/g01043/laws.FnExactValidBill", spec := "fnExactValidBill", unfollowed := true, recurses := true, apart := false, narrowed := true }
def FnExactValidBillUptoSaid : Prop := fnExactValidBillUptoRow.holds Try.pinned (OpenSpec.upto fnExactValidBillSpec)

/-- 'laws.FnExactSumOfBill', WHERE WHAT IT READS IS OF BULK AT MOST 1048576: true; the input reads as it did. -/
def fnExactSumOfBillUptoRow : OpenClaim := { program := "ytgohahcdkgbocaa", sum := "971c480ac24d1f3ef1d2786e7d81a279aeac6fbe79d2b616fb084c650f280a41", func := "loop.example/g01043/laws.FnExactSumOfBill", spec := "fnExactSumOfBill", unfollowed := true, recurses := true, apart := false, narrowed := true }
def FnExactSumOfBillUptoSaid : Prop := fnExactSumOfBillUptoRow.holds Try.pinned (OpenSpec.upto fnExactSumOfBillSpec)

/-- 'laws.FnExactTotalOfBill', WHERE WHAT IT READS IS OF BULK AT MOST 1048576: true; the input reads as it did. -/
def fnExactTotalOfBillUptoRow : OpenClaim := { program := "ytgohahcdkgbocaa", sum := "971c480ac24d1f3ef1d2786e7d81a279aeac6fbe79d2b616fb084c650f280a41", func := "loop.example/g01043/laws.FnExactTotalOfBill", spec := "fnExactTotalOfBill", unfollowed := true, recurses := true, apart := false, narrowed := true }
def FnExactTotalOfBillUptoSaid : Prop := fnExactTotalOfBillUptoRow.holds Try.pinned (OpenSpec.upto fnExactTotalOfBillSpec)

/-- 'laws.FnExactLeftToPay', WHERE WHAT IT READS IS OF BULK AT MOST 1048576: true; the input reads as it did. -/
def fnExactLeftToPayUptoRow : OpenClaim := { program := "ytgohahcdkgbocaa", sum := "971c480ac24d1f3ef1d2786e7d81a279aeac6fbe79d2b616fb084c650f280a41", func := "loop.example/g01043/laws.FnExactLeftToPay", spec := "fnExactLeftToPay", unfollowed := true, recurses := true, apart := false, narrowed := true }
def FnExactLeftToPayUptoSaid : Prop := fnExactLeftToPayUptoRow.holds Try.pinned (OpenSpec.upto fnExactLeftToPaySpec)

/-- 'laws.FnExactRefundFor', WHERE WHAT IT READS IS OF BULK AT MOST 1048576: true; the input reads as it did. -/
def fnExactRefundForUptoRow : OpenClaim := { program := "ytgohahcdkgbocaa", sum := "971c480ac24d1f3ef1d2786e7d81a279aeac6fbe79d2b616fb084c650f280a41", func := "loop.example/g01043/laws.FnExactRefundFor", spec := "fnExactRefundFor", unfollowed := true, recurses := true, apart := false, narrowed := true }
def FnExactRefundForUptoSaid : Prop := fnExactRefundForUptoRow.holds Try.pinned (OpenSpec.upto fnExactRefundForSpec)

/-- 'laws.FnExactDepositFor', WHERE WHAT IT READS IS OF BULK AT MOST 1048576: true; the input reads as it did. -/
def fnExactDepositForUptoRow : OpenClaim := { program := "ytgohahcdkgbocaa", sum := "971c480ac24d1f3ef1d2786e7d81a279aeac6fbe79d2b616fb084c650f280a41", func := "loop.example/g01043/laws.FnExactDepositFor", spec := "fnExactDepositFor", unfollowed := true, recurses := true, apart := false, narrowed := true }
def FnExactDepositForUptoSaid : Prop := fnExactDepositForUptoRow.holds Try.pinned (OpenSpec.upto fnExactDepositForSpec)

/-- 'laws.FnExactOffFor', WHERE WHAT IT READS IS OF BULK AT MOST 1048576: true; the input reads as it did. -/
def fnExactOffForUptoRow : OpenClaim := { program := "ytgohahcdkgbocaa", sum := "971c480ac24d1f3ef1d2786e7d81a279aeac6fbe79d2b616fb084c650f280a41", func := "loop.example/g01043/laws.FnExactOffFor", spec := "fnExactOffFor", unfollowed := true, recurses := true, apart := false, narrowed := true }
def FnExactOffForUptoSaid : Prop := fnExactOffForUptoRow.holds Try.pinned (OpenSpec.upto fnExactOffForSpec)

/-- 'laws.FnExactInstalments', WHERE WHAT IT READS IS OF BULK AT MOST 1048576: true; the input reads as it did. -/
def fnExactInstalmentsUptoRow : OpenClaim := { program := "ytgohahcdkgbocaa", sum := "971c480ac24d1f3ef1d2786e7d81a279aeac6fbe79d2b616fb084c650f280a41", func := "loop.example/g01043/laws.FnExactInstalments", spec := "fnExactInstalments", unfollowed := true, recurses := true, apart := false, narrowed := true }
def FnExactInstalmentsUptoSaid : Prop := fnExactInstalmentsUptoRow.holds Try.pinned (OpenSpec.upto fnExactInstalmentsSpec)

/-- 'laws.FnExactPayBill', WHERE WHAT IT READS IS OF BULK AT MOST 1048576: true; the input reads as it did. -/
def fnExactPayBillUptoRow : OpenClaim := { program := "ytgohahcdkgbocaa", sum := "971c480ac24d1f3ef1d2786e7d81a279aeac6fbe79d2b616fb084c650f280a41", func := "loop.example/g01043/laws.FnExactPayBill", spec := "fnExactPayBill", unfollowed := true, recurses := true, apart := false, narrowed := true }
def FnExactPayBillUptoSaid : Prop := fnExactPayBillUptoRow.holds Try.pinned (OpenSpec.upto fnExactPayBillSpec)

/-- 'laws.FnExactPricePerItem', WHERE WHAT IT READS IS OF BULK AT MOST 1048576: true; the input reads as it did. -/
def fnExactPricePerItemUptoRow : OpenClaim := { program := "ytgohahcdkgbocaa", sum := "971c480ac24d1f3ef1d2786e7d81a279aeac6fbe79d2b616fb084c650f280a41", func := "loop.example/g01043/laws.FnExactPricePerItem", spec := "fnExactPricePerItem", unfollowed := true, recurses := true, named := ["math/bits.divideError", "math/bits.overflowError"], apart := false, narrowed := true }
def FnExactPricePerItemUptoSaid : Prop := fnExactPricePerItemUptoRow.holds Try.pinned (OpenSpec.upto fnExactPricePerItemSpec)

/-- 'laws.FnBills', WHERE WHAT IT READS IS OF BULK AT MOST 1048576: true; the input reads as it did. -/
def fnBillsUptoRow : OpenClaim := { program := "ytgohahcdkgbocaa", sum := "971c480ac24d1f3ef1d2786e7d81a279aeac6fbe79d2b616fb084c650f280a41", func := "loop.example/g01043/laws.FnBills", spec := "fnBills", unfollowed := true, recurses := true, named := ["math/bits.divideError", "math/bits.overflowError"], apart := false, narrowed := true }
def FnBillsUptoSaid : Prop := fnBillsUptoRow.holds Try.pinned (OpenSpec.upto fnBillsSpec)

end Rows
end Go.Proofs.Ytgohahcdkgbocaa
