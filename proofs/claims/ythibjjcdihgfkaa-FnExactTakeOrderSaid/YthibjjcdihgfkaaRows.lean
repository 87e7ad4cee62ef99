/-
  No cell of these rows narrows 'for every input' (looked for: loops, veiled, ifaces, maps, wideKeys, modest, calm, conditions, laid).
  DERIVED. THE GIVEN ROWS OF THIS SEAT. 5 by the template 'for every input the law returns true; each argument reads behind the call as it read before'; 0 by the template 'total and deterministic' (their statements: YthibjjcdihgfkaaTotals.lean).
  GIVEN WITH THE SEED: the statements are not yours to turn. If you find one false, say at which input.
  Laid BY PROGRAM, IN A SANDBOX (cutbox-rows.mjs): the forced cells as the released guide's own fill.sh prints them over the translation 18c9418913aee7f7… (all of the seat's roots in one cut). By AI agents, Wed Nov 11 2026. No macro, syntax, notation, axiom, sorry.
-/
import Derived.Test.YthibjjcdihgfkaaChecked
import GoSem.Claim
import GoSem.ClaimJoined
import GoSem.ClaimMapViews
import Derived.JoinedTies
import Derived.KernelRfl
namespace Go.Proofs.Ythibjjcdihgfkaa
/- THE CELL 'sum', in the pinned program and in every row, IS THE sha256 OF THE DUMP (.gsa) THAT YthibjjcdihgfkaaProg.lean LOADS. Nothing in Lean hashes anything: it is a label: what it is worth is what the hold of that sum in a sandbox is worth. -/
noncomputable def Try.pinned : Pinned := { name := "ythibjjcdihgfkaa", sum := "18c9418913aee7f7133174c71ee5432793624519d5047ae2a1fae4369258cbb0", checked := Try.checked }
namespace Rows
def none {H : Type} : Left H := { results := [], args := [] }

/-- 'laws.FnExactSameDesk': WHATEVER THE INPUT: true; the input reads as it did. -/
def fnExactSameDeskSpec : ChangeSpec := { name := "fnExactSameDesk", fn := fun _ => fun
  | [d1, d2] => { results := [.lit (.bool true)], args := [d1, d2] }
  | _ => none }
def fnExactSameDeskRow : OpenClaim := { program := "ythibjjcdihgfkaa", sum := "18c9418913aee7f7133174c71ee5432793624519d5047ae2a1fae4369258cbb0", func := "loop.example/g01043/laws.FnExactSameDesk", spec := "fnExactSameDesk", apart := false }
def FnExactSameDeskSaid : Prop := fnExactSameDeskRow.holds Try.pinned (OpenSpec.ofChange fnExactSameDeskSpec)

/-- ITS FALSE NEIGHBOUR: 'it returns false'. Refute it at one input. -/
def fnExactSameDeskWrong : ChangeSpec := { name := "fnExactSameDesk", fn := fun _ => fun
  | [d1, d2] => { results := [.lit (.bool false)], args := [d1, d2] }
  | _ => none }
def FnExactSameDeskWrongFalsely : Prop := fnExactSameDeskRow.holds Try.pinned (OpenSpec.ofChange fnExactSameDeskWrong)

/-- 'laws.FnExactBestSole': WHATEVER THE INPUT: true; the input reads as it did. -/
def fnExactBestSoleSpec : ChangeSpec := { name := "fnExactBestSole", fn := fun _ => fun
  | [d1, d2, d3] => { results := [.lit (.bool true)], args := [d1, d2, d3] }
  | _ => none }
def fnExactBestSoleRow : OpenClaim := { program := "ythibjjcdihgfkaa", sum := "18c9418913aee7f7133174c71ee5432793624519d5047ae2a1fae4369258cbb0", func := "loop.example/g01043/laws.FnExactBestSole", spec := "fnExactBestSole", unfollowed := true, recurses := true, apart := false }
def FnExactBestSoleSaid : Prop := fnExactBestSoleRow.holds Try.pinned (OpenSpec.ofChange fnExactBestSoleSpec)

/-- ITS FALSE NEIGHBOUR: 'it returns false'. Refute it at one input. -/
def fnExactBestSoleWrong : ChangeSpec := { name := "fnExactBestSole", fn := fun _ => fun
  | [d1, d2, d3] => { results := [.lit (.bool false)], args := [d1, d2, d3] }
  | _ => none }
def FnExactBestSoleWrongFalsely : Prop := fnExactBestSoleRow.holds Try.pinned (OpenSpec.ofChange fnExactBestSoleWrong)

/-- 'laws.FnExactLightestSole': WHATEVER THE INPUT: true; the input reads as it did. -/
def fnExactLightestSoleSpec : ChangeSpec := { name := "fnExactLightestSole", fn := fun _ => fun
  | [d1, d2, d3] => { results := [.lit (.bool true)], args := [d1, d2, d3] }
  | _ => none }
def fnExactLightestSoleRow : OpenClaim := { program := "ythibjjcdihgfkaa", sum := "18c9418913aee7f7133174c71ee5432793624519d5047ae2a1fae4369258cbb0", func := "loop.example/g01043/laws.FnExactLightestSole", spec := "fnExactLightestSole", unfollowed := true, recurses := true, apart := false }
def FnExactLightestSoleSaid : Prop := fnExactLightestSoleRow.holds Try.pinned (OpenSpec.ofChange fnExactLightestSoleSpec)

/-- ITS FALSE NEIGHBOUR: 'it returns false'. Refute it at one input. -/
def fnExactLightestSoleWrong : ChangeSpec := { name := "fnExactLightestSole", fn := fun _ => fun
  | [d1, d2, d3] => { results := [.lit (.bool false)], args := [d1, d2, d3] }
  | _ => none }
def FnExactLightestSoleWrongFalsely : Prop := fnExactLightestSoleRow.holds Try.pinned (OpenSpec.ofChange fnExactLightestSoleWrong)

/-- 'laws.FnExactPricePerItem': WHATEVER THE INPUT: true; the input reads as it did. -/
def fnExactPricePerItemSpec : ChangeSpec := { name := "fnExactPricePerItem", fn := fun _ => fun
  | [d] => { results := [.lit (.bool true)], args := [d] }
  | _ => none }
def fnExactPricePerItemRow : OpenClaim := { program := "ythibjjcdihgfkaa", sum := "18c9418913aee7f7133174c71ee5432793624519d5047ae2a1fae4369258cbb0", func := "loop.example/g01043/laws.FnExactPricePerItem", spec := "fnExactPricePerItem", unfollowed := true, recurses := true, named := ["math/bits.divideError", "math/bits.overflowError"], apart := false }
def FnExactPricePerItemSaid : Prop := fnExactPricePerItemRow.holds Try.pinned (OpenSpec.ofChange fnExactPricePerItemSpec)

/-- ITS FALSE NEIGHBOUR: 'it returns false'. Refute it at one input. -/
def fnExactPricePerItemWrong : ChangeSpec := { name := "fnExactPricePerItem", fn := fun _ => fun
  | [d] => { results := [.lit (.bool false)], args := [d] }
  | _ => none }
def FnExactPricePerItemWrongFalsely : Prop := fnExactPricePerItemRow.holds Try.pinned (OpenSpec.ofChange fnExactPricePerItemWrong)

/-- 'laws.FnExactTakeOrder': WHATEVER THE INPUT: true; the input reads as it did. -/
def fnExactTakeOrderSpec : ChangeSpec := { name := "fnExactTakeOrder", fn := fun _ => fun
  | [d1, d2] => { results := [.lit (.bool true)], args := [d1, d2] }
  | _ => none }
def fnExactTakeOrderRow : OpenClaim := { program := "ythibjjcdihgfkaa", sum := "18c9418913aee7f7133174c71ee5432793624519d5047ae2a1fae4369258cbb0", func := "loop.example/g01043/laws.FnExactTakeOrder", spec := "fnExactTakeOrder", inPlace := ["slices.overlaps[loop.example/g01043/impl.Order]"], unfollowed := true, recurses := true, apart := false }
def FnExactTakeOrderSaid : Prop := fnExactTakeOrderRow.holds Try.pinned (OpenSpec.ofChange fnExactTakeOrderSpec)

/-- ITS FALSE NEIGHBOUR: 'it returns false'. Refute it at one input. -/
def fnExactTakeOrderWrong : ChangeSpec := { name := "fnExactTakeOrder", fn := fun _ => fun
  | [d1, d2] => { results := [.lit (.bool false)], args := [d1, d2] }
  | _ => none }
def FnExactTakeOrderWrongFalsely : Prop := fnExactTakeOrderRow.holds Try.pinned (OpenSpec.ofChange fnExactTakeOrderWrong)

/- THE SECOND FORM. 'bulk': how many values and letters a reading holds, each counted each time it is reached (what is shared counts as often as it is met; a slice's spare places count too). A statement '..UptoSaid' is the law's where the arguments, and the package variables that the reading takes, are together of bulk at most 1048576: NARROWER than '..Said'. Prove '..Said' where nothing that the law and all that it calls make is longer than what came in: it says more and counts as full. Else prove '..UptoSaid'. A law counts once. -/
mutual
def uptoBulk {H : Type} : DataW H → Nat
  | .lit (.string bytes) => bytes.length + 1
  | .lit _ => 1
  | .nil => 1
  | .ptr d => uptoBulk d + 1
  | .slice elems spare => uptoBulkAll elems + uptoBulkAll spare + 1
  | .agg parts => uptoBulkAll parts + 1
  | .iface _ d => uptoBulk d + 1
  | .map entries => uptoBulkEntries entries + 1
  | .held _ => 1
def uptoBulkAll {H : Type} : List (DataW H) → Nat
  | [] => 0
  | d :: r => uptoBulk d + uptoBulkAll r
def uptoBulkEntries {H : Type} : List (Lit × DataW H) → Nat
  | [] => 0
  | x :: r => uptoBulkEntry x + uptoBulkEntries r
def uptoBulkEntry {H : Type} : Lit × DataW H → Nat
  | (.string bytes, d) => bytes.length + uptoBulk d + 1
  | (_, d) => uptoBulk d + 1
 end
def uptoSmall : (H : Type) → List (DataW H) → Bool := fun _ ds => decide (uptoBulkAll ds ≤ 1048576)
def OpenSpec.upto (s : _root_.Go.ChangeSpec) : _root_.Go.OpenSpec := { _root_.Go.OpenSpec.ofChange s with cond := some uptoSmall }

/-- 'laws.FnExactSameDesk', WHERE WHAT IT READS IS OF BULK AT MOST 1048576: true; the input reads as it did. -/
def fnExactSameDeskUptoRow : OpenClaim := { program := "ythibjjcdihgfkaa", sum := "18c9418913aee7f7133174c71ee5432793624519d5047ae2a1fae4369258cbb0", func := "loop.example/g01043/laws.FnExactSameDesk", spec := "fnExactSameDesk", apart := false, narrowed := true }
def FnExactSameDeskUptoSaid : Prop := fnExactSameDeskUptoRow.holds Try.pinned (OpenSpec.upto fnExactSameDeskSpec)

/-- 'laws.FnExactBestSole', WHERE WHAT IT READS IS OF BULK AT MOST 1048576: true; the input reads as it did. -/
def fnExactBestSoleUptoRow : OpenClaim := { program := "ythibjjcdihgfkaa", sum := "18c9418913aee7f7133174c71ee5432793624519d5047ae2a1fae4369258cbb0", func := "loop.example/g01043/laws.FnExactBestSole", spec := "fnExactBestSole", unfollowed := true, recurses := true, apart := false, narrowed := true }
def FnExactBestSoleUptoSaid : Prop := fnExactBestSoleUptoRow.holds Try.pinned (OpenSpec.upto fnExactBestSoleSpec)

/-- 'laws.FnExactLightestSole', WHERE WHAT IT READS IS OF BULK AT MOST 1048576: true; the input reads as it did. -/
def fnExactLightestSoleUptoRow : OpenClaim := { program := "ythibjjcdihgfkaa", sum := "18c9418913aee7f7133174c71ee5432793624519d5047ae2a1fae4369258cbb0", func := "loop.example/g01043/laws.FnExactLightestSole", spec := "fnExactLightestSole", unfollowed := true, recurses := true, apart := false, narrowed := true }
def FnExactLightestSoleUptoSaid : Prop := fnExactLightestSoleUptoRow.holds Try.pinned (OpenSpec.upto fnExactLightestSoleSpec)

/-- 'laws.FnExactPricePerItem', WHERE WHAT IT READS IS OF BULK AT MOST 1048576: true; the input reads as it did. -/
def fnExactPricePerItemUptoRow : OpenClaim := { program := "ythibjjcdihgfkaa", sum := "18c9418913aee7f7133174c71ee5432793624519d5047ae2a1fae4369258cbb0", func := "loop.example/g01043/laws.FnExactPricePerItem", spec := "fnExactPricePerItem", unfollowed := true, recurses := true, named := ["math/bits.divideError", "math/bits.overflowError"], apart := false, narrowed := true }
def FnExactPricePerItemUptoSaid : Prop := fnExactPricePerItemUptoRow.holds Try.pinned (OpenSpec.upto fnExactPricePerItemSpec)

/-- 'laws.FnExactTakeOrder', WHERE WHAT IT READS IS OF BULK AT MOST 1048576: true; the input reads as it did. -/
def fnExactTakeOrderUptoRow : OpenClaim := { program := "ythibjjcdihgfkaa", sum := "18c9418913aee7f7133174c71ee5432793624519d5047ae2a1fae4369258cbb0", func := "loop.example/g01043/laws.FnExactTakeOrder", spec := "fnExactTakeOrder", inPlace := ["slices.overlaps[loop.example/g01043/impl.Order]"], unfollowed := true, recurses := true, apart := false, narrowed := true }
def FnExactTakeOrderUptoSaid : Prop := fnExactTakeOrderUptoRow.holds Try.pinned (OpenSpec.upto fnExactTakeOrderSpec)

end Rows
end Go.Proofs.Ythibjjcdihgfkaa
