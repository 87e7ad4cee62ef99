/-
  No cell of these rows narrows 'for every input' (looked for: loops, veiled, ifaces, maps, wideKeys, modest, calm, conditions, laid).
  DERIVED. THE GIVEN ROWS OF THIS SEAT. 9 by the template 'for every input the law returns true; each argument reads behind the call as it read before'; 0 by the template 'total and deterministic' (their statements: YtiplnpbeoaefaaaTotals.lean).
  GIVEN WITH THE SEED: the statements are not yours to turn. If you find one false, say at which input.
  Laid BY PROGRAM, IN A SANDBOX (cutbox-rows.mjs): the forced cells as the released guide's own fill.sh prints them over the translation e39ca99082e78a62… (all of the seat's roots in one cut). By AI agents, Wed Nov 11 2026. No macro, syntax, notation, axiom, sorry.
-/
import Derived.Test.YtiplnpbeoaefaaaChecked
import GoSem.Claim
import GoSem.ClaimJoined
import GoSem.ClaimMapViews
import Derived.JoinedTies
import Derived.KernelRfl
namespace Go.Proofs.Ytiplnpbeoaefaaa
/- THE CELL 'sum', in the pinned program and in every row, IS THE sha256 OF THE DUMP (.gsa) THAT YtiplnpbeoaefaaaProg.lean LOADS. Nothing in Lean hashes anything: it is a label: what it is worth is what the hold of that sum in a sandbox is worth. -/
noncomputable def Try.pinned : Pinned := { name := "ytiplnpbeoaefaaa", sum := "e39ca99082e78a6299df12ed583c692aab5a989f113b9a5c87951e6d33c610a2", checked := Try.checked }
namespace Rows
def none {H : Type} : Left H := { results := [], args := [] }

/-- 'laws.FnExactPriceOfSole': WHATEVER THE INPUT: true; the input reads as it did. -/
def fnExactPriceOfSoleSpec : ChangeSpec := { name := "fnExactPriceOfSole", fn := fun _ => fun
  | [d1, d2] => { results := [.lit (.bool true)], args := [d1, d2] }
  | _ => none }
def fnExactPriceOfSoleRow : OpenClaim := { program := "ytiplnpbeoaefaaa", sum := "e39ca99082e78a6299df12ed583c692aab5a989f113b9a5c87951e6d33c610a2", func := "loop.example/g01043/laws.FnExactPriceOfSole", spec := "fnExactPriceOfSole", unfollowed := true, recurses := true, apart := false }
def FnExactPriceOfSoleSaid : Prop := fnExactPriceOfSoleRow.holds Try.pinned (OpenSpec.ofChange fnExactPriceOfSoleSpec)

/-- ITS FALSE NEIGHBOUR: 'it returns false'. Refute it at one input. -/
def fnExactPriceOfSoleWrong : ChangeSpec := { name := "fnExactPriceOfSole", fn := fun _ => fun
  | [d1, d2] => { results := [.lit (.bool false)], args := [d1, d2] }
  | _ => none }
def FnExactPriceOfSoleWrongFalsely : Prop := fnExactPriceOfSoleRow.holds Try.pinned (OpenSpec.ofChange fnExactPriceOfSoleWrong)

/-- 'laws.FnExactStiffOf': WHATEVER THE INPUT: true; the input reads as it did. -/
def fnExactStiffOfSpec : ChangeSpec := { name := "fnExactStiffOf", fn := fun _ => fun
  | [d1, d2] => { results := [.lit (.bool true)], args := [d1, d2] }
  | _ => none }
def fnExactStiffOfRow : OpenClaim := { program := "ytiplnpbeoaefaaa", sum := "e39ca99082e78a6299df12ed583c692aab5a989f113b9a5c87951e6d33c610a2", func := "loop.example/g01043/laws.FnExactStiffOf", spec := "fnExactStiffOf", unfollowed := true, recurses := true, apart := false }
def FnExactStiffOfSaid : Prop := fnExactStiffOfRow.holds Try.pinned (OpenSpec.ofChange fnExactStiffOfSpec)

/-- ITS FALSE NEIGHBOUR: 'it returns false'. Refute it at one input. -/
def fnExactStiffOfWrong : ChangeSpec := { name := "fnExactStiffOf", fn := fun _ => fun
  | [d1, d2] => { results := [.lit (.bool false)], args := [d1, d2] }
  | _ => none }
def FnExactStiffOfWrongFalsely : Prop := fnExactStiffOfRow.holds Try.pinned (OpenSpec.ofChange fnExactStiffOfWrong)

/-- 'laws.FnExactThickOf': WHATEVER THE INPUT: true; the input reads as it did. -/
def fnExactThickOfSpec : ChangeSpec := { name := "fnExactThickOf", fn := fun _ => fun
  | [d1, d2] => { results := [.lit (.bool true)], args := [d1, d2] }
  | _ => none }
def fnExactThickOfRow : OpenClaim := { program := "ytiplnpbeoaefaaa", sum := "e39ca99082e78a6299df12ed583c692aab5a989f113b9a5c87951e6d33c610a2", func := "loop.example/g01043/laws.FnExactThickOf", spec := "fnExactThickOf", unfollowed := true, recurses := true, apart := false }
def FnExactThickOfSaid : Prop := fnExactThickOfRow.holds Try.pinned (OpenSpec.ofChange fnExactThickOfSpec)

/-- ITS FALSE NEIGHBOUR: 'it returns false'. Refute it at one input. -/
def fnExactThickOfWrong : ChangeSpec := { name := "fnExactThickOf", fn := fun _ => fun
  | [d1, d2] => { results := [.lit (.bool false)], args := [d1, d2] }
  | _ => none }
def FnExactThickOfWrongFalsely : Prop := fnExactThickOfRow.holds Try.pinned (OpenSpec.ofChange fnExactThickOfWrong)

/-- 'laws.FnExactWearLayers': WHATEVER THE INPUT: true; the input reads as it did. -/
def fnExactWearLayersSpec : ChangeSpec := { name := "fnExactWearLayers", fn := fun _ => fun
  | [d1, d2, d3] => { results := [.lit (.bool true)], args := [d1, d2, d3] }
  | _ => none }
def fnExactWearLayersRow : OpenClaim := { program := "ytiplnpbeoaefaaa", sum := "e39ca99082e78a6299df12ed583c692aab5a989f113b9a5c87951e6d33c610a2", func := "loop.example/g01043/laws.FnExactWearLayers", spec := "fnExactWearLayers", unfollowed := true, recurses := true, apart := false }
def FnExactWearLayersSaid : Prop := fnExactWearLayersRow.holds Try.pinned (OpenSpec.ofChange fnExactWearLayersSpec)

/-- ITS FALSE NEIGHBOUR: 'it returns false'. Refute it at one input. -/
def fnExactWearLayersWrong : ChangeSpec := { name := "fnExactWearLayers", fn := fun _ => fun
  | [d1, d2, d3] => { results := [.lit (.bool false)], args := [d1, d2, d3] }
  | _ => none }
def FnExactWearLayersWrongFalsely : Prop := fnExactWearLayersRow.holds Try.pinned (OpenSpec.ofChange fnExactWearLayersWrong)

/-- 'laws.FnExactGramsOf': WHATEVER THE INPUT: true; the input reads as it did. -/
def fnExactGramsOfSpec : ChangeSpec := { name := "fnExactGramsOf", fn := fun _ => fun
  | [d1, d2, d3] => { results := [.lit (.bool true)], args := [d1, d2, d3] }
  | _ => none }
def fnExactGramsOfRow : OpenClaim := { program := "ytiplnpbeoaefaaa", sum := "e39ca99082e78a6299df12ed583c692aab5a989f113b9a5c87951e6d33c610a2", func := "loop.example/g01043/laws.FnExactGramsOf", spec := "fnExactGramsOf", unfollowed := true, recurses := true, apart := false }
def FnExactGramsOfSaid : Prop := fnExactGramsOfRow.holds Try.pinned (OpenSpec.ofChange fnExactGramsOfSpec)

/-- ITS FALSE NEIGHBOUR: 'it returns false'. Refute it at one input. -/
def fnExactGramsOfWrong : ChangeSpec := { name := "fnExactGramsOf", fn := fun _ => fun
  | [d1, d2, d3] => { results := [.lit (.bool false)], args := [d1, d2, d3] }
  | _ => none }
def FnExactGramsOfWrongFalsely : Prop := fnExactGramsOfRow.holds Try.pinned (OpenSpec.ofChange fnExactGramsOfWrong)

/-- 'laws.FnExactDeskWords': WHATEVER THE INPUT: true; the input reads as it did. -/
def fnExactDeskWordsSpec : ChangeSpec := { name := "fnExactDeskWords", fn := fun _ => fun
  | [] => { results := [.lit (.bool true)], args := [] }
  | _ => none }
def fnExactDeskWordsRow : OpenClaim := { program := "ytiplnpbeoaefaaa", sum := "e39ca99082e78a6299df12ed583c692aab5a989f113b9a5c87951e6d33c610a2", func := "loop.example/g01043/laws.FnExactDeskWords", spec := "fnExactDeskWords", apart := false }
def FnExactDeskWordsSaid : Prop := fnExactDeskWordsRow.holds Try.pinned (OpenSpec.ofChange fnExactDeskWordsSpec)

/-- ITS FALSE NEIGHBOUR: 'it returns false'. Refute it at one input. -/
def fnExactDeskWordsWrong : ChangeSpec := { name := "fnExactDeskWords", fn := fun _ => fun
  | [] => { results := [.lit (.bool false)], args := [] }
  | _ => none }
def FnExactDeskWordsWrongFalsely : Prop := fnExactDeskWordsRow.holds Try.pinned (OpenSpec.ofChange fnExactDeskWordsWrong)

/-- 'laws.FnExactValidEntry': WHATEVER THE INPUT: true; the input reads as it did. -/
def fnExactValidEntrySpec : ChangeSpec := { name := "fnExactValidEntry", fn := fun _ => fun
  | [d] => { results := [.lit (.bool true)], args := [d] }
  | _ => none }
def fnExactValidEntryRow : OpenClaim := { program := "ytiplnpbeoaefaaa", sum := "e39ca99082e78a6299df12ed583c692aab5a989f113b9a5c87951e6d33c610a2", func := "loop.example/g01043/laws.FnExactValidEntry", spec := "fnExactValidEntry", apart := false }
def FnExactValidEntrySaid : Prop := fnExactValidEntryRow.holds Try.pinned (OpenSpec.ofChange fnExactValidEntrySpec)

/-- ITS FALSE NEIGHBOUR: 'it returns false'. Refute it at one input. -/
def fnExactValidEntryWrong : ChangeSpec := { name := "fnExactValidEntry", fn := fun _ => fun
  | [d] => { results := [.lit (.bool false)], args := [d] }
  | _ => none }
def FnExactValidEntryWrongFalsely : Prop := fnExactValidEntryRow.holds Try.pinned (OpenSpec.ofChange fnExactValidEntryWrong)

/-- 'laws.FnExactNewDesk': WHATEVER THE INPUT: true; the input reads as it did. -/
def fnExactNewDeskSpec : ChangeSpec := { name := "fnExactNewDesk", fn := fun _ => fun
  | [] => { results := [.lit (.bool true)], args := [] }
  | _ => none }
def fnExactNewDeskRow : OpenClaim := { program := "ytiplnpbeoaefaaa", sum := "e39ca99082e78a6299df12ed583c692aab5a989f113b9a5c87951e6d33c610a2", func := "loop.example/g01043/laws.FnExactNewDesk", spec := "fnExactNewDesk", apart := false }
def FnExactNewDeskSaid : Prop := fnExactNewDeskRow.holds Try.pinned (OpenSpec.ofChange fnExactNewDeskSpec)

/-- ITS FALSE NEIGHBOUR: 'it returns false'. Refute it at one input. -/
def fnExactNewDeskWrong : ChangeSpec := { name := "fnExactNewDesk", fn := fun _ => fun
  | [] => { results := [.lit (.bool false)], args := [] }
  | _ => none }
def FnExactNewDeskWrongFalsely : Prop := fnExactNewDeskRow.holds Try.pinned (OpenSpec.ofChange fnExactNewDeskWrong)

/-- 'laws.FnExactSameDesk': WHATEVER THE INPUT: true; the input reads as it did. -/
def fnExactSameDeskSpec : ChangeSpec := { name := "fnExactSameDesk", fn := fun _ => fun
  | [d1, d2] => { results := [.lit (.bool true)], args := [d1, d2] }
  | _ => none }
def fnExactSameDeskRow : OpenClaim := { program := "ytiplnpbeoaefaaa", sum := "e39ca99082e78a6299df12ed583c692aab5a989f113b9a5c87951e6d33c610a2", func := "loop.example/g01043/laws.FnExactSameDesk", spec := "fnExactSameDesk", apart := false }
def FnExactSameDeskSaid : Prop := fnExactSameDeskRow.holds Try.pinned (OpenSpec.ofChange fnExactSameDeskSpec)

/-- ITS FALSE NEIGHBOUR: 'it returns false'. Refute it at one input. -/
def fnExactSameDeskWrong : ChangeSpec := { name := "fnExactSameDesk", fn := fun _ => fun
  | [d1, d2] => { results := [.lit (.bool false)], args := [d1, d2] }
  | _ => none }
def FnExactSameDeskWrongFalsely : Prop := fnExactSameDeskRow.holds Try.pinned (OpenSpec.ofChange fnExactSameDeskWrong)

/- THE SECOND FORM. 'bulk': how many values and letters a reading holds, each counted each time it is reached (what is shared counts as often as it is met; a slice's spare places count too). A statement '..UptoSaid' is the law's where the arguments, and the package variables that the reading takes, are together of bulk at most 1048576: NARROWER than '..Said'. Prove '..Said' where nothing that the law and all that it calls make is longer than what came in: it says more and counts as full. Else prove '..UptoSaid'. A law counts once. -/
mutual
def uptoBulk {H : Type} : DataW H → Nat
  | .lit (.string bytes) => bytes.length + 1
  | .lit _ => 1
  | .nil => 1
  | .ptr d => uptoBulk d + 1
  | .slice elems spare => uptoBulkAll elems + uptoBulkAll spare + 1
  | .agg parts => uptoBulkAll parts + 1
  | .iface _ d => uptoBulk d + 1
  | .map entries => uptoBulkEntries entries + 1
  | .held _ => 1
def uptoBulkAll {H : Type} : List (DataW H) → Nat
  | [] => 0
  | d :: r => uptoBulk d + uptoBulkAll r
def uptoBulkEntries {H : Type} : List (Lit × DataW H) → Nat
  | [] => 0
  | x :: r => uptoBulkEntry x + uptoBulkEntries r
def uptoBulkEntry {H : Type} : Lit × DataW H → Nat
  | (.string bytes, d) => bytes.length + uptoBulk d + 1
  | (_, d) => uptoBulk d + 1
 end
def uptoSmall : (H : Type) → List (DataW H) → Bool := fun _ ds => decide (uptoBulkAll ds ≤ 1048576)
def OpenSpec.upto (s : _root_.Go.ChangeSpec) : _root_.Go.OpenSpec := { _root_.Go.OpenSpec.ofChange s with cond := some uptoSmall }

/-- 'laws.FnExactPriceOfSole', WHERE WHAT IT READS IS OF BULK AT MOST 1048576: true; the input reads as it did. -/
def fnExactPriceOfSoleUptoRow : OpenClaim := { program := "ytiplnpbeoaefaaa", sum := "e39ca99082e78a6299df12ed583c692aab5a989f113b9a5c87951e6d33c610a2", func := "loop.example/g01043/laws.FnExactPriceOfSole", spec := "fnExactPriceOfSole", unfollowed := true, recurses := true, apart := false, narrowed := true }
def FnExactPriceOfSoleUptoSaid : Prop := fnExactPriceOfSoleUptoRow.holds Try.pinned (OpenSpec.upto fnExactPriceOfSoleSpec)

/-- 'laws.FnExactStiffOf', WHERE WHAT IT READS IS OF BULK AT MOST 1048576: true; the input reads as it did. -/
def fnExactStiffOfUptoRow : OpenClaim := { program := "ytiplnpbeoaefaaa", sum := "e39ca99082e78a6299df12ed583c692aab5a989f113b9a5c87951e6d33c610a2", func := "loop.example/g01043/laws.FnExactStiffOf", spec := "fnExactStiffOf", unfollowed := true, recurses := true, apart := false, narrowed := true }
def FnExactStiffOfUptoSaid : Prop := fnExactStiffOfUptoRow.holds Try.pinned (OpenSpec.upto fnExactStiffOfSpec)

/-- 'laws.FnExactThickOf', WHERE WHAT IT READS IS OF BULK AT MOST 1048576: true; the input reads as it did. -/
def fnExactThickOfUptoRow : OpenClaim := { program := "ytiplnpbeoaefaaa", sum := "e39ca99082e78a6299df12ed583c692aab5a989f113b9a5c87951e6d33c610a2", func := "loop.example/g01043/laws.FnExactThickOf", spec := "fnExactThickOf", unfollowed := true, recurses := true, apart := false, narrowed := true }
def FnExactThickOfUptoSaid : Prop := fnExactThickOfUptoRow.holds Try.pinned (OpenSpec.upto fnExactThickOfSpec)

/-- 'laws.FnExactWearLayers', WHERE WHAT IT READS IS OF BULK AT MOST 1048576: true; the input reads as it did. -/
def fnExactWearLayersUptoRow : OpenClaim := { program := "ytiplnpbeoaefaaa", sum := "e39ca99082e78a6299df12ed583c692aab5a989f113b9a5c87951e6d33c610a2", func := "loop.example/g01043/laws.FnExactWearLayers", spec := "fnExactWearLayers", unfollowed := true, recurses := true, apart := false, narrowed := true }
def FnExactWearLayersUptoSaid : Prop := fnExactWearLayersUptoRow.holds Try.pinned (OpenSpec.upto fnExactWearLayersSpec)

/-- 'laws.FnExactGramsOf', WHERE WHAT IT READS IS OF BULK AT MOST 1048576: true; the input reads as it did. -/
def fnExactGramsOfUptoRow : OpenClaim := { program := "ytiplnpbeoaefaaa", sum := "e39ca99082e78a6299df12ed583c692aab5a989f113b9a5c87951e6d33c610a2", func := "loop.example/g01043/laws.FnExactGramsOf", spec := "fnExactGramsOf", unfollowed := true, recurses := true, apart := false, narrowed := true }
def FnExactGramsOfUptoSaid : Prop := fnExactGramsOfUptoRow.holds Try.pinned (OpenSpec.upto fnExactGramsOfSpec)

/-- 'laws.FnExactDeskWords', WHERE WHAT IT READS IS OF BULK AT MOST 1048576: true; the input reads as it did. -/
def fnExactDeskWordsUptoRow : OpenClaim := { program := "ytiplnpbeoaefaaa", sum := "e39ca99082e78a6299df12ed583c692aab5a989f113b9a5c87951e6d33c610a2", func := "loop.example/g01043/laws.FnExactDeskWords", spec := "fnExactDeskWords", apart := false, narrowed := true }
def FnExactDeskWordsUptoSaid : Prop := fnExactDeskWordsUptoRow.holds Try.pinned (OpenSpec.upto fnExactDeskWordsSpec)

/-- 'laws.FnExactValidEntry', WHERE WHAT IT READS IS OF BULK AT MOST 1048576: true; the input reads as it did. -/
def fnExactValidEntryUptoRow : OpenClaim := { program := "ytiplnpbeoaefaaa", sum := "e39ca99082e78a6299df12ed583c692aab5a989f113b9a5c87951e6d33c610a2", func := "loop.example/g01043/laws.FnExactValidEntry", spec := "fnExactValidEntry", apart := false, narrowed := true }
def FnExactValidEntryUptoSaid : Prop := fnExactValidEntryUptoRow.holds Try.pinned (OpenSpec.upto fnExactValidEntrySpec)

/-- 'laws.FnExactNewDesk', WHERE WHAT IT READS IS OF BULK AT MOST 1048576: true; the input reads as it did. -/
def fnExactNewDeskUptoRow : OpenClaim := { program := "ytiplnpbeoaefaaa", sum := "e39ca99082e78a6299df12ed583c692aab5a989f113b9a5c87951e6d33c610a2", func := "loop.example/g01043/laws.FnExactNewDesk", spec := "fnExactNewDesk", apart := false, narrowed := true }
def FnExactNewDeskUptoSaid : Prop := fnExactNewDeskUptoRow.holds Try.pinned (OpenSpec.upto fnExactNewDeskSpec)

/-- 'laws.FnExactSameDesk', WHERE WHAT IT READS IS OF BULK AT MOST 1048576: true; the input reads as it did. -/
def fnExactSameDeskUptoRow : OpenClaim := { program := "ytiplnpbeoaefaaa", sum := "e39ca99082e78a6299df12ed583c692aab5a989f113b9a5c87951e6d33c610a2", func := "loop.example/g01043/laws.FnExactSameDesk", spec := "fnExactSameDesk", apart := false, narrowed := true }
def FnExactSameDeskUptoSaid : Prop := fnExactSameDeskUptoRow.holds Try.pinned (OpenSpec.upto fnExactSameDeskSpec)

end Rows
end Go.Proofs.Ytiplnpbeoaefaaa
