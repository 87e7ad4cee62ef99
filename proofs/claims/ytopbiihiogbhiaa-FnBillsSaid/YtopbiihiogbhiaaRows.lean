/-
  No cell of these rows narrows 'for every input' (looked for: loops, veiled, ifaces, maps, wideKeys, modest, calm, conditions, laid).
  DERIVED. THE GIVEN ROWS OF THIS SEAT. 2 by the template 'for every input the law returns true; each argument reads behind the call as it read before'; 0 by the template 'total and deterministic' (their statements: YtopbiihiogbhiaaTotals.lean).
  GIVEN WITH THE SEED: the statements are not yours to turn. If you find one false, say at which input.
  Laid BY PROGRAM, IN A SANDBOX (cutbox-rows.mjs): the forced cells as the released guide's own fill.sh prints them over the translation ceb987f7434d4979… (all of the seat's roots in one cut). By AI agents, Wed Nov 11 2026. No macro, syntax, notation, axiom, sorry.
-/
import Derived.Test.YtopbiihiogbhiaaChecked
import GoSem.Claim
import GoSem.ClaimJoined
import GoSem.ClaimMapViews
import Derived.JoinedTies
import Derived.KernelRfl
namespace Go.Proofs.Ytopbiihiogbhiaa
/- THE CELL 'sum', in the pinned program and in every row, IS THE sha256 OF THE DUMP (.gsa) THAT YtopbiihiogbhiaaProg.lean LOADS. Nothing in Lean hashes anything: it is a label: what it is worth is what the hold of that sum in a sandbox is worth. -/
noncomputable def Try.pinned : Pinned := { name := "ytopbiihiogbhiaa", sum := "ceb987f7434d497942205761a3435a7ab5af8e413411ae095417f19640177acd", checked := Try.checked }
namespace Rows
def none {H : Type} : Left H := { results := [], args := [] }

/-- 'laws.FnSoles': WHATEVER THE INPUT: true; the input reads as it did. -/
def fnSolesSpec : ChangeSpec := { name := "fnSoles", fn := fun _ => fun
  | [d] => { results := [.lit (.bool true)], args := [d] }
  | _ => none }
def fnSolesRow : OpenClaim := { program := "ytopbiihiogbhiaa", sum := "ceb987f7434d497942205761a3435a7ab5af8e413411ae095417f19640177acd", func := "loop.example/g01043/laws.FnSoles", spec := "fnSoles", inPlace := ["internal/abi.NoEscape", "internal/bytealg.MakeNoZero"], unfollowed := true, recurses := true, apart := false }
def FnSolesSaid : Prop := fnSolesRow.holds Try.pinned (OpenSpec.ofChange fnSolesSpec)

/-- ITS FALSE NEIGHBOUR: 'it returns false'. Refute it at one input. -/
def fnSolesWrong : ChangeSpec := { name := "fnSoles", fn := fun _ => fun
  | [d] => { results := [.lit (.bool false)], args := [d] }
  | _ => none }
def FnSolesWrongFalsely : Prop := fnSolesRow.holds Try.pinned (OpenSpec.ofChange fnSolesWrong)

/-- 'laws.FnBills': WHATEVER THE INPUT: true; the input reads as it did. -/
def fnBillsSpec : ChangeSpec := { name := "fnBills", fn := fun _ => fun
  | [d] => { results := [.lit (.bool true)], args := [d] }
  | _ => none }
def fnBillsRow : OpenClaim := { program := "ytopbiihiogbhiaa", sum := "ceb987f7434d497942205761a3435a7ab5af8e413411ae095417f19640177acd", func := "loop.example/g01043/laws.FnBills", spec := "fnBills", unfollowed := true, recurses := true, named := ["math/bits.divideError", "math/bits.overflowError"], apart := false }
def FnBillsSaid : Prop := fnBillsRow.holds Try.pinned (OpenSpec.ofChange fnBillsSpec)

/-- ITS FALSE NEIGHBOUR: 'it returns false'. Refute it at one input. -/
def fnBillsWrong : ChangeSpec := { name := "fnBills", fn := fun _ => fun
  | [d] => { results := [.lit (.bool false)], args := [d] }
  | _ => none }
def FnBillsWrongFalsely : Prop := fnBillsRow.holds Try.pinned (OpenSpec.ofChange fnBillsWrong)

/- THE SECOND FORM. 'bulk': how many values and letters a reading holds, each counted each time it is reached (what is shared counts as often as it is met; a slice's spare places count too). A statement '..UptoSaid' is the law's where the arguments, and the package variables that the reading takes, are together of bulk at most 1048576: NARROWER than '..Said'. Prove '..Said' where nothing that the law and all that it calls make is longer than what came in: it says more and counts as full. Else prove '..UptoSaid'. A law counts once. -/
mutual
def uptoBulk {H : Type} : DataW H → Nat
  | .lit (.string bytes) => bytes.length + 1
  | .lit _ => 1
  | .nil => 1
  | .ptr d => uptoBulk d + 1
  | .slice elems spare => uptoBulkAll elems + uptoBulkAll spare + 1
  | .agg parts => uptoBulkAll parts + 1
  | .iface _ d => uptoBulk d + 1
  | .map entries => uptoBulkEntries entries + 1
  | .held _ => 1
def uptoBulkAll {H : Type} : List (DataW H) → Nat
  | [] => 0
  | d :: r => uptoBulk d + uptoBulkAll r
def uptoBulkEntries {H : Type} : List (Lit × DataW H) → Nat
  | [] => 0
  | x :: r => uptoBulkEntry x + uptoBulkEntries r
def uptoBulkEntry {H : Type} : Lit × DataW H → Nat
  | (.string bytes, d) => bytes.length + uptoBulk d + 1
  | (_, d) => uptoBulk d + 1
 end
def uptoSmall : (H : Type) → List (DataW H) → Bool := fun _ ds => decide (uptoBulkAll ds ≤ 1048576)
def OpenSpec.upto (s : _root_.Go.ChangeSpec) : _root_.Go.OpenSpec := { _root_.Go.OpenSpec.ofChange s with cond := some uptoSmall }

/-- 'laws.FnSoles', WHERE WHAT IT READS IS OF BULK AT MOST 1048576: true; the input reads as it did. -/
def fnSolesUptoRow : OpenClaim := { program := "ytopbiihiogbhiaa", sum := "ceb987f7434d497942205761a3435a7ab5af8e413411ae095417f19640177acd", func := "loop.example/g01043/laws.FnSoles", spec := "fnSoles", inPlace := ["internal/abi.NoEscape", "internal/bytealg.MakeNoZero"], unfollowed := true, recurses := true, apart := false, narrowed := true }
def FnSolesUptoSaid : Prop := fnSolesUptoRow.holds Try.pinned (OpenSpec.upto fnSolesSpec)

/-- 'laws.FnBills', WHERE WHAT IT READS IS OF BULK AT MOST 1048576: true; the input reads as it did. -/
def fnBillsUptoRow : OpenClaim := { program := "ytopbiihiogbhiaa", sum := "ceb987f7434d497942205761a3435a7ab5af8e413411ae095417f19640177acd", func := "loop.example/g01043/laws.FnBills", spec := "fnBills", unfollowed := true, recurses := true, named := ["math/bits.divideError", "math/bits.overflowError"], apart := false, narrowed := true }
def FnBillsUptoSaid : Prop := fnBillsUptoRow.holds Try.pinned (OpenSpec.upto fnBillsSpec)

end Rows
end Go.Proofs.Ytopbiihiogbhiaa
