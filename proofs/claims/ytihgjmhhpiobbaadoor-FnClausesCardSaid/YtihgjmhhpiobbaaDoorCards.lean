/-
  DERIVED. GIVEN WITH THE SEED: THE CARDS: each row of YtihgjmhhpiobbaaDoorRows.lean that lists a variable, with what it lists TIED to the program's text (the seventh form; the later family's looks); each row that meets fmt, with fmt's text TOLD by the authors' own Lean function (tested against real Go, not proved from fmt's source: count such statements apart). THE CARD IS WHAT COUNTS. Prove the row's statement (the work); the ties are given (YtihgjmhhpiobbaaDoorTie.lean); close each card by the builder's one call (the guide's Derived/Test/ToyasCard.lean, 'card_holds'). Laid BY PROGRAM, IN A SANDBOX (cutbox-door.mjs). By AI agents, Wed Nov 11 2026. No macro, syntax, notation, axiom, sorry.
-/
import Derived.Test.YtihgjmhhpiobbaaDoorRows
import GoSem.ClaimSeven
namespace Go.Proofs.YtihgjmhhpiobbaaDoor
namespace Rows

/-- THE TIED CARD OF 'laws.FnExactChangeStyle'. -/
def fnExactChangeStyleCard : Claim7 := { stood := { row := fnExactChangeStyleRow, standIns := [], harness := (true, "dc0cdaa6fd5b5879e95c2b271b32aabbc616e6cf6c9d79be81a592c213715d98"), looks := true }, kinds := [], alts := [], laidByText := true, laidKinds := [.data, .data, .data, .data, .sentinel, .sentinel, .pinned], laidTests := true, laidLooks := .later }
def FnExactChangeStyleCardSaid : Prop := Claim7.holds Tryd.pinned (.plain (OpenSpec.ofChange fnExactChangeStyleSpec)) fnExactChangeStyleCard

/-- THE TIED CARD OF 'laws.FnClauses'. -/
def fnClausesCard : Claim7 := { stood := { row := fnClausesRow, standIns := [], harness := (true, "dc0cdaa6fd5b5879e95c2b271b32aabbc616e6cf6c9d79be81a592c213715d98"), looks := true }, kinds := [], alts := [], laidByText := true, laidKinds := [.data, .data, .data, .data, .sentinel, .sentinel, .pinned], laidTests := true, laidLooks := .later }
def FnClausesCardSaid : Prop := Claim7.holds Tryd.pinned (.plain (OpenSpec.ofChange fnClausesSpec)) fnClausesCard

/-- THE SECOND FORM's CARD OF 'laws.FnExactChangeStyle'. -/
def fnExactChangeStyleUptoCard : Claim7 := { stood := { row := fnExactChangeStyleUptoRow, standIns := [], harness := (true, "dc0cdaa6fd5b5879e95c2b271b32aabbc616e6cf6c9d79be81a592c213715d98"), looks := true }, kinds := [], alts := [], laidByText := true, laidKinds := [.data, .data, .data, .data, .sentinel, .sentinel, .pinned], laidTests := true, laidLooks := .later }
def FnExactChangeStyleUptoCardSaid : Prop := Claim7.holds Tryd.pinned (.plain (OpenSpec.upto fnExactChangeStyleSpec)) fnExactChangeStyleUptoCard

/-- THE SECOND FORM's CARD OF 'laws.FnClauses'. -/
def fnClausesUptoCard : Claim7 := { stood := { row := fnClausesUptoRow, standIns := [], harness := (true, "dc0cdaa6fd5b5879e95c2b271b32aabbc616e6cf6c9d79be81a592c213715d98"), looks := true }, kinds := [], alts := [], laidByText := true, laidKinds := [.data, .data, .data, .data, .sentinel, .sentinel, .pinned], laidTests := true, laidLooks := .later }
def FnClausesUptoCardSaid : Prop := Claim7.holds Tryd.pinned (.plain (OpenSpec.upto fnClausesSpec)) fnClausesUptoCard
end Rows
end Go.Proofs.YtihgjmhhpiobbaaDoor
