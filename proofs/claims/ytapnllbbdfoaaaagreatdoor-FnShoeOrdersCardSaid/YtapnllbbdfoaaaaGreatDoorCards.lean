/-
  DERIVED. GIVEN WITH THE SEED: THE CARDS: each row of YtapnllbbdfoaaaaGreatDoorRows.lean that lists a variable, with what it lists TIED to the program's text (the seventh form; the later family's looks); each row that meets fmt, with fmt's text TOLD by the authors' own Lean function (tested against real Go, not proved from fmt's source: count such statements apart). THE CARD IS WHAT COUNTS. Prove the row's statement (the work); the ties are given (YtapnllbbdfoaaaaGreatDoorTie.lean); close each card by the builder's one call (the guide's Derived/Test/ToyasCard.lean, 'card_holds'). Laid BY PROGRAM, IN A SANDBOX (cutbox-door.mjs). By AI agents, Wed Nov 11 2026. No macro, syntax, notation, axiom, sorry.
-/
import Derived.Test.YtapnllbbdfoaaaaGreatDoorRows
import GoSem.ClaimSeven
namespace Go.Proofs.YtapnllbbdfoaaaaGreatDoor
namespace Rows

/-- THE TIED CARD OF 'laws.FnShoeOrders'. -/
def fnShoeOrdersCard : Claim7 := { stood := { row := fnShoeOrdersRow, standIns := [], harness := (true, "47cb774dfe877e0c7931a064f1e409a09184ad984198ee11886809d58bfd7fe8"), looks := true }, kinds := [], alts := [], laidByText := true, laidKinds := [.data, .data, .data, .data, .sentinel, .sentinel, .widerDeep, .pinned], laidTests := true, laidLooks := .later }
def FnShoeOrdersCardSaid : Prop := Claim7.holds Tryz.pinned (.plain (OpenSpec.ofChange fnShoeOrdersSpec)) fnShoeOrdersCard

/-- THE SECOND FORM's CARD OF 'laws.FnShoeOrders'. -/
def fnShoeOrdersUptoCard : Claim7 := { stood := { row := fnShoeOrdersUptoRow, standIns := [], harness := (true, "47cb774dfe877e0c7931a064f1e409a09184ad984198ee11886809d58bfd7fe8"), looks := true }, kinds := [], alts := [], laidByText := true, laidKinds := [.data, .data, .data, .data, .sentinel, .sentinel, .widerDeep, .pinned], laidTests := true, laidLooks := .later }
def FnShoeOrdersUptoCardSaid : Prop := Claim7.holds Tryz.pinned (.plain (OpenSpec.upto fnShoeOrdersSpec)) fnShoeOrdersUptoCard
end Rows
end Go.Proofs.YtapnllbbdfoaaaaGreatDoor
