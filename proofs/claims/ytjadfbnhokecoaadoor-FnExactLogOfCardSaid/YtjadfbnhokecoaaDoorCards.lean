/-
  DERIVED. GIVEN WITH THE SEED: THE CARDS: each row of YtjadfbnhokecoaaDoorRows.lean that lists a variable, with what it lists TIED to the program's text (the seventh form; the later family's looks); each row that meets fmt, with fmt's text TOLD by the authors' own Lean function (tested against real Go, not proved from fmt's source: count such statements apart). THE CARD IS WHAT COUNTS. Prove the row's statement (the work); the ties are given (YtjadfbnhokecoaaDoorTie.lean); close each card by the builder's one call (the guide's Derived/Test/ToyasCard.lean, 'card_holds'). Laid BY PROGRAM, IN A SANDBOX (cutbox-door.mjs). By AI agents, Wed Nov 11 2026. No macro, syntax, notation, axiom, sorry.
-/
import Derived.Test.YtjadfbnhokecoaaDoorRows
import GoSem.ClaimSeven
namespace Go.Proofs.YtjadfbnhokecoaaDoor
namespace Rows

/-- THE TIED CARD OF 'laws.FnExactLogOf'. -/
def fnExactLogOfCard : Claim7 := { stood := { row := fnExactLogOfRow, standIns := [], harness := (true, "179e31a20b9d25626f671b9060e4ecad8b59fc68508b9c28fb9114dabf2907a5"), looks := false }, kinds := [], alts := [], laidByText := true, laidKinds := [.data, .data, .data], laidTests := true, laidLooks := .later }
def FnExactLogOfCardSaid : Prop := Claim7.holds Tryd.pinned (.plain (OpenSpec.ofChange fnExactLogOfSpec)) fnExactLogOfCard

/-- THE TIED CARD OF 'laws.FnExactBillLines'. -/
def fnExactBillLinesCard : Claim7 := { stood := { row := fnExactBillLinesRow, standIns := [], harness := (true, "179e31a20b9d25626f671b9060e4ecad8b59fc68508b9c28fb9114dabf2907a5"), looks := false }, kinds := [], alts := [], laidByText := true, laidKinds := [.data, .data, .data], laidTests := true, laidLooks := .later }
def FnExactBillLinesCardSaid : Prop := Claim7.holds Tryd.pinned (.plain (OpenSpec.ofChange fnExactBillLinesSpec)) fnExactBillLinesCard

/-- THE SECOND FORM's CARD OF 'laws.FnExactLogOf'. -/
def fnExactLogOfUptoCard : Claim7 := { stood := { row := fnExactLogOfUptoRow, standIns := [], harness := (true, "179e31a20b9d25626f671b9060e4ecad8b59fc68508b9c28fb9114dabf2907a5"), looks := false }, kinds := [], alts := [], laidByText := true, laidKinds := [.data, .data, .data], laidTests := true, laidLooks := .later }
def FnExactLogOfUptoCardSaid : Prop := Claim7.holds Tryd.pinned (.plain (OpenSpec.upto fnExactLogOfSpec)) fnExactLogOfUptoCard

/-- THE SECOND FORM's CARD OF 'laws.FnExactBillLines'. -/
def fnExactBillLinesUptoCard : Claim7 := { stood := { row := fnExactBillLinesUptoRow, standIns := [], harness := (true, "179e31a20b9d25626f671b9060e4ecad8b59fc68508b9c28fb9114dabf2907a5"), looks := false }, kinds := [], alts := [], laidByText := true, laidKinds := [.data, .data, .data], laidTests := true, laidLooks := .later }
def FnExactBillLinesUptoCardSaid : Prop := Claim7.holds Tryd.pinned (.plain (OpenSpec.upto fnExactBillLinesSpec)) fnExactBillLinesUptoCard
end Rows
end Go.Proofs.YtjadfbnhokecoaaDoor
