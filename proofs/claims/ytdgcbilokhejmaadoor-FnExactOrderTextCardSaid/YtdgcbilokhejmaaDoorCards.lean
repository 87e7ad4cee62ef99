/-
  DERIVED. GIVEN WITH THE SEED: THE CARDS: each row of YtdgcbilokhejmaaDoorRows.lean that lists a variable, with what it lists TIED to the program's text (the seventh form; the later family's looks); each row that meets fmt, with fmt's text TOLD by the authors' own Lean function (tested against real Go, not proved from fmt's source: count such statements apart). THE CARD IS WHAT COUNTS. Prove the row's statement (the work); the ties are given (YtdgcbilokhejmaaDoorTie.lean); close each card by the builder's one call (the guide's Derived/Test/ToyasCard.lean, 'card_holds'). Laid BY PROGRAM, IN A SANDBOX (cutbox-door.mjs). By AI agents, Wed Nov 11 2026. No macro, syntax, notation, axiom, sorry.
-/
import Derived.Test.YtdgcbilokhejmaaDoorRows
import GoSem.ClaimSeven
namespace Go.Proofs.YtdgcbilokhejmaaDoor
namespace Rows

/-- THE TIED CARD OF 'laws.FnExactOrderText'. -/
def fnExactOrderTextCard : Claim7 := { stood := { row := fnExactOrderTextRow, standIns := [], harness := (true, "4c2952fb51e9702256b08e4f724166d19c19132e403f05aad802966903f86eea"), looks := false }, kinds := [], alts := [], laidByText := true, laidKinds := [.data, .data, .data, .widerDeep], laidTests := true, laidLooks := .later }
def FnExactOrderTextCardSaid : Prop := Claim7.holds Tryd.pinned (.plain (OpenSpec.ofChange fnExactOrderTextSpec)) fnExactOrderTextCard

/-- THE TIED CARD OF 'laws.FnExactLogOf'. -/
def fnExactLogOfCard : Claim7 := { stood := { row := fnExactLogOfRow, standIns := [], harness := (true, "4c2952fb51e9702256b08e4f724166d19c19132e403f05aad802966903f86eea"), looks := false }, kinds := [], alts := [], laidByText := true, laidKinds := [.data, .data, .data], laidTests := true, laidLooks := .later }
def FnExactLogOfCardSaid : Prop := Claim7.holds Tryd.pinned (.plain (OpenSpec.ofChange fnExactLogOfSpec)) fnExactLogOfCard

/-- THE TIED CARD OF 'laws.FnExactBillLines'. -/
def fnExactBillLinesCard : Claim7 := { stood := { row := fnExactBillLinesRow, standIns := [], harness := (true, "4c2952fb51e9702256b08e4f724166d19c19132e403f05aad802966903f86eea"), looks := false }, kinds := [], alts := [], laidByText := true, laidKinds := [.data, .data, .data], laidTests := true, laidLooks := .later }
def FnExactBillLinesCardSaid : Prop := Claim7.holds Tryd.pinned (.plain (OpenSpec.ofChange fnExactBillLinesSpec)) fnExactBillLinesCard

/-- THE SECOND FORM's CARD OF 'laws.FnExactOrderText'. -/
def fnExactOrderTextUptoCard : Claim7 := { stood := { row := fnExactOrderTextUptoRow, standIns := [], harness := (true, "4c2952fb51e9702256b08e4f724166d19c19132e403f05aad802966903f86eea"), looks := false }, kinds := [], alts := [], laidByText := true, laidKinds := [.data, .data, .data, .widerDeep], laidTests := true, laidLooks := .later }
def FnExactOrderTextUptoCardSaid : Prop := Claim7.holds Tryd.pinned (.plain (OpenSpec.upto fnExactOrderTextSpec)) fnExactOrderTextUptoCard

/-- THE SECOND FORM's CARD OF 'laws.FnExactLogOf'. -/
def fnExactLogOfUptoCard : Claim7 := { stood := { row := fnExactLogOfUptoRow, standIns := [], harness := (true, "4c2952fb51e9702256b08e4f724166d19c19132e403f05aad802966903f86eea"), looks := false }, kinds := [], alts := [], laidByText := true, laidKinds := [.data, .data, .data], laidTests := true, laidLooks := .later }
def FnExactLogOfUptoCardSaid : Prop := Claim7.holds Tryd.pinned (.plain (OpenSpec.upto fnExactLogOfSpec)) fnExactLogOfUptoCard

/-- THE SECOND FORM's CARD OF 'laws.FnExactBillLines'. -/
def fnExactBillLinesUptoCard : Claim7 := { stood := { row := fnExactBillLinesUptoRow, standIns := [], harness := (true, "4c2952fb51e9702256b08e4f724166d19c19132e403f05aad802966903f86eea"), looks := false }, kinds := [], alts := [], laidByText := true, laidKinds := [.data, .data, .data], laidTests := true, laidLooks := .later }
def FnExactBillLinesUptoCardSaid : Prop := Claim7.holds Tryd.pinned (.plain (OpenSpec.upto fnExactBillLinesSpec)) fnExactBillLinesUptoCard
end Rows
end Go.Proofs.YtdgcbilokhejmaaDoor
