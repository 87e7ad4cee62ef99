/-
  DERIVED. GIVEN WITH THE SEED: THE CARDS: each row of YtbfelgfnebeliaaDoorRows.lean that lists a variable, with what it lists TIED to the program's text (the seventh form; the later family's looks); each row that meets fmt, with fmt's text TOLD by the authors' own Lean function (tested against real Go, not proved from fmt's source: count such statements apart). THE CARD IS WHAT COUNTS. Prove the row's statement (the work); the ties are given (YtbfelgfnebeliaaDoorTie.lean); close each card by the builder's one call (the guide's Derived/Test/ToyasCard.lean, 'card_holds'). Laid BY PROGRAM, IN A SANDBOX (cutbox-door.mjs). By AI agents, Wed Nov 11 2026. No macro, syntax, notation, axiom, sorry.
-/
import Derived.Test.YtbfelgfnebeliaaDoorRows
import GoSem.ClaimSeven
namespace Go.Proofs.YtbfelgfnebeliaaDoor
namespace Rows

/-- THE TIED CARD OF 'laws.FnExactReadOrder'. -/
def fnExactReadOrderCard : Claim7 := { stood := { row := fnExactReadOrderRow, standIns := [], harness := (true, "7edc25e07b451d1367068c72e1fb3bf667f975663c384440c2624688846ade38"), looks := true }, kinds := [], alts := [], laidByText := true, laidKinds := [.data, .data, .data, .data, .sentinel, .sentinel, .widerDeep, .pinned], laidTests := true, laidLooks := .later }
def FnExactReadOrderCardSaid : Prop := Claim7.holds Tryd.pinned (.plain (OpenSpec.ofChange fnExactReadOrderSpec)) fnExactReadOrderCard

/-- THE TIED CARD OF 'laws.FnExactCheckLog'. -/
def fnExactCheckLogCard : Claim7 := { stood := { row := fnExactCheckLogRow, standIns := [], harness := (true, "7edc25e07b451d1367068c72e1fb3bf667f975663c384440c2624688846ade38"), looks := true }, kinds := [], alts := [], laidByText := true, laidKinds := [.data, .data, .data, .data, .sentinel, .sentinel, .pinned], laidTests := true, laidLooks := .later }
def FnExactCheckLogCardSaid : Prop := Claim7.holds Tryd.pinned (.plain (OpenSpec.ofChange fnExactCheckLogSpec)) fnExactCheckLogCard

/-- THE TIED CARD OF 'laws.FnExactRecoverLog'. -/
def fnExactRecoverLogCard : Claim7 := { stood := { row := fnExactRecoverLogRow, standIns := [], harness := (true, "7edc25e07b451d1367068c72e1fb3bf667f975663c384440c2624688846ade38"), looks := true }, kinds := [], alts := [], laidByText := true, laidKinds := [.data, .data, .data, .data, .sentinel, .sentinel, .pinned], laidTests := true, laidLooks := .later }
def FnExactRecoverLogCardSaid : Prop := Claim7.holds Tryd.pinned (.plain (OpenSpec.ofChange fnExactRecoverLogSpec)) fnExactRecoverLogCard

/-- THE TIED CARD OF 'laws.FnExactSumOfWhat'. -/
def fnExactSumOfWhatCard : Claim7 := { stood := { row := fnExactSumOfWhatRow, standIns := [], harness := (true, "7edc25e07b451d1367068c72e1fb3bf667f975663c384440c2624688846ade38"), looks := true }, kinds := [], alts := [], laidByText := true, laidKinds := [.data, .data, .data, .data, .sentinel, .sentinel, .pinned], laidTests := true, laidLooks := .later }
def FnExactSumOfWhatCardSaid : Prop := Claim7.holds Tryd.pinned (.plain (OpenSpec.ofChange fnExactSumOfWhatSpec)) fnExactSumOfWhatCard

/-- THE TIED CARD OF 'laws.FnExactAddEntry'. -/
def fnExactAddEntryCard : Claim7 := { stood := { row := fnExactAddEntryRow, standIns := [], harness := (true, "7edc25e07b451d1367068c72e1fb3bf667f975663c384440c2624688846ade38"), looks := true }, kinds := [], alts := [], laidByText := true, laidKinds := [.data, .data, .data, .data, .sentinel, .sentinel, .pinned], laidTests := true, laidLooks := .later }
def FnExactAddEntryCardSaid : Prop := Claim7.holds Tryd.pinned (.plain (OpenSpec.ofChange fnExactAddEntrySpec)) fnExactAddEntryCard

/-- THE TIED CARD OF 'laws.FnExactValuesOf'. -/
def fnExactValuesOfCard : Claim7 := { stood := { row := fnExactValuesOfRow, standIns := [], harness := (true, "7edc25e07b451d1367068c72e1fb3bf667f975663c384440c2624688846ade38"), looks := true }, kinds := [], alts := [], laidByText := true, laidKinds := [.data, .data, .data, .data, .sentinel, .sentinel, .pinned], laidTests := true, laidLooks := .later }
def FnExactValuesOfCardSaid : Prop := Claim7.holds Tryd.pinned (.plain (OpenSpec.ofChange fnExactValuesOfSpec)) fnExactValuesOfCard

/-- THE TIED CARD OF 'laws.FnExactEntriesOf'. -/
def fnExactEntriesOfCard : Claim7 := { stood := { row := fnExactEntriesOfRow, standIns := [], harness := (true, "7edc25e07b451d1367068c72e1fb3bf667f975663c384440c2624688846ade38"), looks := true }, kinds := [], alts := [], laidByText := true, laidKinds := [.data, .data, .data, .data, .sentinel, .sentinel, .pinned], laidTests := true, laidLooks := .later }
def FnExactEntriesOfCardSaid : Prop := Claim7.holds Tryd.pinned (.plain (OpenSpec.ofChange fnExactEntriesOfSpec)) fnExactEntriesOfCard

/-- THE TIED CARD OF 'laws.FnExactNamesIn'. -/
def fnExactNamesInCard : Claim7 := { stood := { row := fnExactNamesInRow, standIns := [], harness := (true, "7edc25e07b451d1367068c72e1fb3bf667f975663c384440c2624688846ade38"), looks := true }, kinds := [], alts := [], laidByText := true, laidKinds := [.data, .data, .data, .data, .sentinel, .sentinel, .pinned], laidTests := true, laidLooks := .later }
def FnExactNamesInCardSaid : Prop := Claim7.holds Tryd.pinned (.plain (OpenSpec.ofChange fnExactNamesInSpec)) fnExactNamesInCard

/-- THE SECOND FORM's CARD OF 'laws.FnExactReadOrder'. -/
def fnExactReadOrderUptoCard : Claim7 := { stood := { row := fnExactReadOrderUptoRow, standIns := [], harness := (true, "7edc25e07b451d1367068c72e1fb3bf667f975663c384440c2624688846ade38"), looks := true }, kinds := [], alts := [], laidByText := true, laidKinds := [.data, .data, .data, .data, .sentinel, .sentinel, .widerDeep, .pinned], laidTests := true, laidLooks := .later }
def FnExactReadOrderUptoCardSaid : Prop := Claim7.holds Tryd.pinned (.plain (OpenSpec.upto fnExactReadOrderSpec)) fnExactReadOrderUptoCard

/-- THE SECOND FORM's CARD OF 'laws.FnExactCheckLog'. -/
def fnExactCheckLogUptoCard : Claim7 := { stood := { row := fnExactCheckLogUptoRow, standIns := [], harness := (true, "7edc25e07b451d1367068c72e1fb3bf667f975663c384440c2624688846ade38"), looks := true }, kinds := [], alts := [], laidByText := true, laidKinds := [.data, .data, .data, .data, .sentinel, .sentinel, .pinned], laidTests := true, laidLooks := .later }
def FnExactCheckLogUptoCardSaid : Prop := Claim7.holds Tryd.pinned (.plain (OpenSpec.upto fnExactCheckLogSpec)) fnExactCheckLogUptoCard

/-- THE SECOND FORM's CARD OF 'laws.FnExactRecoverLog'. -/
def fnExactRecoverLogUptoCard : Claim7 := { stood := { row := fnExactRecoverLogUptoRow, standIns := [], harness := (true, "7edc25e07b451d1367068c72e1fb3bf667f975663c384440c2624688846ade38"), looks := true }, kinds := [], alts := [], laidByText := true, laidKinds := [.data, .data, .data, .data, .sentinel, .sentinel, .pinned], laidTests := true, laidLooks := .later }
def FnExactRecoverLogUptoCardSaid : Prop := Claim7.holds Tryd.pinned (.plain (OpenSpec.upto fnExactRecoverLogSpec)) fnExactRecoverLogUptoCard

/-- THE SECOND FORM's CARD OF 'laws.FnExactSumOfWhat'. -/
def fnExactSumOfWhatUptoCard : Claim7 := { stood := { row := fnExactSumOfWhatUptoRow, standIns := [], harness := (true, "7edc25e07b451d1367068c72e1fb3bf667f975663c384440c2624688846ade38"), looks := true }, kinds := [], alts := [], laidByText := true, laidKinds := [.data, .data, .data, .data, .sentinel, .sentinel, .pinned], laidTests := true, laidLooks := .later }
def FnExactSumOfWhatUptoCardSaid : Prop := Claim7.holds Tryd.pinned (.plain (OpenSpec.upto fnExactSumOfWhatSpec)) fnExactSumOfWhatUptoCard

/-- THE SECOND FORM's CARD OF 'laws.FnExactAddEntry'. -/
def fnExactAddEntryUptoCard : Claim7 := { stood := { row := fnExactAddEntryUptoRow, standIns := [], harness := (true, "7edc25e07b451d1367068c72e1fb3bf667f975663c384440c2624688846ade38"), looks := true }, kinds := [], alts := [], laidByText := true, laidKinds := [.data, .data, .data, .data, .sentinel, .sentinel, .pinned], laidTests := true, laidLooks := .later }
def FnExactAddEntryUptoCardSaid : Prop := Claim7.holds Tryd.pinned (.plain (OpenSpec.upto fnExactAddEntrySpec)) fnExactAddEntryUptoCard

/-- THE SECOND FORM's CARD OF 'laws.FnExactValuesOf'. -/
def fnExactValuesOfUptoCard : Claim7 := { stood := { row := fnExactValuesOfUptoRow, standIns := [], harness := (true, "7edc25e07b451d1367068c72e1fb3bf667f975663c384440c2624688846ade38"), looks := true }, kinds := [], alts := [], laidByText := true, laidKinds := [.data, .data, .data, .data, .sentinel, .sentinel, .pinned], laidTests := true, laidLooks := .later }
def FnExactValuesOfUptoCardSaid : Prop := Claim7.holds Tryd.pinned (.plain (OpenSpec.upto fnExactValuesOfSpec)) fnExactValuesOfUptoCard

/-- THE SECOND FORM's CARD OF 'laws.FnExactEntriesOf'. -/
def fnExactEntriesOfUptoCard : Claim7 := { stood := { row := fnExactEntriesOfUptoRow, standIns := [], harness := (true, "7edc25e07b451d1367068c72e1fb3bf667f975663c384440c2624688846ade38"), looks := true }, kinds := [], alts := [], laidByText := true, laidKinds := [.data, .data, .data, .data, .sentinel, .sentinel, .pinned], laidTests := true, laidLooks := .later }
def FnExactEntriesOfUptoCardSaid : Prop := Claim7.holds Tryd.pinned (.plain (OpenSpec.upto fnExactEntriesOfSpec)) fnExactEntriesOfUptoCard

/-- THE SECOND FORM's CARD OF 'laws.FnExactNamesIn'. -/
def fnExactNamesInUptoCard : Claim7 := { stood := { row := fnExactNamesInUptoRow, standIns := [], harness := (true, "7edc25e07b451d1367068c72e1fb3bf667f975663c384440c2624688846ade38"), looks := true }, kinds := [], alts := [], laidByText := true, laidKinds := [.data, .data, .data, .data, .sentinel, .sentinel, .pinned], laidTests := true, laidLooks := .later }
def FnExactNamesInUptoCardSaid : Prop := Claim7.holds Tryd.pinned (.plain (OpenSpec.upto fnExactNamesInSpec)) fnExactNamesInUptoCard
end Rows
end Go.Proofs.YtbfelgfnebeliaaDoor
