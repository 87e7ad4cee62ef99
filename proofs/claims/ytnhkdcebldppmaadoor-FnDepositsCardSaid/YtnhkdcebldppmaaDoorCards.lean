/-
  DERIVED. GIVEN WITH THE SEED: THE CARDS: each row of YtnhkdcebldppmaaDoorRows.lean that lists a variable, with what it lists TIED to the program's text (the seventh form; the later family's looks); each row that meets fmt, with fmt's text TOLD by the authors' own Lean function (tested against real Go, not proved from fmt's source: count such statements apart). THE CARD IS WHAT COUNTS. Prove the row's statement (the work); the ties are given (YtnhkdcebldppmaaDoorTie.lean); close each card by the builder's one call (the guide's Derived/Test/ToyasCard.lean, 'card_holds'). Laid BY PROGRAM, IN A SANDBOX (cutbox-door.mjs). By AI agents, Wed Nov 11 2026. No macro, syntax, notation, axiom, sorry.
-/
import Derived.Test.YtnhkdcebldppmaaDoorRows
import GoSem.ClaimSeven
namespace Go.Proofs.YtnhkdcebldppmaaDoor
namespace Rows

/-- THE TIED CARD OF 'laws.FnDeposits'. -/
def fnDepositsCard : Claim7 := { stood := { row := fnDepositsRow, standIns := [], harness := (true, "671264e4f314c35151ffa3849ee4bac3d82be1de777764eced1a7ace2520f455"), looks := true }, kinds := [], alts := [], laidByText := true, laidKinds := [.data, .data, .data], laidTests := true, laidLooks := .later }
def FnDepositsCardSaid : Prop := Claim7.holds Tryd.pinned (.plain (OpenSpec.ofChange fnDepositsSpec)) fnDepositsCard

/-- THE TIED CARD OF 'laws.FnLogSums'. -/
def fnLogSumsCard : Claim7 := { stood := { row := fnLogSumsRow, standIns := [], harness := (true, "671264e4f314c35151ffa3849ee4bac3d82be1de777764eced1a7ace2520f455"), looks := true }, kinds := [], alts := [], laidByText := true, laidKinds := [.data, .data, .data, .data, .sentinel, .sentinel, .pinned], laidTests := true, laidLooks := .later }
def FnLogSumsCardSaid : Prop := Claim7.holds Tryd.pinned (.plain (OpenSpec.ofChange fnLogSumsSpec)) fnLogSumsCard

/-- THE TIED CARD OF 'laws.FnLogs'. -/
def fnLogsCard : Claim7 := { stood := { row := fnLogsRow, standIns := [], harness := (true, "671264e4f314c35151ffa3849ee4bac3d82be1de777764eced1a7ace2520f455"), looks := true }, kinds := [], alts := [], laidByText := true, laidKinds := [.data, .data, .data, .data, .sentinel, .sentinel, .pinned], laidTests := true, laidLooks := .later }
def FnLogsCardSaid : Prop := Claim7.holds Tryd.pinned (.plain (OpenSpec.ofChange fnLogsSpec)) fnLogsCard

/-- THE SECOND FORM's CARD OF 'laws.FnDeposits'. -/
def fnDepositsUptoCard : Claim7 := { stood := { row := fnDepositsUptoRow, standIns := [], harness := (true, "671264e4f314c35151ffa3849ee4bac3d82be1de777764eced1a7ace2520f455"), looks := true }, kinds := [], alts := [], laidByText := true, laidKinds := [.data, .data, .data], laidTests := true, laidLooks := .later }
def FnDepositsUptoCardSaid : Prop := Claim7.holds Tryd.pinned (.plain (OpenSpec.upto fnDepositsSpec)) fnDepositsUptoCard

/-- THE SECOND FORM's CARD OF 'laws.FnLogSums'. -/
def fnLogSumsUptoCard : Claim7 := { stood := { row := fnLogSumsUptoRow, standIns := [], harness := (true, "671264e4f314c35151ffa3849ee4bac3d82be1de777764eced1a7ace2520f455"), looks := true }, kinds := [], alts := [], laidByText := true, laidKinds := [.data, .data, .data, .data, .sentinel, .sentinel, .pinned], laidTests := true, laidLooks := .later }
def FnLogSumsUptoCardSaid : Prop := Claim7.holds Tryd.pinned (.plain (OpenSpec.upto fnLogSumsSpec)) fnLogSumsUptoCard

/-- THE SECOND FORM's CARD OF 'laws.FnLogs'. -/
def fnLogsUptoCard : Claim7 := { stood := { row := fnLogsUptoRow, standIns := [], harness := (true, "671264e4f314c35151ffa3849ee4bac3d82be1de777764eced1a7ace2520f455"), looks := true }, kinds := [], alts := [], laidByText := true, laidKinds := [.data, .data, .data, .data, .sentinel, .sentinel, .pinned], laidTests := true, laidLooks := .later }
def FnLogsUptoCardSaid : Prop := Claim7.holds Tryd.pinned (.plain (OpenSpec.upto fnLogsSpec)) fnLogsUptoCard
end Rows
end Go.Proofs.YtnhkdcebldppmaaDoor
