/-
  DERIVED. GIVEN WITH THE SEED: THE CARDS: each row of YtiplnpbeoaefaaaDoorRows.lean that lists a variable, with what it lists TIED to the program's text (the seventh form; the later family's looks); each row that meets fmt, with fmt's text TOLD by the authors' own Lean function (tested against real Go, not proved from fmt's source: count such statements apart). THE CARD IS WHAT COUNTS. Prove the row's statement (the work); the ties are given (YtiplnpbeoaefaaaDoorTie.lean); close each card by the builder's one call (the guide's Derived/Test/ToyasCard.lean, 'card_holds'). Laid BY PROGRAM, IN A SANDBOX (cutbox-door.mjs). By AI agents, Wed Nov 11 2026. No macro, syntax, notation, axiom, sorry.
-/
import Derived.Test.YtiplnpbeoaefaaaDoorRows
import GoSem.ClaimSeven
namespace Go.Proofs.YtiplnpbeoaefaaaDoor
namespace Rows

/-- THE TIED CARD OF 'laws.FnExactStageWord'. -/
def fnExactStageWordCard : Claim7 := { stood := { row := fnExactStageWordRow, standIns := [], harness := (true, "5f3edc8cc44314dceb665f65d5c3bd2df3f9410720aced8ccc4e6cc9c42867c6"), looks := false }, kinds := [], alts := [], laidByText := true, laidKinds := [.widerDeep], laidTests := true, laidLooks := .later }
def FnExactStageWordCardSaid : Prop := Claim7.holds Tryd.pinned (.plain (OpenSpec.ofChange fnExactStageWordSpec)) fnExactStageWordCard

/-- THE TIED CARD OF 'laws.FnExactMoneyText'. -/
def fnExactMoneyTextCard : Claim7 := { stood := { row := fnExactMoneyTextRow, standIns := [], harness := (true, "5f3edc8cc44314dceb665f65d5c3bd2df3f9410720aced8ccc4e6cc9c42867c6"), looks := false }, kinds := [], alts := [], laidByText := true, laidKinds := [.data, .data, .data], laidTests := true, laidLooks := .later }
def FnExactMoneyTextCardSaid : Prop := Claim7.holds Tryd.pinned (.plain (OpenSpec.ofChange fnExactMoneyTextSpec)) fnExactMoneyTextCard

/-- THE TIED CARD OF 'laws.FnExactStampOf'. -/
def fnExactStampOfCard : Claim7 := { stood := { row := fnExactStampOfRow, standIns := [], harness := (true, "5f3edc8cc44314dceb665f65d5c3bd2df3f9410720aced8ccc4e6cc9c42867c6"), looks := false }, kinds := [], alts := [], laidByText := true, laidKinds := [.data, .data, .data], laidTests := true, laidLooks := .later }
def FnExactStampOfCardSaid : Prop := Claim7.holds Tryd.pinned (.plain (OpenSpec.ofChange fnExactStampOfSpec)) fnExactStampOfCard

/-- THE SECOND FORM's CARD OF 'laws.FnExactStageWord'. -/
def fnExactStageWordUptoCard : Claim7 := { stood := { row := fnExactStageWordUptoRow, standIns := [], harness := (true, "5f3edc8cc44314dceb665f65d5c3bd2df3f9410720aced8ccc4e6cc9c42867c6"), looks := false }, kinds := [], alts := [], laidByText := true, laidKinds := [.widerDeep], laidTests := true, laidLooks := .later }
def FnExactStageWordUptoCardSaid : Prop := Claim7.holds Tryd.pinned (.plain (OpenSpec.upto fnExactStageWordSpec)) fnExactStageWordUptoCard

/-- THE SECOND FORM's CARD OF 'laws.FnExactMoneyText'. -/
def fnExactMoneyTextUptoCard : Claim7 := { stood := { row := fnExactMoneyTextUptoRow, standIns := [], harness := (true, "5f3edc8cc44314dceb665f65d5c3bd2df3f9410720aced8ccc4e6cc9c42867c6"), looks := false }, kinds := [], alts := [], laidByText := true, laidKinds := [.data, .data, .data], laidTests := true, laidLooks := .later }
def FnExactMoneyTextUptoCardSaid : Prop := Claim7.holds Tryd.pinned (.plain (OpenSpec.upto fnExactMoneyTextSpec)) fnExactMoneyTextUptoCard

/-- THE SECOND FORM's CARD OF 'laws.FnExactStampOf'. -/
def fnExactStampOfUptoCard : Claim7 := { stood := { row := fnExactStampOfUptoRow, standIns := [], harness := (true, "5f3edc8cc44314dceb665f65d5c3bd2df3f9410720aced8ccc4e6cc9c42867c6"), looks := false }, kinds := [], alts := [], laidByText := true, laidKinds := [.data, .data, .data], laidTests := true, laidLooks := .later }
def FnExactStampOfUptoCardSaid : Prop := Claim7.holds Tryd.pinned (.plain (OpenSpec.upto fnExactStampOfSpec)) fnExactStampOfUptoCard
end Rows
end Go.Proofs.YtiplnpbeoaefaaaDoor
