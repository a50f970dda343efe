/-
  DERIVED. GIVEN WITH THE SEED: THE CARDS: each row of YtpcllejjdmmjcaaGreatDoorRows.lean that lists a variable, with what it lists TIED to the program's text (the seventh form; the later family's looks); each row that meets fmt, with fmt's text TOLD by the authors' own Lean function (tested against real Go, not proved from fmt's source: count such statements apart). THE CARD IS WHAT COUNTS. Prove the row's statement (the work); the ties are given (YtpcllejjdmmjcaaGreatDoorTie.lean); close each card by the builder's one call (the guide's Derived/Test/ToyasCard.lean, 'card_holds'). Laid BY PROGRAM, IN A SANDBOX (cutbox-door.mjs). By AI agents, Wed Nov 11 2026. No macro, syntax, notation, axiom, sorry.
-/
import Derived.Test.YtpcllejjdmmjcaaGreatDoorRows
import GoSem.ClaimSeven
namespace Go.Proofs.YtpcllejjdmmjcaaGreatDoor
namespace Rows

/-- THE TIED CARD OF 'laws.FnTried'. -/
def fnTriedCard : Claim7 := { stood := { row := fnTriedRow, standIns := [], harness := (true, "933041b7a138b4b8385d4c8b62717555527b224f332a52fd1e388c0e673042bb"), looks := false }, kinds := [], alts := [], laidByText := true, laidKinds := [.data, .data], laidTests := true, laidLooks := .later }
def FnTriedCardSaid : Prop := Claim7.holds Tryz.pinned (.plain (OpenSpec.ofChange fnTriedSpec)) fnTriedCard

/-- THE TIED CARD OF 'laws.FnExactDo'. -/
def fnExactDoCard : Claim7 := { stood := { row := fnExactDoRow, standIns := [], harness := (true, "933041b7a138b4b8385d4c8b62717555527b224f332a52fd1e388c0e673042bb"), looks := false }, kinds := [], alts := [], laidByText := true, laidKinds := [.data, .data], laidTests := true, laidLooks := .later }
def FnExactDoCardSaid : Prop := Claim7.holds Tryz.pinned (.plain (OpenSpec.ofChange fnExactDoSpec)) fnExactDoCard

/-- THE TIED CARD OF 'laws.FnExactCut'. -/
def fnExactCutCard : Claim7 := { stood := { row := fnExactCutRow, standIns := [], harness := (true, "933041b7a138b4b8385d4c8b62717555527b224f332a52fd1e388c0e673042bb"), looks := false }, kinds := [], alts := [], laidByText := true, laidKinds := [.data, .data], laidTests := true, laidLooks := .later }
def FnExactCutCardSaid : Prop := Claim7.holds Tryz.pinned (.plain (OpenSpec.ofChange fnExactCutSpec)) fnExactCutCard

/-- THE TIED CARD OF 'laws.FnExactDeedDo'. -/
def fnExactDeedDoCard : Claim7 := { stood := { row := fnExactDeedDoRow, standIns := [], harness := (true, "933041b7a138b4b8385d4c8b62717555527b224f332a52fd1e388c0e673042bb"), looks := false }, kinds := [], alts := [], laidByText := true, laidKinds := [.data, .data], laidTests := true, laidLooks := .later }
def FnExactDeedDoCardSaid : Prop := Claim7.holds Tryz.pinned (.plain (OpenSpec.ofChange fnExactDeedDoSpec)) fnExactDeedDoCard

/-- THE SECOND FORM's CARD OF 'laws.FnTried'. -/
def fnTriedUptoCard : Claim7 := { stood := { row := fnTriedUptoRow, standIns := [], harness := (true, "933041b7a138b4b8385d4c8b62717555527b224f332a52fd1e388c0e673042bb"), looks := false }, kinds := [], alts := [], laidByText := true, laidKinds := [.data, .data], laidTests := true, laidLooks := .later }
def FnTriedUptoCardSaid : Prop := Claim7.holds Tryz.pinned (.plain (OpenSpec.upto fnTriedSpec)) fnTriedUptoCard

/-- THE SECOND FORM's CARD OF 'laws.FnExactDo'. -/
def fnExactDoUptoCard : Claim7 := { stood := { row := fnExactDoUptoRow, standIns := [], harness := (true, "933041b7a138b4b8385d4c8b62717555527b224f332a52fd1e388c0e673042bb"), looks := false }, kinds := [], alts := [], laidByText := true, laidKinds := [.data, .data], laidTests := true, laidLooks := .later }
def FnExactDoUptoCardSaid : Prop := Claim7.holds Tryz.pinned (.plain (OpenSpec.upto fnExactDoSpec)) fnExactDoUptoCard

/-- THE SECOND FORM's CARD OF 'laws.FnExactCut'. -/
def fnExactCutUptoCard : Claim7 := { stood := { row := fnExactCutUptoRow, standIns := [], harness := (true, "933041b7a138b4b8385d4c8b62717555527b224f332a52fd1e388c0e673042bb"), looks := false }, kinds := [], alts := [], laidByText := true, laidKinds := [.data, .data], laidTests := true, laidLooks := .later }
def FnExactCutUptoCardSaid : Prop := Claim7.holds Tryz.pinned (.plain (OpenSpec.upto fnExactCutSpec)) fnExactCutUptoCard

/-- THE SECOND FORM's CARD OF 'laws.FnExactDeedDo'. -/
def fnExactDeedDoUptoCard : Claim7 := { stood := { row := fnExactDeedDoUptoRow, standIns := [], harness := (true, "933041b7a138b4b8385d4c8b62717555527b224f332a52fd1e388c0e673042bb"), looks := false }, kinds := [], alts := [], laidByText := true, laidKinds := [.data, .data], laidTests := true, laidLooks := .later }
def FnExactDeedDoUptoCardSaid : Prop := Claim7.holds Tryz.pinned (.plain (OpenSpec.upto fnExactDeedDoSpec)) fnExactDeedDoUptoCard
end Rows
end Go.Proofs.YtpcllejjdmmjcaaGreatDoor
