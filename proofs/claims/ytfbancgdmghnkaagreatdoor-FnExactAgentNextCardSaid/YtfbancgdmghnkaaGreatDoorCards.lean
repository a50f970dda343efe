/-
  DERIVED. GIVEN WITH THE SEED: THE CARDS: each row of YtfbancgdmghnkaaGreatDoorRows.lean that lists a variable, with what it lists TIED to the program's text (the seventh form; the later family's looks); each row that meets fmt, with fmt's text TOLD by the authors' own Lean function (tested against real Go, not proved from fmt's source: count such statements apart). THE CARD IS WHAT COUNTS. Prove the row's statement (the work); the ties are given (YtfbancgdmghnkaaGreatDoorTie.lean); close each card by the builder's one call (the guide's Derived/Test/ToyasCard.lean, 'card_holds'). Laid BY PROGRAM, IN A SANDBOX (cutbox-door.mjs). By AI agents, Wed Nov 11 2026. No macro, syntax, notation, axiom, sorry.
-/
import Derived.Test.YtfbancgdmghnkaaGreatDoorRows
import GoSem.ClaimSeven
namespace Go.Proofs.YtfbancgdmghnkaaGreatDoor
namespace Rows

/-- THE TIED CARD OF 'laws.FnExactAgentNext'. -/
def fnExactAgentNextCard : Claim7 := { stood := { row := fnExactAgentNextRow, standIns := [], harness := (true, "43cd760e76386adb286918e7860d39ad54eb80ff589930f1c5d6707a8f16d8da"), looks := false }, kinds := [], alts := [], laidByText := true, laidKinds := [.data, .data], laidTests := true, laidLooks := .later }
def FnExactAgentNextCardSaid : Prop := Claim7.holds Tryz.pinned (.plain (OpenSpec.ofChange fnExactAgentNextSpec)) fnExactAgentNextCard

/-- THE SECOND FORM's CARD OF 'laws.FnExactAgentNext'. -/
def fnExactAgentNextUptoCard : Claim7 := { stood := { row := fnExactAgentNextUptoRow, standIns := [], harness := (true, "43cd760e76386adb286918e7860d39ad54eb80ff589930f1c5d6707a8f16d8da"), looks := false }, kinds := [], alts := [], laidByText := true, laidKinds := [.data, .data], laidTests := true, laidLooks := .later }
def FnExactAgentNextUptoCardSaid : Prop := Claim7.holds Tryz.pinned (.plain (OpenSpec.upto fnExactAgentNextSpec)) fnExactAgentNextUptoCard
end Rows
end Go.Proofs.YtfbancgdmghnkaaGreatDoor
