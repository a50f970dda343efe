/-
  DERIVED. GIVEN WITH THE SEED: THE CARDS: each row of YtonaicpopoomlaaGreatDoorRows.lean that lists a variable, with what it lists TIED to the program's text (the seventh form; the later family's looks); each row that meets fmt, with fmt's text TOLD by the authors' own Lean function (tested against real Go, not proved from fmt's source: count such statements apart). THE CARD IS WHAT COUNTS. Prove the row's statement (the work); the ties are given (YtonaicpopoomlaaGreatDoorTie.lean); close each card by the builder's one call (the guide's Derived/Test/ToyasCard.lean, 'card_holds'). Laid BY PROGRAM, IN A SANDBOX (cutbox-door.mjs). By AI agents, Wed Nov 11 2026. No macro, syntax, notation, axiom, sorry.
-/
import Derived.Test.YtonaicpopoomlaaGreatDoorRows
import GoSem.ClaimSeven
namespace Go.Proofs.YtonaicpopoomlaaGreatDoor
namespace Rows

/-- THE TIED CARD OF 'laws.FnExactActsOf'. -/
def fnExactActsOfCard : Claim7 := { stood := { row := fnExactActsOfRow, standIns := [], harness := (true, "fd6392baa9a32074ba94a4cbafc2723605810d6f2e1b46b50a24eff59c092550"), looks := false }, kinds := [], alts := [], laidByText := true, laidKinds := [.data, .data], laidTests := true, laidLooks := .later }
def FnExactActsOfCardSaid : Prop := Claim7.holds Tryz.pinned (.plain (OpenSpec.ofChange fnExactActsOfSpec)) fnExactActsOfCard

/-- THE SECOND FORM's CARD OF 'laws.FnExactActsOf'. -/
def fnExactActsOfUptoCard : Claim7 := { stood := { row := fnExactActsOfUptoRow, standIns := [], harness := (true, "fd6392baa9a32074ba94a4cbafc2723605810d6f2e1b46b50a24eff59c092550"), looks := false }, kinds := [], alts := [], laidByText := true, laidKinds := [.data, .data], laidTests := true, laidLooks := .later }
def FnExactActsOfUptoCardSaid : Prop := Claim7.holds Tryz.pinned (.plain (OpenSpec.upto fnExactActsOfSpec)) fnExactActsOfUptoCard
end Rows
end Go.Proofs.YtonaicpopoomlaaGreatDoor
