/-
  DERIVED. GIVEN WITH THE SEED: THE CARDS: each row of YtcnkbllbpimaiaaGreatDoorRows.lean that lists a variable, with what it lists TIED to the program's text (the seventh form; the later family's looks); each row that meets fmt, with fmt's text TOLD by the authors' own Lean function (tested against real Go, not proved from fmt's source: count such statements apart). THE CARD IS WHAT COUNTS. Prove the row's statement (the work); the ties are given (YtcnkbllbpimaiaaGreatDoorTie.lean); close each card by the builder's one call (the guide's Derived/Test/ToyasCard.lean, 'card_holds'). Laid BY PROGRAM, IN A SANDBOX (cutbox-door.mjs). By AI agents, Wed Nov 11 2026. No macro, syntax, notation, axiom, sorry.
-/
import Derived.Test.YtcnkbllbpimaiaaGreatDoorRows
import GoSem.ClaimSeven
namespace Go.Proofs.YtcnkbllbpimaiaaGreatDoor
namespace Rows

/-- THE TIED CARD OF 'laws.FnExactDeedRead'. -/
def fnExactDeedReadCard : Claim7 := { stood := { row := fnExactDeedReadRow, standIns := [], harness := (true, "f06bbcbbca21a9209f0cfd1b5059dfa8a418a6bfd3a1786c2e8eddeca1bee247"), looks := true }, kinds := [], alts := [], laidByText := true, laidKinds := [.data, .data, .data, .data, .sentinel, .sentinel, .widerDeep, .widerDeep, .pinned], laidTests := true, laidLooks := .later }
def FnExactDeedReadCardSaid : Prop := Claim7.holds Tryz.pinned (.plain (OpenSpec.ofChange fnExactDeedReadSpec)) fnExactDeedReadCard

/-- THE TIED CARD OF 'laws.FnExactReached'. -/
def fnExactReachedCard : Claim7 := { stood := { row := fnExactReachedRow, standIns := [], harness := (true, "f06bbcbbca21a9209f0cfd1b5059dfa8a418a6bfd3a1786c2e8eddeca1bee247"), looks := true }, kinds := [], alts := [], laidByText := true, laidKinds := [.data, .data], laidTests := true, laidLooks := .later }
def FnExactReachedCardSaid : Prop := Claim7.holds Tryz.pinned (.plain (OpenSpec.ofChange fnExactReachedSpec)) fnExactReachedCard

/-- THE TIED CARD OF 'laws.FnExactScriptFault'. -/
def fnExactScriptFaultCard : Claim7 := { stood := { row := fnExactScriptFaultRow, standIns := [], harness := (true, "f06bbcbbca21a9209f0cfd1b5059dfa8a418a6bfd3a1786c2e8eddeca1bee247"), looks := true }, kinds := [], alts := [], laidByText := true, laidKinds := [.data, .data, .data, .data, .sentinel, .sentinel, .widerDeep, .widerDeep, .pinned], laidTests := true, laidLooks := .later }
def FnExactScriptFaultCardSaid : Prop := Claim7.holds Tryz.pinned (.plain (OpenSpec.ofChange fnExactScriptFaultSpec)) fnExactScriptFaultCard

/-- THE TIED CARD OF 'laws.FnExactAgentNext'. -/
def fnExactAgentNextCard : Claim7 := { stood := { row := fnExactAgentNextRow, standIns := [], harness := (true, "f06bbcbbca21a9209f0cfd1b5059dfa8a418a6bfd3a1786c2e8eddeca1bee247"), looks := true }, kinds := [], alts := [], laidByText := true, laidKinds := [.data, .data], laidTests := true, laidLooks := .later }
def FnExactAgentNextCardSaid : Prop := Claim7.holds Tryz.pinned (.plain (OpenSpec.ofChange fnExactAgentNextSpec)) fnExactAgentNextCard

/-- THE SECOND FORM's CARD OF 'laws.FnExactDeedRead'. -/
def fnExactDeedReadUptoCard : Claim7 := { stood := { row := fnExactDeedReadUptoRow, standIns := [], harness := (true, "f06bbcbbca21a9209f0cfd1b5059dfa8a418a6bfd3a1786c2e8eddeca1bee247"), looks := true }, kinds := [], alts := [], laidByText := true, laidKinds := [.data, .data, .data, .data, .sentinel, .sentinel, .widerDeep, .widerDeep, .pinned], laidTests := true, laidLooks := .later }
def FnExactDeedReadUptoCardSaid : Prop := Claim7.holds Tryz.pinned (.plain (OpenSpec.upto fnExactDeedReadSpec)) fnExactDeedReadUptoCard

/-- THE SECOND FORM's CARD OF 'laws.FnExactReached'. -/
def fnExactReachedUptoCard : Claim7 := { stood := { row := fnExactReachedUptoRow, standIns := [], harness := (true, "f06bbcbbca21a9209f0cfd1b5059dfa8a418a6bfd3a1786c2e8eddeca1bee247"), looks := true }, kinds := [], alts := [], laidByText := true, laidKinds := [.data, .data], laidTests := true, laidLooks := .later }
def FnExactReachedUptoCardSaid : Prop := Claim7.holds Tryz.pinned (.plain (OpenSpec.upto fnExactReachedSpec)) fnExactReachedUptoCard

/-- THE SECOND FORM's CARD OF 'laws.FnExactScriptFault'. -/
def fnExactScriptFaultUptoCard : Claim7 := { stood := { row := fnExactScriptFaultUptoRow, standIns := [], harness := (true, "f06bbcbbca21a9209f0cfd1b5059dfa8a418a6bfd3a1786c2e8eddeca1bee247"), looks := true }, kinds := [], alts := [], laidByText := true, laidKinds := [.data, .data, .data, .data, .sentinel, .sentinel, .widerDeep, .widerDeep, .pinned], laidTests := true, laidLooks := .later }
def FnExactScriptFaultUptoCardSaid : Prop := Claim7.holds Tryz.pinned (.plain (OpenSpec.upto fnExactScriptFaultSpec)) fnExactScriptFaultUptoCard

/-- THE SECOND FORM's CARD OF 'laws.FnExactAgentNext'. -/
def fnExactAgentNextUptoCard : Claim7 := { stood := { row := fnExactAgentNextUptoRow, standIns := [], harness := (true, "f06bbcbbca21a9209f0cfd1b5059dfa8a418a6bfd3a1786c2e8eddeca1bee247"), looks := true }, kinds := [], alts := [], laidByText := true, laidKinds := [.data, .data], laidTests := true, laidLooks := .later }
def FnExactAgentNextUptoCardSaid : Prop := Claim7.holds Tryz.pinned (.plain (OpenSpec.upto fnExactAgentNextSpec)) fnExactAgentNextUptoCard
end Rows
end Go.Proofs.YtcnkbllbpimaiaaGreatDoor
