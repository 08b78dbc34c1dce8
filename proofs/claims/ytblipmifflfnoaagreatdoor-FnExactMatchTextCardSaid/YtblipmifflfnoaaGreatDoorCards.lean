/-
  DERIVED. GIVEN WITH THE SEED: THE CARDS: each row of YtblipmifflfnoaaGreatDoorRows.lean that lists a variable, with what it lists TIED to the program's text (the seventh form; the later family's looks); each row that meets fmt, with fmt's text TOLD by the authors' own Lean function (tested against real Go, not proved from fmt's source: count such statements apart). THE CARD IS WHAT COUNTS. Prove the row's statement (the work); the ties are given (YtblipmifflfnoaaGreatDoorTie.lean); close each card by the builder's one call (the guide's Derived/Test/ToyasCard.lean, 'card_holds'). Laid BY PROGRAM, IN A SANDBOX (cutbox-door.mjs). By AI agents, Wed Nov 11 2026. No macro, syntax, notation, axiom, sorry.
-/
import Derived.Test.YtblipmifflfnoaaGreatDoorRows
import GoSem.ClaimSeven
namespace Go.Proofs.YtblipmifflfnoaaGreatDoor
namespace Rows

/-- THE TIED CARD OF 'laws.FnExactReadMatch'. -/
def fnExactReadMatchCard : Claim7 := { stood := { row := fnExactReadMatchRow, standIns := [], harness := (true, "28f1063daa8701d61e97106f9d377adc88c634400711864e67cbbcdaeaa7184b"), looks := true }, kinds := [], alts := [], laidByText := true, laidKinds := [.data, .data, .data, .data, .sentinel, .sentinel, .pinned], laidTests := true, laidLooks := .later }
def FnExactReadMatchCardSaid : Prop := Claim7.holds Tryz.pinned (.plain (OpenSpec.ofChange fnExactReadMatchSpec)) fnExactReadMatchCard

/-- THE TIED CARD OF 'laws.FnExactMatchText'. -/
def fnExactMatchTextCard : Claim7 := { stood := { row := fnExactMatchTextRow, standIns := [], harness := (true, "28f1063daa8701d61e97106f9d377adc88c634400711864e67cbbcdaeaa7184b"), looks := true }, kinds := [], alts := [], laidByText := true, laidKinds := [.data, .data, .data], laidTests := true, laidLooks := .later }
def FnExactMatchTextCardSaid : Prop := Claim7.holds Tryz.pinned (.plain (OpenSpec.ofChange fnExactMatchTextSpec)) fnExactMatchTextCard

/-- THE SECOND FORM's CARD OF 'laws.FnExactReadMatch'. -/
def fnExactReadMatchUptoCard : Claim7 := { stood := { row := fnExactReadMatchUptoRow, standIns := [], harness := (true, "28f1063daa8701d61e97106f9d377adc88c634400711864e67cbbcdaeaa7184b"), looks := true }, kinds := [], alts := [], laidByText := true, laidKinds := [.data, .data, .data, .data, .sentinel, .sentinel, .pinned], laidTests := true, laidLooks := .later }
def FnExactReadMatchUptoCardSaid : Prop := Claim7.holds Tryz.pinned (.plain (OpenSpec.upto fnExactReadMatchSpec)) fnExactReadMatchUptoCard

/-- THE SECOND FORM's CARD OF 'laws.FnExactMatchText'. -/
def fnExactMatchTextUptoCard : Claim7 := { stood := { row := fnExactMatchTextUptoRow, standIns := [], harness := (true, "28f1063daa8701d61e97106f9d377adc88c634400711864e67cbbcdaeaa7184b"), looks := true }, kinds := [], alts := [], laidByText := true, laidKinds := [.data, .data, .data], laidTests := true, laidLooks := .later }
def FnExactMatchTextUptoCardSaid : Prop := Claim7.holds Tryz.pinned (.plain (OpenSpec.upto fnExactMatchTextSpec)) fnExactMatchTextUptoCard
end Rows
end Go.Proofs.YtblipmifflfnoaaGreatDoor
