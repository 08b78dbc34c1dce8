/-
  DERIVED. GIVEN WITH THE SEED: THE CARDS: each row of YtlfdcefgelpgmaaGreatDoorRows.lean that lists a variable, with what it lists TIED to the program's text (the seventh form; the later family's looks); each row that meets fmt, with fmt's text TOLD by the authors' own Lean function (tested against real Go, not proved from fmt's source: count such statements apart). THE CARD IS WHAT COUNTS. Prove the row's statement (the work); the ties are given (YtlfdcefgelpgmaaGreatDoorTie.lean); close each card by the builder's one call (the guide's Derived/Test/ToyasCard.lean, 'card_holds'). Laid BY PROGRAM, IN A SANDBOX (cutbox-door.mjs). By AI agents, Wed Nov 11 2026. No macro, syntax, notation, axiom, sorry.
-/
import Derived.Test.YtlfdcefgelpgmaaGreatDoorRows
import GoSem.ClaimSeven
namespace Go.Proofs.YtlfdcefgelpgmaaGreatDoor
namespace Rows

/-- THE TIED CARD OF 'laws.FnEventText'. -/
def fnEventTextCard : Claim7 := { stood := { row := fnEventTextRow, standIns := [], harness := (true, "6918312d44bdb8ce64b909bee02eef883c471e3bb4b7284e695b6b9b00e28041"), looks := true }, kinds := [], alts := [], laidByText := true, laidKinds := [.data, .data, .data, .data, .sentinel, .sentinel, .pinned], laidTests := true, laidLooks := .later }
def FnEventTextCardSaid : Prop := Claim7.holds Tryz.pinned (.plain (OpenSpec.ofChange fnEventTextSpec)) fnEventTextCard

/-- THE TIED CARD OF 'laws.FnExactReadEvent'. -/
def fnExactReadEventCard : Claim7 := { stood := { row := fnExactReadEventRow, standIns := [], harness := (true, "6918312d44bdb8ce64b909bee02eef883c471e3bb4b7284e695b6b9b00e28041"), looks := true }, kinds := [], alts := [], laidByText := true, laidKinds := [.data, .data, .data, .data, .sentinel, .sentinel, .pinned], laidTests := true, laidLooks := .later }
def FnExactReadEventCardSaid : Prop := Claim7.holds Tryz.pinned (.plain (OpenSpec.ofChange fnExactReadEventSpec)) fnExactReadEventCard

/-- THE SECOND FORM's CARD OF 'laws.FnEventText'. -/
def fnEventTextUptoCard : Claim7 := { stood := { row := fnEventTextUptoRow, standIns := [], harness := (true, "6918312d44bdb8ce64b909bee02eef883c471e3bb4b7284e695b6b9b00e28041"), looks := true }, kinds := [], alts := [], laidByText := true, laidKinds := [.data, .data, .data, .data, .sentinel, .sentinel, .pinned], laidTests := true, laidLooks := .later }
def FnEventTextUptoCardSaid : Prop := Claim7.holds Tryz.pinned (.plain (OpenSpec.upto fnEventTextSpec)) fnEventTextUptoCard

/-- THE SECOND FORM's CARD OF 'laws.FnExactReadEvent'. -/
def fnExactReadEventUptoCard : Claim7 := { stood := { row := fnExactReadEventUptoRow, standIns := [], harness := (true, "6918312d44bdb8ce64b909bee02eef883c471e3bb4b7284e695b6b9b00e28041"), looks := true }, kinds := [], alts := [], laidByText := true, laidKinds := [.data, .data, .data, .data, .sentinel, .sentinel, .pinned], laidTests := true, laidLooks := .later }
def FnExactReadEventUptoCardSaid : Prop := Claim7.holds Tryz.pinned (.plain (OpenSpec.upto fnExactReadEventSpec)) fnExactReadEventUptoCard
end Rows
end Go.Proofs.YtlfdcefgelpgmaaGreatDoor
