/-
  DERIVED. GIVEN WITH THE SEED: THE CARDS: each row of YtjdefiinmicjiaaGreatDoorRows.lean that lists a variable, with what it lists TIED to the program's text (the seventh form; the later family's looks); each row that meets fmt, with fmt's text TOLD by the authors' own Lean function (tested against real Go, not proved from fmt's source: count such statements apart). THE CARD IS WHAT COUNTS. Prove the row's statement (the work); the ties are given (YtjdefiinmicjiaaGreatDoorTie.lean); close each card by the builder's one call (the guide's Derived/Test/ToyasCard.lean, 'card_holds'). Laid BY PROGRAM, IN A SANDBOX (cutbox-door.mjs). By AI agents, Wed Nov 11 2026. No macro, syntax, notation, axiom, sorry.
-/
import Derived.Test.YtjdefiinmicjiaaGreatDoorRows
import GoSem.ClaimSeven
namespace Go.Proofs.YtjdefiinmicjiaaGreatDoor
namespace Rows

/-- THE TIED CARD OF 'laws.FnEventText'. -/
def fnEventTextCard : Claim7 := { stood := { row := fnEventTextRow, standIns := [], harness := (true, "ae1a10e55abe5d164201bc055e83a35e0f847d5f5dcc60b7f3d0368f45fa85d4"), looks := true }, kinds := [], alts := [], laidByText := true, laidKinds := [.data, .data, .data, .data, .sentinel, .sentinel, .pinned], laidTests := true, laidLooks := .later }
def FnEventTextCardSaid : Prop := Claim7.holds Tryz.pinned (.plain (OpenSpec.ofChange fnEventTextSpec)) fnEventTextCard

/-- THE TIED CARD OF 'laws.FnMatchText'. -/
def fnMatchTextCard : Claim7 := { stood := { row := fnMatchTextRow, standIns := [], harness := (true, "ae1a10e55abe5d164201bc055e83a35e0f847d5f5dcc60b7f3d0368f45fa85d4"), looks := true }, kinds := [], alts := [], laidByText := true, laidKinds := [.data, .data, .data, .data, .sentinel, .sentinel, .pinned], laidTests := true, laidLooks := .later }
def FnMatchTextCardSaid : Prop := Claim7.holds Tryz.pinned (.plain (OpenSpec.ofChange fnMatchTextSpec)) fnMatchTextCard

/-- THE SECOND FORM's CARD OF 'laws.FnEventText'. -/
def fnEventTextUptoCard : Claim7 := { stood := { row := fnEventTextUptoRow, standIns := [], harness := (true, "ae1a10e55abe5d164201bc055e83a35e0f847d5f5dcc60b7f3d0368f45fa85d4"), looks := true }, kinds := [], alts := [], laidByText := true, laidKinds := [.data, .data, .data, .data, .sentinel, .sentinel, .pinned], laidTests := true, laidLooks := .later }
def FnEventTextUptoCardSaid : Prop := Claim7.holds Tryz.pinned (.plain (OpenSpec.upto fnEventTextSpec)) fnEventTextUptoCard

/-- THE SECOND FORM's CARD OF 'laws.FnMatchText'. -/
def fnMatchTextUptoCard : Claim7 := { stood := { row := fnMatchTextUptoRow, standIns := [], harness := (true, "ae1a10e55abe5d164201bc055e83a35e0f847d5f5dcc60b7f3d0368f45fa85d4"), looks := true }, kinds := [], alts := [], laidByText := true, laidKinds := [.data, .data, .data, .data, .sentinel, .sentinel, .pinned], laidTests := true, laidLooks := .later }
def FnMatchTextUptoCardSaid : Prop := Claim7.holds Tryz.pinned (.plain (OpenSpec.upto fnMatchTextSpec)) fnMatchTextUptoCard
end Rows
end Go.Proofs.YtjdefiinmicjiaaGreatDoor
