/-
  DERIVED. GIVEN WITH THE SEED: THE CARDS: each row of YtdjopnhbcchedaaDoorRows.lean that lists a variable, with what it lists TIED to the program's text (the seventh form; the later family's looks); each row that meets fmt, with fmt's text TOLD by the authors' own Lean function (tested against real Go, not proved from fmt's source: count such statements apart). THE CARD IS WHAT COUNTS. Prove the row's statement (the work); the ties are given (YtdjopnhbcchedaaDoorTie.lean); close each card by the builder's one call (the guide's Derived/Test/ToyasCard.lean, 'card_holds'). Laid BY PROGRAM, IN A SANDBOX (cutbox-door.mjs). By AI agents, Wed Nov 11 2026. No macro, syntax, notation, axiom, sorry.
-/
import Derived.Test.YtdjopnhbcchedaaDoorRows
import GoSem.ClaimSeven
namespace Go.Proofs.YtdjopnhbcchedaaDoor
namespace Rows

/-- THE TIED CARD OF 'laws.FnExactFormatClock'. -/
def fnExactFormatClockCard : Claim7 := { stood := { row := fnExactFormatClockRow, standIns := [], harness := (true, "7f2a4ac24e06270f856b00cacbbe9ec61770082d6f2913b90f1350246e4beea8"), looks := true }, kinds := [], alts := [], laidByText := true, laidKinds := [.data, .data, .data], laidTests := true, laidLooks := .later }
def FnExactFormatClockCardSaid : Prop := Claim7.holds Tryd.pinned (.plain (OpenSpec.ofChange fnExactFormatClockSpec)) fnExactFormatClockCard

/-- THE TIED CARD OF 'laws.FnExactParseClock'. -/
def fnExactParseClockCard : Claim7 := { stood := { row := fnExactParseClockRow, standIns := [], harness := (true, "7f2a4ac24e06270f856b00cacbbe9ec61770082d6f2913b90f1350246e4beea8"), looks := true }, kinds := [], alts := [], laidByText := true, laidKinds := [.data, .data, .data, .sentinel, .sentinel], laidTests := true, laidLooks := .later }
def FnExactParseClockCardSaid : Prop := Claim7.holds Tryd.pinned (.plain (OpenSpec.ofChange fnExactParseClockSpec)) fnExactParseClockCard

/-- THE TIED CARD OF 'laws.FnClockText'. -/
def fnClockTextCard : Claim7 := { stood := { row := fnClockTextRow, standIns := [], harness := (true, "7f2a4ac24e06270f856b00cacbbe9ec61770082d6f2913b90f1350246e4beea8"), looks := true }, kinds := [], alts := [], laidByText := true, laidKinds := [.data, .data, .data, .sentinel, .sentinel], laidTests := true, laidLooks := .later }
def FnClockTextCardSaid : Prop := Claim7.holds Tryd.pinned (.plain (OpenSpec.ofChange fnClockTextSpec)) fnClockTextCard

/-- THE SECOND FORM's CARD OF 'laws.FnExactFormatClock'. -/
def fnExactFormatClockUptoCard : Claim7 := { stood := { row := fnExactFormatClockUptoRow, standIns := [], harness := (true, "7f2a4ac24e06270f856b00cacbbe9ec61770082d6f2913b90f1350246e4beea8"), looks := true }, kinds := [], alts := [], laidByText := true, laidKinds := [.data, .data, .data], laidTests := true, laidLooks := .later }
def FnExactFormatClockUptoCardSaid : Prop := Claim7.holds Tryd.pinned (.plain (OpenSpec.upto fnExactFormatClockSpec)) fnExactFormatClockUptoCard

/-- THE SECOND FORM's CARD OF 'laws.FnExactParseClock'. -/
def fnExactParseClockUptoCard : Claim7 := { stood := { row := fnExactParseClockUptoRow, standIns := [], harness := (true, "7f2a4ac24e06270f856b00cacbbe9ec61770082d6f2913b90f1350246e4beea8"), looks := true }, kinds := [], alts := [], laidByText := true, laidKinds := [.data, .data, .data, .sentinel, .sentinel], laidTests := true, laidLooks := .later }
def FnExactParseClockUptoCardSaid : Prop := Claim7.holds Tryd.pinned (.plain (OpenSpec.upto fnExactParseClockSpec)) fnExactParseClockUptoCard

/-- THE SECOND FORM's CARD OF 'laws.FnClockText'. -/
def fnClockTextUptoCard : Claim7 := { stood := { row := fnClockTextUptoRow, standIns := [], harness := (true, "7f2a4ac24e06270f856b00cacbbe9ec61770082d6f2913b90f1350246e4beea8"), looks := true }, kinds := [], alts := [], laidByText := true, laidKinds := [.data, .data, .data, .sentinel, .sentinel], laidTests := true, laidLooks := .later }
def FnClockTextUptoCardSaid : Prop := Claim7.holds Tryd.pinned (.plain (OpenSpec.upto fnClockTextSpec)) fnClockTextUptoCard
end Rows
end Go.Proofs.YtdjopnhbcchedaaDoor
