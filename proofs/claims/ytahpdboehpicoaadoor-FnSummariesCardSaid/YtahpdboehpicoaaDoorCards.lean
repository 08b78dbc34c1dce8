/-
  DERIVED. GIVEN WITH THE SEED: THE CARDS: each row of YtahpdboehpicoaaDoorRows.lean that lists a variable, with what it lists TIED to the program's text (the seventh form; the later family's looks); each row that meets fmt, with fmt's text TOLD by the authors' own Lean function (tested against real Go, not proved from fmt's source: count such statements apart). THE CARD IS WHAT COUNTS. Prove the row's statement (the work); the ties are given (YtahpdboehpicoaaDoorTie.lean); close each card by the builder's one call (the guide's Derived/Test/ToyasCard.lean, 'card_holds'). Laid BY PROGRAM, IN A SANDBOX (cutbox-door.mjs). By AI agents, Wed Nov 11 2026. No macro, syntax, notation, axiom, sorry.
-/
import Derived.Test.YtahpdboehpicoaaDoorRows
import GoSem.ClaimSeven
namespace Go.Proofs.YtahpdboehpicoaaDoor
namespace Rows

/-- THE TIED CARD OF 'laws.FnExactVerdictText'. -/
def fnExactVerdictTextCard : Claim7 := { stood := { row := fnExactVerdictTextRow, standIns := [], harness := (true, "05b11ca5d92493c75ccb30377b13c4c8a4940cf347090b09d5df8e85cc07bc06"), looks := false }, kinds := [], alts := [], laidByText := true, laidKinds := [.data, .data, .data], laidTests := true, laidLooks := .later }
def FnExactVerdictTextCardSaid : Prop := Claim7.holds Tryd.pinned (.plain (OpenSpec.ofChange fnExactVerdictTextSpec)) fnExactVerdictTextCard

/-- THE TIED CARD OF 'laws.FnSummaries'. -/
def fnSummariesCard : Claim7 := { stood := { row := fnSummariesRow, standIns := [], harness := (true, "05b11ca5d92493c75ccb30377b13c4c8a4940cf347090b09d5df8e85cc07bc06"), looks := false }, kinds := [], alts := [], laidByText := true, laidKinds := [.data, .data, .data], laidTests := true, laidLooks := .later }
def FnSummariesCardSaid : Prop := Claim7.holds Tryd.pinned (.plain (OpenSpec.ofChange fnSummariesSpec)) fnSummariesCard

/-- THE SECOND FORM's CARD OF 'laws.FnExactVerdictText'. -/
def fnExactVerdictTextUptoCard : Claim7 := { stood := { row := fnExactVerdictTextUptoRow, standIns := [], harness := (true, "05b11ca5d92493c75ccb30377b13c4c8a4940cf347090b09d5df8e85cc07bc06"), looks := false }, kinds := [], alts := [], laidByText := true, laidKinds := [.data, .data, .data], laidTests := true, laidLooks := .later }
def FnExactVerdictTextUptoCardSaid : Prop := Claim7.holds Tryd.pinned (.plain (OpenSpec.upto fnExactVerdictTextSpec)) fnExactVerdictTextUptoCard

/-- THE SECOND FORM's CARD OF 'laws.FnSummaries'. -/
def fnSummariesUptoCard : Claim7 := { stood := { row := fnSummariesUptoRow, standIns := [], harness := (true, "05b11ca5d92493c75ccb30377b13c4c8a4940cf347090b09d5df8e85cc07bc06"), looks := false }, kinds := [], alts := [], laidByText := true, laidKinds := [.data, .data, .data], laidTests := true, laidLooks := .later }
def FnSummariesUptoCardSaid : Prop := Claim7.holds Tryd.pinned (.plain (OpenSpec.upto fnSummariesSpec)) fnSummariesUptoCard
end Rows
end Go.Proofs.YtahpdboehpicoaaDoor
