/-
  DERIVED. GIVEN WITH THE SEED: THE CARDS: each row of YtjmckpaemmjcmaaDoorRows.lean that lists a variable, with what it lists TIED to the program's text (the seventh form; the later family's looks); each row that meets fmt, with fmt's text TOLD by the authors' own Lean function (tested against real Go, not proved from fmt's source: count such statements apart). THE CARD IS WHAT COUNTS. Prove the row's statement (the work); the ties are given (YtjmckpaemmjcmaaDoorTie.lean); close each card by the builder's one call (the guide's Derived/Test/ToyasCard.lean, 'card_holds'). Laid BY PROGRAM, IN A SANDBOX (cutbox-door.mjs). By AI agents, Wed Nov 11 2026. No macro, syntax, notation, axiom, sorry.
-/
import Derived.Test.YtjmckpaemmjcmaaDoorRows
import GoSem.ClaimSeven
namespace Go.Proofs.YtjmckpaemmjcmaaDoor
namespace Rows

/-- THE TIED CARD OF 'laws.FnExactWinningChance'. -/
def fnExactWinningChanceCard : Claim7 := { stood := { row := fnExactWinningChanceRow, standIns := [], harness := (true, "f5b1e18b45e01cb2593a2f390f5c3bf0a79835037ebbc094d57ca2ee9fb2c677"), looks := false }, kinds := [], alts := [], laidByText := true, laidKinds := [.data], laidTests := true, laidLooks := .later }
def FnExactWinningChanceCardSaid : Prop := Claim7.holds Tryd.pinned (.plain (OpenSpec.ofChange fnExactWinningChanceSpec)) fnExactWinningChanceCard

/-- THE TIED CARD OF 'laws.FnExactPerformanceOf'. -/
def fnExactPerformanceOfCard : Claim7 := { stood := { row := fnExactPerformanceOfRow, standIns := [], harness := (true, "f5b1e18b45e01cb2593a2f390f5c3bf0a79835037ebbc094d57ca2ee9fb2c677"), looks := false }, kinds := [], alts := [], laidByText := true, laidKinds := [.data], laidTests := true, laidLooks := .later }
def FnExactPerformanceOfCardSaid : Prop := Claim7.holds Tryd.pinned (.plain (OpenSpec.ofChange fnExactPerformanceOfSpec)) fnExactPerformanceOfCard

/-- THE TIED CARD OF 'laws.FnChances'. -/
def fnChancesCard : Claim7 := { stood := { row := fnChancesRow, standIns := [], harness := (true, "f5b1e18b45e01cb2593a2f390f5c3bf0a79835037ebbc094d57ca2ee9fb2c677"), looks := false }, kinds := [], alts := [], laidByText := true, laidKinds := [.data], laidTests := true, laidLooks := .later }
def FnChancesCardSaid : Prop := Claim7.holds Tryd.pinned (.plain (OpenSpec.ofChange fnChancesSpec)) fnChancesCard

/-- THE TIED CARD OF 'laws.FnExactRateMatch'. -/
def fnExactRateMatchCard : Claim7 := { stood := { row := fnExactRateMatchRow, standIns := [], harness := (true, "f5b1e18b45e01cb2593a2f390f5c3bf0a79835037ebbc094d57ca2ee9fb2c677"), looks := false }, kinds := [], alts := [], laidByText := true, laidKinds := [.data], laidTests := true, laidLooks := .later }
def FnExactRateMatchCardSaid : Prop := Claim7.holds Tryd.pinned (.plain (OpenSpec.ofChange fnExactRateMatchSpec)) fnExactRateMatchCard

/-- THE TIED CARD OF 'laws.FnPerformance'. -/
def fnPerformanceCard : Claim7 := { stood := { row := fnPerformanceRow, standIns := [], harness := (true, "f5b1e18b45e01cb2593a2f390f5c3bf0a79835037ebbc094d57ca2ee9fb2c677"), looks := false }, kinds := [], alts := [], laidByText := true, laidKinds := [.data], laidTests := true, laidLooks := .later }
def FnPerformanceCardSaid : Prop := Claim7.holds Tryd.pinned (.plain (OpenSpec.ofChange fnPerformanceSpec)) fnPerformanceCard

/-- THE TIED CARD OF 'laws.FnRatings'. -/
def fnRatingsCard : Claim7 := { stood := { row := fnRatingsRow, standIns := [], harness := (true, "f5b1e18b45e01cb2593a2f390f5c3bf0a79835037ebbc094d57ca2ee9fb2c677"), looks := false }, kinds := [], alts := [], laidByText := true, laidKinds := [.data], laidTests := true, laidLooks := .later }
def FnRatingsCardSaid : Prop := Claim7.holds Tryd.pinned (.plain (OpenSpec.ofChange fnRatingsSpec)) fnRatingsCard

/-- THE TIED CARD OF 'laws.FnExactRateAll'. -/
def fnExactRateAllCard : Claim7 := { stood := { row := fnExactRateAllRow, standIns := [], harness := (true, "f5b1e18b45e01cb2593a2f390f5c3bf0a79835037ebbc094d57ca2ee9fb2c677"), looks := false }, kinds := [], alts := [], laidByText := true, laidKinds := [.data], laidTests := true, laidLooks := .later }
def FnExactRateAllCardSaid : Prop := Claim7.holds Tryd.pinned (.plain (OpenSpec.ofChange fnExactRateAllSpec)) fnExactRateAllCard

/-- THE SECOND FORM's CARD OF 'laws.FnExactWinningChance'. -/
def fnExactWinningChanceUptoCard : Claim7 := { stood := { row := fnExactWinningChanceUptoRow, standIns := [], harness := (true, "f5b1e18b45e01cb2593a2f390f5c3bf0a79835037ebbc094d57ca2ee9fb2c677"), looks := false }, kinds := [], alts := [], laidByText := true, laidKinds := [.data], laidTests := true, laidLooks := .later }
def FnExactWinningChanceUptoCardSaid : Prop := Claim7.holds Tryd.pinned (.plain (OpenSpec.upto fnExactWinningChanceSpec)) fnExactWinningChanceUptoCard

/-- THE SECOND FORM's CARD OF 'laws.FnExactPerformanceOf'. -/
def fnExactPerformanceOfUptoCard : Claim7 := { stood := { row := fnExactPerformanceOfUptoRow, standIns := [], harness := (true, "f5b1e18b45e01cb2593a2f390f5c3bf0a79835037ebbc094d57ca2ee9fb2c677"), looks := false }, kinds := [], alts := [], laidByText := true, laidKinds := [.data], laidTests := true, laidLooks := .later }
def FnExactPerformanceOfUptoCardSaid : Prop := Claim7.holds Tryd.pinned (.plain (OpenSpec.upto fnExactPerformanceOfSpec)) fnExactPerformanceOfUptoCard

/-- THE SECOND FORM's CARD OF 'laws.FnChances'. -/
def fnChancesUptoCard : Claim7 := { stood := { row := fnChancesUptoRow, standIns := [], harness := (true, "f5b1e18b45e01cb2593a2f390f5c3bf0a79835037ebbc094d57ca2ee9fb2c677"), looks := false }, kinds := [], alts := [], laidByText := true, laidKinds := [.data], laidTests := true, laidLooks := .later }
def FnChancesUptoCardSaid : Prop := Claim7.holds Tryd.pinned (.plain (OpenSpec.upto fnChancesSpec)) fnChancesUptoCard

/-- THE SECOND FORM's CARD OF 'laws.FnExactRateMatch'. -/
def fnExactRateMatchUptoCard : Claim7 := { stood := { row := fnExactRateMatchUptoRow, standIns := [], harness := (true, "f5b1e18b45e01cb2593a2f390f5c3bf0a79835037ebbc094d57ca2ee9fb2c677"), looks := false }, kinds := [], alts := [], laidByText := true, laidKinds := [.data], laidTests := true, laidLooks := .later }
def FnExactRateMatchUptoCardSaid : Prop := Claim7.holds Tryd.pinned (.plain (OpenSpec.upto fnExactRateMatchSpec)) fnExactRateMatchUptoCard

/-- THE SECOND FORM's CARD OF 'laws.FnPerformance'. -/
def fnPerformanceUptoCard : Claim7 := { stood := { row := fnPerformanceUptoRow, standIns := [], harness := (true, "f5b1e18b45e01cb2593a2f390f5c3bf0a79835037ebbc094d57ca2ee9fb2c677"), looks := false }, kinds := [], alts := [], laidByText := true, laidKinds := [.data], laidTests := true, laidLooks := .later }
def FnPerformanceUptoCardSaid : Prop := Claim7.holds Tryd.pinned (.plain (OpenSpec.upto fnPerformanceSpec)) fnPerformanceUptoCard

/-- THE SECOND FORM's CARD OF 'laws.FnRatings'. -/
def fnRatingsUptoCard : Claim7 := { stood := { row := fnRatingsUptoRow, standIns := [], harness := (true, "f5b1e18b45e01cb2593a2f390f5c3bf0a79835037ebbc094d57ca2ee9fb2c677"), looks := false }, kinds := [], alts := [], laidByText := true, laidKinds := [.data], laidTests := true, laidLooks := .later }
def FnRatingsUptoCardSaid : Prop := Claim7.holds Tryd.pinned (.plain (OpenSpec.upto fnRatingsSpec)) fnRatingsUptoCard

/-- THE SECOND FORM's CARD OF 'laws.FnExactRateAll'. -/
def fnExactRateAllUptoCard : Claim7 := { stood := { row := fnExactRateAllUptoRow, standIns := [], harness := (true, "f5b1e18b45e01cb2593a2f390f5c3bf0a79835037ebbc094d57ca2ee9fb2c677"), looks := false }, kinds := [], alts := [], laidByText := true, laidKinds := [.data], laidTests := true, laidLooks := .later }
def FnExactRateAllUptoCardSaid : Prop := Claim7.holds Tryd.pinned (.plain (OpenSpec.upto fnExactRateAllSpec)) fnExactRateAllUptoCard
end Rows
end Go.Proofs.YtjmckpaemmjcmaaDoor
