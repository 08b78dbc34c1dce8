/-
  NARROWER THAN 'FOR EVERY INPUT', by the rows' own cells (each row's printed sentence says how): FnExactWinningChance: laid · FnExactPerformanceOf: laid · FnChances: laid · FnExactRateMatch: laid · FnPerformance: laid · FnRatings: laid · FnExactRateAll: laid.
  DERIVED. THE GIVEN ROWS OF THIS SEAT. 7 by the template 'for every input the law returns true; each argument reads behind the call as it read before'; 0 by the template 'total and deterministic' (their statements: YtjmckpaemmjcmaaDoorTotals.lean).
  GIVEN WITH THE SEED: the statements are not yours to turn. If you find one false, say at which input.
  Laid BY PROGRAM, IN A SANDBOX (cutbox-rows.mjs): the forced cells as the released guide's own fill.sh prints them over the translation 8394590b0f03d438… (all of the seat's roots in one cut). By AI agents, Wed Nov 11 2026. No macro, syntax, notation, axiom, sorry.
-/
import Derived.Test.YtjmckpaemmjcmaaDoorChecked
import GoSem.Claim
import GoSem.ClaimJoined
import GoSem.ClaimMapViews
import Derived.JoinedTies
import Derived.KernelRfl
namespace Go.Proofs.YtjmckpaemmjcmaaDoor
/- THE CELL 'sum', in the pinned program and in every row, IS THE sha256 OF THE DUMP (.gsa) THAT YtjmckpaemmjcmaaDoorProg.lean LOADS. Nothing in Lean hashes anything: it is a label: what it is worth is what the hold of that sum in a sandbox is worth. -/
noncomputable def Tryd.pinned : Pinned := { name := "ytjmckpaemmjcmaadoor", sum := "8394590b0f03d438a2e44274676f048e4dfd5c16829f1252d0e4e641c94095bb", checked := Tryd.checked }
namespace Rows
def none {H : Type} : Left H := { results := [], args := [] }

/- WHAT THE LISTED PACKAGE-LEVEL VARIABLES READ AS WHEN THE CALL BEGINS. Each datum BY PROGRAM (the guide's laid-datum.mjs) off the statement by which the dump's own 'gosem.cut.vars' lays the variable. In a bare row this is a premise. The card (YtjmckpaemmjcmaaDoorCards.lean) ties it to the program's text. -/
def laid_loop_example_g00885_impl_chanceTable {H : Type} : DataW H := .agg [.lit (.int .i64 500), .lit (.int .i64 557), .lit (.int .i64 613), .lit (.int .i64 666), .lit (.int .i64 715), .lit (.int .i64 760), .lit (.int .i64 799), .lit (.int .i64 834), .lit (.int .i64 863), .lit (.int .i64 888), .lit (.int .i64 909)]

/-- 'laws.FnExactWinningChance': WHATEVER THE INPUT: true; the input reads as it did. -/
def fnExactWinningChanceSpec : ChangeSpec := { name := "fnExactWinningChance", vars := ["loop.example/g00885/impl.chanceTable"], fn := fun _ => fun
  | [d1, d2, g1] => { results := [.lit (.bool true)], args := [d1, d2], vars := [g1] }
  | _ => none }
def fnExactWinningChanceRow : OpenClaim := { program := "ytjmckpaemmjcmaadoor", sum := "8394590b0f03d438a2e44274676f048e4dfd5c16829f1252d0e4e641c94095bb", func := "loop.example/g00885/laws.FnExactWinningChance", spec := "fnExactWinningChance", recurses := true, named := ["loop.example/g00885/impl.chanceTable"], apart := false, laid := [("loop.example/g00885/impl.chanceTable", laid_loop_example_g00885_impl_chanceTable)] }
def FnExactWinningChanceSaid : Prop := fnExactWinningChanceRow.holds Tryd.pinned (OpenSpec.ofChange fnExactWinningChanceSpec)

/-- ITS FALSE NEIGHBOUR: 'it returns false'. Refute it at one input. -/
def fnExactWinningChanceWrong : ChangeSpec := { name := "fnExactWinningChance", vars := ["loop.example/g00885/impl.chanceTable"], fn := fun _ => fun
  | [d1, d2, g1] => { results := [.lit (.bool false)], args := [d1, d2], vars := [g1] }
  | _ => none }
def FnExactWinningChanceWrongFalsely : Prop := fnExactWinningChanceRow.holds Tryd.pinned (OpenSpec.ofChange fnExactWinningChanceWrong)

/-- 'laws.FnExactPerformanceOf': WHATEVER THE INPUT: true; the input reads as it did. -/
def fnExactPerformanceOfSpec : ChangeSpec := { name := "fnExactPerformanceOf", vars := ["loop.example/g00885/impl.chanceTable"], fn := fun _ => fun
  | [d1, d2, d3, g1] => { results := [.lit (.bool true)], args := [d1, d2, d3], vars := [g1] }
  | _ => none }
def fnExactPerformanceOfRow : OpenClaim := { program := "ytjmckpaemmjcmaadoor", sum := "8394590b0f03d438a2e44274676f048e4dfd5c16829f1252d0e4e641c94095bb", func := "loop.example/g00885/laws.FnExactPerformanceOf", spec := "fnExactPerformanceOf", unfollowed := true, recurses := true, named := ["loop.example/g00885/impl.chanceTable"], apart := false, laid := [("loop.example/g00885/impl.chanceTable", laid_loop_example_g00885_impl_chanceTable)] }
def FnExactPerformanceOfSaid : Prop := fnExactPerformanceOfRow.holds Tryd.pinned (OpenSpec.ofChange fnExactPerformanceOfSpec)

/-- ITS FALSE NEIGHBOUR: 'it returns false'. Refute it at one input. -/
def fnExactPerformanceOfWrong : ChangeSpec := { name := "fnExactPerformanceOf", vars := ["loop.example/g00885/impl.chanceTable"], fn := fun _ => fun
  | [d1, d2, d3, g1] => { results := [.lit (.bool false)], args := [d1, d2, d3], vars := [g1] }
  | _ => none }
def FnExactPerformanceOfWrongFalsely : Prop := fnExactPerformanceOfRow.holds Tryd.pinned (OpenSpec.ofChange fnExactPerformanceOfWrong)

/-- 'laws.FnChances': WHATEVER THE INPUT: true; the input reads as it did. -/
def fnChancesSpec : ChangeSpec := { name := "fnChances", vars := ["loop.example/g00885/impl.chanceTable"], fn := fun _ => fun
  | [d, g1] => { results := [.lit (.bool true)], args := [d], vars := [g1] }
  | _ => none }
def fnChancesRow : OpenClaim := { program := "ytjmckpaemmjcmaadoor", sum := "8394590b0f03d438a2e44274676f048e4dfd5c16829f1252d0e4e641c94095bb", func := "loop.example/g00885/laws.FnChances", spec := "fnChances", recurses := true, named := ["loop.example/g00885/impl.chanceTable"], apart := false, laid := [("loop.example/g00885/impl.chanceTable", laid_loop_example_g00885_impl_chanceTable)] }
def FnChancesSaid : Prop := fnChancesRow.holds Tryd.pinned (OpenSpec.ofChange fnChancesSpec)

/-- ITS FALSE NEIGHBOUR: 'it returns false'. Refute it at one input. -/
def fnChancesWrong : ChangeSpec := { name := "fnChances", vars := ["loop.example/g00885/impl.chanceTable"], fn := fun _ => fun
  | [d, g1] => { results := [.lit (.bool false)], args := [d], vars := [g1] }
  | _ => none }
def FnChancesWrongFalsely : Prop := fnChancesRow.holds Tryd.pinned (OpenSpec.ofChange fnChancesWrong)

/-- 'laws.FnExactRateMatch': WHATEVER THE INPUT: true; the input reads as it did. -/
def fnExactRateMatchSpec : ChangeSpec := { name := "fnExactRateMatch", vars := ["loop.example/g00885/impl.chanceTable"], fn := fun _ => fun
  | [d1, d2, d3, g1] => { results := [.lit (.bool true)], args := [d1, d2, d3], vars := [g1] }
  | _ => none }
def fnExactRateMatchRow : OpenClaim := { program := "ytjmckpaemmjcmaadoor", sum := "8394590b0f03d438a2e44274676f048e4dfd5c16829f1252d0e4e641c94095bb", func := "loop.example/g00885/laws.FnExactRateMatch", spec := "fnExactRateMatch", unfollowed := true, recurses := true, named := ["loop.example/g00885/impl.chanceTable"], apart := false, laid := [("loop.example/g00885/impl.chanceTable", laid_loop_example_g00885_impl_chanceTable)] }
def FnExactRateMatchSaid : Prop := fnExactRateMatchRow.holds Tryd.pinned (OpenSpec.ofChange fnExactRateMatchSpec)

/-- ITS FALSE NEIGHBOUR: 'it returns false'. Refute it at one input. -/
def fnExactRateMatchWrong : ChangeSpec := { name := "fnExactRateMatch", vars := ["loop.example/g00885/impl.chanceTable"], fn := fun _ => fun
  | [d1, d2, d3, g1] => { results := [.lit (.bool false)], args := [d1, d2, d3], vars := [g1] }
  | _ => none }
def FnExactRateMatchWrongFalsely : Prop := fnExactRateMatchRow.holds Tryd.pinned (OpenSpec.ofChange fnExactRateMatchWrong)

/-- 'laws.FnPerformance': WHATEVER THE INPUT: true; the input reads as it did. -/
def fnPerformanceSpec : ChangeSpec := { name := "fnPerformance", vars := ["loop.example/g00885/impl.chanceTable"], fn := fun _ => fun
  | [d, g1] => { results := [.lit (.bool true)], args := [d], vars := [g1] }
  | _ => none }
def fnPerformanceRow : OpenClaim := { program := "ytjmckpaemmjcmaadoor", sum := "8394590b0f03d438a2e44274676f048e4dfd5c16829f1252d0e4e641c94095bb", func := "loop.example/g00885/laws.FnPerformance", spec := "fnPerformance", unfollowed := true, recurses := true, named := ["loop.example/g00885/impl.chanceTable"], apart := false, laid := [("loop.example/g00885/impl.chanceTable", laid_loop_example_g00885_impl_chanceTable)] }
def FnPerformanceSaid : Prop := fnPerformanceRow.holds Tryd.pinned (OpenSpec.ofChange fnPerformanceSpec)

/-- ITS FALSE NEIGHBOUR: 'it returns false'. Refute it at one input. -/
def fnPerformanceWrong : ChangeSpec := { name := "fnPerformance", vars := ["loop.example/g00885/impl.chanceTable"], fn := fun _ => fun
  | [d, g1] => { results := [.lit (.bool false)], args := [d], vars := [g1] }
  | _ => none }
def FnPerformanceWrongFalsely : Prop := fnPerformanceRow.holds Tryd.pinned (OpenSpec.ofChange fnPerformanceWrong)

/-- 'laws.FnRatings': WHATEVER THE INPUT: true; the input reads as it did. -/
def fnRatingsSpec : ChangeSpec := { name := "fnRatings", vars := ["loop.example/g00885/impl.chanceTable"], fn := fun _ => fun
  | [d, g1] => { results := [.lit (.bool true)], args := [d], vars := [g1] }
  | _ => none }
def fnRatingsRow : OpenClaim := { program := "ytjmckpaemmjcmaadoor", sum := "8394590b0f03d438a2e44274676f048e4dfd5c16829f1252d0e4e641c94095bb", func := "loop.example/g00885/laws.FnRatings", spec := "fnRatings", unfollowed := true, recurses := true, named := ["loop.example/g00885/impl.chanceTable"], apart := false, laid := [("loop.example/g00885/impl.chanceTable", laid_loop_example_g00885_impl_chanceTable)] }
def FnRatingsSaid : Prop := fnRatingsRow.holds Tryd.pinned (OpenSpec.ofChange fnRatingsSpec)

/-- ITS FALSE NEIGHBOUR: 'it returns false'. Refute it at one input. -/
def fnRatingsWrong : ChangeSpec := { name := "fnRatings", vars := ["loop.example/g00885/impl.chanceTable"], fn := fun _ => fun
  | [d, g1] => { results := [.lit (.bool false)], args := [d], vars := [g1] }
  | _ => none }
def FnRatingsWrongFalsely : Prop := fnRatingsRow.holds Tryd.pinned (OpenSpec.ofChange fnRatingsWrong)

/-- 'laws.FnExactRateAll': WHATEVER THE INPUT: true; the input reads as it did. -/
def fnExactRateAllSpec : ChangeSpec := { name := "fnExactRateAll", vars := ["loop.example/g00885/impl.chanceTable"], fn := fun _ => fun
  | [d1, d2, g1] => { results := [.lit (.bool true)], args := [d1, d2], vars := [g1] }
  | _ => none }
def fnExactRateAllRow : OpenClaim := { program := "ytjmckpaemmjcmaadoor", sum := "8394590b0f03d438a2e44274676f048e4dfd5c16829f1252d0e4e641c94095bb", func := "loop.example/g00885/laws.FnExactRateAll", spec := "fnExactRateAll", unfollowed := true, recurses := true, named := ["loop.example/g00885/impl.chanceTable"], apart := false, laid := [("loop.example/g00885/impl.chanceTable", laid_loop_example_g00885_impl_chanceTable)] }
def FnExactRateAllSaid : Prop := fnExactRateAllRow.holds Tryd.pinned (OpenSpec.ofChange fnExactRateAllSpec)

/-- ITS FALSE NEIGHBOUR: 'it returns false'. Refute it at one input. -/
def fnExactRateAllWrong : ChangeSpec := { name := "fnExactRateAll", vars := ["loop.example/g00885/impl.chanceTable"], fn := fun _ => fun
  | [d1, d2, g1] => { results := [.lit (.bool false)], args := [d1, d2], vars := [g1] }
  | _ => none }
def FnExactRateAllWrongFalsely : Prop := fnExactRateAllRow.holds Tryd.pinned (OpenSpec.ofChange fnExactRateAllWrong)

/- THE SECOND FORM. 'bulk': how many values and letters a reading holds, each counted each time it is reached (what is shared counts as often as it is met; a slice's spare places count too). A statement '..UptoSaid' is the law's where the arguments, and the package variables that the reading takes, are together of bulk at most 1048576: NARROWER than '..Said'. Prove '..Said' where nothing that the law and all that it calls make is longer than what came in: it says more and counts as full. Else prove '..UptoSaid'. A law counts once. -/
mutual
def uptoBulk {H : Type} : DataW H → Nat
  | .lit (.string bytes) => bytes.length + 1
  | .lit _ => 1
  | .nil => 1
  | .ptr d => uptoBulk d + 1
  | .slice elems spare => uptoBulkAll elems + uptoBulkAll spare + 1
  | .agg parts => uptoBulkAll parts + 1
  | .iface _ d => uptoBulk d + 1
  | .map entries => uptoBulkEntries entries + 1
  | .held _ => 1
def uptoBulkAll {H : Type} : List (DataW H) → Nat
  | [] => 0
  | d :: r => uptoBulk d + uptoBulkAll r
def uptoBulkEntries {H : Type} : List (Lit × DataW H) → Nat
  | [] => 0
  | x :: r => uptoBulkEntry x + uptoBulkEntries r
def uptoBulkEntry {H : Type} : Lit × DataW H → Nat
  | (.string bytes, d) => bytes.length + uptoBulk d + 1
  | (_, d) => uptoBulk d + 1
 end
def uptoSmall : (H : Type) → List (DataW H) → Bool := fun _ ds => decide (uptoBulkAll ds ≤ 1048576)
def OpenSpec.upto (s : _root_.Go.ChangeSpec) : _root_.Go.OpenSpec := { _root_.Go.OpenSpec.ofChange s with cond := some uptoSmall }

/-- 'laws.FnExactWinningChance', WHERE WHAT IT READS IS OF BULK AT MOST 1048576: true; the input reads as it did. -/
def fnExactWinningChanceUptoRow : OpenClaim := { program := "ytjmckpaemmjcmaadoor", sum := "8394590b0f03d438a2e44274676f048e4dfd5c16829f1252d0e4e641c94095bb", func := "loop.example/g00885/laws.FnExactWinningChance", spec := "fnExactWinningChance", recurses := true, named := ["loop.example/g00885/impl.chanceTable"], apart := false, laid := [("loop.example/g00885/impl.chanceTable", laid_loop_example_g00885_impl_chanceTable)], narrowed := true }
def FnExactWinningChanceUptoSaid : Prop := fnExactWinningChanceUptoRow.holds Tryd.pinned (OpenSpec.upto fnExactWinningChanceSpec)

/-- 'laws.FnExactPerformanceOf', WHERE WHAT IT READS IS OF BULK AT MOST 1048576: true; the input reads as it did. -/
def fnExactPerformanceOfUptoRow : OpenClaim := { program := "ytjmckpaemmjcmaadoor", sum := "8394590b0f03d438a2e44274676f048e4dfd5c16829f1252d0e4e641c94095bb", func := "loop.example/g00885/laws.FnExactPerformanceOf", spec := "fnExactPerformanceOf", unfollowed := true, recurses := true, named := ["loop.example/g00885/impl.chanceTable"], apart := false, laid := [("loop.example/g00885/impl.chanceTable", laid_loop_example_g00885_impl_chanceTable)], narrowed := true }
def FnExactPerformanceOfUptoSaid : Prop := fnExactPerformanceOfUptoRow.holds Tryd.pinned (OpenSpec.upto fnExactPerformanceOfSpec)

/-- 'laws.FnChances', WHERE WHAT IT READS IS OF BULK AT MOST 1048576: true; the input reads as it did. -/
def fnChancesUptoRow : OpenClaim := { program := "ytjmckpaemmjcmaadoor", sum := "8394590b0f03d438a2e44274676f048e4dfd5c16829f1252d0e4e641c94095bb", func := "loop.example/g00885/laws.FnChances", spec := "fnChances", recurses := true, named := ["loop.example/g00885/impl.chanceTable"], apart := false, laid := [("loop.example/g00885/impl.chanceTable", laid_loop_example_g00885_impl_chanceTable)], narrowed := true }
def FnChancesUptoSaid : Prop := fnChancesUptoRow.holds Tryd.pinned (OpenSpec.upto fnChancesSpec)

/-- 'laws.FnExactRateMatch', WHERE WHAT IT READS IS OF BULK AT MOST 1048576: true; the input reads as it did. -/
def fnExactRateMatchUptoRow : OpenClaim := { program := "ytjmckpaemmjcmaadoor", sum := "8394590b0f03d438a2e44274676f048e4dfd5c16829f1252d0e4e641c94095bb", func := "loop.example/g00885/laws.FnExactRateMatch", spec := "fnExactRateMatch", unfollowed := true, recurses := true, named := ["loop.example/g00885/impl.chanceTable"], apart := false, laid := [("loop.example/g00885/impl.chanceTable", laid_loop_example_g00885_impl_chanceTable)], narrowed := true }
def FnExactRateMatchUptoSaid : Prop := fnExactRateMatchUptoRow.holds Tryd.pinned (OpenSpec.upto fnExactRateMatchSpec)

/-- 'laws.FnPerformance', WHERE WHAT IT READS IS OF BULK AT MOST 1048576: true; the input reads as it did. -/
def fnPerformanceUptoRow : OpenClaim := { program := "ytjmckpaemmjcmaadoor", sum := "8394590b0f03d438a2e44274676f048e4dfd5c16829f1252d0e4e641c94095bb", func := "loop.example/g00885/laws.FnPerformance", spec := "fnPerformance", unfollowed := true, recurses := true, named := ["loop.example/g00885/impl.chanceTable"], apart := false, laid := [("loop.example/g00885/impl.chanceTable", laid_loop_example_g00885_impl_chanceTable)], narrowed := true }
def FnPerformanceUptoSaid : Prop := fnPerformanceUptoRow.holds Tryd.pinned (OpenSpec.upto fnPerformanceSpec)

/-- 'laws.FnRatings', WHERE WHAT IT READS IS OF BULK AT MOST 1048576: true; the input reads as it did. -/
def fnRatingsUptoRow : OpenClaim := { program := "ytjmckpaemmjcmaadoor", sum := "8394590b0f03d438a2e44274676f048e4dfd5c16829f1252d0e4e641c94095bb", func := "loop.example/g00885/laws.FnRatings", spec := "fnRatings", unfollowed := true, recurses := true, named := ["loop.example/g00885/impl.chanceTable"], apart := false, laid := [("loop.example/g00885/impl.chanceTable", laid_loop_example_g00885_impl_chanceTable)], narrowed := true }
def FnRatingsUptoSaid : Prop := fnRatingsUptoRow.holds Tryd.pinned (OpenSpec.upto fnRatingsSpec)

/-- 'laws.FnExactRateAll', WHERE WHAT IT READS IS OF BULK AT MOST 1048576: true; the input reads as it did. -/
def fnExactRateAllUptoRow : OpenClaim := { program := "ytjmckpaemmjcmaadoor", sum := "8394590b0f03d438a2e44274676f048e4dfd5c16829f1252d0e4e641c94095bb", func := "loop.example/g00885/laws.FnExactRateAll", spec := "fnExactRateAll", unfollowed := true, recurses := true, named := ["loop.example/g00885/impl.chanceTable"], apart := false, laid := [("loop.example/g00885/impl.chanceTable", laid_loop_example_g00885_impl_chanceTable)], narrowed := true }
def FnExactRateAllUptoSaid : Prop := fnExactRateAllUptoRow.holds Tryd.pinned (OpenSpec.upto fnExactRateAllSpec)

end Rows
end Go.Proofs.YtjmckpaemmjcmaaDoor
