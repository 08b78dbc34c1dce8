/-
  No cell of these rows narrows 'for every input' (looked for: loops, veiled, ifaces, maps, wideKeys, modest, calm, conditions, laid).
  DERIVED. THE GIVEN ROWS OF THIS SEAT. 10 by the template 'for every input the law returns true; each argument reads behind the call as it read before'; 0 by the template 'total and deterministic' (their statements: YtdjopnhbcchedaaTotals.lean).
  GIVEN WITH THE SEED: the statements are not yours to turn. If you find one false, say at which input.
  Laid BY PROGRAM, IN A SANDBOX (cutbox-rows.mjs): the forced cells as the released guide's own fill.sh prints them over the translation b744f10adb817d6f… (all of the seat's roots in one cut). By AI agents, Wed Nov 11 2026. No macro, syntax, notation, axiom, sorry.
-/
import Derived.Test.YtdjopnhbcchedaaChecked
import GoSem.Claim
import GoSem.ClaimJoined
import GoSem.ClaimMapViews
import Derived.JoinedTies
import Derived.KernelRfl
namespace Go.Proofs.Ytdjopnhbcchedaa
/- THE CELL 'sum', in the pinned program and in every row, IS THE sha256 OF THE DUMP (.gsa) THAT YtdjopnhbcchedaaProg.lean LOADS. Nothing in Lean hashes anything: it is a label: what it is worth is what the hold of that sum in a sandbox is worth. -/
noncomputable def Try.pinned : Pinned := { name := "ytdjopnhbcchedaa", sum := "b744f10adb817d6f8609e952df2d6bb4dc0236098489ae829ecf503843808a71", checked := Try.checked }
namespace Rows
def none {H : Type} : Left H := { results := [], args := [] }

/-- 'laws.FnExactIsClockRules': WHATEVER THE INPUT: true; the input reads as it did. -/
def fnExactIsClockRulesSpec : ChangeSpec := { name := "fnExactIsClockRules", fn := fun _ => fun
  | [d] => { results := [.lit (.bool true)], args := [d] }
  | _ => none }
def fnExactIsClockRulesRow : OpenClaim := { program := "ytdjopnhbcchedaa", sum := "b744f10adb817d6f8609e952df2d6bb4dc0236098489ae829ecf503843808a71", func := "loop.example/g00885/laws.FnExactIsClockRules", spec := "fnExactIsClockRules", apart := false }
def FnExactIsClockRulesSaid : Prop := fnExactIsClockRulesRow.holds Try.pinned (OpenSpec.ofChange fnExactIsClockRulesSpec)

/-- ITS FALSE NEIGHBOUR: 'it returns false'. Refute it at one input. -/
def fnExactIsClockRulesWrong : ChangeSpec := { name := "fnExactIsClockRules", fn := fun _ => fun
  | [d] => { results := [.lit (.bool false)], args := [d] }
  | _ => none }
def FnExactIsClockRulesWrongFalsely : Prop := fnExactIsClockRulesRow.holds Try.pinned (OpenSpec.ofChange fnExactIsClockRulesWrong)

/-- 'laws.FnExactStartClock': WHATEVER THE INPUT: true; the input reads as it did. -/
def fnExactStartClockSpec : ChangeSpec := { name := "fnExactStartClock", fn := fun _ => fun
  | [d1, d2, d3] => { results := [.lit (.bool true)], args := [d1, d2, d3] }
  | _ => none }
def fnExactStartClockRow : OpenClaim := { program := "ytdjopnhbcchedaa", sum := "b744f10adb817d6f8609e952df2d6bb4dc0236098489ae829ecf503843808a71", func := "loop.example/g00885/laws.FnExactStartClock", spec := "fnExactStartClock", apart := false }
def FnExactStartClockSaid : Prop := fnExactStartClockRow.holds Try.pinned (OpenSpec.ofChange fnExactStartClockSpec)

/-- ITS FALSE NEIGHBOUR: 'it returns false'. Refute it at one input. -/
def fnExactStartClockWrong : ChangeSpec := { name := "fnExactStartClock", fn := fun _ => fun
  | [d1, d2, d3] => { results := [.lit (.bool false)], args := [d1, d2, d3] }
  | _ => none }
def FnExactStartClockWrongFalsely : Prop := fnExactStartClockRow.holds Try.pinned (OpenSpec.ofChange fnExactStartClockWrong)

/-- 'laws.FnExactIsClockState': WHATEVER THE INPUT: true; the input reads as it did. -/
def fnExactIsClockStateSpec : ChangeSpec := { name := "fnExactIsClockState", fn := fun _ => fun
  | [d1, d2] => { results := [.lit (.bool true)], args := [d1, d2] }
  | _ => none }
def fnExactIsClockStateRow : OpenClaim := { program := "ytdjopnhbcchedaa", sum := "b744f10adb817d6f8609e952df2d6bb4dc0236098489ae829ecf503843808a71", func := "loop.example/g00885/laws.FnExactIsClockState", spec := "fnExactIsClockState", apart := false }
def FnExactIsClockStateSaid : Prop := fnExactIsClockStateRow.holds Try.pinned (OpenSpec.ofChange fnExactIsClockStateSpec)

/-- ITS FALSE NEIGHBOUR: 'it returns false'. Refute it at one input. -/
def fnExactIsClockStateWrong : ChangeSpec := { name := "fnExactIsClockState", fn := fun _ => fun
  | [d1, d2] => { results := [.lit (.bool false)], args := [d1, d2] }
  | _ => none }
def FnExactIsClockStateWrongFalsely : Prop := fnExactIsClockStateRow.holds Try.pinned (OpenSpec.ofChange fnExactIsClockStateWrong)

/-- 'laws.FnExactFlagTime': WHATEVER THE INPUT: true; the input reads as it did. -/
def fnExactFlagTimeSpec : ChangeSpec := { name := "fnExactFlagTime", fn := fun _ => fun
  | [d1, d2] => { results := [.lit (.bool true)], args := [d1, d2] }
  | _ => none }
def fnExactFlagTimeRow : OpenClaim := { program := "ytdjopnhbcchedaa", sum := "b744f10adb817d6f8609e952df2d6bb4dc0236098489ae829ecf503843808a71", func := "loop.example/g00885/laws.FnExactFlagTime", spec := "fnExactFlagTime", apart := false }
def FnExactFlagTimeSaid : Prop := fnExactFlagTimeRow.holds Try.pinned (OpenSpec.ofChange fnExactFlagTimeSpec)

/-- ITS FALSE NEIGHBOUR: 'it returns false'. Refute it at one input. -/
def fnExactFlagTimeWrong : ChangeSpec := { name := "fnExactFlagTime", fn := fun _ => fun
  | [d1, d2] => { results := [.lit (.bool false)], args := [d1, d2] }
  | _ => none }
def FnExactFlagTimeWrongFalsely : Prop := fnExactFlagTimeRow.holds Try.pinned (OpenSpec.ofChange fnExactFlagTimeWrong)

/-- 'laws.FnExactTimeLeft': WHATEVER THE INPUT: true; the input reads as it did. -/
def fnExactTimeLeftSpec : ChangeSpec := { name := "fnExactTimeLeft", fn := fun _ => fun
  | [d1, d2, d3, d4] => { results := [.lit (.bool true)], args := [d1, d2, d3, d4] }
  | _ => none }
def fnExactTimeLeftRow : OpenClaim := { program := "ytdjopnhbcchedaa", sum := "b744f10adb817d6f8609e952df2d6bb4dc0236098489ae829ecf503843808a71", func := "loop.example/g00885/laws.FnExactTimeLeft", spec := "fnExactTimeLeft", apart := false }
def FnExactTimeLeftSaid : Prop := fnExactTimeLeftRow.holds Try.pinned (OpenSpec.ofChange fnExactTimeLeftSpec)

/-- ITS FALSE NEIGHBOUR: 'it returns false'. Refute it at one input. -/
def fnExactTimeLeftWrong : ChangeSpec := { name := "fnExactTimeLeft", fn := fun _ => fun
  | [d1, d2, d3, d4] => { results := [.lit (.bool false)], args := [d1, d2, d3, d4] }
  | _ => none }
def FnExactTimeLeftWrongFalsely : Prop := fnExactTimeLeftRow.holds Try.pinned (OpenSpec.ofChange fnExactTimeLeftWrong)

/-- 'laws.FnRunClock': WHATEVER THE INPUT: true; the input reads as it did. -/
def fnRunClockSpec : ChangeSpec := { name := "fnRunClock", fn := fun _ => fun
  | [d] => { results := [.lit (.bool true)], args := [d] }
  | _ => none }
def fnRunClockRow : OpenClaim := { program := "ytdjopnhbcchedaa", sum := "b744f10adb817d6f8609e952df2d6bb4dc0236098489ae829ecf503843808a71", func := "loop.example/g00885/laws.FnRunClock", spec := "fnRunClock", apart := false }
def FnRunClockSaid : Prop := fnRunClockRow.holds Try.pinned (OpenSpec.ofChange fnRunClockSpec)

/-- ITS FALSE NEIGHBOUR: 'it returns false'. Refute it at one input. -/
def fnRunClockWrong : ChangeSpec := { name := "fnRunClock", fn := fun _ => fun
  | [d] => { results := [.lit (.bool false)], args := [d] }
  | _ => none }
def FnRunClockWrongFalsely : Prop := fnRunClockRow.holds Try.pinned (OpenSpec.ofChange fnRunClockWrong)

/-- 'laws.FnExactApplyEvent': WHATEVER THE INPUT: true; the input reads as it did. -/
def fnExactApplyEventSpec : ChangeSpec := { name := "fnExactApplyEvent", fn := fun _ => fun
  | [d1, d2, d3] => { results := [.lit (.bool true)], args := [d1, d2, d3] }
  | _ => none }
def fnExactApplyEventRow : OpenClaim := { program := "ytdjopnhbcchedaa", sum := "b744f10adb817d6f8609e952df2d6bb4dc0236098489ae829ecf503843808a71", func := "loop.example/g00885/laws.FnExactApplyEvent", spec := "fnExactApplyEvent", apart := false }
def FnExactApplyEventSaid : Prop := fnExactApplyEventRow.holds Try.pinned (OpenSpec.ofChange fnExactApplyEventSpec)

/-- ITS FALSE NEIGHBOUR: 'it returns false'. Refute it at one input. -/
def fnExactApplyEventWrong : ChangeSpec := { name := "fnExactApplyEvent", fn := fun _ => fun
  | [d1, d2, d3] => { results := [.lit (.bool false)], args := [d1, d2, d3] }
  | _ => none }
def FnExactApplyEventWrongFalsely : Prop := fnExactApplyEventRow.holds Try.pinned (OpenSpec.ofChange fnExactApplyEventWrong)

/-- 'laws.FnFlag': WHATEVER THE INPUT: true; the input reads as it did. -/
def fnFlagSpec : ChangeSpec := { name := "fnFlag", fn := fun _ => fun
  | [d] => { results := [.lit (.bool true)], args := [d] }
  | _ => none }
def fnFlagRow : OpenClaim := { program := "ytdjopnhbcchedaa", sum := "b744f10adb817d6f8609e952df2d6bb4dc0236098489ae829ecf503843808a71", func := "loop.example/g00885/laws.FnFlag", spec := "fnFlag", apart := false }
def FnFlagSaid : Prop := fnFlagRow.holds Try.pinned (OpenSpec.ofChange fnFlagSpec)

/-- ITS FALSE NEIGHBOUR: 'it returns false'. Refute it at one input. -/
def fnFlagWrong : ChangeSpec := { name := "fnFlag", fn := fun _ => fun
  | [d] => { results := [.lit (.bool false)], args := [d] }
  | _ => none }
def FnFlagWrongFalsely : Prop := fnFlagRow.holds Try.pinned (OpenSpec.ofChange fnFlagWrong)

/-- 'laws.FnPause': WHATEVER THE INPUT: true; the input reads as it did. -/
def fnPauseSpec : ChangeSpec := { name := "fnPause", fn := fun _ => fun
  | [d] => { results := [.lit (.bool true)], args := [d] }
  | _ => none }
def fnPauseRow : OpenClaim := { program := "ytdjopnhbcchedaa", sum := "b744f10adb817d6f8609e952df2d6bb4dc0236098489ae829ecf503843808a71", func := "loop.example/g00885/laws.FnPause", spec := "fnPause", apart := false }
def FnPauseSaid : Prop := fnPauseRow.holds Try.pinned (OpenSpec.ofChange fnPauseSpec)

/-- ITS FALSE NEIGHBOUR: 'it returns false'. Refute it at one input. -/
def fnPauseWrong : ChangeSpec := { name := "fnPause", fn := fun _ => fun
  | [d] => { results := [.lit (.bool false)], args := [d] }
  | _ => none }
def FnPauseWrongFalsely : Prop := fnPauseRow.holds Try.pinned (OpenSpec.ofChange fnPauseWrong)

/-- 'laws.FnExactRunClock': WHATEVER THE INPUT: true; the input reads as it did. -/
def fnExactRunClockSpec : ChangeSpec := { name := "fnExactRunClock", fn := fun _ => fun
  | [d1, d2, d3, d4] => { results := [.lit (.bool true)], args := [d1, d2, d3, d4] }
  | _ => none }
def fnExactRunClockRow : OpenClaim := { program := "ytdjopnhbcchedaa", sum := "b744f10adb817d6f8609e952df2d6bb4dc0236098489ae829ecf503843808a71", func := "loop.example/g00885/laws.FnExactRunClock", spec := "fnExactRunClock", apart := false }
def FnExactRunClockSaid : Prop := fnExactRunClockRow.holds Try.pinned (OpenSpec.ofChange fnExactRunClockSpec)

/-- ITS FALSE NEIGHBOUR: 'it returns false'. Refute it at one input. -/
def fnExactRunClockWrong : ChangeSpec := { name := "fnExactRunClock", fn := fun _ => fun
  | [d1, d2, d3, d4] => { results := [.lit (.bool false)], args := [d1, d2, d3, d4] }
  | _ => none }
def FnExactRunClockWrongFalsely : Prop := fnExactRunClockRow.holds Try.pinned (OpenSpec.ofChange fnExactRunClockWrong)

/- THE SECOND FORM. 'bulk': how many values and letters a reading holds, each counted each time it is reached (what is shared counts as often as it is met; a slice's spare places count too). A statement '..UptoSaid' is the law's where the arguments, and the package variables that the reading takes, are together of bulk at most 1048576: NARROWER than '..Said'. Prove '..Said' where nothing that the law and all that it calls make is longer than what came in: it says more and counts as full. Else prove '..UptoSaid'. A law counts once. -/
mutual
def uptoBulk {H : Type} : DataW H → Nat
  | .lit (.string bytes) => bytes.length + 1
  | .lit _ => 1
  | .nil => 1
  | .ptr d => uptoBulk d + 1
  | .slice elems spare => uptoBulkAll elems + uptoBulkAll spare + 1
  | .agg parts => uptoBulkAll parts + 1
  | .iface _ d => uptoBulk d + 1
  | .map entries => uptoBulkEntries entries + 1
  | .held _ => 1
def uptoBulkAll {H : Type} : List (DataW H) → Nat
  | [] => 0
  | d :: r => uptoBulk d + uptoBulkAll r
def uptoBulkEntries {H : Type} : List (Lit × DataW H) → Nat
  | [] => 0
  | x :: r => uptoBulkEntry x + uptoBulkEntries r
def uptoBulkEntry {H : Type} : Lit × DataW H → Nat
  | (.string bytes, d) => bytes.length + uptoBulk d + 1
  | (_, d) => uptoBulk d + 1
 end
def uptoSmall : (H : Type) → List (DataW H) → Bool := fun _ ds => decide (uptoBulkAll ds ≤ 1048576)
def OpenSpec.upto (s : _root_.Go.ChangeSpec) : _root_.Go.OpenSpec := { _root_.Go.OpenSpec.ofChange s with cond := some uptoSmall }

/-- 'laws.FnExactIsClockRules', WHERE WHAT IT READS IS OF BULK AT MOST 1048576: true; the input reads as it did. -/
def fnExactIsClockRulesUptoRow : OpenClaim := { program := "ytdjopnhbcchedaa", sum := "b744f10adb817d6f8609e952df2d6bb4dc0236098489ae829ecf503843808a71", func := "loop.example/g00885/laws.FnExactIsClockRules", spec := "fnExactIsClockRules", apart := false, narrowed := true }
def FnExactIsClockRulesUptoSaid : Prop := fnExactIsClockRulesUptoRow.holds Try.pinned (OpenSpec.upto fnExactIsClockRulesSpec)

/-- 'laws.FnExactStartClock', WHERE WHAT IT READS IS OF BULK AT MOST 1048576: true; the input reads as it did. -/
def fnExactStartClockUptoRow : OpenClaim := { program := "ytdjopnhbcchedaa", sum := "b744f10adb817d6f8609e952df2d6bb4dc0236098489ae829ecf503843808a71", func := "loop.example/g00885/laws.FnExactStartClock", spec := "fnExactStartClock", apart := false, narrowed := true }
def FnExactStartClockUptoSaid : Prop := fnExactStartClockUptoRow.holds Try.pinned (OpenSpec.upto fnExactStartClockSpec)

/-- 'laws.FnExactIsClockState', WHERE WHAT IT READS IS OF BULK AT MOST 1048576: true; the input reads as it did. -/
def fnExactIsClockStateUptoRow : OpenClaim := { program := "ytdjopnhbcchedaa", sum := "b744f10adb817d6f8609e952df2d6bb4dc0236098489ae829ecf503843808a71", func := "loop.example/g00885/laws.FnExactIsClockState", spec := "fnExactIsClockState", apart := false, narrowed := true }
def FnExactIsClockStateUptoSaid : Prop := fnExactIsClockStateUptoRow.holds Try.pinned (OpenSpec.upto fnExactIsClockStateSpec)

/-- 'laws.FnExactFlagTime', WHERE WHAT IT READS IS OF BULK AT MOST 1048576: true; the input reads as it did. -/
def fnExactFlagTimeUptoRow : OpenClaim := { program := "ytdjopnhbcchedaa", sum := "b744f10adb817d6f8609e952df2d6bb4dc0236098489ae829ecf503843808a71", func := "loop.example/g00885/laws.FnExactFlagTime", spec := "fnExactFlagTime", apart := false, narrowed := true }
def FnExactFlagTimeUptoSaid : Prop := fnExactFlagTimeUptoRow.holds Try.pinned (OpenSpec.upto fnExactFlagTimeSpec)

/-- 'laws.FnExactTimeLeft', WHERE WHAT IT READS IS OF BULK AT MOST 1048576: true; the input reads as it did. -/
def fnExactTimeLeftUptoRow : OpenClaim := { program := "ytdjopnhbcchedaa", sum := "b744f10adb817d6f8609e952df2d6bb4dc0236098489ae829ecf503843808a71", func := "loop.example/g00885/laws.FnExactTimeLeft", spec := "fnExactTimeLeft", apart := false, narrowed := true }
def FnExactTimeLeftUptoSaid : Prop := fnExactTimeLeftUptoRow.holds Try.pinned (OpenSpec.upto fnExactTimeLeftSpec)

/-- 'laws.FnRunClock', WHERE WHAT IT READS IS OF BULK AT MOST 1048576: true; the input reads as it did. -/
def fnRunClockUptoRow : OpenClaim := { program := "ytdjopnhbcchedaa", sum := "b744f10adb817d6f8609e952df2d6bb4dc0236098489ae829ecf503843808a71", func := "loop.example/g00885/laws.FnRunClock", spec := "fnRunClock", apart := false, narrowed := true }
def FnRunClockUptoSaid : Prop := fnRunClockUptoRow.holds Try.pinned (OpenSpec.upto fnRunClockSpec)

/-- 'laws.FnExactApplyEvent', WHERE WHAT IT READS IS OF BULK AT MOST 1048576: true; the input reads as it did. -/
def fnExactApplyEventUptoRow : OpenClaim := { program := "ytdjopnhbcchedaa", sum := "b744f10adb817d6f8609e952df2d6bb4dc0236098489ae829ecf503843808a71", func := "loop.example/g00885/laws.FnExactApplyEvent", spec := "fnExactApplyEvent", apart := false, narrowed := true }
def FnExactApplyEventUptoSaid : Prop := fnExactApplyEventUptoRow.holds Try.pinned (OpenSpec.upto fnExactApplyEventSpec)

/-- 'laws.FnFlag', WHERE WHAT IT READS IS OF BULK AT MOST 1048576: true; the input reads as it did. -/
def fnFlagUptoRow : OpenClaim := { program := "ytdjopnhbcchedaa", sum := "b744f10adb817d6f8609e952df2d6bb4dc0236098489ae829ecf503843808a71", func := "loop.example/g00885/laws.FnFlag", spec := "fnFlag", apart := false, narrowed := true }
def FnFlagUptoSaid : Prop := fnFlagUptoRow.holds Try.pinned (OpenSpec.upto fnFlagSpec)

/-- 'laws.FnPause', WHERE WHAT IT READS IS OF BULK AT MOST 1048576: true; the input reads as it did. -/
def fnPauseUptoRow : OpenClaim := { program := "ytdjopnhbcchedaa", sum := "b744f10adb817d6f8609e952df2d6bb4dc0236098489ae829ecf503843808a71", func := "loop.example/g00885/laws.FnPause", spec := "fnPause", apart := false, narrowed := true }
def FnPauseUptoSaid : Prop := fnPauseUptoRow.holds Try.pinned (OpenSpec.upto fnPauseSpec)

/-- 'laws.FnExactRunClock', WHERE WHAT IT READS IS OF BULK AT MOST 1048576: true; the input reads as it did. -/
def fnExactRunClockUptoRow : OpenClaim := { program := "ytdjopnhbcchedaa", sum := "b744f10adb817d6f8609e952df2d6bb4dc0236098489ae829ecf503843808a71", func := "loop.example/g00885/laws.FnExactRunClock", spec := "fnExactRunClock", apart := false, narrowed := true }
def FnExactRunClockUptoSaid : Prop := fnExactRunClockUptoRow.holds Try.pinned (OpenSpec.upto fnExactRunClockSpec)

end Rows
end Go.Proofs.Ytdjopnhbcchedaa
