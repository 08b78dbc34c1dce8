/-
  No cell of these rows narrows 'for every input' (looked for: loops, veiled, ifaces, maps, wideKeys, modest, calm, conditions, laid).
  DERIVED. THE GIVEN ROWS OF THIS SEAT. 5 by the template 'for every input the law returns true; each argument reads behind the call as it read before'; 0 by the template 'total and deterministic' (their statements: YtahpdboehpicoaaTotals.lean).
  GIVEN WITH THE SEED: the statements are not yours to turn. If you find one false, say at which input.
  Laid BY PROGRAM, IN A SANDBOX (cutbox-rows.mjs): the forced cells as the released guide's own fill.sh prints them over the translation c5fc4892736d36ac… (all of the seat's roots in one cut). By AI agents, Wed Nov 11 2026. No macro, syntax, notation, axiom, sorry.
-/
import Derived.Test.YtahpdboehpicoaaChecked
import GoSem.Claim
import GoSem.ClaimJoined
import GoSem.ClaimMapViews
import Derived.JoinedTies
import Derived.KernelRfl
namespace Go.Proofs.Ytahpdboehpicoaa
/- THE CELL 'sum', in the pinned program and in every row, IS THE sha256 OF THE DUMP (.gsa) THAT YtahpdboehpicoaaProg.lean LOADS. Nothing in Lean hashes anything: it is a label: what it is worth is what the hold of that sum in a sandbox is worth. -/
noncomputable def Try.pinned : Pinned := { name := "ytahpdboehpicoaa", sum := "c5fc4892736d36ac049e2e2f1666d4b34d2f0536d7e1bbba75839635aed33c5f", checked := Try.checked }
namespace Rows
def none {H : Type} : Left H := { results := [], args := [] }

/-- 'laws.FnExactGradeOf': WHATEVER THE INPUT: true; the input reads as it did. -/
def fnExactGradeOfSpec : ChangeSpec := { name := "fnExactGradeOf", fn := fun _ => fun
  | [d] => { results := [.lit (.bool true)], args := [d] }
  | _ => none }
def fnExactGradeOfRow : OpenClaim := { program := "ytahpdboehpicoaa", sum := "c5fc4892736d36ac049e2e2f1666d4b34d2f0536d7e1bbba75839635aed33c5f", func := "loop.example/g00885/laws.FnExactGradeOf", spec := "fnExactGradeOf", apart := false }
def FnExactGradeOfSaid : Prop := fnExactGradeOfRow.holds Try.pinned (OpenSpec.ofChange fnExactGradeOfSpec)

/-- ITS FALSE NEIGHBOUR: 'it returns false'. Refute it at one input. -/
def fnExactGradeOfWrong : ChangeSpec := { name := "fnExactGradeOf", fn := fun _ => fun
  | [d] => { results := [.lit (.bool false)], args := [d] }
  | _ => none }
def FnExactGradeOfWrongFalsely : Prop := fnExactGradeOfRow.holds Try.pinned (OpenSpec.ofChange fnExactGradeOfWrong)

/-- 'laws.FnExactChecksumOf': WHATEVER THE INPUT: true; the input reads as it did. -/
def fnExactChecksumOfSpec : ChangeSpec := { name := "fnExactChecksumOf", fn := fun _ => fun
  | [d] => { results := [.lit (.bool true)], args := [d] }
  | _ => none }
def fnExactChecksumOfRow : OpenClaim := { program := "ytahpdboehpicoaa", sum := "c5fc4892736d36ac049e2e2f1666d4b34d2f0536d7e1bbba75839635aed33c5f", func := "loop.example/g00885/laws.FnExactChecksumOf", spec := "fnExactChecksumOf", apart := false }
def FnExactChecksumOfSaid : Prop := fnExactChecksumOfRow.holds Try.pinned (OpenSpec.ofChange fnExactChecksumOfSpec)

/-- ITS FALSE NEIGHBOUR: 'it returns false'. Refute it at one input. -/
def fnExactChecksumOfWrong : ChangeSpec := { name := "fnExactChecksumOf", fn := fun _ => fun
  | [d] => { results := [.lit (.bool false)], args := [d] }
  | _ => none }
def FnExactChecksumOfWrongFalsely : Prop := fnExactChecksumOfRow.holds Try.pinned (OpenSpec.ofChange fnExactChecksumOfWrong)

/-- 'laws.FnExactRecordOf': WHATEVER THE INPUT: true; the input reads as it did. -/
def fnExactRecordOfSpec : ChangeSpec := { name := "fnExactRecordOf", fn := fun _ => fun
  | [d] => { results := [.lit (.bool true)], args := [d] }
  | _ => none }
def fnExactRecordOfRow : OpenClaim := { program := "ytahpdboehpicoaa", sum := "c5fc4892736d36ac049e2e2f1666d4b34d2f0536d7e1bbba75839635aed33c5f", func := "loop.example/g00885/laws.FnExactRecordOf", spec := "fnExactRecordOf", apart := false }
def FnExactRecordOfSaid : Prop := fnExactRecordOfRow.holds Try.pinned (OpenSpec.ofChange fnExactRecordOfSpec)

/-- ITS FALSE NEIGHBOUR: 'it returns false'. Refute it at one input. -/
def fnExactRecordOfWrong : ChangeSpec := { name := "fnExactRecordOf", fn := fun _ => fun
  | [d] => { results := [.lit (.bool false)], args := [d] }
  | _ => none }
def FnExactRecordOfWrongFalsely : Prop := fnExactRecordOfRow.holds Try.pinned (OpenSpec.ofChange fnExactRecordOfWrong)

/-- 'laws.FnExactErrorRate': WHATEVER THE INPUT: true; the input reads as it did. -/
def fnExactErrorRateSpec : ChangeSpec := { name := "fnExactErrorRate", fn := fun _ => fun
  | [d] => { results := [.lit (.bool true)], args := [d] }
  | _ => none }
def fnExactErrorRateRow : OpenClaim := { program := "ytahpdboehpicoaa", sum := "c5fc4892736d36ac049e2e2f1666d4b34d2f0536d7e1bbba75839635aed33c5f", func := "loop.example/g00885/laws.FnExactErrorRate", spec := "fnExactErrorRate", apart := false }
def FnExactErrorRateSaid : Prop := fnExactErrorRateRow.holds Try.pinned (OpenSpec.ofChange fnExactErrorRateSpec)

/-- ITS FALSE NEIGHBOUR: 'it returns false'. Refute it at one input. -/
def fnExactErrorRateWrong : ChangeSpec := { name := "fnExactErrorRate", fn := fun _ => fun
  | [d] => { results := [.lit (.bool false)], args := [d] }
  | _ => none }
def FnExactErrorRateWrongFalsely : Prop := fnExactErrorRateRow.holds Try.pinned (OpenSpec.ofChange fnExactErrorRateWrong)

/-- 'laws.FnExactSummaryOf': WHATEVER THE INPUT: true; the input reads as it did. -/
def fnExactSummaryOfSpec : ChangeSpec := { name := "fnExactSummaryOf", fn := fun _ => fun
  | [d1, d2] => { results := [.lit (.bool true)], args := [d1, d2] }
  | _ => none }
def fnExactSummaryOfRow : OpenClaim := { program := "ytahpdboehpicoaa", sum := "c5fc4892736d36ac049e2e2f1666d4b34d2f0536d7e1bbba75839635aed33c5f", func := "loop.example/g00885/laws.FnExactSummaryOf", spec := "fnExactSummaryOf", apart := false }
def FnExactSummaryOfSaid : Prop := fnExactSummaryOfRow.holds Try.pinned (OpenSpec.ofChange fnExactSummaryOfSpec)

/-- ITS FALSE NEIGHBOUR: 'it returns false'. Refute it at one input. -/
def fnExactSummaryOfWrong : ChangeSpec := { name := "fnExactSummaryOf", fn := fun _ => fun
  | [d1, d2] => { results := [.lit (.bool false)], args := [d1, d2] }
  | _ => none }
def FnExactSummaryOfWrongFalsely : Prop := fnExactSummaryOfRow.holds Try.pinned (OpenSpec.ofChange fnExactSummaryOfWrong)

/- THE SECOND FORM. 'bulk': how many values and letters a reading holds, each counted each time it is reached (what is shared counts as often as it is met; a slice's spare places count too). A statement '..UptoSaid' is the law's where the arguments, and the package variables that the reading takes, are together of bulk at most 1048576: NARROWER than '..Said'. Prove '..Said' where nothing that the law and all that it calls make is longer than what came in: it says more and counts as full. Else prove '..UptoSaid'. A law counts once. -/
mutual
def uptoBulk {H : Type} : DataW H → Nat
  | .lit (.string bytes) => bytes.length + 1
  | .lit _ => 1
  | .nil => 1
  | .ptr d => uptoBulk d + 1
  | .slice elems spare => uptoBulkAll elems + uptoBulkAll spare + 1
  | .agg parts => uptoBulkAll parts + 1
  | .iface _ d => uptoBulk d + 1
  | .map entries => uptoBulkEntries entries + 1
  | .held _ => 1
def uptoBulkAll {H : Type} : List (DataW H) → Nat
  | [] => 0
  | d :: r => uptoBulk d + uptoBulkAll r
def uptoBulkEntries {H : Type} : List (Lit × DataW H) → Nat
  | [] => 0
  | x :: r => uptoBulkEntry x + uptoBulkEntries r
def uptoBulkEntry {H : Type} : Lit × DataW H → Nat
  | (.string bytes, d) => bytes.length + uptoBulk d + 1
  | (_, d) => uptoBulk d + 1
 end
def uptoSmall : (H : Type) → List (DataW H) → Bool := fun _ ds => decide (uptoBulkAll ds ≤ 1048576)
def OpenSpec.upto (s : _root_.Go.ChangeSpec) : _root_.Go.OpenSpec := { _root_.Go.OpenSpec.ofChange s with cond := some uptoSmall }

/-- 'laws.FnExactGradeOf', WHERE WHAT IT READS IS OF BULK AT MOST 1048576: true; the input reads as it did. -/
def fnExactGradeOfUptoRow : OpenClaim := { program := "ytahpdboehpicoaa", sum := "c5fc4892736d36ac049e2e2f1666d4b34d2f0536d7e1bbba75839635aed33c5f", func := "loop.example/g00885/laws.FnExactGradeOf", spec := "fnExactGradeOf", apart := false, narrowed := true }
def FnExactGradeOfUptoSaid : Prop := fnExactGradeOfUptoRow.holds Try.pinned (OpenSpec.upto fnExactGradeOfSpec)

/-- 'laws.FnExactChecksumOf', WHERE WHAT IT READS IS OF BULK AT MOST 1048576: true; the input reads as it did. -/
def fnExactChecksumOfUptoRow : OpenClaim := { program := "ytahpdboehpicoaa", sum := "c5fc4892736d36ac049e2e2f1666d4b34d2f0536d7e1bbba75839635aed33c5f", func := "loop.example/g00885/laws.FnExactChecksumOf", spec := "fnExactChecksumOf", apart := false, narrowed := true }
def FnExactChecksumOfUptoSaid : Prop := fnExactChecksumOfUptoRow.holds Try.pinned (OpenSpec.upto fnExactChecksumOfSpec)

/-- 'laws.FnExactRecordOf', WHERE WHAT IT READS IS OF BULK AT MOST 1048576: true; the input reads as it did. -/
def fnExactRecordOfUptoRow : OpenClaim := { program := "ytahpdboehpicoaa", sum := "c5fc4892736d36ac049e2e2f1666d4b34d2f0536d7e1bbba75839635aed33c5f", func := "loop.example/g00885/laws.FnExactRecordOf", spec := "fnExactRecordOf", apart := false, narrowed := true }
def FnExactRecordOfUptoSaid : Prop := fnExactRecordOfUptoRow.holds Try.pinned (OpenSpec.upto fnExactRecordOfSpec)

/-- 'laws.FnExactErrorRate', WHERE WHAT IT READS IS OF BULK AT MOST 1048576: true; the input reads as it did. -/
def fnExactErrorRateUptoRow : OpenClaim := { program := "ytahpdboehpicoaa", sum := "c5fc4892736d36ac049e2e2f1666d4b34d2f0536d7e1bbba75839635aed33c5f", func := "loop.example/g00885/laws.FnExactErrorRate", spec := "fnExactErrorRate", apart := false, narrowed := true }
def FnExactErrorRateUptoSaid : Prop := fnExactErrorRateUptoRow.holds Try.pinned (OpenSpec.upto fnExactErrorRateSpec)

/-- 'laws.FnExactSummaryOf', WHERE WHAT IT READS IS OF BULK AT MOST 1048576: true; the input reads as it did. -/
def fnExactSummaryOfUptoRow : OpenClaim := { program := "ytahpdboehpicoaa", sum := "c5fc4892736d36ac049e2e2f1666d4b34d2f0536d7e1bbba75839635aed33c5f", func := "loop.example/g00885/laws.FnExactSummaryOf", spec := "fnExactSummaryOf", apart := false, narrowed := true }
def FnExactSummaryOfUptoSaid : Prop := fnExactSummaryOfUptoRow.holds Try.pinned (OpenSpec.upto fnExactSummaryOfSpec)

end Rows
end Go.Proofs.Ytahpdboehpicoaa
