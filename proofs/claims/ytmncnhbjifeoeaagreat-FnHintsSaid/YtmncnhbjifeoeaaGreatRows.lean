/-
  No cell of these rows narrows 'for every input' (looked for: loops, veiled, ifaces, maps, wideKeys, modest, calm, conditions, laid).
  DERIVED. THE GIVEN ROWS OF THIS SEAT. 3 by the template 'for every input the law returns true; each argument reads behind the call as it read before'; 0 by the template 'total and deterministic' (their statements: YtmncnhbjifeoeaaGreatTotals.lean).
  GIVEN WITH THE SEED: the statements are not yours to turn. If you find one false, say at which input.
  Laid BY PROGRAM, IN A SANDBOX (cutbox-rows.mjs): the forced cells as the released guide's own fill.sh prints them over the translation 29cb7e08b94d558a… (all of the seat's roots in one cut). By AI agents, Wed Nov 11 2026. No macro, syntax, notation, axiom, sorry.
-/
import Derived.Test.YtmncnhbjifeoeaaGreatChecked
import GoSem.Claim
import GoSem.ClaimJoined
import GoSem.ClaimMapViews
import Derived.JoinedTies
import Derived.KernelRfl
namespace Go.Proofs.YtmncnhbjifeoeaaGreat
/- THE CELL 'sum', in the pinned program and in every row, IS THE sha256 OF THE DUMP (.gsa) THAT YtmncnhbjifeoeaaGreatProg.lean LOADS. Nothing in Lean hashes anything: it is a label: what it is worth is what the hold of that sum in a sandbox is worth. -/
noncomputable def Tryz.pinned : Pinned := { name := "ytmncnhbjifeoeaagreat", sum := "29cb7e08b94d558a7f5b8f4da6f02fe5df7917ccfdee715f8334c77d40b99510", checked := Tryz.checked }
namespace Rows
def none {H : Type} : Left H := { results := [], args := [] }

/-- 'laws.FnHints': WHATEVER THE INPUT: true; the input reads as it did. -/
def fnHintsSpec : ChangeSpec := { name := "fnHints", fn := fun _ => fun
  | [d] => { results := [.lit (.bool true)], args := [d] }
  | _ => none }
def fnHintsRow : OpenClaim := { program := "ytmncnhbjifeoeaagreat", sum := "29cb7e08b94d558a7f5b8f4da6f02fe5df7917ccfdee715f8334c77d40b99510", func := "loop.example/g00885/laws.FnHints", spec := "fnHints", recurses := true, apart := false }
def FnHintsSaid : Prop := fnHintsRow.holds Tryz.pinned (OpenSpec.ofChange fnHintsSpec)

/-- ITS FALSE NEIGHBOUR: 'it returns false'. Refute it at one input. -/
def fnHintsWrong : ChangeSpec := { name := "fnHints", fn := fun _ => fun
  | [d] => { results := [.lit (.bool false)], args := [d] }
  | _ => none }
def FnHintsWrongFalsely : Prop := fnHintsRow.holds Tryz.pinned (OpenSpec.ofChange fnHintsWrong)

/-- 'laws.FnVerdicts': WHATEVER THE INPUT: true; the input reads as it did. -/
def fnVerdictsSpec : ChangeSpec := { name := "fnVerdicts", fn := fun _ => fun
  | [d] => { results := [.lit (.bool true)], args := [d] }
  | _ => none }
def fnVerdictsRow : OpenClaim := { program := "ytmncnhbjifeoeaagreat", sum := "29cb7e08b94d558a7f5b8f4da6f02fe5df7917ccfdee715f8334c77d40b99510", func := "loop.example/g00885/laws.FnVerdicts", spec := "fnVerdicts", recurses := true, apart := false }
def FnVerdictsSaid : Prop := fnVerdictsRow.holds Tryz.pinned (OpenSpec.ofChange fnVerdictsSpec)

/-- ITS FALSE NEIGHBOUR: 'it returns false'. Refute it at one input. -/
def fnVerdictsWrong : ChangeSpec := { name := "fnVerdicts", fn := fun _ => fun
  | [d] => { results := [.lit (.bool false)], args := [d] }
  | _ => none }
def FnVerdictsWrongFalsely : Prop := fnVerdictsRow.holds Tryz.pinned (OpenSpec.ofChange fnVerdictsWrong)

/-- 'laws.FnExactReviewMatch': WHATEVER THE INPUT: true; the input reads as it did. -/
def fnExactReviewMatchSpec : ChangeSpec := { name := "fnExactReviewMatch", fn := fun _ => fun
  | [d1, d2] => { results := [.lit (.bool true)], args := [d1, d2] }
  | _ => none }
def fnExactReviewMatchRow : OpenClaim := { program := "ytmncnhbjifeoeaagreat", sum := "29cb7e08b94d558a7f5b8f4da6f02fe5df7917ccfdee715f8334c77d40b99510", func := "loop.example/g00885/laws.FnExactReviewMatch", spec := "fnExactReviewMatch", recurses := true, apart := false }
def FnExactReviewMatchSaid : Prop := fnExactReviewMatchRow.holds Tryz.pinned (OpenSpec.ofChange fnExactReviewMatchSpec)

/-- ITS FALSE NEIGHBOUR: 'it returns false'. Refute it at one input. -/
def fnExactReviewMatchWrong : ChangeSpec := { name := "fnExactReviewMatch", fn := fun _ => fun
  | [d1, d2] => { results := [.lit (.bool false)], args := [d1, d2] }
  | _ => none }
def FnExactReviewMatchWrongFalsely : Prop := fnExactReviewMatchRow.holds Tryz.pinned (OpenSpec.ofChange fnExactReviewMatchWrong)

/- THE SECOND FORM. 'bulk': how many values and letters a reading holds, each counted each time it is reached (what is shared counts as often as it is met; a slice's spare places count too). A statement '..UptoSaid' is the law's where the arguments, and the package variables that the reading takes, are together of bulk at most 1048576: NARROWER than '..Said'. Prove '..Said' where nothing that the law and all that it calls make is longer than what came in: it says more and counts as full. Else prove '..UptoSaid'. A law counts once. -/
mutual
def uptoBulk {H : Type} : DataW H → Nat
  | .lit (.string bytes) => bytes.length + 1
  | .lit _ => 1
  | .nil => 1
  | .ptr d => uptoBulk d + 1
  | .slice elems spare => uptoBulkAll elems + uptoBulkAll spare + 1
  | .agg parts => uptoBulkAll parts + 1
  | .iface _ d => uptoBulk d + 1
  | .map entries => uptoBulkEntries entries + 1
  | .held _ => 1
def uptoBulkAll {H : Type} : List (DataW H) → Nat
  | [] => 0
  | d :: r => uptoBulk d + uptoBulkAll r
def uptoBulkEntries {H : Type} : List (Lit × DataW H) → Nat
  | [] => 0
  | x :: r => uptoBulkEntry x + uptoBulkEntries r
def uptoBulkEntry {H : Type} : Lit × DataW H → Nat
  | (.string bytes, d) => bytes.length + uptoBulk d + 1
  | (_, d) => uptoBulk d + 1
 end
def uptoSmall : (H : Type) → List (DataW H) → Bool := fun _ ds => decide (uptoBulkAll ds ≤ 1048576)
def OpenSpec.upto (s : _root_.Go.ChangeSpec) : _root_.Go.OpenSpec := { _root_.Go.OpenSpec.ofChange s with cond := some uptoSmall }

/-- 'laws.FnHints', WHERE WHAT IT READS IS OF BULK AT MOST 1048576: true; the input reads as it did. -/
def fnHintsUptoRow : OpenClaim := { program := "ytmncnhbjifeoeaagreat", sum := "29cb7e08b94d558a7f5b8f4da6f02fe5df7917ccfdee715f8334c77d40b99510", func := "loop.example/g00885/laws.FnHints", spec := "fnHints", recurses := true, apart := false, narrowed := true }
def FnHintsUptoSaid : Prop := fnHintsUptoRow.holds Tryz.pinned (OpenSpec.upto fnHintsSpec)

/-- 'laws.FnVerdicts', WHERE WHAT IT READS IS OF BULK AT MOST 1048576: true; the input reads as it did. -/
def fnVerdictsUptoRow : OpenClaim := { program := "ytmncnhbjifeoeaagreat", sum := "29cb7e08b94d558a7f5b8f4da6f02fe5df7917ccfdee715f8334c77d40b99510", func := "loop.example/g00885/laws.FnVerdicts", spec := "fnVerdicts", recurses := true, apart := false, narrowed := true }
def FnVerdictsUptoSaid : Prop := fnVerdictsUptoRow.holds Tryz.pinned (OpenSpec.upto fnVerdictsSpec)

/-- 'laws.FnExactReviewMatch', WHERE WHAT IT READS IS OF BULK AT MOST 1048576: true; the input reads as it did. -/
def fnExactReviewMatchUptoRow : OpenClaim := { program := "ytmncnhbjifeoeaagreat", sum := "29cb7e08b94d558a7f5b8f4da6f02fe5df7917ccfdee715f8334c77d40b99510", func := "loop.example/g00885/laws.FnExactReviewMatch", spec := "fnExactReviewMatch", recurses := true, apart := false, narrowed := true }
def FnExactReviewMatchUptoSaid : Prop := fnExactReviewMatchUptoRow.holds Tryz.pinned (OpenSpec.upto fnExactReviewMatchSpec)

end Rows
end Go.Proofs.YtmncnhbjifeoeaaGreat
