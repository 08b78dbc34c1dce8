/-
  No cell of these rows narrows 'for every input' (looked for: loops, veiled, ifaces, maps, wideKeys, modest, calm, conditions, laid).
  DERIVED. THE GIVEN ROWS OF THIS SEAT. 6 by the template 'for every input the law returns true; each argument reads behind the call as it read before'; 0 by the template 'total and deterministic' (their statements: YtjmckpaemmjcmaaTotals.lean).
  GIVEN WITH THE SEED: the statements are not yours to turn. If you find one false, say at which input.
  Laid BY PROGRAM, IN A SANDBOX (cutbox-rows.mjs): the forced cells as the released guide's own fill.sh prints them over the translation cc8497ea369ae216… (all of the seat's roots in one cut). By AI agents, Wed Nov 11 2026. No macro, syntax, notation, axiom, sorry.
-/
import Derived.Test.YtjmckpaemmjcmaaChecked
import GoSem.Claim
import GoSem.ClaimJoined
import GoSem.ClaimMapViews
import Derived.JoinedTies
import Derived.KernelRfl
namespace Go.Proofs.Ytjmckpaemmjcmaa
/- THE CELL 'sum', in the pinned program and in every row, IS THE sha256 OF THE DUMP (.gsa) THAT YtjmckpaemmjcmaaProg.lean LOADS. Nothing in Lean hashes anything: it is a label: what it is worth is what the hold of that sum in a sandbox is worth. -/
noncomputable def Try.pinned : Pinned := { name := "ytjmckpaemmjcmaa", sum := "cc8497ea369ae21659c81ef2dbc329a8562c136e9b96bd2f0773668944c2ac8b", checked := Try.checked }
namespace Rows
def none {H : Type} : Left H := { results := [], args := [] }

/-- 'laws.FnExactIsRating': WHATEVER THE INPUT: true; the input reads as it did. -/
def fnExactIsRatingSpec : ChangeSpec := { name := "fnExactIsRating", fn := fun _ => fun
  | [d] => { results := [.lit (.bool true)], args := [d] }
  | _ => none }
def fnExactIsRatingRow : OpenClaim := { program := "ytjmckpaemmjcmaa", sum := "cc8497ea369ae21659c81ef2dbc329a8562c136e9b96bd2f0773668944c2ac8b", func := "loop.example/g00885/laws.FnExactIsRating", spec := "fnExactIsRating", apart := false }
def FnExactIsRatingSaid : Prop := fnExactIsRatingRow.holds Try.pinned (OpenSpec.ofChange fnExactIsRatingSpec)

/-- ITS FALSE NEIGHBOUR: 'it returns false'. Refute it at one input. -/
def fnExactIsRatingWrong : ChangeSpec := { name := "fnExactIsRating", fn := fun _ => fun
  | [d] => { results := [.lit (.bool false)], args := [d] }
  | _ => none }
def FnExactIsRatingWrongFalsely : Prop := fnExactIsRatingRow.holds Try.pinned (OpenSpec.ofChange fnExactIsRatingWrong)

/-- 'laws.FnExactWeightFor': WHATEVER THE INPUT: true; the input reads as it did. -/
def fnExactWeightForSpec : ChangeSpec := { name := "fnExactWeightFor", fn := fun _ => fun
  | [d] => { results := [.lit (.bool true)], args := [d] }
  | _ => none }
def fnExactWeightForRow : OpenClaim := { program := "ytjmckpaemmjcmaa", sum := "cc8497ea369ae21659c81ef2dbc329a8562c136e9b96bd2f0773668944c2ac8b", func := "loop.example/g00885/laws.FnExactWeightFor", spec := "fnExactWeightFor", apart := false }
def FnExactWeightForSaid : Prop := fnExactWeightForRow.holds Try.pinned (OpenSpec.ofChange fnExactWeightForSpec)

/-- ITS FALSE NEIGHBOUR: 'it returns false'. Refute it at one input. -/
def fnExactWeightForWrong : ChangeSpec := { name := "fnExactWeightFor", fn := fun _ => fun
  | [d] => { results := [.lit (.bool false)], args := [d] }
  | _ => none }
def FnExactWeightForWrongFalsely : Prop := fnExactWeightForRow.holds Try.pinned (OpenSpec.ofChange fnExactWeightForWrong)

/-- 'laws.FnExactLengthFactor': WHATEVER THE INPUT: true; the input reads as it did. -/
def fnExactLengthFactorSpec : ChangeSpec := { name := "fnExactLengthFactor", fn := fun _ => fun
  | [d] => { results := [.lit (.bool true)], args := [d] }
  | _ => none }
def fnExactLengthFactorRow : OpenClaim := { program := "ytjmckpaemmjcmaa", sum := "cc8497ea369ae21659c81ef2dbc329a8562c136e9b96bd2f0773668944c2ac8b", func := "loop.example/g00885/laws.FnExactLengthFactor", spec := "fnExactLengthFactor", apart := false }
def FnExactLengthFactorSaid : Prop := fnExactLengthFactorRow.holds Try.pinned (OpenSpec.ofChange fnExactLengthFactorSpec)

/-- ITS FALSE NEIGHBOUR: 'it returns false'. Refute it at one input. -/
def fnExactLengthFactorWrong : ChangeSpec := { name := "fnExactLengthFactor", fn := fun _ => fun
  | [d] => { results := [.lit (.bool false)], args := [d] }
  | _ => none }
def FnExactLengthFactorWrongFalsely : Prop := fnExactLengthFactorRow.holds Try.pinned (OpenSpec.ofChange fnExactLengthFactorWrong)

/-- 'laws.FnExactIsRatingList': WHATEVER THE INPUT: true; the input reads as it did. -/
def fnExactIsRatingListSpec : ChangeSpec := { name := "fnExactIsRatingList", fn := fun _ => fun
  | [d1, d2] => { results := [.lit (.bool true)], args := [d1, d2] }
  | _ => none }
def fnExactIsRatingListRow : OpenClaim := { program := "ytjmckpaemmjcmaa", sum := "cc8497ea369ae21659c81ef2dbc329a8562c136e9b96bd2f0773668944c2ac8b", func := "loop.example/g00885/laws.FnExactIsRatingList", spec := "fnExactIsRatingList", apart := false }
def FnExactIsRatingListSaid : Prop := fnExactIsRatingListRow.holds Try.pinned (OpenSpec.ofChange fnExactIsRatingListSpec)

/-- ITS FALSE NEIGHBOUR: 'it returns false'. Refute it at one input. -/
def fnExactIsRatingListWrong : ChangeSpec := { name := "fnExactIsRatingList", fn := fun _ => fun
  | [d1, d2] => { results := [.lit (.bool false)], args := [d1, d2] }
  | _ => none }
def FnExactIsRatingListWrongFalsely : Prop := fnExactIsRatingListRow.holds Try.pinned (OpenSpec.ofChange fnExactIsRatingListWrong)

/-- 'laws.FnRanking': WHATEVER THE INPUT: true; the input reads as it did. -/
def fnRankingSpec : ChangeSpec := { name := "fnRanking", fn := fun _ => fun
  | [d] => { results := [.lit (.bool true)], args := [d] }
  | _ => none }
def fnRankingRow : OpenClaim := { program := "ytjmckpaemmjcmaa", sum := "cc8497ea369ae21659c81ef2dbc329a8562c136e9b96bd2f0773668944c2ac8b", func := "loop.example/g00885/laws.FnRanking", spec := "fnRanking", unfollowed := true, recurses := true, apart := false }
def FnRankingSaid : Prop := fnRankingRow.holds Try.pinned (OpenSpec.ofChange fnRankingSpec)

/-- ITS FALSE NEIGHBOUR: 'it returns false'. Refute it at one input. -/
def fnRankingWrong : ChangeSpec := { name := "fnRanking", fn := fun _ => fun
  | [d] => { results := [.lit (.bool false)], args := [d] }
  | _ => none }
def FnRankingWrongFalsely : Prop := fnRankingRow.holds Try.pinned (OpenSpec.ofChange fnRankingWrong)

/-- 'laws.FnExactRankRatings': WHATEVER THE INPUT: true; the input reads as it did. -/
def fnExactRankRatingsSpec : ChangeSpec := { name := "fnExactRankRatings", fn := fun _ => fun
  | [d] => { results := [.lit (.bool true)], args := [d] }
  | _ => none }
def fnExactRankRatingsRow : OpenClaim := { program := "ytjmckpaemmjcmaa", sum := "cc8497ea369ae21659c81ef2dbc329a8562c136e9b96bd2f0773668944c2ac8b", func := "loop.example/g00885/laws.FnExactRankRatings", spec := "fnExactRankRatings", unfollowed := true, recurses := true, apart := false }
def FnExactRankRatingsSaid : Prop := fnExactRankRatingsRow.holds Try.pinned (OpenSpec.ofChange fnExactRankRatingsSpec)

/-- ITS FALSE NEIGHBOUR: 'it returns false'. Refute it at one input. -/
def fnExactRankRatingsWrong : ChangeSpec := { name := "fnExactRankRatings", fn := fun _ => fun
  | [d] => { results := [.lit (.bool false)], args := [d] }
  | _ => none }
def FnExactRankRatingsWrongFalsely : Prop := fnExactRankRatingsRow.holds Try.pinned (OpenSpec.ofChange fnExactRankRatingsWrong)

/- THE SECOND FORM. 'bulk': how many values and letters a reading holds, each counted each time it is reached (what is shared counts as often as it is met; a slice's spare places count too). A statement '..UptoSaid' is the law's where the arguments, and the package variables that the reading takes, are together of bulk at most 1048576: NARROWER than '..Said'. Prove '..Said' where nothing that the law and all that it calls make is longer than what came in: it says more and counts as full. Else prove '..UptoSaid'. A law counts once. -/
mutual
def uptoBulk {H : Type} : DataW H → Nat
  | .lit (.string bytes) => bytes.length + 1
  | .lit _ => 1
  | .nil => 1
  | .ptr d => uptoBulk d + 1
  | .slice elems spare => uptoBulkAll elems + uptoBulkAll spare + 1
  | .agg parts => uptoBulkAll parts + 1
  | .iface _ d => uptoBulk d + 1
  | .map entries => uptoBulkEntries entries + 1
  | .held _ => 1
def uptoBulkAll {H : Type} : List (DataW H) → Nat
  | [] => 0
  | d :: r => uptoBulk d + uptoBulkAll r
def uptoBulkEntries {H : Type} : List (Lit × DataW H) → Nat
  | [] => 0
  | x :: r => uptoBulkEntry x + uptoBulkEntries r
def uptoBulkEntry {H : Type} : Lit × DataW H → Nat
  | (.string bytes, d) => bytes.length + uptoBulk d + 1
  | (_, d) => uptoBulk d + 1
 end
def uptoSmall : (H : Type) → List (DataW H) → Bool := fun _ ds => decide (uptoBulkAll ds ≤ 1048576)
def OpenSpec.upto (s : _root_.Go.ChangeSpec) : _root_.Go.OpenSpec := { _root_.Go.OpenSpec.ofChange s with cond := some uptoSmall }

/-- 'laws.FnExactIsRating', WHERE WHAT IT READS IS OF BULK AT MOST 1048576: true; the input reads as it did. -/
def fnExactIsRatingUptoRow : OpenClaim := { program := "ytjmckpaemmjcmaa", sum := "cc8497ea369ae21659c81ef2dbc329a8562c136e9b96bd2f0773668944c2ac8b", func := "loop.example/g00885/laws.FnExactIsRating", spec := "fnExactIsRating", apart := false, narrowed := true }
def FnExactIsRatingUptoSaid : Prop := fnExactIsRatingUptoRow.holds Try.pinned (OpenSpec.upto fnExactIsRatingSpec)

/-- 'laws.FnExactWeightFor', WHERE WHAT IT READS IS OF BULK AT MOST 1048576: true; the input reads as it did. -/
def fnExactWeightForUptoRow : OpenClaim := { program := "ytjmckpaemmjcmaa", sum := "cc8497ea369ae21659c81ef2dbc329a8562c136e9b96bd2f0773668944c2ac8b", func := "loop.example/g00885/laws.FnExactWeightFor", spec := "fnExactWeightFor", apart := false, narrowed := true }
def FnExactWeightForUptoSaid : Prop := fnExactWeightForUptoRow.holds Try.pinned (OpenSpec.upto fnExactWeightForSpec)

/-- 'laws.FnExactLengthFactor', WHERE WHAT IT READS IS OF BULK AT MOST 1048576: true; the input reads as it did. -/
def fnExactLengthFactorUptoRow : OpenClaim := { program := "ytjmckpaemmjcmaa", sum := "cc8497ea369ae21659c81ef2dbc329a8562c136e9b96bd2f0773668944c2ac8b", func := "loop.example/g00885/laws.FnExactLengthFactor", spec := "fnExactLengthFactor", apart := false, narrowed := true }
def FnExactLengthFactorUptoSaid : Prop := fnExactLengthFactorUptoRow.holds Try.pinned (OpenSpec.upto fnExactLengthFactorSpec)

/-- 'laws.FnExactIsRatingList', WHERE WHAT IT READS IS OF BULK AT MOST 1048576: true; the input reads as it did. -/
def fnExactIsRatingListUptoRow : OpenClaim := { program := "ytjmckpaemmjcmaa", sum := "cc8497ea369ae21659c81ef2dbc329a8562c136e9b96bd2f0773668944c2ac8b", func := "loop.example/g00885/laws.FnExactIsRatingList", spec := "fnExactIsRatingList", apart := false, narrowed := true }
def FnExactIsRatingListUptoSaid : Prop := fnExactIsRatingListUptoRow.holds Try.pinned (OpenSpec.upto fnExactIsRatingListSpec)

/-- 'laws.FnRanking', WHERE WHAT IT READS IS OF BULK AT MOST 1048576: true; the input reads as it did. -/
def fnRankingUptoRow : OpenClaim := { program := "ytjmckpaemmjcmaa", sum := "cc8497ea369ae21659c81ef2dbc329a8562c136e9b96bd2f0773668944c2ac8b", func := "loop.example/g00885/laws.FnRanking", spec := "fnRanking", unfollowed := true, recurses := true, apart := false, narrowed := true }
def FnRankingUptoSaid : Prop := fnRankingUptoRow.holds Try.pinned (OpenSpec.upto fnRankingSpec)

/-- 'laws.FnExactRankRatings', WHERE WHAT IT READS IS OF BULK AT MOST 1048576: true; the input reads as it did. -/
def fnExactRankRatingsUptoRow : OpenClaim := { program := "ytjmckpaemmjcmaa", sum := "cc8497ea369ae21659c81ef2dbc329a8562c136e9b96bd2f0773668944c2ac8b", func := "loop.example/g00885/laws.FnExactRankRatings", spec := "fnExactRankRatings", unfollowed := true, recurses := true, apart := false, narrowed := true }
def FnExactRankRatingsUptoSaid : Prop := fnExactRankRatingsUptoRow.holds Try.pinned (OpenSpec.upto fnExactRankRatingsSpec)

end Rows
end Go.Proofs.Ytjmckpaemmjcmaa
