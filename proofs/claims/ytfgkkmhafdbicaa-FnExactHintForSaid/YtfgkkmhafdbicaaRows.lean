/-
  No cell of these rows narrows 'for every input' (looked for: loops, veiled, ifaces, maps, wideKeys, modest, calm, conditions, laid).
  DERIVED. THE GIVEN ROWS OF THIS SEAT. 3 by the template 'for every input the law returns true; each argument reads behind the call as it read before'; 0 by the template 'total and deterministic' (their statements: YtfgkkmhafdbicaaTotals.lean).
  GIVEN WITH THE SEED: the statements are not yours to turn. If you find one false, say at which input.
  Laid BY PROGRAM, IN A SANDBOX (cutbox-rows.mjs): the forced cells as the released guide's own fill.sh prints them over the translation 81b5b1cf7aaf1ce1… (all of the seat's roots in one cut). By AI agents, Wed Nov 11 2026. No macro, syntax, notation, axiom, sorry.
-/
import Derived.Test.YtfgkkmhafdbicaaChecked
import GoSem.Claim
import GoSem.ClaimJoined
import GoSem.ClaimMapViews
import Derived.JoinedTies
import Derived.KernelRfl
namespace Go.Proofs.Ytfgkkmhafdbicaa
/- THE CELL 'sum', in the pinned program and in every row, IS THE sha256 OF THE DUMP (.gsa) THAT YtfgkkmhafdbicaaProg.lean LOADS. Nothing in Lean hashes anything: it is a label: what it is worth is what the hold of that sum in a sandbox is worth. -/
noncomputable def Try.pinned : Pinned := { name := "ytfgkkmhafdbicaa", sum := "81b5b1cf7aaf1ce1ebe584312693cd4d9f6955b2756ebc494b1e749326b2106a", checked := Try.checked }
namespace Rows
def none {H : Type} : Left H := { results := [], args := [] }

/-- 'laws.FnExactLuckOf': WHATEVER THE INPUT: true; the input reads as it did. -/
def fnExactLuckOfSpec : ChangeSpec := { name := "fnExactLuckOf", fn := fun _ => fun
  | [d1, d2, d3, d4] => { results := [.lit (.bool true)], args := [d1, d2, d3, d4] }
  | _ => none }
def fnExactLuckOfRow : OpenClaim := { program := "ytfgkkmhafdbicaa", sum := "81b5b1cf7aaf1ce1ebe584312693cd4d9f6955b2756ebc494b1e749326b2106a", func := "loop.example/g00885/laws.FnExactLuckOf", spec := "fnExactLuckOf", recurses := true, apart := false }
def FnExactLuckOfSaid : Prop := fnExactLuckOfRow.holds Try.pinned (OpenSpec.ofChange fnExactLuckOfSpec)

/-- ITS FALSE NEIGHBOUR: 'it returns false'. Refute it at one input. -/
def fnExactLuckOfWrong : ChangeSpec := { name := "fnExactLuckOf", fn := fun _ => fun
  | [d1, d2, d3, d4] => { results := [.lit (.bool false)], args := [d1, d2, d3, d4] }
  | _ => none }
def FnExactLuckOfWrongFalsely : Prop := fnExactLuckOfRow.holds Try.pinned (OpenSpec.ofChange fnExactLuckOfWrong)

/-- 'laws.FnExactLossOf': WHATEVER THE INPUT: true; the input reads as it did. -/
def fnExactLossOfSpec : ChangeSpec := { name := "fnExactLossOf", fn := fun _ => fun
  | [d1, d2, d3, d4, d5] => { results := [.lit (.bool true)], args := [d1, d2, d3, d4, d5] }
  | _ => none }
def fnExactLossOfRow : OpenClaim := { program := "ytfgkkmhafdbicaa", sum := "81b5b1cf7aaf1ce1ebe584312693cd4d9f6955b2756ebc494b1e749326b2106a", func := "loop.example/g00885/laws.FnExactLossOf", spec := "fnExactLossOf", recurses := true, apart := false }
def FnExactLossOfSaid : Prop := fnExactLossOfRow.holds Try.pinned (OpenSpec.ofChange fnExactLossOfSpec)

/-- ITS FALSE NEIGHBOUR: 'it returns false'. Refute it at one input. -/
def fnExactLossOfWrong : ChangeSpec := { name := "fnExactLossOf", fn := fun _ => fun
  | [d1, d2, d3, d4, d5] => { results := [.lit (.bool false)], args := [d1, d2, d3, d4, d5] }
  | _ => none }
def FnExactLossOfWrongFalsely : Prop := fnExactLossOfRow.holds Try.pinned (OpenSpec.ofChange fnExactLossOfWrong)

/-- 'laws.FnExactHintFor': WHATEVER THE INPUT: true; the input reads as it did. -/
def fnExactHintForSpec : ChangeSpec := { name := "fnExactHintFor", fn := fun _ => fun
  | [d1, d2, d3, d4] => { results := [.lit (.bool true)], args := [d1, d2, d3, d4] }
  | _ => none }
def fnExactHintForRow : OpenClaim := { program := "ytfgkkmhafdbicaa", sum := "81b5b1cf7aaf1ce1ebe584312693cd4d9f6955b2756ebc494b1e749326b2106a", func := "loop.example/g00885/laws.FnExactHintFor", spec := "fnExactHintFor", recurses := true, apart := false }
def FnExactHintForSaid : Prop := fnExactHintForRow.holds Try.pinned (OpenSpec.ofChange fnExactHintForSpec)

/-- ITS FALSE NEIGHBOUR: 'it returns false'. Refute it at one input. -/
def fnExactHintForWrong : ChangeSpec := { name := "fnExactHintFor", fn := fun _ => fun
  | [d1, d2, d3, d4] => { results := [.lit (.bool false)], args := [d1, d2, d3, d4] }
  | _ => none }
def FnExactHintForWrongFalsely : Prop := fnExactHintForRow.holds Try.pinned (OpenSpec.ofChange fnExactHintForWrong)

/- THE SECOND FORM. 'bulk': how many values and letters a reading holds, each counted each time it is reached (what is shared counts as often as it is met; a slice's spare places count too). A statement '..UptoSaid' is the law's where the arguments, and the package variables that the reading takes, are together of bulk at most 1048576: NARROWER than '..Said'. Prove '..Said' where nothing that the law and all that it calls make is longer than what came in: it says more and counts as full. Else prove '..UptoSaid'. A law counts once. -/
mutual
def uptoBulk {H : Type} : DataW H → Nat
  | .lit (.string bytes) => bytes.length + 1
  | .lit _ => 1
  | .nil => 1
  | .ptr d => uptoBulk d + 1
  | .slice elems spare => uptoBulkAll elems + uptoBulkAll spare + 1
  | .agg parts => uptoBulkAll parts + 1
  | .iface _ d => uptoBulk d + 1
  | .map entries => uptoBulkEntries entries + 1
  | .held _ => 1
def uptoBulkAll {H : Type} : List (DataW H) → Nat
  | [] => 0
  | d :: r => uptoBulk d + uptoBulkAll r
def uptoBulkEntries {H : Type} : List (Lit × DataW H) → Nat
  | [] => 0
  | x :: r => uptoBulkEntry x + uptoBulkEntries r
def uptoBulkEntry {H : Type} : Lit × DataW H → Nat
  | (.string bytes, d) => bytes.length + uptoBulk d + 1
  | (_, d) => uptoBulk d + 1
 end
def uptoSmall : (H : Type) → List (DataW H) → Bool := fun _ ds => decide (uptoBulkAll ds ≤ 1048576)
def OpenSpec.upto (s : _root_.Go.ChangeSpec) : _root_.Go.OpenSpec := { _root_.Go.OpenSpec.ofChange s with cond := some uptoSmall }

/-- 'laws.FnExactLuckOf', WHERE WHAT IT READS IS OF BULK AT MOST 1048576: true; the input reads as it did. -/
def fnExactLuckOfUptoRow : OpenClaim := { program := "ytfgkkmhafdbicaa", sum := "81b5b1cf7aaf1ce1ebe584312693cd4d9f6955b2756ebc494b1e749326b2106a", func := "loop.example/g00885/laws.FnExactLuckOf", spec := "fnExactLuckOf", recurses := true, apart := false, narrowed := true }
def FnExactLuckOfUptoSaid : Prop := fnExactLuckOfUptoRow.holds Try.pinned (OpenSpec.upto fnExactLuckOfSpec)

/-- 'laws.FnExactLossOf', WHERE WHAT IT READS IS OF BULK AT MOST 1048576: true; the input reads as it did. -/
def fnExactLossOfUptoRow : OpenClaim := { program := "ytfgkkmhafdbicaa", sum := "81b5b1cf7aaf1ce1ebe584312693cd4d9f6955b2756ebc494b1e749326b2106a", func := "loop.example/g00885/laws.FnExactLossOf", spec := "fnExactLossOf", recurses := true, apart := false, narrowed := true }
def FnExactLossOfUptoSaid : Prop := fnExactLossOfUptoRow.holds Try.pinned (OpenSpec.upto fnExactLossOfSpec)

/-- 'laws.FnExactHintFor', WHERE WHAT IT READS IS OF BULK AT MOST 1048576: true; the input reads as it did. -/
def fnExactHintForUptoRow : OpenClaim := { program := "ytfgkkmhafdbicaa", sum := "81b5b1cf7aaf1ce1ebe584312693cd4d9f6955b2756ebc494b1e749326b2106a", func := "loop.example/g00885/laws.FnExactHintFor", spec := "fnExactHintFor", recurses := true, apart := false, narrowed := true }
def FnExactHintForUptoSaid : Prop := fnExactHintForUptoRow.holds Try.pinned (OpenSpec.upto fnExactHintForSpec)

end Rows
end Go.Proofs.Ytfgkkmhafdbicaa
