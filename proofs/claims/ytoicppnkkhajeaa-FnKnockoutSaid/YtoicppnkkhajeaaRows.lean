/-
  No cell of these rows narrows 'for every input' (looked for: loops, veiled, ifaces, maps, wideKeys, modest, calm, conditions, laid).
  DERIVED. THE GIVEN ROWS OF THIS SEAT. 12 by the template 'for every input the law returns true; each argument reads behind the call as it read before'; 0 by the template 'total and deterministic' (their statements: YtoicppnkkhajeaaTotals.lean).
  GIVEN WITH THE SEED: the statements are not yours to turn. If you find one false, say at which input.
  Laid BY PROGRAM, IN A SANDBOX (cutbox-rows.mjs): the forced cells as the released guide's own fill.sh prints them over the translation ad3d8464fbbdca31… (all of the seat's roots in one cut). By AI agents, Wed Nov 11 2026. No macro, syntax, notation, axiom, sorry.
-/
import Derived.Test.YtoicppnkkhajeaaChecked
import GoSem.Claim
import GoSem.ClaimJoined
import GoSem.ClaimMapViews
import Derived.JoinedTies
import Derived.KernelRfl
namespace Go.Proofs.Ytoicppnkkhajeaa
/- THE CELL 'sum', in the pinned program and in every row, IS THE sha256 OF THE DUMP (.gsa) THAT YtoicppnkkhajeaaProg.lean LOADS. Nothing in Lean hashes anything: it is a label: what it is worth is what the hold of that sum in a sandbox is worth. -/
noncomputable def Try.pinned : Pinned := { name := "ytoicppnkkhajeaa", sum := "ad3d8464fbbdca315bb56c3daa2aea52853c91e125777f28e1f3a21ead5b69dc", checked := Try.checked }
namespace Rows
def none {H : Type} : Left H := { results := [], args := [] }

/-- 'laws.FnExactSeedOrder': WHATEVER THE INPUT: true; the input reads as it did. -/
def fnExactSeedOrderSpec : ChangeSpec := { name := "fnExactSeedOrder", fn := fun _ => fun
  | [d] => { results := [.lit (.bool true)], args := [d] }
  | _ => none }
def fnExactSeedOrderRow : OpenClaim := { program := "ytoicppnkkhajeaa", sum := "ad3d8464fbbdca315bb56c3daa2aea52853c91e125777f28e1f3a21ead5b69dc", func := "loop.example/g00885/laws.FnExactSeedOrder", spec := "fnExactSeedOrder", apart := false }
def FnExactSeedOrderSaid : Prop := fnExactSeedOrderRow.holds Try.pinned (OpenSpec.ofChange fnExactSeedOrderSpec)

/-- ITS FALSE NEIGHBOUR: 'it returns false'. Refute it at one input. -/
def fnExactSeedOrderWrong : ChangeSpec := { name := "fnExactSeedOrder", fn := fun _ => fun
  | [d] => { results := [.lit (.bool false)], args := [d] }
  | _ => none }
def FnExactSeedOrderWrongFalsely : Prop := fnExactSeedOrderRow.holds Try.pinned (OpenSpec.ofChange fnExactSeedOrderWrong)

/-- 'laws.FnExactIsTournament': WHATEVER THE INPUT: true; the input reads as it did. -/
def fnExactIsTournamentSpec : ChangeSpec := { name := "fnExactIsTournament", fn := fun _ => fun
  | [d] => { results := [.lit (.bool true)], args := [d] }
  | _ => none }
def fnExactIsTournamentRow : OpenClaim := { program := "ytoicppnkkhajeaa", sum := "ad3d8464fbbdca315bb56c3daa2aea52853c91e125777f28e1f3a21ead5b69dc", func := "loop.example/g00885/laws.FnExactIsTournament", spec := "fnExactIsTournament", apart := false }
def FnExactIsTournamentSaid : Prop := fnExactIsTournamentRow.holds Try.pinned (OpenSpec.ofChange fnExactIsTournamentSpec)

/-- ITS FALSE NEIGHBOUR: 'it returns false'. Refute it at one input. -/
def fnExactIsTournamentWrong : ChangeSpec := { name := "fnExactIsTournament", fn := fun _ => fun
  | [d] => { results := [.lit (.bool false)], args := [d] }
  | _ => none }
def FnExactIsTournamentWrongFalsely : Prop := fnExactIsTournamentRow.holds Try.pinned (OpenSpec.ofChange fnExactIsTournamentWrong)

/-- 'laws.FnExactPairOf': WHATEVER THE INPUT: true; the input reads as it did. -/
def fnExactPairOfSpec : ChangeSpec := { name := "fnExactPairOf", fn := fun _ => fun
  | [d1, d2] => { results := [.lit (.bool true)], args := [d1, d2] }
  | _ => none }
def fnExactPairOfRow : OpenClaim := { program := "ytoicppnkkhajeaa", sum := "ad3d8464fbbdca315bb56c3daa2aea52853c91e125777f28e1f3a21ead5b69dc", func := "loop.example/g00885/laws.FnExactPairOf", spec := "fnExactPairOf", apart := false }
def FnExactPairOfSaid : Prop := fnExactPairOfRow.holds Try.pinned (OpenSpec.ofChange fnExactPairOfSpec)

/-- ITS FALSE NEIGHBOUR: 'it returns false'. Refute it at one input. -/
def fnExactPairOfWrong : ChangeSpec := { name := "fnExactPairOf", fn := fun _ => fun
  | [d1, d2] => { results := [.lit (.bool false)], args := [d1, d2] }
  | _ => none }
def FnExactPairOfWrongFalsely : Prop := fnExactPairOfRow.holds Try.pinned (OpenSpec.ofChange fnExactPairOfWrong)

/-- 'laws.FnExactWinnersOf': WHATEVER THE INPUT: true; the input reads as it did. -/
def fnExactWinnersOfSpec : ChangeSpec := { name := "fnExactWinnersOf", fn := fun _ => fun
  | [d] => { results := [.lit (.bool true)], args := [d] }
  | _ => none }
def fnExactWinnersOfRow : OpenClaim := { program := "ytoicppnkkhajeaa", sum := "ad3d8464fbbdca315bb56c3daa2aea52853c91e125777f28e1f3a21ead5b69dc", func := "loop.example/g00885/laws.FnExactWinnersOf", spec := "fnExactWinnersOf", apart := false }
def FnExactWinnersOfSaid : Prop := fnExactWinnersOfRow.holds Try.pinned (OpenSpec.ofChange fnExactWinnersOfSpec)

/-- ITS FALSE NEIGHBOUR: 'it returns false'. Refute it at one input. -/
def fnExactWinnersOfWrong : ChangeSpec := { name := "fnExactWinnersOf", fn := fun _ => fun
  | [d] => { results := [.lit (.bool false)], args := [d] }
  | _ => none }
def FnExactWinnersOfWrongFalsely : Prop := fnExactWinnersOfRow.holds Try.pinned (OpenSpec.ofChange fnExactWinnersOfWrong)

/-- 'laws.FnExactOpenMatches': WHATEVER THE INPUT: true; the input reads as it did. -/
def fnExactOpenMatchesSpec : ChangeSpec := { name := "fnExactOpenMatches", fn := fun _ => fun
  | [d] => { results := [.lit (.bool true)], args := [d] }
  | _ => none }
def fnExactOpenMatchesRow : OpenClaim := { program := "ytoicppnkkhajeaa", sum := "ad3d8464fbbdca315bb56c3daa2aea52853c91e125777f28e1f3a21ead5b69dc", func := "loop.example/g00885/laws.FnExactOpenMatches", spec := "fnExactOpenMatches", apart := false }
def FnExactOpenMatchesSaid : Prop := fnExactOpenMatchesRow.holds Try.pinned (OpenSpec.ofChange fnExactOpenMatchesSpec)

/-- ITS FALSE NEIGHBOUR: 'it returns false'. Refute it at one input. -/
def fnExactOpenMatchesWrong : ChangeSpec := { name := "fnExactOpenMatches", fn := fun _ => fun
  | [d] => { results := [.lit (.bool false)], args := [d] }
  | _ => none }
def FnExactOpenMatchesWrongFalsely : Prop := fnExactOpenMatchesRow.holds Try.pinned (OpenSpec.ofChange fnExactOpenMatchesWrong)

/-- 'laws.FnConsolation': WHATEVER THE INPUT: true; the input reads as it did. -/
def fnConsolationSpec : ChangeSpec := { name := "fnConsolation", fn := fun _ => fun
  | [d] => { results := [.lit (.bool true)], args := [d] }
  | _ => none }
def fnConsolationRow : OpenClaim := { program := "ytoicppnkkhajeaa", sum := "ad3d8464fbbdca315bb56c3daa2aea52853c91e125777f28e1f3a21ead5b69dc", func := "loop.example/g00885/laws.FnConsolation", spec := "fnConsolation", apart := false }
def FnConsolationSaid : Prop := fnConsolationRow.holds Try.pinned (OpenSpec.ofChange fnConsolationSpec)

/-- ITS FALSE NEIGHBOUR: 'it returns false'. Refute it at one input. -/
def fnConsolationWrong : ChangeSpec := { name := "fnConsolation", fn := fun _ => fun
  | [d] => { results := [.lit (.bool false)], args := [d] }
  | _ => none }
def FnConsolationWrongFalsely : Prop := fnConsolationRow.holds Try.pinned (OpenSpec.ofChange fnConsolationWrong)

/-- 'laws.FnExactConsolationOf': WHATEVER THE INPUT: true; the input reads as it did. -/
def fnExactConsolationOfSpec : ChangeSpec := { name := "fnExactConsolationOf", fn := fun _ => fun
  | [d] => { results := [.lit (.bool true)], args := [d] }
  | _ => none }
def fnExactConsolationOfRow : OpenClaim := { program := "ytoicppnkkhajeaa", sum := "ad3d8464fbbdca315bb56c3daa2aea52853c91e125777f28e1f3a21ead5b69dc", func := "loop.example/g00885/laws.FnExactConsolationOf", spec := "fnExactConsolationOf", apart := false }
def FnExactConsolationOfSaid : Prop := fnExactConsolationOfRow.holds Try.pinned (OpenSpec.ofChange fnExactConsolationOfSpec)

/-- ITS FALSE NEIGHBOUR: 'it returns false'. Refute it at one input. -/
def fnExactConsolationOfWrong : ChangeSpec := { name := "fnExactConsolationOf", fn := fun _ => fun
  | [d] => { results := [.lit (.bool false)], args := [d] }
  | _ => none }
def FnExactConsolationOfWrongFalsely : Prop := fnExactConsolationOfRow.holds Try.pinned (OpenSpec.ofChange fnExactConsolationOfWrong)

/-- 'laws.FnExactMatchesOfEntrant': WHATEVER THE INPUT: true; the input reads as it did. -/
def fnExactMatchesOfEntrantSpec : ChangeSpec := { name := "fnExactMatchesOfEntrant", fn := fun _ => fun
  | [d1, d2] => { results := [.lit (.bool true)], args := [d1, d2] }
  | _ => none }
def fnExactMatchesOfEntrantRow : OpenClaim := { program := "ytoicppnkkhajeaa", sum := "ad3d8464fbbdca315bb56c3daa2aea52853c91e125777f28e1f3a21ead5b69dc", func := "loop.example/g00885/laws.FnExactMatchesOfEntrant", spec := "fnExactMatchesOfEntrant", apart := false }
def FnExactMatchesOfEntrantSaid : Prop := fnExactMatchesOfEntrantRow.holds Try.pinned (OpenSpec.ofChange fnExactMatchesOfEntrantSpec)

/-- ITS FALSE NEIGHBOUR: 'it returns false'. Refute it at one input. -/
def fnExactMatchesOfEntrantWrong : ChangeSpec := { name := "fnExactMatchesOfEntrant", fn := fun _ => fun
  | [d1, d2] => { results := [.lit (.bool false)], args := [d1, d2] }
  | _ => none }
def FnExactMatchesOfEntrantWrongFalsely : Prop := fnExactMatchesOfEntrantRow.holds Try.pinned (OpenSpec.ofChange fnExactMatchesOfEntrantWrong)

/-- 'laws.FnBracket': WHATEVER THE INPUT: true; the input reads as it did. -/
def fnBracketSpec : ChangeSpec := { name := "fnBracket", fn := fun _ => fun
  | [d] => { results := [.lit (.bool true)], args := [d] }
  | _ => none }
def fnBracketRow : OpenClaim := { program := "ytoicppnkkhajeaa", sum := "ad3d8464fbbdca315bb56c3daa2aea52853c91e125777f28e1f3a21ead5b69dc", func := "loop.example/g00885/laws.FnBracket", spec := "fnBracket", apart := false }
def FnBracketSaid : Prop := fnBracketRow.holds Try.pinned (OpenSpec.ofChange fnBracketSpec)

/-- ITS FALSE NEIGHBOUR: 'it returns false'. Refute it at one input. -/
def fnBracketWrong : ChangeSpec := { name := "fnBracket", fn := fun _ => fun
  | [d] => { results := [.lit (.bool false)], args := [d] }
  | _ => none }
def FnBracketWrongFalsely : Prop := fnBracketRow.holds Try.pinned (OpenSpec.ofChange fnBracketWrong)

/-- 'laws.FnExactPlacesOf': WHATEVER THE INPUT: true; the input reads as it did. -/
def fnExactPlacesOfSpec : ChangeSpec := { name := "fnExactPlacesOf", fn := fun _ => fun
  | [d] => { results := [.lit (.bool true)], args := [d] }
  | _ => none }
def fnExactPlacesOfRow : OpenClaim := { program := "ytoicppnkkhajeaa", sum := "ad3d8464fbbdca315bb56c3daa2aea52853c91e125777f28e1f3a21ead5b69dc", func := "loop.example/g00885/laws.FnExactPlacesOf", spec := "fnExactPlacesOf", apart := false }
def FnExactPlacesOfSaid : Prop := fnExactPlacesOfRow.holds Try.pinned (OpenSpec.ofChange fnExactPlacesOfSpec)

/-- ITS FALSE NEIGHBOUR: 'it returns false'. Refute it at one input. -/
def fnExactPlacesOfWrong : ChangeSpec := { name := "fnExactPlacesOf", fn := fun _ => fun
  | [d] => { results := [.lit (.bool false)], args := [d] }
  | _ => none }
def FnExactPlacesOfWrongFalsely : Prop := fnExactPlacesOfRow.holds Try.pinned (OpenSpec.ofChange fnExactPlacesOfWrong)

/-- 'laws.FnExactAddResultOf': WHATEVER THE INPUT: true; the input reads as it did. -/
def fnExactAddResultOfSpec : ChangeSpec := { name := "fnExactAddResultOf", fn := fun _ => fun
  | [d1, d2] => { results := [.lit (.bool true)], args := [d1, d2] }
  | _ => none }
def fnExactAddResultOfRow : OpenClaim := { program := "ytoicppnkkhajeaa", sum := "ad3d8464fbbdca315bb56c3daa2aea52853c91e125777f28e1f3a21ead5b69dc", func := "loop.example/g00885/laws.FnExactAddResultOf", spec := "fnExactAddResultOf", apart := false }
def FnExactAddResultOfSaid : Prop := fnExactAddResultOfRow.holds Try.pinned (OpenSpec.ofChange fnExactAddResultOfSpec)

/-- ITS FALSE NEIGHBOUR: 'it returns false'. Refute it at one input. -/
def fnExactAddResultOfWrong : ChangeSpec := { name := "fnExactAddResultOf", fn := fun _ => fun
  | [d1, d2] => { results := [.lit (.bool false)], args := [d1, d2] }
  | _ => none }
def FnExactAddResultOfWrongFalsely : Prop := fnExactAddResultOfRow.holds Try.pinned (OpenSpec.ofChange fnExactAddResultOfWrong)

/-- 'laws.FnKnockout': WHATEVER THE INPUT: true; the input reads as it did. -/
def fnKnockoutSpec : ChangeSpec := { name := "fnKnockout", fn := fun _ => fun
  | [d] => { results := [.lit (.bool true)], args := [d] }
  | _ => none }
def fnKnockoutRow : OpenClaim := { program := "ytoicppnkkhajeaa", sum := "ad3d8464fbbdca315bb56c3daa2aea52853c91e125777f28e1f3a21ead5b69dc", func := "loop.example/g00885/laws.FnKnockout", spec := "fnKnockout", apart := false }
def FnKnockoutSaid : Prop := fnKnockoutRow.holds Try.pinned (OpenSpec.ofChange fnKnockoutSpec)

/-- ITS FALSE NEIGHBOUR: 'it returns false'. Refute it at one input. -/
def fnKnockoutWrong : ChangeSpec := { name := "fnKnockout", fn := fun _ => fun
  | [d] => { results := [.lit (.bool false)], args := [d] }
  | _ => none }
def FnKnockoutWrongFalsely : Prop := fnKnockoutRow.holds Try.pinned (OpenSpec.ofChange fnKnockoutWrong)

/- THE SECOND FORM. 'bulk': how many values and letters a reading holds, each counted each time it is reached (what is shared counts as often as it is met; a slice's spare places count too). A statement '..UptoSaid' is the law's where the arguments, and the package variables that the reading takes, are together of bulk at most 1048576: NARROWER than '..Said'. Prove '..Said' where nothing that the law and all that it calls make is longer than what came in: it says more and counts as full. Else prove '..UptoSaid'. A law counts once. -/
mutual
def uptoBulk {H : Type} : DataW H → Nat
  | .lit (.string bytes) => bytes.length + 1
  | .lit _ => 1
  | .nil => 1
  | .ptr d => uptoBulk d + 1
  | .slice elems spare => uptoBulkAll elems + uptoBulkAll spare + 1
  | .agg parts => uptoBulkAll parts + 1
  | .iface _ d => uptoBulk d + 1
  | .map entries => uptoBulkEntries entries + 1
  | .held _ => 1
def uptoBulkAll {H : Type} : List (DataW H) → Nat
  | [] => 0
  | d :: r => uptoBulk d + uptoBulkAll r
def uptoBulkEntries {H : Type} : List (Lit × DataW H) → Nat
  | [] => 0
  | x :: r => uptoBulkEntry x + uptoBulkEntries r
def uptoBulkEntry {H : Type} : Lit × DataW H → Nat
  | (.string bytes, d) => bytes.length + uptoBulk d + 1
  | (_, d) => uptoBulk d + 1
 end
def uptoSmall : (H : Type) → List (DataW H) → Bool := fun _ ds => decide (uptoBulkAll ds ≤ 1048576)
def OpenSpec.upto (s : _root_.Go.ChangeSpec) : _root_.Go.OpenSpec := { _root_.Go.OpenSpec.ofChange s with cond := some uptoSmall }

/-- 'laws.FnExactSeedOrder', WHERE WHAT IT READS IS OF BULK AT MOST 1048576: true; the input reads as it did. -/
def fnExactSeedOrderUptoRow : OpenClaim := { program := "ytoicppnkkhajeaa", sum := "ad3d8464fbbdca315bb56c3daa2aea52853c91e125777f28e1f3a21ead5b69dc", func := "loop.example/g00885/laws.FnExactSeedOrder", spec := "fnExactSeedOrder", apart := false, narrowed := true }
def FnExactSeedOrderUptoSaid : Prop := fnExactSeedOrderUptoRow.holds Try.pinned (OpenSpec.upto fnExactSeedOrderSpec)

/-- 'laws.FnExactIsTournament', WHERE WHAT IT READS IS OF BULK AT MOST 1048576: true; the input reads as it did. -/
def fnExactIsTournamentUptoRow : OpenClaim := { program := "ytoicppnkkhajeaa", sum := "ad3d8464fbbdca315bb56c3daa2aea52853c91e125777f28e1f3a21ead5b69dc", func := "loop.example/g00885/laws.FnExactIsTournament", spec := "fnExactIsTournament", apart := false, narrowed := true }
def FnExactIsTournamentUptoSaid : Prop := fnExactIsTournamentUptoRow.holds Try.pinned (OpenSpec.upto fnExactIsTournamentSpec)

/-- 'laws.FnExactPairOf', WHERE WHAT IT READS IS OF BULK AT MOST 1048576: true; the input reads as it did. -/
def fnExactPairOfUptoRow : OpenClaim := { program := "ytoicppnkkhajeaa", sum := "ad3d8464fbbdca315bb56c3daa2aea52853c91e125777f28e1f3a21ead5b69dc", func := "loop.example/g00885/laws.FnExactPairOf", spec := "fnExactPairOf", apart := false, narrowed := true }
def FnExactPairOfUptoSaid : Prop := fnExactPairOfUptoRow.holds Try.pinned (OpenSpec.upto fnExactPairOfSpec)

/-- 'laws.FnExactWinnersOf', WHERE WHAT IT READS IS OF BULK AT MOST 1048576: true; the input reads as it did. -/
def fnExactWinnersOfUptoRow : OpenClaim := { program := "ytoicppnkkhajeaa", sum := "ad3d8464fbbdca315bb56c3daa2aea52853c91e125777f28e1f3a21ead5b69dc", func := "loop.example/g00885/laws.FnExactWinnersOf", spec := "fnExactWinnersOf", apart := false, narrowed := true }
def FnExactWinnersOfUptoSaid : Prop := fnExactWinnersOfUptoRow.holds Try.pinned (OpenSpec.upto fnExactWinnersOfSpec)

/-- 'laws.FnExactOpenMatches', WHERE WHAT IT READS IS OF BULK AT MOST 1048576: true; the input reads as it did. -/
def fnExactOpenMatchesUptoRow : OpenClaim := { program := "ytoicppnkkhajeaa", sum := "ad3d8464fbbdca315bb56c3daa2aea52853c91e125777f28e1f3a21ead5b69dc", func := "loop.example/g00885/laws.FnExactOpenMatches", spec := "fnExactOpenMatches", apart := false, narrowed := true }
def FnExactOpenMatchesUptoSaid : Prop := fnExactOpenMatchesUptoRow.holds Try.pinned (OpenSpec.upto fnExactOpenMatchesSpec)

/-- 'laws.FnConsolation', WHERE WHAT IT READS IS OF BULK AT MOST 1048576: true; the input reads as it did. -/
def fnConsolationUptoRow : OpenClaim := { program := "ytoicppnkkhajeaa", sum := "ad3d8464fbbdca315bb56c3daa2aea52853c91e125777f28e1f3a21ead5b69dc", func := "loop.example/g00885/laws.FnConsolation", spec := "fnConsolation", apart := false, narrowed := true }
def FnConsolationUptoSaid : Prop := fnConsolationUptoRow.holds Try.pinned (OpenSpec.upto fnConsolationSpec)

/-- 'laws.FnExactConsolationOf', WHERE WHAT IT READS IS OF BULK AT MOST 1048576: true; the input reads as it did. -/
def fnExactConsolationOfUptoRow : OpenClaim := { program := "ytoicppnkkhajeaa", sum := "ad3d8464fbbdca315bb56c3daa2aea52853c91e125777f28e1f3a21ead5b69dc", func := "loop.example/g00885/laws.FnExactConsolationOf", spec := "fnExactConsolationOf", apart := false, narrowed := true }
def FnExactConsolationOfUptoSaid : Prop := fnExactConsolationOfUptoRow.holds Try.pinned (OpenSpec.upto fnExactConsolationOfSpec)

/-- 'laws.FnExactMatchesOfEntrant', WHERE WHAT IT READS IS OF BULK AT MOST 1048576: true; the input reads as it did. -/
def fnExactMatchesOfEntrantUptoRow : OpenClaim := { program := "ytoicppnkkhajeaa", sum := "ad3d8464fbbdca315bb56c3daa2aea52853c91e125777f28e1f3a21ead5b69dc", func := "loop.example/g00885/laws.FnExactMatchesOfEntrant", spec := "fnExactMatchesOfEntrant", apart := false, narrowed := true }
def FnExactMatchesOfEntrantUptoSaid : Prop := fnExactMatchesOfEntrantUptoRow.holds Try.pinned (OpenSpec.upto fnExactMatchesOfEntrantSpec)

/-- 'laws.FnBracket', WHERE WHAT IT READS IS OF BULK AT MOST 1048576: true; the input reads as it did. -/
def fnBracketUptoRow : OpenClaim := { program := "ytoicppnkkhajeaa", sum := "ad3d8464fbbdca315bb56c3daa2aea52853c91e125777f28e1f3a21ead5b69dc", func := "loop.example/g00885/laws.FnBracket", spec := "fnBracket", apart := false, narrowed := true }
def FnBracketUptoSaid : Prop := fnBracketUptoRow.holds Try.pinned (OpenSpec.upto fnBracketSpec)

/-- 'laws.FnExactPlacesOf', WHERE WHAT IT READS IS OF BULK AT MOST 1048576: true; the input reads as it did. -/
def fnExactPlacesOfUptoRow : OpenClaim := { program := "ytoicppnkkhajeaa", sum := "ad3d8464fbbdca315bb56c3daa2aea52853c91e125777f28e1f3a21ead5b69dc", func := "loop.example/g00885/laws.FnExactPlacesOf", spec := "fnExactPlacesOf", apart := false, narrowed := true }
def FnExactPlacesOfUptoSaid : Prop := fnExactPlacesOfUptoRow.holds Try.pinned (OpenSpec.upto fnExactPlacesOfSpec)

/-- 'laws.FnExactAddResultOf', WHERE WHAT IT READS IS OF BULK AT MOST 1048576: true; the input reads as it did. -/
def fnExactAddResultOfUptoRow : OpenClaim := { program := "ytoicppnkkhajeaa", sum := "ad3d8464fbbdca315bb56c3daa2aea52853c91e125777f28e1f3a21ead5b69dc", func := "loop.example/g00885/laws.FnExactAddResultOf", spec := "fnExactAddResultOf", apart := false, narrowed := true }
def FnExactAddResultOfUptoSaid : Prop := fnExactAddResultOfUptoRow.holds Try.pinned (OpenSpec.upto fnExactAddResultOfSpec)

/-- 'laws.FnKnockout', WHERE WHAT IT READS IS OF BULK AT MOST 1048576: true; the input reads as it did. -/
def fnKnockoutUptoRow : OpenClaim := { program := "ytoicppnkkhajeaa", sum := "ad3d8464fbbdca315bb56c3daa2aea52853c91e125777f28e1f3a21ead5b69dc", func := "loop.example/g00885/laws.FnKnockout", spec := "fnKnockout", apart := false, narrowed := true }
def FnKnockoutUptoSaid : Prop := fnKnockoutUptoRow.holds Try.pinned (OpenSpec.upto fnKnockoutSpec)

end Rows
end Go.Proofs.Ytoicppnkkhajeaa
