/-
  The statement 'Rows.FnExactHintForSaid': for every input the law returns true and each argument reads afterwards as it read before. Conditions: none beyond the given row's.
-/
import Derived.Test.YtfgkkmhafdbicaaRows
import Derived.WalkKit
import Derived.ProofKit
import Derived.OpenShut
import Derived.ShutString
import Derived.ChangeOld
import Derived.Below
import Derived.Lib.SmallJoins
import Derived.Test.YtfgkkmhafdbicaaHintLaw
namespace Go.Proofs.Ytfgkkmhafdbicaa.fnExactHintFor
open Go.ChangeShapes Go.WideShapes Go.ChangeAt Go.RowKit Go.Joins Base
open Go.ChangeMaps (open_string shut_string)
set_option linter.unusedVariables false
theorem own : ownKnob Try.prog.godebug = none := by kernel_rfl
theorem laidOut : laidOutB Try.prog = true := by kernel_rfl
set_option maxRecDepth 100000 in
theorem lifted (os : Os) (started : os.Started) (H : Type) (enc : TypeId × Value → H) :
    ReturnsInHanded {} Try.checked os 5 .any (Rows.fnExactHintForSpec.pre6 enc Try.prog Try.f5 Rows.fnExactHintForRow.domain false) (Rows.fnExactHintForSpec.post enc Try.prog Try.f5 false true false false) := by
  refine returnsInHanded_of_change (C := Try.checked) own started (by kernel_rfl) Try.func5
    (ChangeSpec.witness6 (enc := enc) (C := Try.checked) false ⟨#[], #[.agg #[.int .i64 0, .int .i64 0, .int .i64 0, .int .i64 0], .agg #[.slice none 0 0, .slice none 0 0], .agg #[.int .i64 0, .int .i64 0], .int .i64 0], []⟩ 8 (by kernel_rfl) (by kernel_rfl) (by kernel_rfl) (by kernel_rfl)) ?_
  intro W base args ds gs before hval0 hW hcnd _
  have hval : ∀ (j : Nat) t v, Try.f5.params[j]? = some t → args[j]? = some v → Value.okWide Try.prog W .any base t v := hval0
  have hW' := hW
  obtain ⟨p, q, hA0, hV, rfl, hfz, hnd⟩ := hW
  have hA : DataW.TrodAll enc Try.prog W 0 (fun _ => true) true Try.f5.params.toList args.toList ds p := hA0
  rw [Try.params5] at hA hval
  obtain ⟨v0, vs0, d0, ds0, p0, q0, hargs, rfl, rfl, h0, r0⟩ := trodAll_cons hA
  obtain ⟨v1, vs1, d1, ds1, p1, q1, rfl, rfl, rfl, h1, r1⟩ := trodAll_cons r0
  obtain ⟨v2, vs2, d2, ds2, p2, q2, rfl, rfl, rfl, h2, r2⟩ := trodAll_cons r1
  obtain ⟨v3, vs3, d3, ds3, p3, q3, rfl, rfl, rfl, h3, r3⟩ := trodAll_cons r2
  obtain ⟨rfl, rfl, rfl⟩ := trodAll_nil r3
  obtain rfl : args = #[v0, v1, v2, v3] := by cases args; simp_all
  obtain ⟨rfl, rfl⟩ := trodVars_none hV
  have k0 := h0
  have lt0 : ∀ x ∈ p0, x.block < W.heap.size := by obtain ⟨m, hm⟩ := k0; exact DataW.trod_lt m _ _ _ hm
  obtain ⟨l0, rfl, hF0⟩ := agg_open Try.underlying23 (by kernel_rfl) (by kernel_rfl) (hval 0 23 v0 rfl rfl) h0
  obtain ⟨c0_0, c0_1, c0_2, c0_3, rfl⟩ := list4 (hF0.1.trans rfl)
  obtain ⟨a0_0, e0_0, w0_0⟩ := hF0.int (k := .i64) 0 rfl (by kernel_rfl)
  obtain ⟨a0_1, e0_1, w0_1⟩ := hF0.int (k := .i64) 1 rfl (by kernel_rfl)
  obtain ⟨a0_2, e0_2, w0_2⟩ := hF0.int (k := .i64) 2 rfl (by kernel_rfl)
  obtain ⟨a0_3, e0_3, w0_3⟩ := hF0.int (k := .i64) 3 rfl (by kernel_rfl)
  clear hF0
  simp only [List.getElem?_cons_zero, Option.some.injEq] at e0_0; subst e0_0
  simp only [List.getElem?_cons_zero, List.getElem?_cons_succ, Option.some.injEq] at e0_1; subst e0_1
  simp only [List.getElem?_cons_zero, List.getElem?_cons_succ, Option.some.injEq] at e0_2; subst e0_2
  simp only [List.getElem?_cons_zero, List.getElem?_cons_succ, Option.some.injEq] at e0_3; subst e0_3
  have k1 := h1
  have lt1 : ∀ x ∈ p1, x.block < W.heap.size := by obtain ⟨m, hm⟩ := k1; exact DataW.trod_lt m _ _ _ hm
  obtain ⟨l1, rfl, hF1⟩ := agg_open Try.underlying26 (by kernel_rfl) (by kernel_rfl) (hval 1 26 v1 rfl rfl) h1
  obtain ⟨c1_0, c1_1, rfl⟩ := list2 (hF1.1.trans rfl)
  obtain ⟨A1_0, cp1_0, xs1_0, e1_0, w1_0, wf1_0⟩ := hF1.ints (k := .i64) (e := 2) 0 rfl (by kernel_rfl) (by kernel_rfl) (by kernel_rfl)
  obtain ⟨A1_1, cp1_1, xs1_1, e1_1, w1_1, wf1_1⟩ := hF1.ints (k := .i64) (e := 2) 1 rfl (by kernel_rfl) (by kernel_rfl) (by kernel_rfl)
  clear hF1
  simp only [List.getElem?_cons_zero, Option.some.injEq] at e1_0; subst e1_0
  simp only [List.getElem?_cons_zero, List.getElem?_cons_succ, Option.some.injEq] at e1_1; subst e1_1
  have k2 := h2
  have lt2 : ∀ x ∈ p2, x.block < W.heap.size := by obtain ⟨m, hm⟩ := k2; exact DataW.trod_lt m _ _ _ hm
  obtain ⟨l2, rfl, hF2⟩ := agg_open Try.underlying28 (by kernel_rfl) (by kernel_rfl) (hval 2 28 v2 rfl rfl) h2
  obtain ⟨c2_0, c2_1, rfl⟩ := list2 (hF2.1.trans rfl)
  obtain ⟨a2_0, e2_0, w2_0⟩ := hF2.int (k := .i64) 0 rfl (by kernel_rfl)
  obtain ⟨a2_1, e2_1, w2_1⟩ := hF2.int (k := .i64) 1 rfl (by kernel_rfl)
  clear hF2
  simp only [List.getElem?_cons_zero, Option.some.injEq] at e2_0; subst e2_0
  simp only [List.getElem?_cons_zero, List.getElem?_cons_succ, Option.some.injEq] at e2_1; subst e2_1
  have k3 := h3
  have lt3 : ∀ x ∈ p3, x.block < W.heap.size := by obtain ⟨m, hm⟩ := k3; exact DataW.trod_lt m _ _ _ hm
  obtain ⟨a3, rfl, rfl, rfl, w3⟩ := open_int Try.underlying2 (hval 3 2 v3 rfl rfl) h3
  clear hA0 hval0
  refine (HintLaw.walk a0_0 a0_1 a0_2 a0_3 A1_0 cp1_0 xs1_0 A1_1 cp1_1 xs1_1 a2_0 a2_1 a3 W w0_0 w0_1 w0_2 w0_3 w1_0 wf1_0 w1_1 wf1_1 w2_0 w2_1 w3).mono fun e W' ⟨he, bel⟩ => ?_
  subst he
  exact ⟨_, rfl, _, _, _, [], _, [], hW', trodAll_mk1 (shut_bool Try.underlying4 _), (trodAll_cons_mk (Below.trod laidOut (by kernel_rfl) (of_decide_eq_true (by kernel_rfl)) k0 bel lt0) (trodAll_cons_mk (Below.trod laidOut (by kernel_rfl) (of_decide_eq_true (by kernel_rfl)) k1 bel lt1) (trodAll_cons_mk (Below.trod laidOut (by kernel_rfl) (of_decide_eq_true (by kernel_rfl)) k2 bel lt2) (trodAll_cons_mk (Below.trod laidOut (by kernel_rfl) (of_decide_eq_true (by kernel_rfl)) k3 bel lt3) trodAll_mk0)))), rfl, bel.frame _, fun h => by cases h⟩
theorem over : Rows.fnExactHintForRow.holds Try.pinned (OpenSpec.ofChange Rows.fnExactHintForSpec) :=
  OpenClaim.holds_of_wide 5 Try.f5 rfl rfl rfl rfl rfl rfl rfl ⟨rfl, rfl, rfl, rfl, rfl⟩ rfl rfl rfl rfl rfl (by kernel_rfl) Try.func5 (by kernel_rfl)
    (of_decide_eq_true (by kernel_rfl)) (by unfold Func.isWrapper; first | (rw [if_pos (by decide +kernel)]; kernel_rfl) | (rw [if_neg (by decide +kernel)]; exact ⟨rfl, rfl⟩))
    (fun os started H enc _ => lifted os started H enc)

theorem proved : Rows.FnExactHintForSaid := over
#print axioms proved
end Go.Proofs.Ytfgkkmhafdbicaa.fnExactHintFor
