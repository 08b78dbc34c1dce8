/-
  The step of a checker from a point with a die: of the program and of the reference. Conditions: each theorem's own.
  The step of a checker from a point with a die: of the program and of the reference. Conditions: each theorem's own.
  The legal steps with a die: of the program and of the reference. Conditions: each theorem's own.
-/
import Derived.Test.YtfgkkmhafdbicaaBd1
import Derived.Test.YtfgkkmhafdbicaaRegG
import Derived.Deep.DeepCutAuto

set_option linter.unusedVariables false
set_option linter.unusedSimpArgs false
namespace Go.Proofs.Ytfgkkmhafdbicaa.Bd4
open Go.ChangeShapes Go.WideShapes Go.ChangeAt Go.RowKit Base Ints Own Clone RelG PlP Bd1 Bd2 RegInv RegF

theorem four {W : World} {g : Nat} {t : TypeId} {a b c d : Value} (h : RowB W g t [a, b, c, d]) (u v x y : Value) : RowB ((((W.setCell ⟨g, 0, none⟩ u).setCell ⟨g, 1, none⟩ v).setCell ⟨g, 2, none⟩ x).setCell ⟨g, 3, none⟩ y) g t [u, v, x, y] :=
  (((h.set 0 u).set 1 v).set 2 x).set 3 y
theorem oth4 {W : World} {g g' : Nat} {t : TypeId} {cs : List Value} (h : RowB W g t cs) (hn : g ≠ g') (u v x y : Value) : RowB ((((W.setCell ⟨g', 0, none⟩ u).setCell ⟨g', 1, none⟩ v).setCell ⟨g', 2, none⟩ x).setCell ⟨g', 3, none⟩ y) g t cs :=
  (((h.other (p := ⟨g', 0, none⟩) hn _).other (p := ⟨g', 1, none⟩) hn _).other (p := ⟨g', 2, none⟩) hn _).other (p := ⟨g', 3, none⟩) hn _
theorem below_four {B : Nat} {w W : World} (h : Below B w W) {g : Nat} (hg : B ≤ g) (u v x y : Value) : Below B w ((((W.setCell ⟨g, 0, none⟩ u).setCell ⟨g, 1, none⟩ v).setCell ⟨g, 2, none⟩ x).setCell ⟨g, 3, none⟩ y) :=
  (((h.setCell (p := ⟨g, 0, none⟩) hg _).setCell (p := ⟨g, 1, none⟩) hg _).setCell (p := ⟨g, 2, none⟩) hg _).setCell (p := ⟨g, 3, none⟩) hg _
theorem at_rd' {w : World} {B : Nat} {bk o : Nat} {xs : List Int} (h : RdS w B 1 enI (some ⟨bk, o, none⟩) xs) {i : Nat} (hi : i < xs.length) : w.cell? ⟨bk, o + i, none⟩ = some (.int .i64 (at_ xs i)) := by
  obtain ⟨b1, o1, hA, -, hc⟩ := at_rd h hi
  simp only [Option.some.injEq, Addr.mk.injEq, and_true] at hA
  obtain ⟨rfl, rfl⟩ := hA
  exact hc
/-- A step and whether there is one. -/
def opt (s : Stp) (ok : Bool) : Option Stp := if ok then some s else none
/-- What a function that looks for a step returns. -/
def StepR (t : Option Stp) (w : World) (e : Ending) (w' : World) : Prop :=
  ∃ (s : Stp) (ok : Bool), e = .returned (.tuple #[.agg #[.int .i64 s.1, .int .i64 s.2.1, .int .i64 s.2.2.1, .bool s.2.2.2], .bool ok]) ∧ opt s ok = t ∧ Below w.heap.size w w'
theorem step_none1 {v : Vr} {b : Bd} {f d : Int} (h : at_ b.1 f.toNat = 0 ∨ (0 < at_ b.1 v.p.toNat ∧ f ≠ v.p)) : stepP v b f d = none := by unfold stepP; rw [if_pos h]
theorem step_in {v : Vr} {b : Bd} {f d : Int} (h : ¬ (at_ b.1 f.toNat = 0 ∨ (0 < at_ b.1 v.p.toNat ∧ f ≠ v.p))) (h2 : 0 ≤ f - d) :
    stepP v b f d = opt (f, f - d, d, decide (at_ b.2 (v.p - 1 - (f - d)).toNat = 1)) (decide (at_ b.2 (v.p - 1 - (f - d)).toNat ≤ 1)) := by
  unfold stepP opt
  rw [if_neg h, if_pos h2]
  simp only [decide_eq_true_eq]
theorem step_off {v : Vr} {b : Bd} {f d : Int} (h : ¬ (at_ b.1 f.toNat = 0 ∨ (0 < at_ b.1 v.p.toNat ∧ f ≠ v.p))) (h2 : ¬ 0 ≤ f - d) (h3 : ¬ (v.h ≤ last b.1 ∨ (f - d < -1 ∧ f < last b.1))) : stepP v b f d = some (f, -1, d, false) := by
  unfold stepP; rw [if_neg h, if_neg h2, if_neg h3]
theorem step_none3 {v : Vr} {b : Bd} {f d : Int} (h2 : ¬ 0 ≤ f - d) (h3 : v.h ≤ last b.1 ∨ (f - d < -1 ∧ f < last b.1)) : stepP v b f d = none := by
  unfold stepP
  by_cases c : at_ b.1 f.toNat = 0 ∨ (0 < at_ b.1 v.p.toNat ∧ f ≠ v.p)
  · rw [if_pos c]
  · rw [if_neg c, if_neg h2, if_pos h3]
theorem lastU_bd (l : List Int) : ∀ k, -1 ≤ lastU l k ∧ lastU l k < (k : Int) := by
  intro k
  induction k with
  | zero => simp [lastU]
  | succ k ih => simp only [lastU]; split <;> omega

set_option maxHeartbeats 1000000 in
theorem open_s (v : Vr) (b : Bd) (hb : Ok v b) (Ao At : Option Addr) (co ct B : Nat) (i : Int) (hi : 0 ≤ i ∧ i < v.p) (w : World) (hB : B ≤ w.heap.size) (ht : RdS w B 1 enI At b.2) :
    Calls Try.prog 94 #[.agg #[.int .i64 v.p, .int .i64 v.c, .int .i64 v.h, .int .i64 v.s], .agg #[.slice Ao b.1.length co, .slice At b.2.length ct], .int .i64 i] w fun e w' => e = .returned (.bool (decide (at_ b.2 (v.p - 1 - i).toNat ≤ 1))) ∧ Below w.heap.size w w' := by
  have hv := hb.v1
  have hl := hb.oth.len
  obtain ⟨j, hj⟩ : ∃ j : Nat, v.p - 1 - i = (j : Int) := ⟨(v.p - 1 - i).toNat, by omega⟩
  have ej : (v.p - 1 - i).toNat = j := by omega
  rw [ej]
  obtain ⟨bt, ot, rfl, hbt, hc⟩ := at_rd (ht.below (show Below w.heap.size w ((w.alloc (.cells #[.int .i64 v.p, .int .i64 v.c, .int .i64 v.h, .int .i64 v.s] 32)).alloc (.cells #[.slice Ao b.1.length co, .slice At b.2.length ct] 34)) from by go_grown) hB) (i := j) (by omega)
  have e1 : IntKind.i64.wrap (v.p - 1) = v.p - 1 := IntWalk.i64_in _ (by omega)
  have e2 : IntKind.i64.wrap (v.p - 1 - i) = (j : Int) := by rw [hj]; exact IntWalk.i64_in _ (by omega)
  have hjl : (j : Int) < (b.2.length : Int) := by omega
  clear ej
  go_enter Try.func94, Try.ntmps94
  go_wp2_with fail
  go_ret
  exact ⟨rfl, by go_grown⟩

set_option maxHeartbeats 1000000 in
theorem open_i (v : Vr) (b : Bd) (hb : Ok v b) (Ao At : Option Addr) (co ct B : Nat) (i : Int) (hi : 0 ≤ i ∧ i < v.p) (w : World) (hB : B ≤ w.heap.size) (ht : RdS w B 1 enI At b.2) :
    Calls Try.prog 97 #[.agg #[.int .i64 v.p, .int .i64 v.c, .int .i64 v.h, .int .i64 v.s], .agg #[.slice Ao b.1.length co, .slice At b.2.length ct], .int .i64 i] w fun e w' => e = .returned (.bool (decide (at_ b.2 (v.p - 1 - i).toNat ≤ 1))) ∧ Below w.heap.size w w' := by
  have hv := hb.v1
  have hl := hb.oth.len
  obtain ⟨j, hj⟩ : ∃ j : Nat, v.p - 1 - i = (j : Int) := ⟨(v.p - 1 - i).toNat, by omega⟩
  have ej : (v.p - 1 - i).toNat = j := by omega
  rw [ej]
  obtain ⟨bt, ot, rfl, hbt, hc⟩ := at_rd (ht.below (show Below w.heap.size w ((w.alloc (.cells #[.int .i64 v.p, .int .i64 v.c, .int .i64 v.h, .int .i64 v.s] 32)).alloc (.cells #[.slice Ao b.1.length co, .slice At b.2.length ct] 34)) from by go_grown) hB) (i := j) (by omega)
  have e1 : IntKind.i64.wrap (v.p - 1) = v.p - 1 := IntWalk.i64_in _ (by omega)
  have e2 : IntKind.i64.wrap (v.p - 1 - i) = (j : Int) := by rw [hj]; exact IntWalk.i64_in _ (by omega)
  have hjl : (j : Int) < (b.2.length : Int) := by omega
  clear ej
  go_enter Try.func97, Try.ntmps97
  go_wp2_with fail
  go_ret
  exact ⟨rfl, by go_grown⟩

set_option maxHeartbeats 4000000 in
set_option maxRecDepth 100000 in
theorem step_i (v : Vr) (b : Bd) (hb : Ok v b) (Ao At : Option Addr) (co ct B : Nat) (f : Nat) (d : Int) (hf : (f : Int) ≤ v.p) (hd : 1 ≤ d ∧ d ≤ 6) (w : World) (hB : B ≤ w.heap.size) (ho : RdS w B 1 enI Ao b.1) (ht : RdS w B 1 enI At b.2) :
    Calls Try.prog 96 #[.agg #[.int .i64 v.p, .int .i64 v.c, .int .i64 v.h, .int .i64 v.s], .agg #[.slice Ao b.1.length co, .slice At b.2.length ct], .int .i64 (f : Int), .int .i64 d] w fun e w' => StepR (stepP v b (f : Int) d) w e w' := by
  have hv := hb.v1
  have N1 := hb.own.len
  have N2 := hb.oth.len
  have HBK := Lib.hid hb
  have HO := Lib.hid ho
  have HT := Lib.hid ht
  obtain ⟨T, hT⟩ : ∃ T, (stepP v b (f : Int) d) = T := ⟨_, rfl⟩
  rw [hT]
  have HTQ := Lib.hid hT
  have hf0 : 0 ≤ at_ b.1 f := hb.own.nn f
  have hp0 : 0 ≤ at_ b.1 v.p.toNat := hb.own.nn _
  have ef : IntKind.i64.wrap ((f : Int) - d) = (f : Int) - d := IntWalk.i64_in _ (by omega)
  have hpl : v.p < (b.1.length : Int) := by omega
  have hfl : (f : Int) < (b.1.length : Int) := by omega
  have hfl2 : f < b.1.length := by omega
  clear hb ho ht hT
  go_enter Try.func96, Try.ntmps96
  go_upto_region 1 with (fail)
  refine wp_gen (fun W' => Below w.heap.size w W' ∧ RowB W' w.heap.size 32 [.int .i64 v.p, .int .i64 v.c, .int .i64 v.h, .int .i64 v.s] ∧ RowB W' (w.heap.size + 1) 34 [.slice Ao b.1.length co, .slice At b.2.length ct] ∧ RowB W' (w.heap.size + 2) 71 [.int .i64 0, .int .i64 0, .int .i64 0, .bool false]) ⟨by go_grown, ((RowB.new _ _ _).alloc _).alloc _, (RowB.new' _ _ _ (by simp)).alloc _, RowB.new' _ _ _ (by simp)⟩ ?_
  rintro w1 ⟨hbW, rv, rb, rr⟩
  obtain ⟨q0, q1, q2, q3⟩ := rv.c4
  obtain ⟨r0, r1⟩ := rb.c2
  obtain ⟨y0, y1, y2, y3⟩ := rr.c4
  have hl1 := rv.lt
  have hl2 := rb.lt
  have hl3 := rr.lt
  have fr := rr.frozen
  obtain ⟨b1, o1, rfl, hb1', hc1⟩ := at_rd (HO.out.below hbW hB) (i := f) hfl2
  have hc2 : ∃ c, c = at_ b.1 v.p.toNat := ⟨_, rfl⟩
  obtain ⟨b1', o1', hA, -, hcp⟩ := at_rd (HO.out.below hbW hB) (i := v.p.toNat) (by omega)
  simp only [Option.some.injEq, Addr.mk.injEq, and_true] at hA
  obtain ⟨rfl, rfl⟩ := hA
  clear hc2
  by_cases g1 : at_ b.1 f = 0
  · obtain rfl : T = none := by rw [← HTQ.out]; exact step_none1 (.inl (by simpa using g1))
    have e1 : (at_ b.1 f == 0) = true := by simp [g1]
    clear g1
    go_wp2_with fail
    refine bp_gen (fun W' => Below w.heap.size w W' ∧ RowB W' (w.heap.size + 2) 71 [.int .i64 0, .int .i64 0, .int .i64 0, .bool false]) ⟨below_four hbW (by omega) _ _ _ _, four rr _ _ _ _⟩ ?_
    rintro w8 ⟨hb8, r8⟩
    obtain ⟨z0, z1, z2, z3⟩ := r8.c4
    refine bodyPost_ret (v := .tuple #[.agg #[.int .i64 0, .int .i64 0, .int .i64 0, .bool false], .bool false]) (by simp [results, Try.results96, go_sem, z0, z1, z2, z3]) rfl ?_
    exact ⟨(0, 0, 0, false), false, rfl, by rfl, hb8⟩
  have e1 : (at_ b.1 f == 0) = false := by simp [g1]
  by_cases g2 : 0 < at_ b.1 v.p.toNat ∧ (f : Int) ≠ v.p
  · obtain rfl : T = none := by rw [← HTQ.out]; exact step_none1 (.inr g2)
    have e2 : ((f : Int) != v.p) = true := by simp [g2.2]
    have e3 : 0 < at_ b.1 v.p.toNat := g2.1
    clear g1 g2
    go_wp2_with fail
    refine bp_gen (fun W' => Below w.heap.size w W' ∧ RowB W' (w.heap.size + 2) 71 [.int .i64 0, .int .i64 0, .int .i64 0, .bool false]) ⟨below_four hbW (by omega) _ _ _ _, four rr _ _ _ _⟩ ?_
    rintro w8 ⟨hb8, r8⟩
    obtain ⟨z0, z1, z2, z3⟩ := r8.c4
    refine bodyPost_ret (v := .tuple #[.agg #[.int .i64 0, .int .i64 0, .int .i64 0, .bool false], .bool false]) (by simp [results, Try.results96, go_sem, z0, z1, z2, z3]) rfl ?_
    exact ⟨(0, 0, 0, false), false, rfl, by rfl, hb8⟩
  have G := Lib.hid (show ¬ (at_ b.1 ((f : Int)).toNat = 0 ∨ (0 < at_ b.1 v.p.toNat ∧ (f : Int) ≠ v.p)) from by
    rintro (h | h)
    · exact g1 (by simpa using h)
    · exact g2 h)
  by_cases g3 : 0 < at_ b.1 v.p.toNat
  · have e2 : ((f : Int) != v.p) = false := by
      have : (f : Int) = v.p := by
        rcases Classical.em ((f : Int) = v.p) with h | h
        · exact h
        · exact absurd ⟨g3, h⟩ g2
      simp [this]
    clear g1 g2
    by_cases g5 : 0 ≤ (f : Int) - d
    · obtain ⟨j, hj⟩ : ∃ j : Nat, v.p - 1 - ((f : Int) - d) = (j : Int) := ⟨(v.p - 1 - ((f : Int) - d)).toNat, by omega⟩
      have ej : (v.p - 1 - ((f : Int) - d)).toNat = j := by omega
      have hTs : T = opt (f, f - d, d, decide (at_ b.2 j = 1)) (decide (at_ b.2 j ≤ 1)) := by rw [← HTQ.out]; exact (by have := step_in (v := v) (b := b) (f := (f : Int)) (d := d) G.out g5; rw [ej] at this; exact this)
      have HTs := Lib.hid hTs
      have HEJ := Lib.hid ej
      clear hTs ej
      obtain ⟨bt, ot, rfl, hbt, hct⟩ := at_rd (HT.out.below hbW hB) (i := j) (by omega)
      have e5 : IntKind.i64.wrap (v.p - 1) = v.p - 1 := IntWalk.i64_in _ (by omega)
      have e6 : IntKind.i64.wrap (v.p - 1 - ((f : Int) - d)) = (j : Int) := by rw [hj]; exact IntWalk.i64_in _ (by omega)
      have e7 : IntKind.i64.wrap (j : Int) = (j : Int) := IntWalk.i64_in _ (by omega)
      have hjl2 : (j : Int) < v.p + 1 := by omega
      have hjl : (j : Int) < (b.2.length : Int) := by omega
      have CP := Lib.hid (fun w9 (h : Below w.heap.size w w9) => open_i v b HBK.out (some ⟨b1, o1, none⟩) (some ⟨bt, ot, none⟩) co ct B ((f : Int) - d) (by omega) w9 (Nat.le_trans hB h.size) (HT.out.below h hB))
      rw [HEJ.out] at CP
      go_wp2_with fail
      refine (CP.out _ hbW).mono ?_
      rintro e w2 ⟨rfl, hb2⟩
      have rv := rv.below hb2 rv.lt
      have rb := rb.below hb2 rb.lt
      have rr := rr.below hb2 rr.lt
      have hbW := hbW.trans (hb2.mono hbW.size)
      clear q0 q1 q2 q3 r0 r1 y0 y1 y2 y3 hl1 hl2 hl3 fr hb2 hct hc1 hcp
      obtain ⟨q0, q1, q2, q3⟩ := rv.c4
      obtain ⟨r0, r1⟩ := rb.c2
      obtain ⟨y0, y1, y2, y3⟩ := rr.c4
      have hl1 := rv.lt
      have hl2 := rb.lt
      have hl3 := rr.lt
      have fr := rr.frozen
      obtain ⟨bt', ot', hA, -, hct⟩ := at_rd (HT.out.below hbW hB) (i := j) (by omega)
      simp only [Option.some.injEq, Addr.mk.injEq, and_true] at hA
      obtain ⟨rfl, rfl⟩ := hA
      by_cases g6 : at_ b.2 j ≤ 1
      · have g7 : decide (at_ b.2 j ≤ 1) = true := decide_eq_true g6
        have hR : opt (f, f - d, d, decide (at_ b.2 j = 1)) true = T := by rw [HTs.out, g7]
        obtain ⟨z, hz⟩ : ∃ z, decide (at_ b.2 j = 1) = z := ⟨_, rfl⟩
        have hz2 : (at_ b.2 j == 1) = z := by rw [← hz]; rfl
        rw [hz] at hR
        have HR := Lib.hid hR
        clear g6 hz hR
        go_wp2_with fail
        refine bp_gen (fun W' => Below w.heap.size w W' ∧ RowB W' (w.heap.size + 2) 71 [.int .i64 (f : Int), .int .i64 ((f : Int) - d), .int .i64 d, .bool z]) ⟨below_four hbW (by omega) _ _ _ _, four rr _ _ _ _⟩ ?_
        rintro w8 ⟨hb8, r8⟩
        obtain ⟨z0, z1, z2, z3⟩ := r8.c4
        refine bodyPost_ret (v := .tuple #[.agg #[.int .i64 (f : Int), .int .i64 ((f : Int) - d), .int .i64 d, .bool z], .bool true]) (by simp [results, Try.results96, go_sem, z0, z1, z2, z3]) rfl ?_
        exact ⟨((f : Int), ((f : Int) - d), d, z), true, rfl, by exact HR.out, hb8⟩
      · have g7 : decide (at_ b.2 j ≤ 1) = false := decide_eq_false g6
        obtain rfl : T = none := by rw [HTs.out, g7]; rfl
        clear g6
        go_wp2_with fail
        refine bp_gen (fun W' => Below w.heap.size w W' ∧ RowB W' (w.heap.size + 2) 71 [.int .i64 0, .int .i64 0, .int .i64 0, .bool false]) ⟨below_four hbW (by omega) _ _ _ _, four rr _ _ _ _⟩ ?_
        rintro w8 ⟨hb8, r8⟩
        obtain ⟨z0, z1, z2, z3⟩ := r8.c4
        refine bodyPost_ret (v := .tuple #[.agg #[.int .i64 0, .int .i64 0, .int .i64 0, .bool false], .bool false]) (by simp [results, Try.results96, go_sem, z0, z1, z2, z3]) rfl ?_
        exact ⟨(0, 0, 0, false), false, rfl, by rfl, hb8⟩
    · have hto : (f : Int) - d < 0 := by omega
      have CL := Lib.hid (fun w9 (h : Below w.heap.size w w9) => last_i (some ⟨b1, o1, none⟩) co B b.1 w9 (HO.out.below h hB) (by omega))
      obtain ⟨l, hl⟩ : ∃ l, last b.1 = l := ⟨_, rfl⟩
      have hlb := lastU_bd b.1 b.1.length
      rw [show lastU b.1 b.1.length = last b.1 from rfl, hl] at hlb
      obtain ⟨hlb0, hlb1⟩ := hlb
      have HL := Lib.hid hl
      rw [hl] at CL
      clear hl
      have GN := Lib.hid (show (v.h ≤ l ∨ ((f : Int) - d < -1 ∧ (f : Int) < l)) → T = none from fun h => by rw [← HTQ.out]; exact step_none3 g5 (by rw [HL.out]; exact h))
      have GS := Lib.hid (show ¬ (v.h ≤ l ∨ ((f : Int) - d < -1 ∧ (f : Int) < l)) → T = some ((f : Int), -1, d, false) from fun h => by rw [← HTQ.out]; exact step_off G.out g5 (by rw [HL.out]; exact h))
      go_wp2_with fail
      refine (CL.out _ hbW).mono ?_
      rintro e w2 ⟨rfl, rfl⟩
      by_cases k1 : v.h ≤ l
      · obtain rfl : T = none := GN.out (.inl k1)
        go_wp2_with fail
        refine bp_gen (fun W' => Below w.heap.size w W' ∧ RowB W' (w.heap.size + 2) 71 [.int .i64 0, .int .i64 0, .int .i64 0, .bool false]) ⟨below_four hbW (by omega) _ _ _ _, four rr _ _ _ _⟩ ?_
        rintro w8 ⟨hb8, r8⟩
        obtain ⟨z0, z1, z2, z3⟩ := r8.c4
        refine bodyPost_ret (v := .tuple #[.agg #[.int .i64 0, .int .i64 0, .int .i64 0, .bool false], .bool false]) (by simp [results, Try.results96, go_sem, z0, z1, z2, z3]) rfl ?_
        exact ⟨(0, 0, 0, false), false, rfl, by rfl, hb8⟩
      by_cases k2 : (f : Int) - d < -1
      · have k3 : ((f : Int) != d - 1) = true := by simp; omega
        by_cases k4 : (f : Int) < l
        · obtain rfl : T = none := GN.out (.inr ⟨k2, k4⟩)
          go_wp2_with fail
          refine bp_gen (fun W' => Below w.heap.size w W' ∧ RowB W' (w.heap.size + 2) 71 [.int .i64 0, .int .i64 0, .int .i64 0, .bool false]) ⟨below_four hbW (by omega) _ _ _ _, four rr _ _ _ _⟩ ?_
          rintro w8 ⟨hb8, r8⟩
          obtain ⟨z0, z1, z2, z3⟩ := r8.c4
          refine bodyPost_ret (v := .tuple #[.agg #[.int .i64 0, .int .i64 0, .int .i64 0, .bool false], .bool false]) (by simp [results, Try.results96, go_sem, z0, z1, z2, z3]) rfl ?_
          exact ⟨(0, 0, 0, false), false, rfl, by rfl, hb8⟩
        · obtain rfl : T = some ((f : Int), -1, d, false) := GS.out (by rintro (h | h); exact k1 h; exact k4 h.2)
          go_wp2_with fail
          refine bp_gen (fun W' => Below w.heap.size w W' ∧ RowB W' (w.heap.size + 2) 71 [.int .i64 (f : Int), .int .i64 (-1), .int .i64 d, .bool false]) ⟨below_four hbW (by omega) _ _ _ _, four rr _ _ _ _⟩ ?_
          rintro w8 ⟨hb8, r8⟩
          obtain ⟨z0, z1, z2, z3⟩ := r8.c4
          refine bodyPost_ret (v := .tuple #[.agg #[.int .i64 (f : Int), .int .i64 (-1), .int .i64 d, .bool false], .bool true]) (by simp [results, Try.results96, go_sem, z0, z1, z2, z3]) rfl ?_
          exact ⟨((f : Int), (-1), d, false), true, rfl, by rfl, hb8⟩
      · have k3 : ((f : Int) != d - 1) = false := by simp; omega
        obtain rfl : T = some ((f : Int), -1, d, false) := GS.out (by rintro (h | h); exact k1 h; exact k2 h.1)
        go_wp2_with fail
        refine bp_gen (fun W' => Below w.heap.size w W' ∧ RowB W' (w.heap.size + 2) 71 [.int .i64 (f : Int), .int .i64 (-1), .int .i64 d, .bool false]) ⟨below_four hbW (by omega) _ _ _ _, four rr _ _ _ _⟩ ?_
        rintro w8 ⟨hb8, r8⟩
        obtain ⟨z0, z1, z2, z3⟩ := r8.c4
        refine bodyPost_ret (v := .tuple #[.agg #[.int .i64 (f : Int), .int .i64 (-1), .int .i64 d, .bool false], .bool true]) (by simp [results, Try.results96, go_sem, z0, z1, z2, z3]) rfl ?_
        exact ⟨((f : Int), (-1), d, false), true, rfl, by rfl, hb8⟩
  · clear g1 g2
    by_cases g5 : 0 ≤ (f : Int) - d
    · obtain ⟨j, hj⟩ : ∃ j : Nat, v.p - 1 - ((f : Int) - d) = (j : Int) := ⟨(v.p - 1 - ((f : Int) - d)).toNat, by omega⟩
      have ej : (v.p - 1 - ((f : Int) - d)).toNat = j := by omega
      have hTs : T = opt (f, f - d, d, decide (at_ b.2 j = 1)) (decide (at_ b.2 j ≤ 1)) := by rw [← HTQ.out]; exact (by have := step_in (v := v) (b := b) (f := (f : Int)) (d := d) G.out g5; rw [ej] at this; exact this)
      have HTs := Lib.hid hTs
      have HEJ := Lib.hid ej
      clear hTs ej
      obtain ⟨bt, ot, rfl, hbt, hct⟩ := at_rd (HT.out.below hbW hB) (i := j) (by omega)
      have e5 : IntKind.i64.wrap (v.p - 1) = v.p - 1 := IntWalk.i64_in _ (by omega)
      have e6 : IntKind.i64.wrap (v.p - 1 - ((f : Int) - d)) = (j : Int) := by rw [hj]; exact IntWalk.i64_in _ (by omega)
      have e7 : IntKind.i64.wrap (j : Int) = (j : Int) := IntWalk.i64_in _ (by omega)
      have hjl2 : (j : Int) < v.p + 1 := by omega
      have hjl : (j : Int) < (b.2.length : Int) := by omega
      have CP := Lib.hid (fun w9 (h : Below w.heap.size w w9) => open_i v b HBK.out (some ⟨b1, o1, none⟩) (some ⟨bt, ot, none⟩) co ct B ((f : Int) - d) (by omega) w9 (Nat.le_trans hB h.size) (HT.out.below h hB))
      rw [HEJ.out] at CP
      go_wp2_with fail
      refine (CP.out _ hbW).mono ?_
      rintro e w2 ⟨rfl, hb2⟩
      have rv := rv.below hb2 rv.lt
      have rb := rb.below hb2 rb.lt
      have rr := rr.below hb2 rr.lt
      have hbW := hbW.trans (hb2.mono hbW.size)
      clear q0 q1 q2 q3 r0 r1 y0 y1 y2 y3 hl1 hl2 hl3 fr hb2 hct hc1 hcp
      obtain ⟨q0, q1, q2, q3⟩ := rv.c4
      obtain ⟨r0, r1⟩ := rb.c2
      obtain ⟨y0, y1, y2, y3⟩ := rr.c4
      have hl1 := rv.lt
      have hl2 := rb.lt
      have hl3 := rr.lt
      have fr := rr.frozen
      obtain ⟨bt', ot', hA, -, hct⟩ := at_rd (HT.out.below hbW hB) (i := j) (by omega)
      simp only [Option.some.injEq, Addr.mk.injEq, and_true] at hA
      obtain ⟨rfl, rfl⟩ := hA
      by_cases g6 : at_ b.2 j ≤ 1
      · have g7 : decide (at_ b.2 j ≤ 1) = true := decide_eq_true g6
        have hR : opt (f, f - d, d, decide (at_ b.2 j = 1)) true = T := by rw [HTs.out, g7]
        obtain ⟨z, hz⟩ : ∃ z, decide (at_ b.2 j = 1) = z := ⟨_, rfl⟩
        have hz2 : (at_ b.2 j == 1) = z := by rw [← hz]; rfl
        rw [hz] at hR
        have HR := Lib.hid hR
        clear g6 hz hR
        go_wp2_with fail
        refine bp_gen (fun W' => Below w.heap.size w W' ∧ RowB W' (w.heap.size + 2) 71 [.int .i64 (f : Int), .int .i64 ((f : Int) - d), .int .i64 d, .bool z]) ⟨below_four hbW (by omega) _ _ _ _, four rr _ _ _ _⟩ ?_
        rintro w8 ⟨hb8, r8⟩
        obtain ⟨z0, z1, z2, z3⟩ := r8.c4
        refine bodyPost_ret (v := .tuple #[.agg #[.int .i64 (f : Int), .int .i64 ((f : Int) - d), .int .i64 d, .bool z], .bool true]) (by simp [results, Try.results96, go_sem, z0, z1, z2, z3]) rfl ?_
        exact ⟨((f : Int), ((f : Int) - d), d, z), true, rfl, by exact HR.out, hb8⟩
      · have g7 : decide (at_ b.2 j ≤ 1) = false := decide_eq_false g6
        obtain rfl : T = none := by rw [HTs.out, g7]; rfl
        clear g6
        go_wp2_with fail
        refine bp_gen (fun W' => Below w.heap.size w W' ∧ RowB W' (w.heap.size + 2) 71 [.int .i64 0, .int .i64 0, .int .i64 0, .bool false]) ⟨below_four hbW (by omega) _ _ _ _, four rr _ _ _ _⟩ ?_
        rintro w8 ⟨hb8, r8⟩
        obtain ⟨z0, z1, z2, z3⟩ := r8.c4
        refine bodyPost_ret (v := .tuple #[.agg #[.int .i64 0, .int .i64 0, .int .i64 0, .bool false], .bool false]) (by simp [results, Try.results96, go_sem, z0, z1, z2, z3]) rfl ?_
        exact ⟨(0, 0, 0, false), false, rfl, by rfl, hb8⟩
    · have hto : (f : Int) - d < 0 := by omega
      have CL := Lib.hid (fun w9 (h : Below w.heap.size w w9) => last_i (some ⟨b1, o1, none⟩) co B b.1 w9 (HO.out.below h hB) (by omega))
      obtain ⟨l, hl⟩ : ∃ l, last b.1 = l := ⟨_, rfl⟩
      have hlb := lastU_bd b.1 b.1.length
      rw [show lastU b.1 b.1.length = last b.1 from rfl, hl] at hlb
      obtain ⟨hlb0, hlb1⟩ := hlb
      have HL := Lib.hid hl
      rw [hl] at CL
      clear hl
      have GN := Lib.hid (show (v.h ≤ l ∨ ((f : Int) - d < -1 ∧ (f : Int) < l)) → T = none from fun h => by rw [← HTQ.out]; exact step_none3 g5 (by rw [HL.out]; exact h))
      have GS := Lib.hid (show ¬ (v.h ≤ l ∨ ((f : Int) - d < -1 ∧ (f : Int) < l)) → T = some ((f : Int), -1, d, false) from fun h => by rw [← HTQ.out]; exact step_off G.out g5 (by rw [HL.out]; exact h))
      go_wp2_with fail
      refine (CL.out _ hbW).mono ?_
      rintro e w2 ⟨rfl, rfl⟩
      by_cases k1 : v.h ≤ l
      · obtain rfl : T = none := GN.out (.inl k1)
        go_wp2_with fail
        refine bp_gen (fun W' => Below w.heap.size w W' ∧ RowB W' (w.heap.size + 2) 71 [.int .i64 0, .int .i64 0, .int .i64 0, .bool false]) ⟨below_four hbW (by omega) _ _ _ _, four rr _ _ _ _⟩ ?_
        rintro w8 ⟨hb8, r8⟩
        obtain ⟨z0, z1, z2, z3⟩ := r8.c4
        refine bodyPost_ret (v := .tuple #[.agg #[.int .i64 0, .int .i64 0, .int .i64 0, .bool false], .bool false]) (by simp [results, Try.results96, go_sem, z0, z1, z2, z3]) rfl ?_
        exact ⟨(0, 0, 0, false), false, rfl, by rfl, hb8⟩
      by_cases k2 : (f : Int) - d < -1
      · have k3 : ((f : Int) != d - 1) = true := by simp; omega
        by_cases k4 : (f : Int) < l
        · obtain rfl : T = none := GN.out (.inr ⟨k2, k4⟩)
          go_wp2_with fail
          refine bp_gen (fun W' => Below w.heap.size w W' ∧ RowB W' (w.heap.size + 2) 71 [.int .i64 0, .int .i64 0, .int .i64 0, .bool false]) ⟨below_four hbW (by omega) _ _ _ _, four rr _ _ _ _⟩ ?_
          rintro w8 ⟨hb8, r8⟩
          obtain ⟨z0, z1, z2, z3⟩ := r8.c4
          refine bodyPost_ret (v := .tuple #[.agg #[.int .i64 0, .int .i64 0, .int .i64 0, .bool false], .bool false]) (by simp [results, Try.results96, go_sem, z0, z1, z2, z3]) rfl ?_
          exact ⟨(0, 0, 0, false), false, rfl, by rfl, hb8⟩
        · obtain rfl : T = some ((f : Int), -1, d, false) := GS.out (by rintro (h | h); exact k1 h; exact k4 h.2)
          go_wp2_with fail
          refine bp_gen (fun W' => Below w.heap.size w W' ∧ RowB W' (w.heap.size + 2) 71 [.int .i64 (f : Int), .int .i64 (-1), .int .i64 d, .bool false]) ⟨below_four hbW (by omega) _ _ _ _, four rr _ _ _ _⟩ ?_
          rintro w8 ⟨hb8, r8⟩
          obtain ⟨z0, z1, z2, z3⟩ := r8.c4
          refine bodyPost_ret (v := .tuple #[.agg #[.int .i64 (f : Int), .int .i64 (-1), .int .i64 d, .bool false], .bool true]) (by simp [results, Try.results96, go_sem, z0, z1, z2, z3]) rfl ?_
          exact ⟨((f : Int), (-1), d, false), true, rfl, by rfl, hb8⟩
      · have k3 : ((f : Int) != d - 1) = false := by simp; omega
        obtain rfl : T = some ((f : Int), -1, d, false) := GS.out (by rintro (h | h); exact k1 h; exact k2 h.1)
        go_wp2_with fail
        refine bp_gen (fun W' => Below w.heap.size w W' ∧ RowB W' (w.heap.size + 2) 71 [.int .i64 (f : Int), .int .i64 (-1), .int .i64 d, .bool false]) ⟨below_four hbW (by omega) _ _ _ _, four rr _ _ _ _⟩ ?_
        rintro w8 ⟨hb8, r8⟩
        obtain ⟨z0, z1, z2, z3⟩ := r8.c4
        refine bodyPost_ret (v := .tuple #[.agg #[.int .i64 (f : Int), .int .i64 (-1), .int .i64 d, .bool false], .bool true]) (by simp [results, Try.results96, go_sem, z0, z1, z2, z3]) rfl ?_
        exact ⟨((f : Int), (-1), d, false), true, rfl, by rfl, hb8⟩
end Go.Proofs.Ytfgkkmhafdbicaa.Bd4

set_option linter.unusedVariables false
set_option linter.unusedSimpArgs false
namespace Go.Proofs.Ytfgkkmhafdbicaa.Bd4
open Go.ChangeShapes Go.WideShapes Go.ChangeAt Go.RowKit Base Ints Own Clone RelG PlP Bd1 Bd2 RegInv RegF

set_option maxHeartbeats 4000000 in
set_option maxRecDepth 100000 in
theorem step_s (v : Vr) (b : Bd) (hb : Ok v b) (Ao At : Option Addr) (co ct B : Nat) (f : Nat) (d : Int) (hf : (f : Int) ≤ v.p) (hd : 1 ≤ d ∧ d ≤ 6) (w : World) (hB : B ≤ w.heap.size) (ho : RdS w B 1 enI Ao b.1) (ht : RdS w B 1 enI At b.2) :
    Calls Try.prog 91 #[.agg #[.int .i64 v.p, .int .i64 v.c, .int .i64 v.h, .int .i64 v.s], .agg #[.slice Ao b.1.length co, .slice At b.2.length ct], .int .i64 (f : Int), .int .i64 d] w fun e w' => StepR ((if over b then none else stepP v b (f : Int) d)) w e w' := by
  have hv := hb.v1
  have N1 := hb.own.len
  have N2 := hb.oth.len
  have HBK := Lib.hid hb
  have HO := Lib.hid ho
  have HT := Lib.hid ht
  obtain ⟨T, hT⟩ : ∃ T, ((if over b then none else stepP v b (f : Int) d)) = T := ⟨_, rfl⟩
  rw [hT]
  have HTQ := Lib.hid hT
  have hf0 : 0 ≤ at_ b.1 f := hb.own.nn f
  have hp0 : 0 ≤ at_ b.1 v.p.toNat := hb.own.nn _
  have ef : IntKind.i64.wrap ((f : Int) - d) = (f : Int) - d := IntWalk.i64_in _ (by omega)
  have hpl : v.p < (b.1.length : Int) := by omega
  have hfl : (f : Int) < (b.1.length : Int) := by omega
  have hfl2 : f < b.1.length := by omega
  clear hb ho ht hT
  go_enter Try.func91, Try.ntmps91
  go_upto_region 1 with (fail)
  refine wp_gen (fun W' => Below w.heap.size w W' ∧ RowB W' w.heap.size 32 [.int .i64 v.p, .int .i64 v.c, .int .i64 v.h, .int .i64 v.s] ∧ RowB W' (w.heap.size + 1) 34 [.slice Ao b.1.length co, .slice At b.2.length ct] ∧ RowB W' (w.heap.size + 2) 71 [.int .i64 0, .int .i64 0, .int .i64 0, .bool false]) ⟨by go_grown, ((RowB.new _ _ _).alloc _).alloc _, (RowB.new' _ _ _ (by simp)).alloc _, RowB.new' _ _ _ (by simp)⟩ ?_
  rintro w1 ⟨hbW, rv, rb, rr⟩
  obtain ⟨q0, q1, q2, q3⟩ := rv.c4
  obtain ⟨r0, r1⟩ := rb.c2
  obtain ⟨y0, y1, y2, y3⟩ := rr.c4
  have hl1 := rv.lt
  have hl2 := rb.lt
  have hl3 := rr.lt
  have fr := rr.frozen
  obtain ⟨ov, hov⟩ : ∃ a, over b = a := ⟨_, rfl⟩
  have HOV := Lib.hid hov
  have CO := Lib.hid (fun w9 (h : Below w.heap.size w w9) => over_s v b HBK.out Ao At co ct B w9 (Nat.le_trans hB h.size) (HO.out.below h hB) (HT.out.below h hB) ov hov)
  clear hov
  go_wp2_with fail
  refine (CO.out w1 hbW).mono ?_
  rintro e w2 ⟨rfl, hb2⟩
  have rv := rv.below hb2 rv.lt
  have rb := rb.below hb2 rb.lt
  have rr := rr.below hb2 rr.lt
  have hbW := hbW.trans (hb2.mono hbW.size)
  clear q0 q1 q2 q3 r0 r1 y0 y1 y2 y3 hl1 hl2 hl3 fr hb2
  obtain ⟨q0, q1, q2, q3⟩ := rv.c4
  obtain ⟨r0, r1⟩ := rb.c2
  obtain ⟨y0, y1, y2, y3⟩ := rr.c4
  have hl1 := rv.lt
  have hl2 := rb.lt
  have hl3 := rr.lt
  have fr := rr.frozen
  cases ov
  case true =>
    obtain rfl : T = none := by rw [← HTQ.out, HOV.out]; rfl
    go_wp2_with fail
    refine bp_gen (fun W' => Below w.heap.size w W' ∧ RowB W' (w.heap.size + 2) 71 [.int .i64 0, .int .i64 0, .int .i64 0, .bool false]) ⟨below_four hbW (by omega) _ _ _ _, four rr _ _ _ _⟩ ?_
    rintro w8 ⟨hb8, r8⟩
    obtain ⟨z0, z1, z2, z3⟩ := r8.c4
    refine bodyPost_ret (v := .tuple #[.agg #[.int .i64 0, .int .i64 0, .int .i64 0, .bool false], .bool false]) (by simp [results, Try.results91, go_sem, z0, z1, z2, z3]) rfl ?_
    exact ⟨(0, 0, 0, false), false, rfl, by rfl, hb8⟩
  obtain ⟨b1, o1, rfl, hb1', hc1⟩ := at_rd (HO.out.below hbW hB) (i := f) hfl2
  have hc2 : ∃ c, c = at_ b.1 v.p.toNat := ⟨_, rfl⟩
  obtain ⟨b1', o1', hA, -, hcp⟩ := at_rd (HO.out.below hbW hB) (i := v.p.toNat) (by omega)
  simp only [Option.some.injEq, Addr.mk.injEq, and_true] at hA
  obtain ⟨rfl, rfl⟩ := hA
  clear hc2
  by_cases g1 : at_ b.1 f = 0
  · obtain rfl : T = none := by rw [← HTQ.out, HOV.out]; exact step_none1 (.inl (by simpa using g1))
    have e1 : (at_ b.1 f == 0) = true := by simp [g1]
    clear g1
    go_wp2_with fail
    refine bp_gen (fun W' => Below w.heap.size w W' ∧ RowB W' (w.heap.size + 2) 71 [.int .i64 0, .int .i64 0, .int .i64 0, .bool false]) ⟨below_four hbW (by omega) _ _ _ _, four rr _ _ _ _⟩ ?_
    rintro w8 ⟨hb8, r8⟩
    obtain ⟨z0, z1, z2, z3⟩ := r8.c4
    refine bodyPost_ret (v := .tuple #[.agg #[.int .i64 0, .int .i64 0, .int .i64 0, .bool false], .bool false]) (by simp [results, Try.results91, go_sem, z0, z1, z2, z3]) rfl ?_
    exact ⟨(0, 0, 0, false), false, rfl, by rfl, hb8⟩
  have e1 : (at_ b.1 f == 0) = false := by simp [g1]
  by_cases g2 : 0 < at_ b.1 v.p.toNat ∧ (f : Int) ≠ v.p
  · obtain rfl : T = none := by rw [← HTQ.out, HOV.out]; exact step_none1 (.inr g2)
    have e2 : ((f : Int) != v.p) = true := by simp [g2.2]
    have e3 : 0 < at_ b.1 v.p.toNat := g2.1
    clear g1 g2
    go_wp2_with fail
    refine bp_gen (fun W' => Below w.heap.size w W' ∧ RowB W' (w.heap.size + 2) 71 [.int .i64 0, .int .i64 0, .int .i64 0, .bool false]) ⟨below_four hbW (by omega) _ _ _ _, four rr _ _ _ _⟩ ?_
    rintro w8 ⟨hb8, r8⟩
    obtain ⟨z0, z1, z2, z3⟩ := r8.c4
    refine bodyPost_ret (v := .tuple #[.agg #[.int .i64 0, .int .i64 0, .int .i64 0, .bool false], .bool false]) (by simp [results, Try.results91, go_sem, z0, z1, z2, z3]) rfl ?_
    exact ⟨(0, 0, 0, false), false, rfl, by rfl, hb8⟩
  have G := Lib.hid (show ¬ (at_ b.1 ((f : Int)).toNat = 0 ∨ (0 < at_ b.1 v.p.toNat ∧ (f : Int) ≠ v.p)) from by
    rintro (h | h)
    · exact g1 (by simpa using h)
    · exact g2 h)
  by_cases g3 : 0 < at_ b.1 v.p.toNat
  · have e2 : ((f : Int) != v.p) = false := by
      have : (f : Int) = v.p := by
        rcases Classical.em ((f : Int) = v.p) with h | h
        · exact h
        · exact absurd ⟨g3, h⟩ g2
      simp [this]
    clear g1 g2
    by_cases g5 : 0 ≤ (f : Int) - d
    · obtain ⟨j, hj⟩ : ∃ j : Nat, v.p - 1 - ((f : Int) - d) = (j : Int) := ⟨(v.p - 1 - ((f : Int) - d)).toNat, by omega⟩
      have ej : (v.p - 1 - ((f : Int) - d)).toNat = j := by omega
      have hTs : T = opt (f, f - d, d, decide (at_ b.2 j = 1)) (decide (at_ b.2 j ≤ 1)) := by rw [← HTQ.out, HOV.out]; exact (by have := step_in (v := v) (b := b) (f := (f : Int)) (d := d) G.out g5; rw [ej] at this; exact this)
      have HTs := Lib.hid hTs
      have HEJ := Lib.hid ej
      clear hTs ej
      obtain ⟨bt, ot, rfl, hbt, hct⟩ := at_rd (HT.out.below hbW hB) (i := j) (by omega)
      have e5 : IntKind.i64.wrap (v.p - 1) = v.p - 1 := IntWalk.i64_in _ (by omega)
      have e6 : IntKind.i64.wrap (v.p - 1 - ((f : Int) - d)) = (j : Int) := by rw [hj]; exact IntWalk.i64_in _ (by omega)
      have e7 : IntKind.i64.wrap (j : Int) = (j : Int) := IntWalk.i64_in _ (by omega)
      have hjl2 : (j : Int) < v.p + 1 := by omega
      have hjl : (j : Int) < (b.2.length : Int) := by omega
      have CP := Lib.hid (fun w9 (h : Below w.heap.size w w9) => open_s v b HBK.out (some ⟨b1, o1, none⟩) (some ⟨bt, ot, none⟩) co ct B ((f : Int) - d) (by omega) w9 (Nat.le_trans hB h.size) (HT.out.below h hB))
      rw [HEJ.out] at CP
      obtain ⟨z, hz⟩ : ∃ z, decide (at_ b.2 j = 1) = z := ⟨_, rfl⟩
      have hz2 : (at_ b.2 j == 1) = z := by rw [← hz]; rfl
      obtain ⟨y, hy⟩ : ∃ y, decide (at_ b.2 j ≤ 1) = y := ⟨_, rfl⟩
      rw [hz, hy] at HTs
      rw [hy] at CP
      clear hz hy
      have g4 : decide ((f : Int) - d < 0) = false := decide_eq_false (by omega)
      go_upto_region 5 with (fail)
      clear q0 q1 q2 q3 r0 r1 y0 y1 y2 y3 hl1 hl2 hl3 fr hct hc1 hcp
      refine region_fix [some 43, some 44, some 45, some 46, some 47, some 48, some 49, some 50, some 51, some 52, some 53, some 54, some 55, some 56, some 57, some 58, some 59, some 60, none, some 9] (fun j_ => ([.int .i64 (f : Int), .int .i64 ((f : Int) - d), .int .i64 d, .pointer (some ⟨w.heap.size + 1, 1, none⟩), .slice (some ⟨bt, ot, none⟩) b.2.length ct, .pointer (some ⟨w.heap.size, 0, none⟩), .int .i64 v.p, .int .i64 (v.p - 1), .int .i64 ((f : Int) - d), .int .i64 (j : Int), .pointer (some ⟨bt, ot + j, none⟩), .int .i64 (at_ b.2 j), .bool z, .agg #[.int .i64 (f : Int), .int .i64 ((f : Int) - d), .int .i64 d, .bool z], .agg #[.int .i64 v.p, .int .i64 v.c, .int .i64 v.h, .int .i64 v.s], .agg #[.slice (some ⟨b1, o1, none⟩) b.1.length co, .slice (some ⟨bt, ot, none⟩) b.2.length ct], .int .i64 ((f : Int) - d), .bool y, undef, .bool y] : List Value).getD j_ undef) (fun L w' => Below w.heap.size w w' ∧ RowB w' w.heap.size 32 [.int .i64 v.p, .int .i64 v.c, .int .i64 v.h, .int .i64 v.s] ∧ RowB w' (w.heap.size + 1) 34 [.slice (some ⟨b1, o1, none⟩) b.1.length co, .slice (some ⟨bt, ot, none⟩) b.2.length ct] ∧ (¬ L 18 → RowB w' (w.heap.size + 2) 71 [.int .i64 0, .int .i64 0, .int .i64 0, .bool false]) ∧ (L 18 → RowB w' (w.heap.size + 2) 71 [.int .i64 (f : Int), .int .i64 ((f : Int) - d), .int .i64 d, .bool z])) (by kernel_rfl) (by kernel_rfl) (by kernel_rfl) (by kernel_rfl) (by first | kernel_rfl | rfl) (by first | kernel_rfl | rfl) ?hB1 ?hBL1 ?hst1 ?fin1
      case hB1 => exact ⟨hbW.drew, rv.drew, rb.drew, fun _ => rr.drew, fun h => h.elim⟩
      case hBL1 => exact fun L L' w' h hb => ⟨hb.1, hb.2.1, hb.2.2.1, fun hn => hb.2.2.2.1 (fun x => hn ((h 18 (by decide)).1 x)), fun hy => hb.2.2.2.2 ((h 18 (by decide)).2 hy)⟩
      case hst1 =>
        refine FixFrom.run rfl rfl (fun L A w9 hno hu h0 hb9 K hK => ?_) ?_
        · have e2 : A.tmps[2]?.getD undef = .int .i64 (f : Int) := h0 2 (by decide)
          clear hu h0
          have rv := hb9.2.1
          have rb := hb9.2.2.1
          have hz9 := Lib.hid hb9.2.2.2.1
          have hn9 := Lib.hid hb9.2.2.2.2
          replace hb9 := hb9.1
          have q0 := rv.c4.1
          have q1 := rv.c4.2.1
          have q2 := rv.c4.2.2.1
          have q3 := rv.c4.2.2.2
          have r0 := rb.c2.1
          have r1 := rb.c2.2
          have hl1 := rv.lt
          have hl2 := rb.lt
          have hct := at_rd' (HT.out.below hb9 hB) (i := j) (by omega)
          go_simp
          exact hK.out w9 ⟨hb9, rv, rb, fun h => hz9.out (fun x => h (Or.inr x)), fun h => hn9.out (h.resolve_left (by decide))⟩
        refine FixFrom.run rfl rfl (fun L A w9 hno hu h0 hb9 K hK => ?_) ?_
        · have e10 : A.tmps[10]?.getD undef = .int .i64 ((f : Int) - d) := h0 10 (by decide)
          clear hu h0
          have rv := hb9.2.1
          have rb := hb9.2.2.1
          have hz9 := Lib.hid hb9.2.2.2.1
          have hn9 := Lib.hid hb9.2.2.2.2
          replace hb9 := hb9.1
          have q0 := rv.c4.1
          have q1 := rv.c4.2.1
          have q2 := rv.c4.2.2.1
          have q3 := rv.c4.2.2.2
          have r0 := rb.c2.1
          have r1 := rb.c2.2
          have hl1 := rv.lt
          have hl2 := rb.lt
          have hct := at_rd' (HT.out.below hb9 hB) (i := j) (by omega)
          go_simp
          exact hK.out w9 ⟨hb9, rv, rb, fun h => hz9.out (fun x => h (Or.inr x)), fun h => hn9.out (h.resolve_left (by decide))⟩
        refine FixFrom.run rfl rfl (fun L A w9 hno hu h0 hb9 K hK => ?_) ?_
        · have e3 : A.tmps[3]?.getD undef = .int .i64 d := h0 3 (by decide)
          clear hu h0
          have rv := hb9.2.1
          have rb := hb9.2.2.1
          have hz9 := Lib.hid hb9.2.2.2.1
          have hn9 := Lib.hid hb9.2.2.2.2
          replace hb9 := hb9.1
          have q0 := rv.c4.1
          have q1 := rv.c4.2.1
          have q2 := rv.c4.2.2.1
          have q3 := rv.c4.2.2.2
          have r0 := rb.c2.1
          have r1 := rb.c2.2
          have hl1 := rv.lt
          have hl2 := rb.lt
          have hct := at_rd' (HT.out.below hb9 hB) (i := j) (by omega)
          go_simp
          exact hK.out w9 ⟨hb9, rv, rb, fun h => hz9.out (fun x => h (Or.inr x)), fun h => hn9.out (h.resolve_left (by decide))⟩
        refine FixFrom.run rfl rfl (fun L A w9 hno hu h0 hb9 K hK => ?_) ?_
        · have e5 : A.tmps[5]?.getD undef = .pointer (some ⟨w.heap.size + 1, 0, none⟩) := h0 5 (by decide)
          clear hu h0
          have rv := hb9.2.1
          have rb := hb9.2.2.1
          have hz9 := Lib.hid hb9.2.2.2.1
          have hn9 := Lib.hid hb9.2.2.2.2
          replace hb9 := hb9.1
          have q0 := rv.c4.1
          have q1 := rv.c4.2.1
          have q2 := rv.c4.2.2.1
          have q3 := rv.c4.2.2.2
          have r0 := rb.c2.1
          have r1 := rb.c2.2
          have hl1 := rv.lt
          have hl2 := rb.lt
          have hct := at_rd' (HT.out.below hb9 hB) (i := j) (by omega)
          go_simp
          exact hK.out w9 ⟨hb9, rv, rb, fun h => hz9.out (fun x => h (Or.inr x)), fun h => hn9.out (h.resolve_left (by decide))⟩
        refine FixFrom.run rfl rfl (fun L A w9 hno hu h0 hb9 K hK => ?_) ?_
        · have e46 : A.tmps[46]?.getD undef = .pointer (some ⟨w.heap.size + 1, 1, none⟩) := hu 3 46 (by kernel_rfl) rfl
          clear hu h0
          have rv := hb9.2.1
          have rb := hb9.2.2.1
          have hz9 := Lib.hid hb9.2.2.2.1
          have hn9 := Lib.hid hb9.2.2.2.2
          replace hb9 := hb9.1
          have q0 := rv.c4.1
          have q1 := rv.c4.2.1
          have q2 := rv.c4.2.2.1
          have q3 := rv.c4.2.2.2
          have r0 := rb.c2.1
          have r1 := rb.c2.2
          have hl1 := rv.lt
          have hl2 := rb.lt
          have hct := at_rd' (HT.out.below hb9 hB) (i := j) (by omega)
          go_simp
          exact hK.out w9 ⟨hb9, rv, rb, fun h => hz9.out (fun x => h (Or.inr x)), fun h => hn9.out (h.resolve_left (by decide))⟩
        refine FixFrom.run rfl rfl (fun L A w9 hno hu h0 hb9 K hK => ?_) ?_
        · have e4 : A.tmps[4]?.getD undef = .pointer (some ⟨w.heap.size, 0, none⟩) := h0 4 (by decide)
          clear hu h0
          have rv := hb9.2.1
          have rb := hb9.2.2.1
          have hz9 := Lib.hid hb9.2.2.2.1
          have hn9 := Lib.hid hb9.2.2.2.2
          replace hb9 := hb9.1
          have q0 := rv.c4.1
          have q1 := rv.c4.2.1
          have q2 := rv.c4.2.2.1
          have q3 := rv.c4.2.2.2
          have r0 := rb.c2.1
          have r1 := rb.c2.2
          have hl1 := rv.lt
          have hl2 := rb.lt
          have hct := at_rd' (HT.out.below hb9 hB) (i := j) (by omega)
          go_simp
          exact hK.out w9 ⟨hb9, rv, rb, fun h => hz9.out (fun x => h (Or.inr x)), fun h => hn9.out (h.resolve_left (by decide))⟩
        refine FixFrom.run rfl rfl (fun L A w9 hno hu h0 hb9 K hK => ?_) ?_
        · have e48 : A.tmps[48]?.getD undef = .pointer (some ⟨w.heap.size, 0, none⟩) := hu 5 48 (by kernel_rfl) rfl
          clear hu h0
          have rv := hb9.2.1
          have rb := hb9.2.2.1
          have hz9 := Lib.hid hb9.2.2.2.1
          have hn9 := Lib.hid hb9.2.2.2.2
          replace hb9 := hb9.1
          have q0 := rv.c4.1
          have q1 := rv.c4.2.1
          have q2 := rv.c4.2.2.1
          have q3 := rv.c4.2.2.2
          have r0 := rb.c2.1
          have r1 := rb.c2.2
          have hl1 := rv.lt
          have hl2 := rb.lt
          have hct := at_rd' (HT.out.below hb9 hB) (i := j) (by omega)
          go_simp
          exact hK.out w9 ⟨hb9, rv, rb, fun h => hz9.out (fun x => h (Or.inr x)), fun h => hn9.out (h.resolve_left (by decide))⟩
        refine FixFrom.run rfl rfl (fun L A w9 hno hu h0 hb9 K hK => ?_) ?_
        · have e49 : A.tmps[49]?.getD undef = .int .i64 v.p := hu 6 49 (by kernel_rfl) rfl
          clear hu h0
          have rv := hb9.2.1
          have rb := hb9.2.2.1
          have hz9 := Lib.hid hb9.2.2.2.1
          have hn9 := Lib.hid hb9.2.2.2.2
          replace hb9 := hb9.1
          have q0 := rv.c4.1
          have q1 := rv.c4.2.1
          have q2 := rv.c4.2.2.1
          have q3 := rv.c4.2.2.2
          have r0 := rb.c2.1
          have r1 := rb.c2.2
          have hl1 := rv.lt
          have hl2 := rb.lt
          have hct := at_rd' (HT.out.below hb9 hB) (i := j) (by omega)
          go_simp
          exact hK.out w9 ⟨hb9, rv, rb, fun h => hz9.out (fun x => h (Or.inr x)), fun h => hn9.out (h.resolve_left (by decide))⟩
        refine FixFrom.run rfl rfl (fun L A w9 hno hu h0 hb9 K hK => ?_) ?_
        · have e10 : A.tmps[10]?.getD undef = .int .i64 ((f : Int) - d) := h0 10 (by decide)
          clear hu h0
          have rv := hb9.2.1
          have rb := hb9.2.2.1
          have hz9 := Lib.hid hb9.2.2.2.1
          have hn9 := Lib.hid hb9.2.2.2.2
          replace hb9 := hb9.1
          have q0 := rv.c4.1
          have q1 := rv.c4.2.1
          have q2 := rv.c4.2.2.1
          have q3 := rv.c4.2.2.2
          have r0 := rb.c2.1
          have r1 := rb.c2.2
          have hl1 := rv.lt
          have hl2 := rb.lt
          have hct := at_rd' (HT.out.below hb9 hB) (i := j) (by omega)
          go_simp
          exact hK.out w9 ⟨hb9, rv, rb, fun h => hz9.out (fun x => h (Or.inr x)), fun h => hn9.out (h.resolve_left (by decide))⟩
        refine FixFrom.run rfl rfl (fun L A w9 hno hu h0 hb9 K hK => ?_) ?_
        · have e50 : A.tmps[50]?.getD undef = .int .i64 (v.p - 1) := hu 7 50 (by kernel_rfl) rfl
          have e51 : A.tmps[51]?.getD undef = .int .i64 ((f : Int) - d) := hu 8 51 (by kernel_rfl) rfl
          clear hu h0
          have rv := hb9.2.1
          have rb := hb9.2.2.1
          have hz9 := Lib.hid hb9.2.2.2.1
          have hn9 := Lib.hid hb9.2.2.2.2
          replace hb9 := hb9.1
          have q0 := rv.c4.1
          have q1 := rv.c4.2.1
          have q2 := rv.c4.2.2.1
          have q3 := rv.c4.2.2.2
          have r0 := rb.c2.1
          have r1 := rb.c2.2
          have hl1 := rv.lt
          have hl2 := rb.lt
          have hct := at_rd' (HT.out.below hb9 hB) (i := j) (by omega)
          go_simp
          exact hK.out w9 ⟨hb9, rv, rb, fun h => hz9.out (fun x => h (Or.inr x)), fun h => hn9.out (h.resolve_left (by decide))⟩
        refine FixFrom.run rfl rfl (fun L A w9 hno hu h0 hb9 K hK => ?_) ?_
        · have e47 : A.tmps[47]?.getD undef = .slice (some ⟨bt, ot, none⟩) b.2.length ct := hu 4 47 (by kernel_rfl) rfl
          have e52 : A.tmps[52]?.getD undef = .int .i64 (j : Int) := hu 9 52 (by kernel_rfl) rfl
          clear hu h0
          have rv := hb9.2.1
          have rb := hb9.2.2.1
          have hz9 := Lib.hid hb9.2.2.2.1
          have hn9 := Lib.hid hb9.2.2.2.2
          replace hb9 := hb9.1
          have q0 := rv.c4.1
          have q1 := rv.c4.2.1
          have q2 := rv.c4.2.2.1
          have q3 := rv.c4.2.2.2
          have r0 := rb.c2.1
          have r1 := rb.c2.2
          have hl1 := rv.lt
          have hl2 := rb.lt
          have hct := at_rd' (HT.out.below hb9 hB) (i := j) (by omega)
          go_simp
          exact hK.out w9 ⟨hb9, rv, rb, fun h => hz9.out (fun x => h (Or.inr x)), fun h => hn9.out (h.resolve_left (by decide))⟩
        refine FixFrom.run rfl rfl (fun L A w9 hno hu h0 hb9 K hK => ?_) ?_
        · have e53 : A.tmps[53]?.getD undef = .pointer (some ⟨bt, ot + j, none⟩) := hu 10 53 (by kernel_rfl) rfl
          clear hu h0
          have rv := hb9.2.1
          have rb := hb9.2.2.1
          have hz9 := Lib.hid hb9.2.2.2.1
          have hn9 := Lib.hid hb9.2.2.2.2
          replace hb9 := hb9.1
          have q0 := rv.c4.1
          have q1 := rv.c4.2.1
          have q2 := rv.c4.2.2.1
          have q3 := rv.c4.2.2.2
          have r0 := rb.c2.1
          have r1 := rb.c2.2
          have hl1 := rv.lt
          have hl2 := rb.lt
          have hct := at_rd' (HT.out.below hb9 hB) (i := j) (by omega)
          go_simp
          exact hK.out w9 ⟨hb9, rv, rb, fun h => hz9.out (fun x => h (Or.inr x)), fun h => hn9.out (h.resolve_left (by decide))⟩
        refine FixFrom.run rfl rfl (fun L A w9 hno hu h0 hb9 K hK => ?_) ?_
        · have e54 : A.tmps[54]?.getD undef = .int .i64 (at_ b.2 j) := hu 11 54 (by kernel_rfl) rfl
          clear hu h0
          have rv := hb9.2.1
          have rb := hb9.2.2.1
          have hz9 := Lib.hid hb9.2.2.2.1
          have hn9 := Lib.hid hb9.2.2.2.2
          replace hb9 := hb9.1
          have q0 := rv.c4.1
          have q1 := rv.c4.2.1
          have q2 := rv.c4.2.2.1
          have q3 := rv.c4.2.2.2
          have r0 := rb.c2.1
          have r1 := rb.c2.2
          have hl1 := rv.lt
          have hl2 := rb.lt
          have hct := at_rd' (HT.out.below hb9 hB) (i := j) (by omega)
          go_simp
          exact hK.out w9 ⟨hb9, rv, rb, fun h => hz9.out (fun x => h (Or.inr x)), fun h => hn9.out (h.resolve_left (by decide))⟩
        refine FixFrom.run rfl rfl (fun L A w9 hno hu h0 hb9 K hK => ?_) ?_
        · have e43 : A.tmps[43]?.getD undef = .int .i64 (f : Int) := hu 0 43 (by kernel_rfl) rfl
          have e44 : A.tmps[44]?.getD undef = .int .i64 ((f : Int) - d) := hu 1 44 (by kernel_rfl) rfl
          have e45 : A.tmps[45]?.getD undef = .int .i64 d := hu 2 45 (by kernel_rfl) rfl
          have e55 : A.tmps[55]?.getD undef = .bool z := hu 12 55 (by kernel_rfl) rfl
          clear hu h0
          have rv := hb9.2.1
          have rb := hb9.2.2.1
          have hz9 := Lib.hid hb9.2.2.2.1
          have hn9 := Lib.hid hb9.2.2.2.2
          replace hb9 := hb9.1
          have q0 := rv.c4.1
          have q1 := rv.c4.2.1
          have q2 := rv.c4.2.2.1
          have q3 := rv.c4.2.2.2
          have r0 := rb.c2.1
          have r1 := rb.c2.2
          have hl1 := rv.lt
          have hl2 := rb.lt
          have hct := at_rd' (HT.out.below hb9 hB) (i := j) (by omega)
          go_simp
          exact hK.out w9 ⟨hb9, rv, rb, fun h => hz9.out (fun x => h (Or.inr x)), fun h => hn9.out (h.resolve_left (by decide))⟩
        refine FixFrom.run rfl rfl (fun L A w9 hno hu h0 hb9 K hK => ?_) ?_
        · have e4 : A.tmps[4]?.getD undef = .pointer (some ⟨w.heap.size, 0, none⟩) := h0 4 (by decide)
          clear hu h0
          have rv := hb9.2.1
          have rb := hb9.2.2.1
          have hz9 := Lib.hid hb9.2.2.2.1
          have hn9 := Lib.hid hb9.2.2.2.2
          replace hb9 := hb9.1
          have q0 := rv.c4.1
          have q1 := rv.c4.2.1
          have q2 := rv.c4.2.2.1
          have q3 := rv.c4.2.2.2
          have r0 := rb.c2.1
          have r1 := rb.c2.2
          have hl1 := rv.lt
          have hl2 := rb.lt
          have hct := at_rd' (HT.out.below hb9 hB) (i := j) (by omega)
          go_simp
          exact hK.out w9 ⟨hb9, rv, rb, fun h => hz9.out (fun x => h (Or.inr x)), fun h => hn9.out (h.resolve_left (by decide))⟩
        refine FixFrom.run rfl rfl (fun L A w9 hno hu h0 hb9 K hK => ?_) ?_
        · have e5 : A.tmps[5]?.getD undef = .pointer (some ⟨w.heap.size + 1, 0, none⟩) := h0 5 (by decide)
          clear hu h0
          have rv := hb9.2.1
          have rb := hb9.2.2.1
          have hz9 := Lib.hid hb9.2.2.2.1
          have hn9 := Lib.hid hb9.2.2.2.2
          replace hb9 := hb9.1
          have q0 := rv.c4.1
          have q1 := rv.c4.2.1
          have q2 := rv.c4.2.2.1
          have q3 := rv.c4.2.2.2
          have r0 := rb.c2.1
          have r1 := rb.c2.2
          have hl1 := rv.lt
          have hl2 := rb.lt
          have hct := at_rd' (HT.out.below hb9 hB) (i := j) (by omega)
          go_simp
          exact hK.out w9 ⟨hb9, rv, rb, fun h => hz9.out (fun x => h (Or.inr x)), fun h => hn9.out (h.resolve_left (by decide))⟩
        refine FixFrom.run rfl rfl (fun L A w9 hno hu h0 hb9 K hK => ?_) ?_
        · have e10 : A.tmps[10]?.getD undef = .int .i64 ((f : Int) - d) := h0 10 (by decide)
          clear hu h0
          have rv := hb9.2.1
          have rb := hb9.2.2.1
          have hz9 := Lib.hid hb9.2.2.2.1
          have hn9 := Lib.hid hb9.2.2.2.2
          replace hb9 := hb9.1
          have q0 := rv.c4.1
          have q1 := rv.c4.2.1
          have q2 := rv.c4.2.2.1
          have q3 := rv.c4.2.2.2
          have r0 := rb.c2.1
          have r1 := rb.c2.2
          have hl1 := rv.lt
          have hl2 := rb.lt
          have hct := at_rd' (HT.out.below hb9 hB) (i := j) (by omega)
          go_simp
          exact hK.out w9 ⟨hb9, rv, rb, fun h => hz9.out (fun x => h (Or.inr x)), fun h => hn9.out (h.resolve_left (by decide))⟩
        refine FixFrom.run rfl rfl (fun L A w9 hno hu h0 hb9 K hK => ?_) ?_
        · have e57 : A.tmps[57]?.getD undef = .agg #[.int .i64 v.p, .int .i64 v.c, .int .i64 v.h, .int .i64 v.s] := hu 14 57 (by kernel_rfl) rfl
          have e58 : A.tmps[58]?.getD undef = .agg #[.slice (some ⟨b1, o1, none⟩) b.1.length co, .slice (some ⟨bt, ot, none⟩) b.2.length ct] := hu 15 58 (by kernel_rfl) rfl
          have e59 : A.tmps[59]?.getD undef = .int .i64 ((f : Int) - d) := hu 16 59 (by kernel_rfl) rfl
          clear hu h0
          have rv := hb9.2.1
          have rb := hb9.2.2.1
          have hz9 := Lib.hid hb9.2.2.2.1
          have hn9 := Lib.hid hb9.2.2.2.2
          replace hb9 := hb9.1
          have q0 := rv.c4.1
          have q1 := rv.c4.2.1
          have q2 := rv.c4.2.2.1
          have q3 := rv.c4.2.2.2
          have r0 := rb.c2.1
          have r1 := rb.c2.2
          have hl1 := rv.lt
          have hl2 := rb.lt
          have hct := at_rd' (HT.out.below hb9 hB) (i := j) (by omega)
          go_simp
          refine (CP.out w9 hb9).mono ?_
          rintro e w2 ⟨rfl, hv2⟩
          exact hK.out w2 ⟨hb9.trans (hv2.mono hb9.size), rv.below hv2 rv.lt, rb.below hv2 rb.lt, fun h => (hz9.out (fun x => h (Or.inr x))).below hv2 (hz9.out (fun x => h (Or.inr x))).lt, fun h => (hn9.out (h.resolve_left (by decide))).below hv2 (hn9.out (h.resolve_left (by decide))).lt⟩
        refine FixFrom.run rfl rfl (fun L A w9 hno hu h0 hb9 K hK => ?_) ?_
        · have e8 : A.tmps[8]?.getD undef = .pointer (some ⟨w.heap.size + 2, 0, none⟩) := h0 8 (by decide)
          have e56 : A.tmps[56]?.getD undef = .agg #[.int .i64 (f : Int), .int .i64 ((f : Int) - d), .int .i64 d, .bool z] := hu 13 56 (by kernel_rfl) rfl
          clear hu h0
          have rv := hb9.2.1
          have rb := hb9.2.2.1
          have hz9 := Lib.hid hb9.2.2.2.1
          have hn9 := Lib.hid hb9.2.2.2.2
          replace hb9 := hb9.1
          have q0 := rv.c4.1
          have q1 := rv.c4.2.1
          have q2 := rv.c4.2.2.1
          have q3 := rv.c4.2.2.2
          have r0 := rb.c2.1
          have r1 := rb.c2.2
          have hl1 := rv.lt
          have hl2 := rb.lt
          have hct := at_rd' (HT.out.below hb9 hB) (i := j) (by omega)
          have rr := hz9.out hno
          have y0 := rr.c4.1
          have y1 := rr.c4.2.1
          have y2 := rr.c4.2.2.1
          have y3 := rr.c4.2.2.2
          have hl3 := rr.lt
          have fr := rr.frozen
          go_simp
          exact hK.out _ ⟨below_four hb9 (by omega) _ _ _ _, oth4 rv (by omega) _ _ _ _, oth4 rb (by omega) _ _ _ _, fun h => absurd (Or.inl rfl) h, fun _ => four (hz9.out hno) _ _ _ _⟩
        refine FixFrom.run rfl rfl (fun L A w9 hno hu h0 hb9 K hK => ?_) ?_
        · have e60 : A.tmps[60]?.getD undef = .bool y := hu 17 60 (by kernel_rfl) rfl
          clear hu h0
          have rv := hb9.2.1
          have rb := hb9.2.2.1
          have hz9 := Lib.hid hb9.2.2.2.1
          have hn9 := Lib.hid hb9.2.2.2.2
          replace hb9 := hb9.1
          have q0 := rv.c4.1
          have q1 := rv.c4.2.1
          have q2 := rv.c4.2.2.1
          have q3 := rv.c4.2.2.2
          have r0 := rb.c2.1
          have r1 := rb.c2.2
          have hl1 := rv.lt
          have hl2 := rb.lt
          have hct := at_rd' (HT.out.below hb9 hB) (i := j) (by omega)
          go_simp
          exact hK.out w9 ⟨hb9, rv, rb, fun h => hz9.out (fun x => h (Or.inr x)), fun h => hn9.out (h.resolve_left (by decide))⟩
        exact FixFrom.nil (by decide)
      case fin1 =>
        intro w9 hb9
        simp only [Fr, Act.put, List.setIfInBounds_toArray, List.set_cons_zero, List.set_cons_succ, Nat.reduceAdd, List.getD_cons_zero, List.getD_cons_succ]
        have hbW := hb9.1
        have r8 := hb9.2.2.2.2 trivial
        obtain ⟨z0, z1, z2, z3⟩ := r8.c4
        have HR : Hid (opt (f, f - d, d, z) y = T) := Lib.hid (by rw [HTs.out])
        clear hb9
        go_wp2_with fail
        refine bodyPost_ret (v := .tuple #[.agg #[.int .i64 (f : Int), .int .i64 ((f : Int) - d), .int .i64 d, .bool z], .bool y]) (by simp [results, Try.results91, go_sem, z0, z1, z2, z3]) rfl ?_
        exact ⟨((f : Int), (f : Int) - d, d, z), y, rfl, HR.out, hbW⟩
    · have hto : (f : Int) - d < 0 := by omega
      have CL := Lib.hid (fun w9 (h : Below w.heap.size w w9) => last_s (some ⟨b1, o1, none⟩) co B b.1 w9 (HO.out.below h hB) (by omega))
      obtain ⟨l, hl⟩ : ∃ l, last b.1 = l := ⟨_, rfl⟩
      have hlb := lastU_bd b.1 b.1.length
      rw [show lastU b.1 b.1.length = last b.1 from rfl, hl] at hlb
      obtain ⟨hlb0, hlb1⟩ := hlb
      have HL := Lib.hid hl
      rw [hl] at CL
      clear hl
      have GN := Lib.hid (show (v.h ≤ l ∨ ((f : Int) - d < -1 ∧ (f : Int) < l)) → T = none from fun h => by rw [← HTQ.out, HOV.out]; exact step_none3 g5 (by rw [HL.out]; exact h))
      have GS := Lib.hid (show ¬ (v.h ≤ l ∨ ((f : Int) - d < -1 ∧ (f : Int) < l)) → T = some ((f : Int), -1, d, false) from fun h => by rw [← HTQ.out, HOV.out]; exact step_off G.out g5 (by rw [HL.out]; exact h))
      go_wp2_with fail
      refine (CL.out _ hbW).mono ?_
      rintro e w2 ⟨rfl, rfl⟩
      by_cases k1 : v.h ≤ l
      · obtain rfl : T = none := GN.out (.inl k1)
        go_wp2_with fail
        refine bp_gen (fun W' => Below w.heap.size w W' ∧ RowB W' (w.heap.size + 2) 71 [.int .i64 0, .int .i64 0, .int .i64 0, .bool false]) ⟨below_four hbW (by omega) _ _ _ _, four rr _ _ _ _⟩ ?_
        rintro w8 ⟨hb8, r8⟩
        obtain ⟨z0, z1, z2, z3⟩ := r8.c4
        refine bodyPost_ret (v := .tuple #[.agg #[.int .i64 0, .int .i64 0, .int .i64 0, .bool false], .bool false]) (by simp [results, Try.results91, go_sem, z0, z1, z2, z3]) rfl ?_
        exact ⟨(0, 0, 0, false), false, rfl, by rfl, hb8⟩
      by_cases k2 : (f : Int) - d < -1
      · have k3 : decide ((f : Int) - d < -1) = true := decide_eq_true k2
        by_cases k4 : (f : Int) < l
        · obtain rfl : T = none := GN.out (.inr ⟨k2, k4⟩)
          go_wp2_with fail
          refine bp_gen (fun W' => Below w.heap.size w W' ∧ RowB W' (w.heap.size + 2) 71 [.int .i64 0, .int .i64 0, .int .i64 0, .bool false]) ⟨below_four hbW (by omega) _ _ _ _, four rr _ _ _ _⟩ ?_
          rintro w8 ⟨hb8, r8⟩
          obtain ⟨z0, z1, z2, z3⟩ := r8.c4
          refine bodyPost_ret (v := .tuple #[.agg #[.int .i64 0, .int .i64 0, .int .i64 0, .bool false], .bool false]) (by simp [results, Try.results91, go_sem, z0, z1, z2, z3]) rfl ?_
          exact ⟨(0, 0, 0, false), false, rfl, by rfl, hb8⟩
        · obtain rfl : T = some ((f : Int), -1, d, false) := GS.out (by rintro (h | h); exact k1 h; exact k4 h.2)
          go_wp2_with fail
          refine bp_gen (fun W' => Below w.heap.size w W' ∧ RowB W' (w.heap.size + 2) 71 [.int .i64 (f : Int), .int .i64 (-1), .int .i64 d, .bool false]) ⟨below_four hbW (by omega) _ _ _ _, four rr _ _ _ _⟩ ?_
          rintro w8 ⟨hb8, r8⟩
          obtain ⟨z0, z1, z2, z3⟩ := r8.c4
          refine bodyPost_ret (v := .tuple #[.agg #[.int .i64 (f : Int), .int .i64 (-1), .int .i64 d, .bool false], .bool true]) (by simp [results, Try.results91, go_sem, z0, z1, z2, z3]) rfl ?_
          exact ⟨((f : Int), (-1), d, false), true, rfl, by rfl, hb8⟩
      · have k3 : decide ((f : Int) - d < -1) = false := decide_eq_false k2
        obtain rfl : T = some ((f : Int), -1, d, false) := GS.out (by rintro (h | h); exact k1 h; exact k2 h.1)
        go_wp2_with fail
        refine bp_gen (fun W' => Below w.heap.size w W' ∧ RowB W' (w.heap.size + 2) 71 [.int .i64 (f : Int), .int .i64 (-1), .int .i64 d, .bool false]) ⟨below_four hbW (by omega) _ _ _ _, four rr _ _ _ _⟩ ?_
        rintro w8 ⟨hb8, r8⟩
        obtain ⟨z0, z1, z2, z3⟩ := r8.c4
        refine bodyPost_ret (v := .tuple #[.agg #[.int .i64 (f : Int), .int .i64 (-1), .int .i64 d, .bool false], .bool true]) (by simp [results, Try.results91, go_sem, z0, z1, z2, z3]) rfl ?_
        exact ⟨((f : Int), (-1), d, false), true, rfl, by rfl, hb8⟩
  · clear g1 g2
    by_cases g5 : 0 ≤ (f : Int) - d
    · obtain ⟨j, hj⟩ : ∃ j : Nat, v.p - 1 - ((f : Int) - d) = (j : Int) := ⟨(v.p - 1 - ((f : Int) - d)).toNat, by omega⟩
      have ej : (v.p - 1 - ((f : Int) - d)).toNat = j := by omega
      have hTs : T = opt (f, f - d, d, decide (at_ b.2 j = 1)) (decide (at_ b.2 j ≤ 1)) := by rw [← HTQ.out, HOV.out]; exact (by have := step_in (v := v) (b := b) (f := (f : Int)) (d := d) G.out g5; rw [ej] at this; exact this)
      have HTs := Lib.hid hTs
      have HEJ := Lib.hid ej
      clear hTs ej
      obtain ⟨bt, ot, rfl, hbt, hct⟩ := at_rd (HT.out.below hbW hB) (i := j) (by omega)
      have e5 : IntKind.i64.wrap (v.p - 1) = v.p - 1 := IntWalk.i64_in _ (by omega)
      have e6 : IntKind.i64.wrap (v.p - 1 - ((f : Int) - d)) = (j : Int) := by rw [hj]; exact IntWalk.i64_in _ (by omega)
      have e7 : IntKind.i64.wrap (j : Int) = (j : Int) := IntWalk.i64_in _ (by omega)
      have hjl2 : (j : Int) < v.p + 1 := by omega
      have hjl : (j : Int) < (b.2.length : Int) := by omega
      have CP := Lib.hid (fun w9 (h : Below w.heap.size w w9) => open_s v b HBK.out (some ⟨b1, o1, none⟩) (some ⟨bt, ot, none⟩) co ct B ((f : Int) - d) (by omega) w9 (Nat.le_trans hB h.size) (HT.out.below h hB))
      rw [HEJ.out] at CP
      obtain ⟨z, hz⟩ : ∃ z, decide (at_ b.2 j = 1) = z := ⟨_, rfl⟩
      have hz2 : (at_ b.2 j == 1) = z := by rw [← hz]; rfl
      obtain ⟨y, hy⟩ : ∃ y, decide (at_ b.2 j ≤ 1) = y := ⟨_, rfl⟩
      rw [hz, hy] at HTs
      rw [hy] at CP
      clear hz hy
      have g4 : decide ((f : Int) - d < 0) = false := decide_eq_false (by omega)
      go_upto_region 5 with (fail)
      clear q0 q1 q2 q3 r0 r1 y0 y1 y2 y3 hl1 hl2 hl3 fr hct hc1 hcp
      refine region_fix [some 43, some 44, some 45, some 46, some 47, some 48, some 49, some 50, some 51, some 52, some 53, some 54, some 55, some 56, some 57, some 58, some 59, some 60, none, some 9] (fun j_ => ([.int .i64 (f : Int), .int .i64 ((f : Int) - d), .int .i64 d, .pointer (some ⟨w.heap.size + 1, 1, none⟩), .slice (some ⟨bt, ot, none⟩) b.2.length ct, .pointer (some ⟨w.heap.size, 0, none⟩), .int .i64 v.p, .int .i64 (v.p - 1), .int .i64 ((f : Int) - d), .int .i64 (j : Int), .pointer (some ⟨bt, ot + j, none⟩), .int .i64 (at_ b.2 j), .bool z, .agg #[.int .i64 (f : Int), .int .i64 ((f : Int) - d), .int .i64 d, .bool z], .agg #[.int .i64 v.p, .int .i64 v.c, .int .i64 v.h, .int .i64 v.s], .agg #[.slice (some ⟨b1, o1, none⟩) b.1.length co, .slice (some ⟨bt, ot, none⟩) b.2.length ct], .int .i64 ((f : Int) - d), .bool y, undef, .bool y] : List Value).getD j_ undef) (fun L w' => Below w.heap.size w w' ∧ RowB w' w.heap.size 32 [.int .i64 v.p, .int .i64 v.c, .int .i64 v.h, .int .i64 v.s] ∧ RowB w' (w.heap.size + 1) 34 [.slice (some ⟨b1, o1, none⟩) b.1.length co, .slice (some ⟨bt, ot, none⟩) b.2.length ct] ∧ (¬ L 18 → RowB w' (w.heap.size + 2) 71 [.int .i64 0, .int .i64 0, .int .i64 0, .bool false]) ∧ (L 18 → RowB w' (w.heap.size + 2) 71 [.int .i64 (f : Int), .int .i64 ((f : Int) - d), .int .i64 d, .bool z])) (by kernel_rfl) (by kernel_rfl) (by kernel_rfl) (by kernel_rfl) (by first | kernel_rfl | rfl) (by first | kernel_rfl | rfl) ?hB91 ?hBL91 ?hst91 ?fin91
      case hB91 => exact ⟨hbW.drew, rv.drew, rb.drew, fun _ => rr.drew, fun h => h.elim⟩
      case hBL91 => exact fun L L' w' h hb => ⟨hb.1, hb.2.1, hb.2.2.1, fun hn => hb.2.2.2.1 (fun x => hn ((h 18 (by decide)).1 x)), fun hy => hb.2.2.2.2 ((h 18 (by decide)).2 hy)⟩
      case hst91 =>
        refine FixFrom.run rfl rfl (fun L A w9 hno hu h0 hb9 K hK => ?_) ?_
        · have e2 : A.tmps[2]?.getD undef = .int .i64 (f : Int) := h0 2 (by decide)
          clear hu h0
          have rv := hb9.2.1
          have rb := hb9.2.2.1
          have hz9 := Lib.hid hb9.2.2.2.1
          have hn9 := Lib.hid hb9.2.2.2.2
          replace hb9 := hb9.1
          have q0 := rv.c4.1
          have q1 := rv.c4.2.1
          have q2 := rv.c4.2.2.1
          have q3 := rv.c4.2.2.2
          have r0 := rb.c2.1
          have r1 := rb.c2.2
          have hl1 := rv.lt
          have hl2 := rb.lt
          have hct := at_rd' (HT.out.below hb9 hB) (i := j) (by omega)
          go_simp
          exact hK.out w9 ⟨hb9, rv, rb, fun h => hz9.out (fun x => h (Or.inr x)), fun h => hn9.out (h.resolve_left (by decide))⟩
        refine FixFrom.run rfl rfl (fun L A w9 hno hu h0 hb9 K hK => ?_) ?_
        · have e10 : A.tmps[10]?.getD undef = .int .i64 ((f : Int) - d) := h0 10 (by decide)
          clear hu h0
          have rv := hb9.2.1
          have rb := hb9.2.2.1
          have hz9 := Lib.hid hb9.2.2.2.1
          have hn9 := Lib.hid hb9.2.2.2.2
          replace hb9 := hb9.1
          have q0 := rv.c4.1
          have q1 := rv.c4.2.1
          have q2 := rv.c4.2.2.1
          have q3 := rv.c4.2.2.2
          have r0 := rb.c2.1
          have r1 := rb.c2.2
          have hl1 := rv.lt
          have hl2 := rb.lt
          have hct := at_rd' (HT.out.below hb9 hB) (i := j) (by omega)
          go_simp
          exact hK.out w9 ⟨hb9, rv, rb, fun h => hz9.out (fun x => h (Or.inr x)), fun h => hn9.out (h.resolve_left (by decide))⟩
        refine FixFrom.run rfl rfl (fun L A w9 hno hu h0 hb9 K hK => ?_) ?_
        · have e3 : A.tmps[3]?.getD undef = .int .i64 d := h0 3 (by decide)
          clear hu h0
          have rv := hb9.2.1
          have rb := hb9.2.2.1
          have hz9 := Lib.hid hb9.2.2.2.1
          have hn9 := Lib.hid hb9.2.2.2.2
          replace hb9 := hb9.1
          have q0 := rv.c4.1
          have q1 := rv.c4.2.1
          have q2 := rv.c4.2.2.1
          have q3 := rv.c4.2.2.2
          have r0 := rb.c2.1
          have r1 := rb.c2.2
          have hl1 := rv.lt
          have hl2 := rb.lt
          have hct := at_rd' (HT.out.below hb9 hB) (i := j) (by omega)
          go_simp
          exact hK.out w9 ⟨hb9, rv, rb, fun h => hz9.out (fun x => h (Or.inr x)), fun h => hn9.out (h.resolve_left (by decide))⟩
        refine FixFrom.run rfl rfl (fun L A w9 hno hu h0 hb9 K hK => ?_) ?_
        · have e5 : A.tmps[5]?.getD undef = .pointer (some ⟨w.heap.size + 1, 0, none⟩) := h0 5 (by decide)
          clear hu h0
          have rv := hb9.2.1
          have rb := hb9.2.2.1
          have hz9 := Lib.hid hb9.2.2.2.1
          have hn9 := Lib.hid hb9.2.2.2.2
          replace hb9 := hb9.1
          have q0 := rv.c4.1
          have q1 := rv.c4.2.1
          have q2 := rv.c4.2.2.1
          have q3 := rv.c4.2.2.2
          have r0 := rb.c2.1
          have r1 := rb.c2.2
          have hl1 := rv.lt
          have hl2 := rb.lt
          have hct := at_rd' (HT.out.below hb9 hB) (i := j) (by omega)
          go_simp
          exact hK.out w9 ⟨hb9, rv, rb, fun h => hz9.out (fun x => h (Or.inr x)), fun h => hn9.out (h.resolve_left (by decide))⟩
        refine FixFrom.run rfl rfl (fun L A w9 hno hu h0 hb9 K hK => ?_) ?_
        · have e46 : A.tmps[46]?.getD undef = .pointer (some ⟨w.heap.size + 1, 1, none⟩) := hu 3 46 (by kernel_rfl) rfl
          clear hu h0
          have rv := hb9.2.1
          have rb := hb9.2.2.1
          have hz9 := Lib.hid hb9.2.2.2.1
          have hn9 := Lib.hid hb9.2.2.2.2
          replace hb9 := hb9.1
          have q0 := rv.c4.1
          have q1 := rv.c4.2.1
          have q2 := rv.c4.2.2.1
          have q3 := rv.c4.2.2.2
          have r0 := rb.c2.1
          have r1 := rb.c2.2
          have hl1 := rv.lt
          have hl2 := rb.lt
          have hct := at_rd' (HT.out.below hb9 hB) (i := j) (by omega)
          go_simp
          exact hK.out w9 ⟨hb9, rv, rb, fun h => hz9.out (fun x => h (Or.inr x)), fun h => hn9.out (h.resolve_left (by decide))⟩
        refine FixFrom.run rfl rfl (fun L A w9 hno hu h0 hb9 K hK => ?_) ?_
        · have e4 : A.tmps[4]?.getD undef = .pointer (some ⟨w.heap.size, 0, none⟩) := h0 4 (by decide)
          clear hu h0
          have rv := hb9.2.1
          have rb := hb9.2.2.1
          have hz9 := Lib.hid hb9.2.2.2.1
          have hn9 := Lib.hid hb9.2.2.2.2
          replace hb9 := hb9.1
          have q0 := rv.c4.1
          have q1 := rv.c4.2.1
          have q2 := rv.c4.2.2.1
          have q3 := rv.c4.2.2.2
          have r0 := rb.c2.1
          have r1 := rb.c2.2
          have hl1 := rv.lt
          have hl2 := rb.lt
          have hct := at_rd' (HT.out.below hb9 hB) (i := j) (by omega)
          go_simp
          exact hK.out w9 ⟨hb9, rv, rb, fun h => hz9.out (fun x => h (Or.inr x)), fun h => hn9.out (h.resolve_left (by decide))⟩
        refine FixFrom.run rfl rfl (fun L A w9 hno hu h0 hb9 K hK => ?_) ?_
        · have e48 : A.tmps[48]?.getD undef = .pointer (some ⟨w.heap.size, 0, none⟩) := hu 5 48 (by kernel_rfl) rfl
          clear hu h0
          have rv := hb9.2.1
          have rb := hb9.2.2.1
          have hz9 := Lib.hid hb9.2.2.2.1
          have hn9 := Lib.hid hb9.2.2.2.2
          replace hb9 := hb9.1
          have q0 := rv.c4.1
          have q1 := rv.c4.2.1
          have q2 := rv.c4.2.2.1
          have q3 := rv.c4.2.2.2
          have r0 := rb.c2.1
          have r1 := rb.c2.2
          have hl1 := rv.lt
          have hl2 := rb.lt
          have hct := at_rd' (HT.out.below hb9 hB) (i := j) (by omega)
          go_simp
          exact hK.out w9 ⟨hb9, rv, rb, fun h => hz9.out (fun x => h (Or.inr x)), fun h => hn9.out (h.resolve_left (by decide))⟩
        refine FixFrom.run rfl rfl (fun L A w9 hno hu h0 hb9 K hK => ?_) ?_
        · have e49 : A.tmps[49]?.getD undef = .int .i64 v.p := hu 6 49 (by kernel_rfl) rfl
          clear hu h0
          have rv := hb9.2.1
          have rb := hb9.2.2.1
          have hz9 := Lib.hid hb9.2.2.2.1
          have hn9 := Lib.hid hb9.2.2.2.2
          replace hb9 := hb9.1
          have q0 := rv.c4.1
          have q1 := rv.c4.2.1
          have q2 := rv.c4.2.2.1
          have q3 := rv.c4.2.2.2
          have r0 := rb.c2.1
          have r1 := rb.c2.2
          have hl1 := rv.lt
          have hl2 := rb.lt
          have hct := at_rd' (HT.out.below hb9 hB) (i := j) (by omega)
          go_simp
          exact hK.out w9 ⟨hb9, rv, rb, fun h => hz9.out (fun x => h (Or.inr x)), fun h => hn9.out (h.resolve_left (by decide))⟩
        refine FixFrom.run rfl rfl (fun L A w9 hno hu h0 hb9 K hK => ?_) ?_
        · have e10 : A.tmps[10]?.getD undef = .int .i64 ((f : Int) - d) := h0 10 (by decide)
          clear hu h0
          have rv := hb9.2.1
          have rb := hb9.2.2.1
          have hz9 := Lib.hid hb9.2.2.2.1
          have hn9 := Lib.hid hb9.2.2.2.2
          replace hb9 := hb9.1
          have q0 := rv.c4.1
          have q1 := rv.c4.2.1
          have q2 := rv.c4.2.2.1
          have q3 := rv.c4.2.2.2
          have r0 := rb.c2.1
          have r1 := rb.c2.2
          have hl1 := rv.lt
          have hl2 := rb.lt
          have hct := at_rd' (HT.out.below hb9 hB) (i := j) (by omega)
          go_simp
          exact hK.out w9 ⟨hb9, rv, rb, fun h => hz9.out (fun x => h (Or.inr x)), fun h => hn9.out (h.resolve_left (by decide))⟩
        refine FixFrom.run rfl rfl (fun L A w9 hno hu h0 hb9 K hK => ?_) ?_
        · have e50 : A.tmps[50]?.getD undef = .int .i64 (v.p - 1) := hu 7 50 (by kernel_rfl) rfl
          have e51 : A.tmps[51]?.getD undef = .int .i64 ((f : Int) - d) := hu 8 51 (by kernel_rfl) rfl
          clear hu h0
          have rv := hb9.2.1
          have rb := hb9.2.2.1
          have hz9 := Lib.hid hb9.2.2.2.1
          have hn9 := Lib.hid hb9.2.2.2.2
          replace hb9 := hb9.1
          have q0 := rv.c4.1
          have q1 := rv.c4.2.1
          have q2 := rv.c4.2.2.1
          have q3 := rv.c4.2.2.2
          have r0 := rb.c2.1
          have r1 := rb.c2.2
          have hl1 := rv.lt
          have hl2 := rb.lt
          have hct := at_rd' (HT.out.below hb9 hB) (i := j) (by omega)
          go_simp
          exact hK.out w9 ⟨hb9, rv, rb, fun h => hz9.out (fun x => h (Or.inr x)), fun h => hn9.out (h.resolve_left (by decide))⟩
        refine FixFrom.run rfl rfl (fun L A w9 hno hu h0 hb9 K hK => ?_) ?_
        · have e47 : A.tmps[47]?.getD undef = .slice (some ⟨bt, ot, none⟩) b.2.length ct := hu 4 47 (by kernel_rfl) rfl
          have e52 : A.tmps[52]?.getD undef = .int .i64 (j : Int) := hu 9 52 (by kernel_rfl) rfl
          clear hu h0
          have rv := hb9.2.1
          have rb := hb9.2.2.1
          have hz9 := Lib.hid hb9.2.2.2.1
          have hn9 := Lib.hid hb9.2.2.2.2
          replace hb9 := hb9.1
          have q0 := rv.c4.1
          have q1 := rv.c4.2.1
          have q2 := rv.c4.2.2.1
          have q3 := rv.c4.2.2.2
          have r0 := rb.c2.1
          have r1 := rb.c2.2
          have hl1 := rv.lt
          have hl2 := rb.lt
          have hct := at_rd' (HT.out.below hb9 hB) (i := j) (by omega)
          go_simp
          exact hK.out w9 ⟨hb9, rv, rb, fun h => hz9.out (fun x => h (Or.inr x)), fun h => hn9.out (h.resolve_left (by decide))⟩
        refine FixFrom.run rfl rfl (fun L A w9 hno hu h0 hb9 K hK => ?_) ?_
        · have e53 : A.tmps[53]?.getD undef = .pointer (some ⟨bt, ot + j, none⟩) := hu 10 53 (by kernel_rfl) rfl
          clear hu h0
          have rv := hb9.2.1
          have rb := hb9.2.2.1
          have hz9 := Lib.hid hb9.2.2.2.1
          have hn9 := Lib.hid hb9.2.2.2.2
          replace hb9 := hb9.1
          have q0 := rv.c4.1
          have q1 := rv.c4.2.1
          have q2 := rv.c4.2.2.1
          have q3 := rv.c4.2.2.2
          have r0 := rb.c2.1
          have r1 := rb.c2.2
          have hl1 := rv.lt
          have hl2 := rb.lt
          have hct := at_rd' (HT.out.below hb9 hB) (i := j) (by omega)
          go_simp
          exact hK.out w9 ⟨hb9, rv, rb, fun h => hz9.out (fun x => h (Or.inr x)), fun h => hn9.out (h.resolve_left (by decide))⟩
        refine FixFrom.run rfl rfl (fun L A w9 hno hu h0 hb9 K hK => ?_) ?_
        · have e54 : A.tmps[54]?.getD undef = .int .i64 (at_ b.2 j) := hu 11 54 (by kernel_rfl) rfl
          clear hu h0
          have rv := hb9.2.1
          have rb := hb9.2.2.1
          have hz9 := Lib.hid hb9.2.2.2.1
          have hn9 := Lib.hid hb9.2.2.2.2
          replace hb9 := hb9.1
          have q0 := rv.c4.1
          have q1 := rv.c4.2.1
          have q2 := rv.c4.2.2.1
          have q3 := rv.c4.2.2.2
          have r0 := rb.c2.1
          have r1 := rb.c2.2
          have hl1 := rv.lt
          have hl2 := rb.lt
          have hct := at_rd' (HT.out.below hb9 hB) (i := j) (by omega)
          go_simp
          exact hK.out w9 ⟨hb9, rv, rb, fun h => hz9.out (fun x => h (Or.inr x)), fun h => hn9.out (h.resolve_left (by decide))⟩
        refine FixFrom.run rfl rfl (fun L A w9 hno hu h0 hb9 K hK => ?_) ?_
        · have e43 : A.tmps[43]?.getD undef = .int .i64 (f : Int) := hu 0 43 (by kernel_rfl) rfl
          have e44 : A.tmps[44]?.getD undef = .int .i64 ((f : Int) - d) := hu 1 44 (by kernel_rfl) rfl
          have e45 : A.tmps[45]?.getD undef = .int .i64 d := hu 2 45 (by kernel_rfl) rfl
          have e55 : A.tmps[55]?.getD undef = .bool z := hu 12 55 (by kernel_rfl) rfl
          clear hu h0
          have rv := hb9.2.1
          have rb := hb9.2.2.1
          have hz9 := Lib.hid hb9.2.2.2.1
          have hn9 := Lib.hid hb9.2.2.2.2
          replace hb9 := hb9.1
          have q0 := rv.c4.1
          have q1 := rv.c4.2.1
          have q2 := rv.c4.2.2.1
          have q3 := rv.c4.2.2.2
          have r0 := rb.c2.1
          have r1 := rb.c2.2
          have hl1 := rv.lt
          have hl2 := rb.lt
          have hct := at_rd' (HT.out.below hb9 hB) (i := j) (by omega)
          go_simp
          exact hK.out w9 ⟨hb9, rv, rb, fun h => hz9.out (fun x => h (Or.inr x)), fun h => hn9.out (h.resolve_left (by decide))⟩
        refine FixFrom.run rfl rfl (fun L A w9 hno hu h0 hb9 K hK => ?_) ?_
        · have e4 : A.tmps[4]?.getD undef = .pointer (some ⟨w.heap.size, 0, none⟩) := h0 4 (by decide)
          clear hu h0
          have rv := hb9.2.1
          have rb := hb9.2.2.1
          have hz9 := Lib.hid hb9.2.2.2.1
          have hn9 := Lib.hid hb9.2.2.2.2
          replace hb9 := hb9.1
          have q0 := rv.c4.1
          have q1 := rv.c4.2.1
          have q2 := rv.c4.2.2.1
          have q3 := rv.c4.2.2.2
          have r0 := rb.c2.1
          have r1 := rb.c2.2
          have hl1 := rv.lt
          have hl2 := rb.lt
          have hct := at_rd' (HT.out.below hb9 hB) (i := j) (by omega)
          go_simp
          exact hK.out w9 ⟨hb9, rv, rb, fun h => hz9.out (fun x => h (Or.inr x)), fun h => hn9.out (h.resolve_left (by decide))⟩
        refine FixFrom.run rfl rfl (fun L A w9 hno hu h0 hb9 K hK => ?_) ?_
        · have e5 : A.tmps[5]?.getD undef = .pointer (some ⟨w.heap.size + 1, 0, none⟩) := h0 5 (by decide)
          clear hu h0
          have rv := hb9.2.1
          have rb := hb9.2.2.1
          have hz9 := Lib.hid hb9.2.2.2.1
          have hn9 := Lib.hid hb9.2.2.2.2
          replace hb9 := hb9.1
          have q0 := rv.c4.1
          have q1 := rv.c4.2.1
          have q2 := rv.c4.2.2.1
          have q3 := rv.c4.2.2.2
          have r0 := rb.c2.1
          have r1 := rb.c2.2
          have hl1 := rv.lt
          have hl2 := rb.lt
          have hct := at_rd' (HT.out.below hb9 hB) (i := j) (by omega)
          go_simp
          exact hK.out w9 ⟨hb9, rv, rb, fun h => hz9.out (fun x => h (Or.inr x)), fun h => hn9.out (h.resolve_left (by decide))⟩
        refine FixFrom.run rfl rfl (fun L A w9 hno hu h0 hb9 K hK => ?_) ?_
        · have e10 : A.tmps[10]?.getD undef = .int .i64 ((f : Int) - d) := h0 10 (by decide)
          clear hu h0
          have rv := hb9.2.1
          have rb := hb9.2.2.1
          have hz9 := Lib.hid hb9.2.2.2.1
          have hn9 := Lib.hid hb9.2.2.2.2
          replace hb9 := hb9.1
          have q0 := rv.c4.1
          have q1 := rv.c4.2.1
          have q2 := rv.c4.2.2.1
          have q3 := rv.c4.2.2.2
          have r0 := rb.c2.1
          have r1 := rb.c2.2
          have hl1 := rv.lt
          have hl2 := rb.lt
          have hct := at_rd' (HT.out.below hb9 hB) (i := j) (by omega)
          go_simp
          exact hK.out w9 ⟨hb9, rv, rb, fun h => hz9.out (fun x => h (Or.inr x)), fun h => hn9.out (h.resolve_left (by decide))⟩
        refine FixFrom.run rfl rfl (fun L A w9 hno hu h0 hb9 K hK => ?_) ?_
        · have e57 : A.tmps[57]?.getD undef = .agg #[.int .i64 v.p, .int .i64 v.c, .int .i64 v.h, .int .i64 v.s] := hu 14 57 (by kernel_rfl) rfl
          have e58 : A.tmps[58]?.getD undef = .agg #[.slice (some ⟨b1, o1, none⟩) b.1.length co, .slice (some ⟨bt, ot, none⟩) b.2.length ct] := hu 15 58 (by kernel_rfl) rfl
          have e59 : A.tmps[59]?.getD undef = .int .i64 ((f : Int) - d) := hu 16 59 (by kernel_rfl) rfl
          clear hu h0
          have rv := hb9.2.1
          have rb := hb9.2.2.1
          have hz9 := Lib.hid hb9.2.2.2.1
          have hn9 := Lib.hid hb9.2.2.2.2
          replace hb9 := hb9.1
          have q0 := rv.c4.1
          have q1 := rv.c4.2.1
          have q2 := rv.c4.2.2.1
          have q3 := rv.c4.2.2.2
          have r0 := rb.c2.1
          have r1 := rb.c2.2
          have hl1 := rv.lt
          have hl2 := rb.lt
          have hct := at_rd' (HT.out.below hb9 hB) (i := j) (by omega)
          go_simp
          refine (CP.out w9 hb9).mono ?_
          rintro e w2 ⟨rfl, hv2⟩
          exact hK.out w2 ⟨hb9.trans (hv2.mono hb9.size), rv.below hv2 rv.lt, rb.below hv2 rb.lt, fun h => (hz9.out (fun x => h (Or.inr x))).below hv2 (hz9.out (fun x => h (Or.inr x))).lt, fun h => (hn9.out (h.resolve_left (by decide))).below hv2 (hn9.out (h.resolve_left (by decide))).lt⟩
        refine FixFrom.run rfl rfl (fun L A w9 hno hu h0 hb9 K hK => ?_) ?_
        · have e8 : A.tmps[8]?.getD undef = .pointer (some ⟨w.heap.size + 2, 0, none⟩) := h0 8 (by decide)
          have e56 : A.tmps[56]?.getD undef = .agg #[.int .i64 (f : Int), .int .i64 ((f : Int) - d), .int .i64 d, .bool z] := hu 13 56 (by kernel_rfl) rfl
          clear hu h0
          have rv := hb9.2.1
          have rb := hb9.2.2.1
          have hz9 := Lib.hid hb9.2.2.2.1
          have hn9 := Lib.hid hb9.2.2.2.2
          replace hb9 := hb9.1
          have q0 := rv.c4.1
          have q1 := rv.c4.2.1
          have q2 := rv.c4.2.2.1
          have q3 := rv.c4.2.2.2
          have r0 := rb.c2.1
          have r1 := rb.c2.2
          have hl1 := rv.lt
          have hl2 := rb.lt
          have hct := at_rd' (HT.out.below hb9 hB) (i := j) (by omega)
          have rr := hz9.out hno
          have y0 := rr.c4.1
          have y1 := rr.c4.2.1
          have y2 := rr.c4.2.2.1
          have y3 := rr.c4.2.2.2
          have hl3 := rr.lt
          have fr := rr.frozen
          go_simp
          exact hK.out _ ⟨below_four hb9 (by omega) _ _ _ _, oth4 rv (by omega) _ _ _ _, oth4 rb (by omega) _ _ _ _, fun h => absurd (Or.inl rfl) h, fun _ => four (hz9.out hno) _ _ _ _⟩
        refine FixFrom.run rfl rfl (fun L A w9 hno hu h0 hb9 K hK => ?_) ?_
        · have e60 : A.tmps[60]?.getD undef = .bool y := hu 17 60 (by kernel_rfl) rfl
          clear hu h0
          have rv := hb9.2.1
          have rb := hb9.2.2.1
          have hz9 := Lib.hid hb9.2.2.2.1
          have hn9 := Lib.hid hb9.2.2.2.2
          replace hb9 := hb9.1
          have q0 := rv.c4.1
          have q1 := rv.c4.2.1
          have q2 := rv.c4.2.2.1
          have q3 := rv.c4.2.2.2
          have r0 := rb.c2.1
          have r1 := rb.c2.2
          have hl1 := rv.lt
          have hl2 := rb.lt
          have hct := at_rd' (HT.out.below hb9 hB) (i := j) (by omega)
          go_simp
          exact hK.out w9 ⟨hb9, rv, rb, fun h => hz9.out (fun x => h (Or.inr x)), fun h => hn9.out (h.resolve_left (by decide))⟩
        exact FixFrom.nil (by decide)
      case fin91 =>
        intro w9 hb9
        simp only [Fr, Act.put, List.setIfInBounds_toArray, List.set_cons_zero, List.set_cons_succ, Nat.reduceAdd, List.getD_cons_zero, List.getD_cons_succ]
        have hbW := hb9.1
        have r8 := hb9.2.2.2.2 trivial
        obtain ⟨z0, z1, z2, z3⟩ := r8.c4
        have HR : Hid (opt (f, f - d, d, z) y = T) := Lib.hid (by rw [HTs.out])
        clear hb9
        go_wp2_with fail
        refine bodyPost_ret (v := .tuple #[.agg #[.int .i64 (f : Int), .int .i64 ((f : Int) - d), .int .i64 d, .bool z], .bool y]) (by simp [results, Try.results91, go_sem, z0, z1, z2, z3]) rfl ?_
        exact ⟨((f : Int), (f : Int) - d, d, z), y, rfl, HR.out, hbW⟩
    · have hto : (f : Int) - d < 0 := by omega
      have CL := Lib.hid (fun w9 (h : Below w.heap.size w w9) => last_s (some ⟨b1, o1, none⟩) co B b.1 w9 (HO.out.below h hB) (by omega))
      obtain ⟨l, hl⟩ : ∃ l, last b.1 = l := ⟨_, rfl⟩
      have hlb := lastU_bd b.1 b.1.length
      rw [show lastU b.1 b.1.length = last b.1 from rfl, hl] at hlb
      obtain ⟨hlb0, hlb1⟩ := hlb
      have HL := Lib.hid hl
      rw [hl] at CL
      clear hl
      have GN := Lib.hid (show (v.h ≤ l ∨ ((f : Int) - d < -1 ∧ (f : Int) < l)) → T = none from fun h => by rw [← HTQ.out, HOV.out]; exact step_none3 g5 (by rw [HL.out]; exact h))
      have GS := Lib.hid (show ¬ (v.h ≤ l ∨ ((f : Int) - d < -1 ∧ (f : Int) < l)) → T = some ((f : Int), -1, d, false) from fun h => by rw [← HTQ.out, HOV.out]; exact step_off G.out g5 (by rw [HL.out]; exact h))
      go_wp2_with fail
      refine (CL.out _ hbW).mono ?_
      rintro e w2 ⟨rfl, rfl⟩
      by_cases k1 : v.h ≤ l
      · obtain rfl : T = none := GN.out (.inl k1)
        go_wp2_with fail
        refine bp_gen (fun W' => Below w.heap.size w W' ∧ RowB W' (w.heap.size + 2) 71 [.int .i64 0, .int .i64 0, .int .i64 0, .bool false]) ⟨below_four hbW (by omega) _ _ _ _, four rr _ _ _ _⟩ ?_
        rintro w8 ⟨hb8, r8⟩
        obtain ⟨z0, z1, z2, z3⟩ := r8.c4
        refine bodyPost_ret (v := .tuple #[.agg #[.int .i64 0, .int .i64 0, .int .i64 0, .bool false], .bool false]) (by simp [results, Try.results91, go_sem, z0, z1, z2, z3]) rfl ?_
        exact ⟨(0, 0, 0, false), false, rfl, by rfl, hb8⟩
      by_cases k2 : (f : Int) - d < -1
      · have k3 : decide ((f : Int) - d < -1) = true := decide_eq_true k2
        by_cases k4 : (f : Int) < l
        · obtain rfl : T = none := GN.out (.inr ⟨k2, k4⟩)
          go_wp2_with fail
          refine bp_gen (fun W' => Below w.heap.size w W' ∧ RowB W' (w.heap.size + 2) 71 [.int .i64 0, .int .i64 0, .int .i64 0, .bool false]) ⟨below_four hbW (by omega) _ _ _ _, four rr _ _ _ _⟩ ?_
          rintro w8 ⟨hb8, r8⟩
          obtain ⟨z0, z1, z2, z3⟩ := r8.c4
          refine bodyPost_ret (v := .tuple #[.agg #[.int .i64 0, .int .i64 0, .int .i64 0, .bool false], .bool false]) (by simp [results, Try.results91, go_sem, z0, z1, z2, z3]) rfl ?_
          exact ⟨(0, 0, 0, false), false, rfl, by rfl, hb8⟩
        · obtain rfl : T = some ((f : Int), -1, d, false) := GS.out (by rintro (h | h); exact k1 h; exact k4 h.2)
          go_wp2_with fail
          refine bp_gen (fun W' => Below w.heap.size w W' ∧ RowB W' (w.heap.size + 2) 71 [.int .i64 (f : Int), .int .i64 (-1), .int .i64 d, .bool false]) ⟨below_four hbW (by omega) _ _ _ _, four rr _ _ _ _⟩ ?_
          rintro w8 ⟨hb8, r8⟩
          obtain ⟨z0, z1, z2, z3⟩ := r8.c4
          refine bodyPost_ret (v := .tuple #[.agg #[.int .i64 (f : Int), .int .i64 (-1), .int .i64 d, .bool false], .bool true]) (by simp [results, Try.results91, go_sem, z0, z1, z2, z3]) rfl ?_
          exact ⟨((f : Int), (-1), d, false), true, rfl, by rfl, hb8⟩
      · have k3 : decide ((f : Int) - d < -1) = false := decide_eq_false k2
        obtain rfl : T = some ((f : Int), -1, d, false) := GS.out (by rintro (h | h); exact k1 h; exact k2 h.1)
        go_wp2_with fail
        refine bp_gen (fun W' => Below w.heap.size w W' ∧ RowB W' (w.heap.size + 2) 71 [.int .i64 (f : Int), .int .i64 (-1), .int .i64 d, .bool false]) ⟨below_four hbW (by omega) _ _ _ _, four rr _ _ _ _⟩ ?_
        rintro w8 ⟨hb8, r8⟩
        obtain ⟨z0, z1, z2, z3⟩ := r8.c4
        refine bodyPost_ret (v := .tuple #[.agg #[.int .i64 (f : Int), .int .i64 (-1), .int .i64 d, .bool false], .bool true]) (by simp [results, Try.results91, go_sem, z0, z1, z2, z3]) rfl ?_
        exact ⟨((f : Int), (-1), d, false), true, rfl, by rfl, hb8⟩
end Go.Proofs.Ytfgkkmhafdbicaa.Bd4

set_option linter.unusedVariables false
set_option linter.unusedSimpArgs false
namespace Go.Proofs.Ytfgkkmhafdbicaa.Bd5
open Go.ChangeShapes Go.WideShapes Go.ChangeAt Go.RowKit Base Ints Own Clone RelG PlP Bd1 Bd2 Bd4

def enSt (s : Stp) : List Value := [.int .i64 s.1, .int .i64 s.2.1, .int .i64 s.2.2.1, .bool s.2.2.2]
theorem enSt_len (s : Stp) : (enSt s).length = 4 := rfl
theorem one_St (s : Stp) : ∀ u ∈ enSt s, u.oneCell' = true := by intro u hu; simp [enSt] at hu; rcases hu with rfl | rfl | rfl | rfl <;> rfl
theorem infoSt : (Try.prog.info? 71).map (fun i => (i.zero, i.size, i.bytes)) = some (some (.agg #[.int .i64 0, .int .i64 0, .int .i64 0, .bool false]), 4, 32) := by kernel_rfl
/-- What a function that makes a list of steps returns. -/
def StepsR (ss : List Stp) (w : World) (e : Ending) (w' : World) : Prop :=
  ∃ vv, e = .returned vv ∧ OwnS w' w.heap.size w'.heap.size 71 4 enSt vv ss ∧ Below w.heap.size w w'
theorem opt_list {s : Stp} {ok : Bool} {t : Option Stp} (h : opt s ok = t) : t.toList = if ok = true then [s] else [] := by
  subst h; unfold opt; cases ok <;> rfl
theorem lgU_step (v : Vr) (b : Bd) (d : Int) {P k f : Nat} (hP : v.p = (P : Int)) (h : f + k = P) : lgU v b d (k + 1) = lgU v b d k ++ (stepP v b (f : Int) d).toList := by
  simp only [lgU]
  rw [show v.p - (k : Int) = (f : Int) from by omega]
/-- The reference looks at the board's end in every step. -/
def lgX (v : Vr) (b : Bd) (d : Int) : Nat → List Stp
  | 0 => []
  | k + 1 => lgX v b d k ++ ((if over b then none else stepP v b (v.p - (k : Int)) d) : Option Stp).toList
theorem lgX_step (v : Vr) (b : Bd) (d : Int) {P k f : Nat} (hP : v.p = (P : Int)) (h : f + k = P) : lgX v b d (k + 1) = lgX v b d k ++ ((if over b then none else stepP v b (f : Int) d) : Option Stp).toList := by
  simp only [lgX]
  rw [show v.p - (k : Int) = (f : Int) from by omega]
theorem lgX_end (v : Vr) (b : Bd) (d : Int) : ∀ k, lgX v b d k = if over b = true then [] else lgU v b d k := by
  intro k
  induction k with
  | zero => simp [lgX, lgU]
  | succ k ih => simp only [lgX, lgU, ih]; split <;> simp

set_option maxHeartbeats 4000000 in
set_option maxRecDepth 100000 in
theorem legal_i (v : Vr) (b : Bd) (hb : Ok v b) (Ao At : Option Addr) (co ct B : Nat) (d : Int) (hd : 1 ≤ d ∧ d ≤ 6) (w : World) (hB : B ≤ w.heap.size) (ho : RdS w B 1 enI Ao b.1) (ht : RdS w B 1 enI At b.2) :
    Calls Try.prog 92 #[.agg #[.int .i64 v.p, .int .i64 v.c, .int .i64 v.h, .int .i64 v.s], .agg #[.slice Ao b.1.length co, .slice At b.2.length ct], .int .i64 d] w fun e w' => StepsR (legalP v b d) w e w' := by
  obtain ⟨i4, hi4, hz0, hz1, hz2⟩ := info_parts infoSt
  have hv := hb.v1
  have HO := Lib.hid ho
  have HT := Lib.hid ht
  obtain ⟨P, hP⟩ : ∃ P : Nat, v.p = (P : Int) := ⟨v.p.toNat, by omega⟩
  have HP := Lib.hid hP
  have hP24 : P ≤ 24 := by omega
  obtain ⟨ov, hov⟩ : ∃ a, over b = a := ⟨_, rfl⟩
  have HOV := Lib.hid hov
  have hLG : legalP v b d = if ov = true then [] else lgU v b d (P + 1) := by unfold legalP; rw [hov, show v.p.toNat = P from by omega]
  have HLG := Lib.hid hLG
  obtain ⟨LG, hL⟩ : ∃ l, legalP v b d = l := ⟨_, rfl⟩
  rw [hL] at HLG ⊢
  have CS := Lib.hid (fun (f : Nat) (hf : f ≤ P) (w9 : World) (h : Below w.heap.size w w9) => step_i v b hb Ao At co ct B f d (by omega) hd w9 (Nat.le_trans hB h.size) (HO.out.below h hB) (HT.out.below h hB))
  have CO := Lib.hid (fun (w9 : World) (h : Below w.heap.size w w9) => over_i v b hb Ao At co ct B w9 (Nat.le_trans hB h.size) (HO.out.below h hB) (HT.out.below h hB) ov hov)
  clear hb ho ht hov hLG hL hP
  go_enter Try.func92, Try.ntmps92
  go_upto_region 1 with (fail)
  refine wp_gen (fun W' => Below w.heap.size w W' ∧ RowB W' w.heap.size 32 [.int .i64 v.p, .int .i64 v.c, .int .i64 v.h, .int .i64 v.s] ∧ RowB W' (w.heap.size + 1) 34 [.slice Ao b.1.length co, .slice At b.2.length ct]) ⟨by go_grown, (RowB.new _ _ _).alloc _, RowB.new' _ _ _ (by simp)⟩ ?_
  rintro w1 ⟨hbW, rv, rb⟩
  obtain ⟨q0, q1, q2, q3⟩ := rv.c4
  obtain ⟨r0, r1⟩ := rb.c2
  have hl1 := rv.lt
  have hl2 := rb.lt
  go_wp2_with fail
  refine (CO.out w1 hbW).mono ?_
  rintro e w2 ⟨rfl, hb2⟩
  have rv := rv.below hb2 rv.lt
  have rb := rb.below hb2 rb.lt
  have hbW := hbW.trans (hb2.mono hbW.size)
  clear q0 q1 q2 q3 r0 r1 hl1 hl2 hb2
  obtain ⟨q0, q1, q2, q3⟩ := rv.c4
  obtain ⟨r0, r1⟩ := rb.c2
  have hl1 := rv.lt
  have hl2 := rb.lt
  cases ov
  case true =>
    obtain rfl : LG = [] := by rw [HLG.out]; rfl
    go_wp2_with fail
    go_ret
    exact ⟨_, rfl, OwnS.nil_ _ _ _ _ _ _, hbW⟩
  have hT0 : Hid (lgU v b d (P + 1) = LG) := Lib.hid (by rw [HLG.out]; rfl)
  have hT1 : Hid (∀ f : Int, (stepP v b f d) = stepP v b f d) := Lib.hid (fun _ => rfl)
  go_wp2_with fail
  go_loopw [7, 8] (fun vl i wr => ∃ (FF_ k : Nat), FF_ + k = P + 1 ∧ i = .int .i64 ((FF_ : Int) - 1) ∧ Hid (Below w.heap.size w wr) ∧ RowB wr w.heap.size 32 [.int .i64 v.p, .int .i64 v.c, .int .i64 v.h, .int .i64 v.s] ∧ RowB wr (w.heap.size + 1) 34 [.slice Ao b.1.length co, .slice At b.2.length ct] ∧ Hid (OwnS wr (w.heap.size + 2) wr.heap.size 71 4 enSt vl (lgU v b d k)) ∧ Hid ((lgU v b d k).length ≤ k)) (fun _ i _ => (intOf i + 1).toNat)
  case atStart => exact ⟨P + 1, 0, by omega, by rw [HP.out, show (((P + 1 : Nat) : Int) - 1) = (P : Int) from by omega], Lib.hid hbW, rv, rb, Lib.hid (OwnS.nil_ _ _ _ _ _ _), Lib.hid (by show ([] : List Stp).length ≤ 0; simp)⟩
  case round =>
    obtain ⟨FF_, k, hFk, rfl, hb, rv, rb, ho, hlen⟩ := hrel
    clear q0 q1 q2 q3 r0 r1 hl1 hl2
    obtain ⟨q0, q1, q2, q3⟩ := rv.c4
    obtain ⟨r0, r1⟩ := rb.c2
    have hl1 := rv.lt
    have hl2 := rb.lt
    by_cases hF : 0 < FF_
    · obtain ⟨f, rfl⟩ : ∃ f, FF_ = f + 1 := ⟨FF_ - 1, by omega⟩
      have ef : (((f + 1 : Nat) : Int) - 1) = (f : Int) := by omega
      rw [ef]
      obtain ⟨Av, cv, hvl, _⟩ := ho.out.form enSt_len
      have hsz : w.heap.size + 2 ≤ wr.heap.size := by omega
      have HLK := Lib.hid (lgU_step v b d (P := P) (k := k) (f := f) HP.out (by omega))
      clear ef
      subst hvl
      go_wp2_with fail
      refine (CS.out f (by omega) wr hb.out).mono ?_
      rintro e w5 ⟨s, ok, rfl, hopt, hb5⟩
      have HOPT := Lib.hid (opt_list hopt)
      clear hopt
      have rv := rv.below hb5 rv.lt
      have rb := rb.below hb5 rb.lt
      have ho := Lib.hid ((ho.out.below hb5 (Nat.le_refl _)).more hb5.size)
      have hbn := Lib.hid (hb.out.trans (hb5.mono hb.out.size))
      have hs5 := hb5.size
      clear hb hb5 q0 q1 q2 q3 r0 r1 hl1 hl2
      obtain ⟨q0, q1, q2, q3⟩ := rv.c4
      obtain ⟨r0, r1⟩ := rb.c2
      have hl1 := rv.lt
      have hl2 := rb.lt
      have hlk := hlen.out
      cases ok
      case false =>
        have HN : Hid (lgU v b d (k + 1) = lgU v b d k) := Lib.hid (by rw [HLK.out, HOPT.out]; simp)
        go_wp2_with fail
        go_roundw
        case rel => exact ⟨f, k + 1, by omega, by first | rfl | trivial | go_num, Lib.hid (hbn.out.alloc hbn.out.size _), rv.alloc _, rb.alloc _, Lib.hid (by rw [HN.out]; exact (ho.out.alloc _).more (by simp)), Lib.hid (by rw [HN.out]; omega)⟩
        case measure => simp [intOf] <;> omega
      case true =>
        have HN : Hid (lgU v b d (k + 1) = lgU v b d k ++ [s]) := Lib.hid (by rw [HLK.out, HOPT.out]; simp)
        have hnl := Lib.hid (show (lgU v b d (k + 1)).length ≤ k + 1 from by rw [HN.out, List.length_append]; simp; omega)
        go_wp2_with (at_builtin; refine wpL_app rfl _ _ _ rfl (w.heap.size + 2) _ 71 i4 (.agg #[.int .i64 0, .int .i64 0, .int .i64 0, .bool false]) 4 32 Try.underlying42 hi4 hz0 hz1 hz2 rfl (by decide) enSt_len one_St (.slice Av (lgU v b d k).length cv) (lgU v b d k) [s] rfl ((ho.out.alloc _).alloc _) ⟨(w5.alloc (.cells #[.int .i64 s.1, .int .i64 s.2.1, .int .i64 s.2.2.1, .bool s.2.2.2] 71)).heap.size, 0, none⟩ 1 1 (by first | rfl | (simp; rfl) | (simp [go_sem]; done)) rfl (news_new (RowB.new _ _ _)) (by decide) ?c1 ?c2 ?c3 ?_)
        case c1 => unfold maxLen; omega
        case c2 => omega
        case c3 => go_size
        intro k2 c2 w7 ho7 hg7 hat7 hlt7
        have hrow : ∀ g, (Value.slice Av (lgU v b d k).length cv).ownBlock = some g → w.heap.size + 2 ≤ g := fun g hg => (ho.out.block g hg).1
        have hg8 : w5.grownBy w7 (Value.slice Av (lgU v b d k).length cv).ownBlock := below_grown (w := w5) (by go_grown) hg7
        have rv := rv.grown hg8 (fun g hg => by have := hrow g hg; omega)
        have rb := rb.grown hg8 (fun g hg => by have := hrow g hg; omega)
        have hbn := Lib.hid (hbn.out.grown hg8 hbn.out.size (fun g hg => by have := hrow g hg; omega))
        have hoN := Lib.hid (show OwnS w7 (w.heap.size + 2) w7.heap.size 71 4 enSt (.slice (some ⟨k2, 0, none⟩) ((lgU v b d k).length + 1) c2) (lgU v b d (k + 1)) from by rw [HN.out]; exact ho7)
        clear hg7 hg8 hat7 ho7 hrow
        go_wp2_with fail
        go_roundw
        case rel => exact ⟨f, k + 1, by omega, by first | rfl | trivial | go_num, hbn, rv, rb, hoN, hnl⟩
        case measure => simp [intOf] <;> omega
    · obtain rfl : FF_ = 0 := by omega
      obtain rfl : k = P + 1 := by omega
      have hEND : lgU v b d (P + 1) = LG := hT0.out
      have hoE := Lib.hid ho.out
      rw [hEND] at hoE
      clear hEND
      go_wp2_with fail
      go_ret
      exact ⟨_, rfl, hoE.out.less (by omega), hb.out⟩

set_option maxHeartbeats 4000000 in
set_option maxRecDepth 100000 in
theorem legal_s (v : Vr) (b : Bd) (hb : Ok v b) (Ao At : Option Addr) (co ct B : Nat) (d : Int) (hd : 1 ≤ d ∧ d ≤ 6) (w : World) (hB : B ≤ w.heap.size) (ho : RdS w B 1 enI Ao b.1) (ht : RdS w B 1 enI At b.2) :
    Calls Try.prog 88 #[.agg #[.int .i64 v.p, .int .i64 v.c, .int .i64 v.h, .int .i64 v.s], .agg #[.slice Ao b.1.length co, .slice At b.2.length ct], .int .i64 d] w fun e w' => StepsR (legalP v b d) w e w' := by
  obtain ⟨i4, hi4, hz0, hz1, hz2⟩ := info_parts infoSt
  have hv := hb.v1
  have HO := Lib.hid ho
  have HT := Lib.hid ht
  obtain ⟨P, hP⟩ : ∃ P : Nat, v.p = (P : Int) := ⟨v.p.toNat, by omega⟩
  have HP := Lib.hid hP
  have hP24 : P ≤ 24 := by omega
  obtain ⟨ov, hov⟩ : ∃ a, over b = a := ⟨_, rfl⟩
  have HOV := Lib.hid hov
  have hLG : legalP v b d = if ov = true then [] else lgU v b d (P + 1) := by unfold legalP; rw [hov, show v.p.toNat = P from by omega]
  have HLG := Lib.hid hLG
  obtain ⟨LG, hL⟩ : ∃ l, legalP v b d = l := ⟨_, rfl⟩
  rw [hL] at HLG ⊢
  have CS := Lib.hid (fun (f : Nat) (hf : f ≤ P) (w9 : World) (h : Below w.heap.size w w9) => step_s v b hb Ao At co ct B f d (by omega) hd w9 (Nat.le_trans hB h.size) (HO.out.below h hB) (HT.out.below h hB))
  have CO := Lib.hid (fun (w9 : World) (h : Below w.heap.size w w9) => over_i v b hb Ao At co ct B w9 (Nat.le_trans hB h.size) (HO.out.below h hB) (HT.out.below h hB) ov hov)
  clear hb ho ht hov hLG hL hP
  go_enter Try.func88, Try.ntmps88
  go_upto_region 1 with (fail)
  refine wp_gen (fun W' => Below w.heap.size w W' ∧ RowB W' w.heap.size 32 [.int .i64 v.p, .int .i64 v.c, .int .i64 v.h, .int .i64 v.s] ∧ RowB W' (w.heap.size + 1) 34 [.slice Ao b.1.length co, .slice At b.2.length ct]) ⟨by go_grown, (RowB.new _ _ _).alloc _, RowB.new' _ _ _ (by simp)⟩ ?_
  rintro w1 ⟨hbW, rv, rb⟩
  obtain ⟨q0, q1, q2, q3⟩ := rv.c4
  obtain ⟨r0, r1⟩ := rb.c2
  have hl1 := rv.lt
  have hl2 := rb.lt
  have hT0 : Hid ((if ov = true then [] else lgU v b d (P + 1)) = LG) := Lib.hid (by rw [HLG.out])
  go_wp2_with fail
  go_loopw [7, 8] (fun vl i wr => ∃ (FF_ k : Nat), FF_ + k = P + 1 ∧ i = .int .i64 ((FF_ : Int) - 1) ∧ Hid (Below w.heap.size w wr) ∧ RowB wr w.heap.size 32 [.int .i64 v.p, .int .i64 v.c, .int .i64 v.h, .int .i64 v.s] ∧ RowB wr (w.heap.size + 1) 34 [.slice Ao b.1.length co, .slice At b.2.length ct] ∧ Hid (OwnS wr (w.heap.size + 2) wr.heap.size 71 4 enSt vl (lgX v b d k)) ∧ Hid ((lgX v b d k).length ≤ k)) (fun _ i _ => (intOf i + 1).toNat)
  case atStart => exact ⟨P + 1, 0, by omega, by rw [HP.out, show (((P + 1 : Nat) : Int) - 1) = (P : Int) from by omega], Lib.hid (by first | exact hbW.alloc hbW.size _ | go_grown), rv.alloc _, rb.alloc _, Lib.hid (by rw [show lgX v b d 0 = [] from rfl]; exact (RowB.new _ _ []).own (xs := ([] : List Stp)) (en := enSt) enSt_len (by omega) (by simp) (by decide)), Lib.hid (by show ([] : List Stp).length ≤ 0; simp)⟩
  case round =>
    obtain ⟨FF_, k, hFk, rfl, hb, rv, rb, ho, hlen⟩ := hrel
    clear q0 q1 q2 q3 r0 r1 hl1 hl2
    obtain ⟨q0, q1, q2, q3⟩ := rv.c4
    obtain ⟨r0, r1⟩ := rb.c2
    have hl1 := rv.lt
    have hl2 := rb.lt
    by_cases hF : 0 < FF_
    · obtain ⟨f, rfl⟩ : ∃ f, FF_ = f + 1 := ⟨FF_ - 1, by omega⟩
      have ef : (((f + 1 : Nat) : Int) - 1) = (f : Int) := by omega
      rw [ef]
      obtain ⟨Av, cv, hvl, _⟩ := ho.out.form enSt_len
      have hsz : w.heap.size + 2 ≤ wr.heap.size := by omega
      have HLK := Lib.hid (lgX_step v b d (P := P) (k := k) (f := f) HP.out (by omega))
      clear ef
      subst hvl
      go_wp2_with fail
      refine (CS.out f (by omega) wr hb.out).mono ?_
      rintro e w5 ⟨s, ok, rfl, hopt, hb5⟩
      have HOPT := Lib.hid (opt_list hopt)
      clear hopt
      have rv := rv.below hb5 rv.lt
      have rb := rb.below hb5 rb.lt
      have ho := Lib.hid ((ho.out.below hb5 (Nat.le_refl _)).more hb5.size)
      have hbn := Lib.hid (hb.out.trans (hb5.mono hb.out.size))
      have hs5 := hb5.size
      clear hb hb5 q0 q1 q2 q3 r0 r1 hl1 hl2
      obtain ⟨q0, q1, q2, q3⟩ := rv.c4
      obtain ⟨r0, r1⟩ := rb.c2
      have hl1 := rv.lt
      have hl2 := rb.lt
      have hlk := hlen.out
      cases ok
      case false =>
        have HN : Hid (lgX v b d (k + 1) = lgX v b d k) := Lib.hid (by rw [HLK.out, HOPT.out]; simp)
        go_wp2_with fail
        go_roundw
        case rel => exact ⟨f, k + 1, by omega, by first | rfl | trivial | go_num, Lib.hid (hbn.out.alloc hbn.out.size _), rv.alloc _, rb.alloc _, Lib.hid (by rw [HN.out]; exact (ho.out.alloc _).more (by simp)), Lib.hid (by rw [HN.out]; omega)⟩
        case measure => simp [intOf] <;> omega
      case true =>
        have HN : Hid (lgX v b d (k + 1) = lgX v b d k ++ [s]) := Lib.hid (by rw [HLK.out, HOPT.out]; simp)
        have hnl := Lib.hid (show (lgX v b d (k + 1)).length ≤ k + 1 from by rw [HN.out, List.length_append]; simp; omega)
        go_wp2_with (at_builtin; refine wpL_app rfl _ _ _ rfl (w.heap.size + 2) _ 71 i4 (.agg #[.int .i64 0, .int .i64 0, .int .i64 0, .bool false]) 4 32 Try.underlying42 hi4 hz0 hz1 hz2 rfl (by decide) enSt_len one_St (.slice Av (lgX v b d k).length cv) (lgX v b d k) [s] rfl ((ho.out.alloc _).alloc _) ⟨(w5.alloc (.cells #[.int .i64 s.1, .int .i64 s.2.1, .int .i64 s.2.2.1, .bool s.2.2.2] 71)).heap.size, 0, none⟩ 1 1 (by first | rfl | (simp; rfl) | (simp [go_sem]; done)) rfl (news_new (RowB.new _ _ _)) (by decide) ?c1 ?c2 ?c3 ?_)
        case c1 => unfold maxLen; omega
        case c2 => omega
        case c3 => go_size
        intro k2 c2 w7 ho7 hg7 hat7 hlt7
        have hrow : ∀ g, (Value.slice Av (lgX v b d k).length cv).ownBlock = some g → w.heap.size + 2 ≤ g := fun g hg => (ho.out.block g hg).1
        have hg8 : w5.grownBy w7 (Value.slice Av (lgX v b d k).length cv).ownBlock := below_grown (w := w5) (by go_grown) hg7
        have rv := rv.grown hg8 (fun g hg => by have := hrow g hg; omega)
        have rb := rb.grown hg8 (fun g hg => by have := hrow g hg; omega)
        have hbn := Lib.hid (hbn.out.grown hg8 hbn.out.size (fun g hg => by have := hrow g hg; omega))
        have hoN := Lib.hid (show OwnS w7 (w.heap.size + 2) w7.heap.size 71 4 enSt (.slice (some ⟨k2, 0, none⟩) ((lgX v b d k).length + 1) c2) (lgX v b d (k + 1)) from by rw [HN.out]; exact ho7)
        clear hg7 hg8 hat7 ho7 hrow
        go_wp2_with fail
        go_roundw
        case rel => exact ⟨f, k + 1, by omega, by first | rfl | trivial | go_num, hbn, rv, rb, hoN, hnl⟩
        case measure => simp [intOf] <;> omega
    · obtain rfl : FF_ = 0 := by omega
      obtain rfl : k = P + 1 := by omega
      have hEND : lgX v b d (P + 1) = LG := (by rw [← hT0.out, ← HOV.out]; exact lgX_end v b d _)
      have hoE := Lib.hid ho.out
      rw [hEND] at hoE
      clear hEND
      go_wp2_with fail
      go_ret
      exact ⟨_, rfl, hoE.out.less (by omega), hb.out⟩
end Go.Proofs.Ytfgkkmhafdbicaa.Bd5
