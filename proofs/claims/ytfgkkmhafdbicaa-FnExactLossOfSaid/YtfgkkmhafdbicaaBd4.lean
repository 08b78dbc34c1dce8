/-
  The step of a checker from a point with a die: of the program and of the reference. Conditions: each theorem's own.
-/
import Derived.Test.YtfgkkmhafdbicaaBd2
import Derived.Test.YtfgkkmhafdbicaaRegF
import Derived.Deep.DeepCutAuto
set_option linter.unusedVariables false
set_option linter.unusedSimpArgs false
namespace Go.Proofs.Ytfgkkmhafdbicaa.Bd4
open Go.ChangeShapes Go.WideShapes Go.ChangeAt Go.RowKit Base Ints Own Clone RelG PlP Bd1 Bd2 RegInv RegF

theorem four {W : World} {g : Nat} {t : TypeId} {a b c d : Value} (h : RowB W g t [a, b, c, d]) (u v x y : Value) : RowB ((((W.setCell ⟨g, 0, none⟩ u).setCell ⟨g, 1, none⟩ v).setCell ⟨g, 2, none⟩ x).setCell ⟨g, 3, none⟩ y) g t [u, v, x, y] :=
  (((h.set 0 u).set 1 v).set 2 x).set 3 y
theorem oth4 {W : World} {g g' : Nat} {t : TypeId} {cs : List Value} (h : RowB W g t cs) (hn : g ≠ g') (u v x y : Value) : RowB ((((W.setCell ⟨g', 0, none⟩ u).setCell ⟨g', 1, none⟩ v).setCell ⟨g', 2, none⟩ x).setCell ⟨g', 3, none⟩ y) g t cs :=
  (((h.other (p := ⟨g', 0, none⟩) hn _).other (p := ⟨g', 1, none⟩) hn _).other (p := ⟨g', 2, none⟩) hn _).other (p := ⟨g', 3, none⟩) hn _
theorem below_four {B : Nat} {w W : World} (h : Below B w W) {g : Nat} (hg : B ≤ g) (u v x y : Value) : Below B w ((((W.setCell ⟨g, 0, none⟩ u).setCell ⟨g, 1, none⟩ v).setCell ⟨g, 2, none⟩ x).setCell ⟨g, 3, none⟩ y) :=
  (((h.setCell (p := ⟨g, 0, none⟩) hg _).setCell (p := ⟨g, 1, none⟩) hg _).setCell (p := ⟨g, 2, none⟩) hg _).setCell (p := ⟨g, 3, none⟩) hg _
theorem at_rd' {w : World} {B : Nat} {bk o : Nat} {xs : List Int} (h : RdS w B 1 enI (some ⟨bk, o, none⟩) xs) {i : Nat} (hi : i < xs.length) : w.cell? ⟨bk, o + i, none⟩ = some (.int .i64 (at_ xs i)) := by
  obtain ⟨b1, o1, hA, -, hc⟩ := at_rd h hi
  simp only [Option.some.injEq, Addr.mk.injEq, and_true] at hA
  obtain ⟨rfl, rfl⟩ := hA
  exact hc
/-- A step and whether there is one. -/
def opt (s : Stp) (ok : Bool) : Option Stp := if ok then some s else none
/-- What a function that looks for a step returns. -/
def StepR (t : Option Stp) (w : World) (e : Ending) (w' : World) : Prop :=
  ∃ (s : Stp) (ok : Bool), e = .returned (.tuple #[.agg #[.int .i64 s.1, .int .i64 s.2.1, .int .i64 s.2.2.1, .bool s.2.2.2], .bool ok]) ∧ opt s ok = t ∧ Below w.heap.size w w'
theorem step_none1 {v : Vr} {b : Bd} {f d : Int} (h : at_ b.1 f.toNat = 0 ∨ (0 < at_ b.1 v.p.toNat ∧ f ≠ v.p)) : stepP v b f d = none := by unfold stepP; rw [if_pos h]
theorem step_in {v : Vr} {b : Bd} {f d : Int} (h : ¬ (at_ b.1 f.toNat = 0 ∨ (0 < at_ b.1 v.p.toNat ∧ f ≠ v.p))) (h2 : 0 ≤ f - d) :
    stepP v b f d = opt (f, f - d, d, decide (at_ b.2 (v.p - 1 - (f - d)).toNat = 1)) (decide (at_ b.2 (v.p - 1 - (f - d)).toNat ≤ 1)) := by
  unfold stepP opt
  rw [if_neg h, if_pos h2]
  simp only [decide_eq_true_eq]
theorem step_off {v : Vr} {b : Bd} {f d : Int} (h : ¬ (at_ b.1 f.toNat = 0 ∨ (0 < at_ b.1 v.p.toNat ∧ f ≠ v.p))) (h2 : ¬ 0 ≤ f - d) (h3 : ¬ (v.h ≤ last b.1 ∨ (f - d < -1 ∧ f < last b.1))) : stepP v b f d = some (f, -1, d, false) := by
  unfold stepP; rw [if_neg h, if_neg h2, if_neg h3]
theorem step_none3 {v : Vr} {b : Bd} {f d : Int} (h2 : ¬ 0 ≤ f - d) (h3 : v.h ≤ last b.1 ∨ (f - d < -1 ∧ f < last b.1)) : stepP v b f d = none := by
  unfold stepP
  by_cases c : at_ b.1 f.toNat = 0 ∨ (0 < at_ b.1 v.p.toNat ∧ f ≠ v.p)
  · rw [if_pos c]
  · rw [if_neg c, if_neg h2, if_pos h3]
theorem lastU_bd (l : List Int) : ∀ k, -1 ≤ lastU l k ∧ lastU l k < (k : Int) := by
  intro k
  induction k with
  | zero => simp [lastU]
  | succ k ih => simp only [lastU]; split <;> omega

set_option maxHeartbeats 1000000 in
theorem open_s (v : Vr) (b : Bd) (hb : Ok v b) (Ao At : Option Addr) (co ct B : Nat) (i : Int) (hi : 0 ≤ i ∧ i < v.p) (w : World) (hB : B ≤ w.heap.size) (ht : RdS w B 1 enI At b.2) :
    Calls Try.prog 94 #[.agg #[.int .i64 v.p, .int .i64 v.c, .int .i64 v.h, .int .i64 v.s], .agg #[.slice Ao b.1.length co, .slice At b.2.length ct], .int .i64 i] w fun e w' => e = .returned (.bool (decide (at_ b.2 (v.p - 1 - i).toNat ≤ 1))) ∧ Below w.heap.size w w' := by
  have hv := hb.v1
  have hl := hb.oth.len
  obtain ⟨j, hj⟩ : ∃ j : Nat, v.p - 1 - i = (j : Int) := ⟨(v.p - 1 - i).toNat, by omega⟩
  have ej : (v.p - 1 - i).toNat = j := by omega
  rw [ej]
  obtain ⟨bt, ot, rfl, hbt, hc⟩ := at_rd (ht.below (show Below w.heap.size w ((w.alloc (.cells #[.int .i64 v.p, .int .i64 v.c, .int .i64 v.h, .int .i64 v.s] 32)).alloc (.cells #[.slice Ao b.1.length co, .slice At b.2.length ct] 34)) from by go_grown) hB) (i := j) (by omega)
  have e1 : IntKind.i64.wrap (v.p - 1) = v.p - 1 := IntWalk.i64_in _ (by omega)
  have e2 : IntKind.i64.wrap (v.p - 1 - i) = (j : Int) := by rw [hj]; exact IntWalk.i64_in _ (by omega)
  have hjl : (j : Int) < (b.2.length : Int) := by omega
  clear ej
  go_enter Try.func94, Try.ntmps94
  go_wp2_with fail
  go_ret
  exact ⟨rfl, by go_grown⟩

set_option maxHeartbeats 1000000 in
theorem open_i (v : Vr) (b : Bd) (hb : Ok v b) (Ao At : Option Addr) (co ct B : Nat) (i : Int) (hi : 0 ≤ i ∧ i < v.p) (w : World) (hB : B ≤ w.heap.size) (ht : RdS w B 1 enI At b.2) :
    Calls Try.prog 97 #[.agg #[.int .i64 v.p, .int .i64 v.c, .int .i64 v.h, .int .i64 v.s], .agg #[.slice Ao b.1.length co, .slice At b.2.length ct], .int .i64 i] w fun e w' => e = .returned (.bool (decide (at_ b.2 (v.p - 1 - i).toNat ≤ 1))) ∧ Below w.heap.size w w' := by
  have hv := hb.v1
  have hl := hb.oth.len
  obtain ⟨j, hj⟩ : ∃ j : Nat, v.p - 1 - i = (j : Int) := ⟨(v.p - 1 - i).toNat, by omega⟩
  have ej : (v.p - 1 - i).toNat = j := by omega
  rw [ej]
  obtain ⟨bt, ot, rfl, hbt, hc⟩ := at_rd (ht.below (show Below w.heap.size w ((w.alloc (.cells #[.int .i64 v.p, .int .i64 v.c, .int .i64 v.h, .int .i64 v.s] 32)).alloc (.cells #[.slice Ao b.1.length co, .slice At b.2.length ct] 34)) from by go_grown) hB) (i := j) (by omega)
  have e1 : IntKind.i64.wrap (v.p - 1) = v.p - 1 := IntWalk.i64_in _ (by omega)
  have e2 : IntKind.i64.wrap (v.p - 1 - i) = (j : Int) := by rw [hj]; exact IntWalk.i64_in _ (by omega)
  have hjl : (j : Int) < (b.2.length : Int) := by omega
  clear ej
  go_enter Try.func97, Try.ntmps97
  go_wp2_with fail
  go_ret
  exact ⟨rfl, by go_grown⟩

set_option maxHeartbeats 4000000 in
set_option maxRecDepth 100000 in
theorem step_i (v : Vr) (b : Bd) (hb : Ok v b) (Ao At : Option Addr) (co ct B : Nat) (f : Nat) (d : Int) (hf : (f : Int) ≤ v.p) (hd : 1 ≤ d ∧ d ≤ 6) (w : World) (hB : B ≤ w.heap.size) (ho : RdS w B 1 enI Ao b.1) (ht : RdS w B 1 enI At b.2) :
    Calls Try.prog 96 #[.agg #[.int .i64 v.p, .int .i64 v.c, .int .i64 v.h, .int .i64 v.s], .agg #[.slice Ao b.1.length co, .slice At b.2.length ct], .int .i64 (f : Int), .int .i64 d] w fun e w' => StepR (stepP v b (f : Int) d) w e w' := by
  have hv := hb.v1
  have N1 := hb.own.len
  have N2 := hb.oth.len
  have HBK := Lib.hid hb
  have HO := Lib.hid ho
  have HT := Lib.hid ht
  obtain ⟨T, hT⟩ : ∃ T, (stepP v b (f : Int) d) = T := ⟨_, rfl⟩
  rw [hT]
  have HTQ := Lib.hid hT
  have hf0 : 0 ≤ at_ b.1 f := hb.own.nn f
  have hp0 : 0 ≤ at_ b.1 v.p.toNat := hb.own.nn _
  have ef : IntKind.i64.wrap ((f : Int) - d) = (f : Int) - d := IntWalk.i64_in _ (by omega)
  have hpl : v.p < (b.1.length : Int) := by omega
  have hfl : (f : Int) < (b.1.length : Int) := by omega
  have hfl2 : f < b.1.length := by omega
  clear hb ho ht hT
  go_enter Try.func96, Try.ntmps96
  go_upto_region 1 with (fail)
  refine wp_gen (fun W' => Below w.heap.size w W' ∧ RowB W' w.heap.size 32 [.int .i64 v.p, .int .i64 v.c, .int .i64 v.h, .int .i64 v.s] ∧ RowB W' (w.heap.size + 1) 34 [.slice Ao b.1.length co, .slice At b.2.length ct] ∧ RowB W' (w.heap.size + 2) 71 [.int .i64 0, .int .i64 0, .int .i64 0, .bool false]) ⟨by go_grown, ((RowB.new _ _ _).alloc _).alloc _, (RowB.new' _ _ _ (by simp)).alloc _, RowB.new' _ _ _ (by simp)⟩ ?_
  rintro w1 ⟨hbW, rv, rb, rr⟩
  obtain ⟨q0, q1, q2, q3⟩ := rv.c4
  obtain ⟨r0, r1⟩ := rb.c2
  obtain ⟨y0, y1, y2, y3⟩ := rr.c4
  have hl1 := rv.lt
  have hl2 := rb.lt
  have hl3 := rr.lt
  have fr := rr.frozen
  obtain ⟨b1, o1, rfl, hb1', hc1⟩ := at_rd (HO.out.below hbW hB) (i := f) hfl2
  have hc2 : ∃ c, c = at_ b.1 v.p.toNat := ⟨_, rfl⟩
  obtain ⟨b1', o1', hA, -, hcp⟩ := at_rd (HO.out.below hbW hB) (i := v.p.toNat) (by omega)
  simp only [Option.some.injEq, Addr.mk.injEq, and_true] at hA
  obtain ⟨rfl, rfl⟩ := hA
  clear hc2
  by_cases g1 : at_ b.1 f = 0
  · obtain rfl : T = none := by rw [← HTQ.out]; exact step_none1 (.inl (by simpa using g1))
    have e1 : (at_ b.1 f == 0) = true := by simp [g1]
    clear g1
    go_wp2_with fail
    refine bp_gen (fun W' => Below w.heap.size w W' ∧ RowB W' (w.heap.size + 2) 71 [.int .i64 0, .int .i64 0, .int .i64 0, .bool false]) ⟨below_four hbW (by omega) _ _ _ _, four rr _ _ _ _⟩ ?_
    rintro w8 ⟨hb8, r8⟩
    obtain ⟨z0, z1, z2, z3⟩ := r8.c4
    refine bodyPost_ret (v := .tuple #[.agg #[.int .i64 0, .int .i64 0, .int .i64 0, .bool false], .bool false]) (by simp [results, Try.results96, go_sem, z0, z1, z2, z3]) rfl ?_
    exact ⟨(0, 0, 0, false), false, rfl, by rfl, hb8⟩
  have e1 : (at_ b.1 f == 0) = false := by simp [g1]
  by_cases g2 : 0 < at_ b.1 v.p.toNat ∧ (f : Int) ≠ v.p
  · obtain rfl : T = none := by rw [← HTQ.out]; exact step_none1 (.inr g2)
    have e2 : ((f : Int) != v.p) = true := by simp [g2.2]
    have e3 : 0 < at_ b.1 v.p.toNat := g2.1
    clear g1 g2
    go_wp2_with fail
    refine bp_gen (fun W' => Below w.heap.size w W' ∧ RowB W' (w.heap.size + 2) 71 [.int .i64 0, .int .i64 0, .int .i64 0, .bool false]) ⟨below_four hbW (by omega) _ _ _ _, four rr _ _ _ _⟩ ?_
    rintro w8 ⟨hb8, r8⟩
    obtain ⟨z0, z1, z2, z3⟩ := r8.c4
    refine bodyPost_ret (v := .tuple #[.agg #[.int .i64 0, .int .i64 0, .int .i64 0, .bool false], .bool false]) (by simp [results, Try.results96, go_sem, z0, z1, z2, z3]) rfl ?_
    exact ⟨(0, 0, 0, false), false, rfl, by rfl, hb8⟩
  have G := Lib.hid (show ¬ (at_ b.1 ((f : Int)).toNat = 0 ∨ (0 < at_ b.1 v.p.toNat ∧ (f : Int) ≠ v.p)) from by
    rintro (h | h)
    · exact g1 (by simpa using h)
    · exact g2 h)
  by_cases g3 : 0 < at_ b.1 v.p.toNat
  · have e2 : ((f : Int) != v.p) = false := by
      have : (f : Int) = v.p := by
        rcases Classical.em ((f : Int) = v.p) with h | h
        · exact h
        · exact absurd ⟨g3, h⟩ g2
      simp [this]
    clear g1 g2
    by_cases g5 : 0 ≤ (f : Int) - d
    · obtain ⟨j, hj⟩ : ∃ j : Nat, v.p - 1 - ((f : Int) - d) = (j : Int) := ⟨(v.p - 1 - ((f : Int) - d)).toNat, by omega⟩
      have ej : (v.p - 1 - ((f : Int) - d)).toNat = j := by omega
      have hTs : T = opt (f, f - d, d, decide (at_ b.2 j = 1)) (decide (at_ b.2 j ≤ 1)) := by rw [← HTQ.out]; exact (by have := step_in (v := v) (b := b) (f := (f : Int)) (d := d) G.out g5; rw [ej] at this; exact this)
      have HTs := Lib.hid hTs
      have HEJ := Lib.hid ej
      clear hTs ej
      obtain ⟨bt, ot, rfl, hbt, hct⟩ := at_rd (HT.out.below hbW hB) (i := j) (by omega)
      have e5 : IntKind.i64.wrap (v.p - 1) = v.p - 1 := IntWalk.i64_in _ (by omega)
      have e6 : IntKind.i64.wrap (v.p - 1 - ((f : Int) - d)) = (j : Int) := by rw [hj]; exact IntWalk.i64_in _ (by omega)
      have e7 : IntKind.i64.wrap (j : Int) = (j : Int) := IntWalk.i64_in _ (by omega)
      have hjl2 : (j : Int) < v.p + 1 := by omega
      have hjl : (j : Int) < (b.2.length : Int) := by omega
      have CP := Lib.hid (fun w9 (h : Below w.heap.size w w9) => open_i v b HBK.out (some ⟨b1, o1, none⟩) (some ⟨bt, ot, none⟩) co ct B ((f : Int) - d) (by omega) w9 (Nat.le_trans hB h.size) (HT.out.below h hB))
      rw [HEJ.out] at CP
      go_wp2_with fail
      refine (CP.out _ hbW).mono ?_
      rintro e w2 ⟨rfl, hb2⟩
      have rv := rv.below hb2 rv.lt
      have rb := rb.below hb2 rb.lt
      have rr := rr.below hb2 rr.lt
      have hbW := hbW.trans (hb2.mono hbW.size)
      clear q0 q1 q2 q3 r0 r1 y0 y1 y2 y3 hl1 hl2 hl3 fr hb2 hct hc1 hcp
      obtain ⟨q0, q1, q2, q3⟩ := rv.c4
      obtain ⟨r0, r1⟩ := rb.c2
      obtain ⟨y0, y1, y2, y3⟩ := rr.c4
      have hl1 := rv.lt
      have hl2 := rb.lt
      have hl3 := rr.lt
      have fr := rr.frozen
      obtain ⟨bt', ot', hA, -, hct⟩ := at_rd (HT.out.below hbW hB) (i := j) (by omega)
      simp only [Option.some.injEq, Addr.mk.injEq, and_true] at hA
      obtain ⟨rfl, rfl⟩ := hA
      by_cases g6 : at_ b.2 j ≤ 1
      · have g7 : decide (at_ b.2 j ≤ 1) = true := decide_eq_true g6
        have hR : opt (f, f - d, d, decide (at_ b.2 j = 1)) true = T := by rw [HTs.out, g7]
        obtain ⟨z, hz⟩ : ∃ z, decide (at_ b.2 j = 1) = z := ⟨_, rfl⟩
        have hz2 : (at_ b.2 j == 1) = z := by rw [← hz]; rfl
        rw [hz] at hR
        have HR := Lib.hid hR
        clear g6 hz hR
        go_wp2_with fail
        refine bp_gen (fun W' => Below w.heap.size w W' ∧ RowB W' (w.heap.size + 2) 71 [.int .i64 (f : Int), .int .i64 ((f : Int) - d), .int .i64 d, .bool z]) ⟨below_four hbW (by omega) _ _ _ _, four rr _ _ _ _⟩ ?_
        rintro w8 ⟨hb8, r8⟩
        obtain ⟨z0, z1, z2, z3⟩ := r8.c4
        refine bodyPost_ret (v := .tuple #[.agg #[.int .i64 (f : Int), .int .i64 ((f : Int) - d), .int .i64 d, .bool z], .bool true]) (by simp [results, Try.results96, go_sem, z0, z1, z2, z3]) rfl ?_
        exact ⟨((f : Int), ((f : Int) - d), d, z), true, rfl, by exact HR.out, hb8⟩
      · have g7 : decide (at_ b.2 j ≤ 1) = false := decide_eq_false g6
        obtain rfl : T = none := by rw [HTs.out, g7]; rfl
        clear g6
        go_wp2_with fail
        refine bp_gen (fun W' => Below w.heap.size w W' ∧ RowB W' (w.heap.size + 2) 71 [.int .i64 0, .int .i64 0, .int .i64 0, .bool false]) ⟨below_four hbW (by omega) _ _ _ _, four rr _ _ _ _⟩ ?_
        rintro w8 ⟨hb8, r8⟩
        obtain ⟨z0, z1, z2, z3⟩ := r8.c4
        refine bodyPost_ret (v := .tuple #[.agg #[.int .i64 0, .int .i64 0, .int .i64 0, .bool false], .bool false]) (by simp [results, Try.results96, go_sem, z0, z1, z2, z3]) rfl ?_
        exact ⟨(0, 0, 0, false), false, rfl, by rfl, hb8⟩
    · have hto : (f : Int) - d < 0 := by omega
      have CL := Lib.hid (fun w9 (h : Below w.heap.size w w9) => last_i (some ⟨b1, o1, none⟩) co B b.1 w9 (HO.out.below h hB) (by omega))
      obtain ⟨l, hl⟩ : ∃ l, last b.1 = l := ⟨_, rfl⟩
      have hlb := lastU_bd b.1 b.1.length
      rw [show lastU b.1 b.1.length = last b.1 from rfl, hl] at hlb
      obtain ⟨hlb0, hlb1⟩ := hlb
      have HL := Lib.hid hl
      rw [hl] at CL
      clear hl
      have GN := Lib.hid (show (v.h ≤ l ∨ ((f : Int) - d < -1 ∧ (f : Int) < l)) → T = none from fun h => by rw [← HTQ.out]; exact step_none3 g5 (by rw [HL.out]; exact h))
      have GS := Lib.hid (show ¬ (v.h ≤ l ∨ ((f : Int) - d < -1 ∧ (f : Int) < l)) → T = some ((f : Int), -1, d, false) from fun h => by rw [← HTQ.out]; exact step_off G.out g5 (by rw [HL.out]; exact h))
      go_wp2_with fail
      refine (CL.out _ hbW).mono ?_
      rintro e w2 ⟨rfl, rfl⟩
      by_cases k1 : v.h ≤ l
      · obtain rfl : T = none := GN.out (.inl k1)
        go_wp2_with fail
        refine bp_gen (fun W' => Below w.heap.size w W' ∧ RowB W' (w.heap.size + 2) 71 [.int .i64 0, .int .i64 0, .int .i64 0, .bool false]) ⟨below_four hbW (by omega) _ _ _ _, four rr _ _ _ _⟩ ?_
        rintro w8 ⟨hb8, r8⟩
        obtain ⟨z0, z1, z2, z3⟩ := r8.c4
        refine bodyPost_ret (v := .tuple #[.agg #[.int .i64 0, .int .i64 0, .int .i64 0, .bool false], .bool false]) (by simp [results, Try.results96, go_sem, z0, z1, z2, z3]) rfl ?_
        exact ⟨(0, 0, 0, false), false, rfl, by rfl, hb8⟩
      by_cases k2 : (f : Int) - d < -1
      · have k3 : ((f : Int) != d - 1) = true := by simp; omega
        by_cases k4 : (f : Int) < l
        · obtain rfl : T = none := GN.out (.inr ⟨k2, k4⟩)
          go_wp2_with fail
          refine bp_gen (fun W' => Below w.heap.size w W' ∧ RowB W' (w.heap.size + 2) 71 [.int .i64 0, .int .i64 0, .int .i64 0, .bool false]) ⟨below_four hbW (by omega) _ _ _ _, four rr _ _ _ _⟩ ?_
          rintro w8 ⟨hb8, r8⟩
          obtain ⟨z0, z1, z2, z3⟩ := r8.c4
          refine bodyPost_ret (v := .tuple #[.agg #[.int .i64 0, .int .i64 0, .int .i64 0, .bool false], .bool false]) (by simp [results, Try.results96, go_sem, z0, z1, z2, z3]) rfl ?_
          exact ⟨(0, 0, 0, false), false, rfl, by rfl, hb8⟩
        · obtain rfl : T = some ((f : Int), -1, d, false) := GS.out (by rintro (h | h); exact k1 h; exact k4 h.2)
          go_wp2_with fail
          refine bp_gen (fun W' => Below w.heap.size w W' ∧ RowB W' (w.heap.size + 2) 71 [.int .i64 (f : Int), .int .i64 (-1), .int .i64 d, .bool false]) ⟨below_four hbW (by omega) _ _ _ _, four rr _ _ _ _⟩ ?_
          rintro w8 ⟨hb8, r8⟩
          obtain ⟨z0, z1, z2, z3⟩ := r8.c4
          refine bodyPost_ret (v := .tuple #[.agg #[.int .i64 (f : Int), .int .i64 (-1), .int .i64 d, .bool false], .bool true]) (by simp [results, Try.results96, go_sem, z0, z1, z2, z3]) rfl ?_
          exact ⟨((f : Int), (-1), d, false), true, rfl, by rfl, hb8⟩
      · have k3 : ((f : Int) != d - 1) = false := by simp; omega
        obtain rfl : T = some ((f : Int), -1, d, false) := GS.out (by rintro (h | h); exact k1 h; exact k2 h.1)
        go_wp2_with fail
        refine bp_gen (fun W' => Below w.heap.size w W' ∧ RowB W' (w.heap.size + 2) 71 [.int .i64 (f : Int), .int .i64 (-1), .int .i64 d, .bool false]) ⟨below_four hbW (by omega) _ _ _ _, four rr _ _ _ _⟩ ?_
        rintro w8 ⟨hb8, r8⟩
        obtain ⟨z0, z1, z2, z3⟩ := r8.c4
        refine bodyPost_ret (v := .tuple #[.agg #[.int .i64 (f : Int), .int .i64 (-1), .int .i64 d, .bool false], .bool true]) (by simp [results, Try.results96, go_sem, z0, z1, z2, z3]) rfl ?_
        exact ⟨((f : Int), (-1), d, false), true, rfl, by rfl, hb8⟩
  · clear g1 g2
    by_cases g5 : 0 ≤ (f : Int) - d
    · obtain ⟨j, hj⟩ : ∃ j : Nat, v.p - 1 - ((f : Int) - d) = (j : Int) := ⟨(v.p - 1 - ((f : Int) - d)).toNat, by omega⟩
      have ej : (v.p - 1 - ((f : Int) - d)).toNat = j := by omega
      have hTs : T = opt (f, f - d, d, decide (at_ b.2 j = 1)) (decide (at_ b.2 j ≤ 1)) := by rw [← HTQ.out]; exact (by have := step_in (v := v) (b := b) (f := (f : Int)) (d := d) G.out g5; rw [ej] at this; exact this)
      have HTs := Lib.hid hTs
      have HEJ := Lib.hid ej
      clear hTs ej
      obtain ⟨bt, ot, rfl, hbt, hct⟩ := at_rd (HT.out.below hbW hB) (i := j) (by omega)
      have e5 : IntKind.i64.wrap (v.p - 1) = v.p - 1 := IntWalk.i64_in _ (by omega)
      have e6 : IntKind.i64.wrap (v.p - 1 - ((f : Int) - d)) = (j : Int) := by rw [hj]; exact IntWalk.i64_in _ (by omega)
      have e7 : IntKind.i64.wrap (j : Int) = (j : Int) := IntWalk.i64_in _ (by omega)
      have hjl2 : (j : Int) < v.p + 1 := by omega
      have hjl : (j : Int) < (b.2.length : Int) := by omega
      have CP := Lib.hid (fun w9 (h : Below w.heap.size w w9) => open_i v b HBK.out (some ⟨b1, o1, none⟩) (some ⟨bt, ot, none⟩) co ct B ((f : Int) - d) (by omega) w9 (Nat.le_trans hB h.size) (HT.out.below h hB))
      rw [HEJ.out] at CP
      go_wp2_with fail
      refine (CP.out _ hbW).mono ?_
      rintro e w2 ⟨rfl, hb2⟩
      have rv := rv.below hb2 rv.lt
      have rb := rb.below hb2 rb.lt
      have rr := rr.below hb2 rr.lt
      have hbW := hbW.trans (hb2.mono hbW.size)
      clear q0 q1 q2 q3 r0 r1 y0 y1 y2 y3 hl1 hl2 hl3 fr hb2 hct hc1 hcp
      obtain ⟨q0, q1, q2, q3⟩ := rv.c4
      obtain ⟨r0, r1⟩ := rb.c2
      obtain ⟨y0, y1, y2, y3⟩ := rr.c4
      have hl1 := rv.lt
      have hl2 := rb.lt
      have hl3 := rr.lt
      have fr := rr.frozen
      obtain ⟨bt', ot', hA, -, hct⟩ := at_rd (HT.out.below hbW hB) (i := j) (by omega)
      simp only [Option.some.injEq, Addr.mk.injEq, and_true] at hA
      obtain ⟨rfl, rfl⟩ := hA
      by_cases g6 : at_ b.2 j ≤ 1
      · have g7 : decide (at_ b.2 j ≤ 1) = true := decide_eq_true g6
        have hR : opt (f, f - d, d, decide (at_ b.2 j = 1)) true = T := by rw [HTs.out, g7]
        obtain ⟨z, hz⟩ : ∃ z, decide (at_ b.2 j = 1) = z := ⟨_, rfl⟩
        have hz2 : (at_ b.2 j == 1) = z := by rw [← hz]; rfl
        rw [hz] at hR
        have HR := Lib.hid hR
        clear g6 hz hR
        go_wp2_with fail
        refine bp_gen (fun W' => Below w.heap.size w W' ∧ RowB W' (w.heap.size + 2) 71 [.int .i64 (f : Int), .int .i64 ((f : Int) - d), .int .i64 d, .bool z]) ⟨below_four hbW (by omega) _ _ _ _, four rr _ _ _ _⟩ ?_
        rintro w8 ⟨hb8, r8⟩
        obtain ⟨z0, z1, z2, z3⟩ := r8.c4
        refine bodyPost_ret (v := .tuple #[.agg #[.int .i64 (f : Int), .int .i64 ((f : Int) - d), .int .i64 d, .bool z], .bool true]) (by simp [results, Try.results96, go_sem, z0, z1, z2, z3]) rfl ?_
        exact ⟨((f : Int), ((f : Int) - d), d, z), true, rfl, by exact HR.out, hb8⟩
      · have g7 : decide (at_ b.2 j ≤ 1) = false := decide_eq_false g6
        obtain rfl : T = none := by rw [HTs.out, g7]; rfl
        clear g6
        go_wp2_with fail
        refine bp_gen (fun W' => Below w.heap.size w W' ∧ RowB W' (w.heap.size + 2) 71 [.int .i64 0, .int .i64 0, .int .i64 0, .bool false]) ⟨below_four hbW (by omega) _ _ _ _, four rr _ _ _ _⟩ ?_
        rintro w8 ⟨hb8, r8⟩
        obtain ⟨z0, z1, z2, z3⟩ := r8.c4
        refine bodyPost_ret (v := .tuple #[.agg #[.int .i64 0, .int .i64 0, .int .i64 0, .bool false], .bool false]) (by simp [results, Try.results96, go_sem, z0, z1, z2, z3]) rfl ?_
        exact ⟨(0, 0, 0, false), false, rfl, by rfl, hb8⟩
    · have hto : (f : Int) - d < 0 := by omega
      have CL := Lib.hid (fun w9 (h : Below w.heap.size w w9) => last_i (some ⟨b1, o1, none⟩) co B b.1 w9 (HO.out.below h hB) (by omega))
      obtain ⟨l, hl⟩ : ∃ l, last b.1 = l := ⟨_, rfl⟩
      have hlb := lastU_bd b.1 b.1.length
      rw [show lastU b.1 b.1.length = last b.1 from rfl, hl] at hlb
      obtain ⟨hlb0, hlb1⟩ := hlb
      have HL := Lib.hid hl
      rw [hl] at CL
      clear hl
      have GN := Lib.hid (show (v.h ≤ l ∨ ((f : Int) - d < -1 ∧ (f : Int) < l)) → T = none from fun h => by rw [← HTQ.out]; exact step_none3 g5 (by rw [HL.out]; exact h))
      have GS := Lib.hid (show ¬ (v.h ≤ l ∨ ((f : Int) - d < -1 ∧ (f : Int) < l)) → T = some ((f : Int), -1, d, false) from fun h => by rw [← HTQ.out]; exact step_off G.out g5 (by rw [HL.out]; exact h))
      go_wp2_with fail
      refine (CL.out _ hbW).mono ?_
      rintro e w2 ⟨rfl, rfl⟩
      by_cases k1 : v.h ≤ l
      · obtain rfl : T = none := GN.out (.inl k1)
        go_wp2_with fail
        refine bp_gen (fun W' => Below w.heap.size w W' ∧ RowB W' (w.heap.size + 2) 71 [.int .i64 0, .int .i64 0, .int .i64 0, .bool false]) ⟨below_four hbW (by omega) _ _ _ _, four rr _ _ _ _⟩ ?_
        rintro w8 ⟨hb8, r8⟩
        obtain ⟨z0, z1, z2, z3⟩ := r8.c4
        refine bodyPost_ret (v := .tuple #[.agg #[.int .i64 0, .int .i64 0, .int .i64 0, .bool false], .bool false]) (by simp [results, Try.results96, go_sem, z0, z1, z2, z3]) rfl ?_
        exact ⟨(0, 0, 0, false), false, rfl, by rfl, hb8⟩
      by_cases k2 : (f : Int) - d < -1
      · have k3 : ((f : Int) != d - 1) = true := by simp; omega
        by_cases k4 : (f : Int) < l
        · obtain rfl : T = none := GN.out (.inr ⟨k2, k4⟩)
          go_wp2_with fail
          refine bp_gen (fun W' => Below w.heap.size w W' ∧ RowB W' (w.heap.size + 2) 71 [.int .i64 0, .int .i64 0, .int .i64 0, .bool false]) ⟨below_four hbW (by omega) _ _ _ _, four rr _ _ _ _⟩ ?_
          rintro w8 ⟨hb8, r8⟩
          obtain ⟨z0, z1, z2, z3⟩ := r8.c4
          refine bodyPost_ret (v := .tuple #[.agg #[.int .i64 0, .int .i64 0, .int .i64 0, .bool false], .bool false]) (by simp [results, Try.results96, go_sem, z0, z1, z2, z3]) rfl ?_
          exact ⟨(0, 0, 0, false), false, rfl, by rfl, hb8⟩
        · obtain rfl : T = some ((f : Int), -1, d, false) := GS.out (by rintro (h | h); exact k1 h; exact k4 h.2)
          go_wp2_with fail
          refine bp_gen (fun W' => Below w.heap.size w W' ∧ RowB W' (w.heap.size + 2) 71 [.int .i64 (f : Int), .int .i64 (-1), .int .i64 d, .bool false]) ⟨below_four hbW (by omega) _ _ _ _, four rr _ _ _ _⟩ ?_
          rintro w8 ⟨hb8, r8⟩
          obtain ⟨z0, z1, z2, z3⟩ := r8.c4
          refine bodyPost_ret (v := .tuple #[.agg #[.int .i64 (f : Int), .int .i64 (-1), .int .i64 d, .bool false], .bool true]) (by simp [results, Try.results96, go_sem, z0, z1, z2, z3]) rfl ?_
          exact ⟨((f : Int), (-1), d, false), true, rfl, by rfl, hb8⟩
      · have k3 : ((f : Int) != d - 1) = false := by simp; omega
        obtain rfl : T = some ((f : Int), -1, d, false) := GS.out (by rintro (h | h); exact k1 h; exact k2 h.1)
        go_wp2_with fail
        refine bp_gen (fun W' => Below w.heap.size w W' ∧ RowB W' (w.heap.size + 2) 71 [.int .i64 (f : Int), .int .i64 (-1), .int .i64 d, .bool false]) ⟨below_four hbW (by omega) _ _ _ _, four rr _ _ _ _⟩ ?_
        rintro w8 ⟨hb8, r8⟩
        obtain ⟨z0, z1, z2, z3⟩ := r8.c4
        refine bodyPost_ret (v := .tuple #[.agg #[.int .i64 (f : Int), .int .i64 (-1), .int .i64 d, .bool false], .bool true]) (by simp [results, Try.results96, go_sem, z0, z1, z2, z3]) rfl ?_
        exact ⟨((f : Int), (-1), d, false), true, rfl, by rfl, hb8⟩
end Go.Proofs.Ytfgkkmhafdbicaa.Bd4
