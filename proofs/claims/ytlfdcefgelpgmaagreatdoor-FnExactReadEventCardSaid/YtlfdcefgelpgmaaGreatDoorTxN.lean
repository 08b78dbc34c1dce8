/-
  impl.ReadRoll: what it returns. Conditions: each theorem's own.
-/
import Derived.Test.YtlfdcefgelpgmaaGreatDoorTxW
import Derived.Test.YtlfdcefgelpgmaaGreatDoorRegG
import Derived.Deep.QuietTactic
import Derived.Deep.RegionHeld3
set_option linter.unusedVariables false
set_option linter.unusedSimpArgs false
namespace Go.Proofs.YtlfdcefgelpgmaaGreatDoor.TxI
open Go.ChangeShapes Go.WideShapes Go.ChangeAt Go.RowKit Base Ints Own JoinN PlP TxP Num Bd1 RegF RegG

/-- Is a pair a roll? -/
theorem isroll_w (v : Vr) (hv : okV v = true) (a b : Int) (x : Bool) (hx : rollB v a b = x) (w : World) : Calls Tryz.prog 44 #[.agg #[.int .i64 v.p, .int .i64 v.c, .int .i64 v.h, .int .i64 v.s], .agg #[.int .i64 a, .int .i64 b]] w fun e w' => e = .returned (.bool x) ∧ Below w.heap.size w w' := by
  unfold rollB at hx
  obtain ⟨c2, h2⟩ : ∃ c, decide (1 ≤ a ∧ a ≤ v.s) = c := ⟨_, rfl⟩
  obtain ⟨c3, h3⟩ : ∃ c, decide (1 ≤ b ∧ b ≤ a) = c := ⟨_, rfl⟩
  rw [h2, h3] at hx
  have C1 := Lib.hid (fun w => var_i v true hv w)
  have C2 := Lib.hid (fun w => in_i a 1 v.s c2 h2 w)
  have C3 := Lib.hid (fun w => in_i b 1 a c3 h3 w)
  have HX := Lib.hid hx
  clear hx h2 h3 hv
  go_enter Tryz.func44, Tryz.ntmps44
  go_upto_region 1 with (fail)
  refine wp_gen (fun W' => Below w.heap.size w W' ∧ RowB W' w.heap.size 25 [.int .i64 v.p, .int .i64 v.c, .int .i64 v.h, .int .i64 v.s] ∧ RowB W' (w.heap.size + 1) 49 [.int .i64 a, .int .i64 b]) ⟨by go_grown, (RowB.new _ _ _).alloc _, RowB.new' _ _ _ (by simp)⟩ ?_
  rintro w1 ⟨hb1, rv, rr⟩
  obtain ⟨q0, q1, q2, q3⟩ := rv.c4
  obtain ⟨r0, r1⟩ := rr.c2
  have hlv := rv.lt
  have hlr := rr.lt
  go_wp2_with fail
  refine (C1.out _).mono ?_
  rintro e w2 ⟨rfl, hb⟩
  have hb1 := hb1.trans (hb.mono hb1.size)
  have rv := rv.below hb hlv
  have rr := rr.below hb hlr
  clear q0 q1 q2 q3 r0 r1 hlv hlr hb
  obtain ⟨q0, q1, q2, q3⟩ := rv.c4
  obtain ⟨r0, r1⟩ := rr.c2
  have hlv := rv.lt
  have hlr := rr.lt
  go_wp2_with fail
  refine (C2.out _).mono ?_
  rintro e w3 ⟨rfl, rfl⟩
  cases c2
  case false =>
    obtain rfl : x = false := by rw [← HX.out]; rfl
    go_wp2_with fail
    go_ret
    exact ⟨rfl, hb1⟩
  go_wp2_with fail
  refine (C3.out _).mono ?_
  rintro e w3 ⟨rfl, rfl⟩
  obtain rfl : c3 = x := by rw [← HX.out]; rfl
  go_wp2_with fail
  go_ret
  exact ⟨rfl, hb1⟩

/-- A box is made (operation 9) and written (10). -/
structure RrF (w1 : World) (x y : Int) (p9 p10 : Prop) (v9 : Value) (w' : World) : Prop where
  bel : Below w1.heap.size w1 w'
  f9 : p9 → ∃ g, v9 = .pointer (some ⟨g, 0, none⟩) ∧ w1.heap.size ≤ g ∧ ∃ p q, RowB w' g 49 [p, q]
  f10 : p10 → ∃ g, v9 = .pointer (some ⟨g, 0, none⟩) ∧ w1.heap.size ≤ g ∧ RowB w' g 49 [.int .i64 x, .int .i64 y]
theorem RrF.skip {w1 w' : World} {x y : Int} {L : Nat → Prop} {vals : Nat → Value} (F : RrF w1 x y (L 9) (L 10) (vals 9) w') (k : Nat) (z : Value) (h9 : 9 ≠ k) (h10 : 10 ≠ k) : RrF w1 x y (9 = k ∨ L 9) (10 = k ∨ L 10) (upd vals k z 9) w' := by
  rw [or_ne h9, or_ne h10, upd_ne h9]; exact F
theorem RrF.s9 {w1 w' : World} {x y : Int} {p9 p10 : Prop} {v9 : Value} (F : RrF w1 x y p9 p10 v9 w') (n10 : ¬ p10) {p q : Value} : RrF w1 x y True p10 (.pointer (some ⟨w'.heap.size, 0, none⟩)) (w'.alloc (.cells #[p, q] 49)) :=
  ⟨F.bel.alloc F.bel.size _, fun _ => ⟨_, rfl, F.bel.size, p, q, RowB.new _ _ _⟩, fun h => absurd h n10⟩
theorem RrF.s10 {w1 w' : World} {x y : Int} {p9 p10 : Prop} {v9 p q : Value} {g : Nat} (F : RrF w1 x y p9 p10 v9 w') (hv : v9 = .pointer (some ⟨g, 0, none⟩)) (hg : w1.heap.size ≤ g) (h : RowB w' g 49 [p, q]) :
    RrF w1 x y p9 True v9 ((w'.setCell ⟨g, 0, none⟩ (.int .i64 x)).setCell ⟨g, 1, none⟩ (.int .i64 y)) := by
  have h2 : RowB ((w'.setCell ⟨g, 0, none⟩ (.int .i64 x)).setCell ⟨g, 1, none⟩ (.int .i64 y)) g 49 [.int .i64 x, .int .i64 y] := (h.set 0 _).set 1 _
  exact ⟨(F.bel.setCell (p := ⟨g, 0, none⟩) hg _).setCell (p := ⟨g, 1, none⟩) hg _, fun _ => ⟨g, hv, hg, _, _, h2⟩, fun _ => ⟨g, hv, hg, h2⟩⟩

def optR : Option (Int × Int) → (Int × Int) × Bool
  | some s => (s, true)
  | none => ((0, 0), false)
set_option maxHeartbeats 1000000 in
set_option maxRecDepth 100000 in
theorem rroll_i (v : Vr) (hv : okV v = true) (t : By) (hl : t.length ≤ 4194304) (w : World) :
    Calls Tryz.prog 74 #[.agg #[.int .i64 v.p, .int .i64 v.c, .int .i64 v.h, .int .i64 v.s], .string (bs t)] w fun e w' => e = .returned (.tuple #[.agg #[.int .i64 (optR (rdR v t)).1.1, .int .i64 (optR (rdR v t)).1.2], .bool (optR (rdR v t)).2]) ∧ Below w.heap.size w w' := by
  obtain ⟨R, hR⟩ : ∃ r, optR (rdR v t) = r := ⟨_, rfl⟩
  rw [hR]
  have HR := Lib.hid hR
  have hz := bs_size t
  clear hR
  go_enter Tryz.func74, Tryz.ntmps74
  go_upto_region 1 with (fail)
  refine wp_gen (fun W' => Below w.heap.size w W' ∧ RowB W' w.heap.size 25 [.int .i64 v.p, .int .i64 v.c, .int .i64 v.h, .int .i64 v.s] ∧ RowB W' (w.heap.size + 1) 49 [.int .i64 0, .int .i64 0]) ⟨by go_grown, (RowB.new _ _ _).alloc _, RowB.new' _ _ _ (by simp)⟩ ?_
  rintro w1 ⟨hb1, rv, rr⟩
  have hlr := rr.lt
  have frr := rr.frozen
  by_cases h2 : t.length = 2
  case neg =>
    have hRn : R = ((0, 0), false) := by rw [← HR.out]; unfold rdR; rw [if_neg (fun h => h2 h.1)]; rfl
    subst hRn
    have e1 : (((bs t).size : Int) == 2) = false := by rw [hz]; simp; omega
    have e2 : (((bs t).size : Int) != 2) = true := by rw [hz]; simp; omega
    obtain ⟨r0, r1⟩ := rr.c2
    clear hz h2
    go_wp2_with fail
    refine bp_gen (fun W' => Below w.heap.size w W' ∧ RowB W' (w.heap.size + 1) 49 [.int .i64 0, .int .i64 0]) ⟨(hb1.setCell (p := ⟨w.heap.size + 1, 0, none⟩) (by show w.heap.size ≤ w.heap.size + 1; omega) _).setCell (p := ⟨w.heap.size + 1, 1, none⟩) (by show w.heap.size ≤ w.heap.size + 1; omega) _, (rr.set 0 _).set 1 _⟩ ?_
    rintro w8 ⟨hb8, r8⟩
    obtain ⟨z0, z1⟩ := r8.c2
    refine bodyPost_ret (v := .tuple #[.agg #[.int .i64 0, .int .i64 0], .bool false]) (by simp [results, Tryz.results74, go_sem, z0, z1]) rfl ?_
    exact ⟨rfl, hb8⟩
  obtain ⟨a, b, rfl⟩ := list2 h2
  have e1 : (((bs [a, b]).size : Int) != 2) = false := by rw [hz]; rfl
  have g0 : (bs [a, b]).size = 2 := by rw [hz]; rfl
  clear hz h2 hl
  go_upto_region 3 with (fail)
  refine region_rel [some 11, some 12, some 13, some 14, some 15, some 16, some 17, some 18, some 19, some 6, none] 11 (Pl [some (.string (bs [a, b])), some (.int .u8 (a.toNat : Int)), some (.int .i64 (a.toNat : Int)), some (.int .i64 ((a.toNat : Int) - 48)), some (.string (bs [a, b])), some (.int .u8 (b.toNat : Int)), some (.int .i64 (b.toNat : Int)), some (.int .i64 ((b.toNat : Int) - 48)), some (.agg #[.int .i64 ((a.toNat : Int) - 48), .int .i64 ((b.toNat : Int) - 48)]), none, none]) (fun L vals w' => RrF w1 ((a.toNat : Int) - 48) ((b.toNat : Int) - 48) (L 9) (L 10) (vals 9) w') (by kernel_rfl) (by kernel_rfl) (by kernel_rfl) (by kernel_rfl) (by kernel_rfl) (by kernel_rfl) (by kernel_rfl) ?g0_1 ?gst_1 ?gfin_1
  case g0_1 => exact ⟨(Below.refl _ _).drew, fun h => absurd h (by decide), fun h => absurd h (by decide)⟩
  case gst_1 =>
    refine RelFrom.run rfl (fun L vals A w9 hno hdl hcl hu hp h0 F K hK => ?_) ?_
    · have e1 : A.tmps[1]?.getD undef = .string (bs [a, b]) := h0 1 (fun j _ hj => absurd (List.mem_of_getElem? hj) (by decide))
      clear hu h0 hp
      have ha := a.toNat_lt
      have hb := b.toNat_lt
      have wa : IntKind.i64.wrap (a.toNat : Int) = (a.toNat : Int) := IntWalk.i64_in _ (by omega)
      have wb : IntKind.i64.wrap (b.toNat : Int) = (b.toNat : Int) := IntWalk.i64_in _ (by omega)
      have wc : IntKind.i64.wrap ((a.toNat : Int) - 48) = (a.toNat : Int) - 48 := IntWalk.i64_in _ (by omega)
      have wd : IntKind.i64.wrap ((b.toNat : Int) - 48) = (b.toNat : Int) - 48 := IntWalk.i64_in _ (by omega)
      go_simp
      exact hK.out _ w9 (Pl.fix rfl) (F.skip 0 _ (by decide) (by decide))
    refine RelFrom.run rfl (fun L vals A w9 hno hdl hcl hu hp h0 F K hK => ?_) ?_
    · have e11 : A.tmps[11]?.getD undef = .string (bs [a, b]) := (hu 0 11 (by kernel_rfl) rfl).trans (hp 0 (by kernel_rfl) _ rfl)
      clear hu h0 hp
      have ha := a.toNat_lt
      have hb := b.toNat_lt
      have wa : IntKind.i64.wrap (a.toNat : Int) = (a.toNat : Int) := IntWalk.i64_in _ (by omega)
      have wb : IntKind.i64.wrap (b.toNat : Int) = (b.toNat : Int) := IntWalk.i64_in _ (by omega)
      have wc : IntKind.i64.wrap ((a.toNat : Int) - 48) = (a.toNat : Int) - 48 := IntWalk.i64_in _ (by omega)
      have wd : IntKind.i64.wrap ((b.toNat : Int) - 48) = (b.toNat : Int) - 48 := IntWalk.i64_in _ (by omega)
      go_simp
      exact hK.out _ w9 (Pl.fix rfl) (F.skip 1 _ (by decide) (by decide))
    refine RelFrom.run rfl (fun L vals A w9 hno hdl hcl hu hp h0 F K hK => ?_) ?_
    · have e12 : A.tmps[12]?.getD undef = .int .u8 (a.toNat : Int) := (hu 1 12 (by kernel_rfl) rfl).trans (hp 1 (by kernel_rfl) _ rfl)
      clear hu h0 hp
      have ha := a.toNat_lt
      have hb := b.toNat_lt
      have wa : IntKind.i64.wrap (a.toNat : Int) = (a.toNat : Int) := IntWalk.i64_in _ (by omega)
      have wb : IntKind.i64.wrap (b.toNat : Int) = (b.toNat : Int) := IntWalk.i64_in _ (by omega)
      have wc : IntKind.i64.wrap ((a.toNat : Int) - 48) = (a.toNat : Int) - 48 := IntWalk.i64_in _ (by omega)
      have wd : IntKind.i64.wrap ((b.toNat : Int) - 48) = (b.toNat : Int) - 48 := IntWalk.i64_in _ (by omega)
      go_simp
      exact hK.out _ w9 (Pl.fix rfl) (F.skip 2 _ (by decide) (by decide))
    refine RelFrom.run rfl (fun L vals A w9 hno hdl hcl hu hp h0 F K hK => ?_) ?_
    · have e13 : A.tmps[13]?.getD undef = .int .i64 (a.toNat : Int) := (hu 2 13 (by kernel_rfl) rfl).trans (hp 2 (by kernel_rfl) _ rfl)
      clear hu h0 hp
      have ha := a.toNat_lt
      have hb := b.toNat_lt
      have wa : IntKind.i64.wrap (a.toNat : Int) = (a.toNat : Int) := IntWalk.i64_in _ (by omega)
      have wb : IntKind.i64.wrap (b.toNat : Int) = (b.toNat : Int) := IntWalk.i64_in _ (by omega)
      have wc : IntKind.i64.wrap ((a.toNat : Int) - 48) = (a.toNat : Int) - 48 := IntWalk.i64_in _ (by omega)
      have wd : IntKind.i64.wrap ((b.toNat : Int) - 48) = (b.toNat : Int) - 48 := IntWalk.i64_in _ (by omega)
      go_simp
      exact hK.out _ w9 (Pl.fix rfl) (F.skip 3 _ (by decide) (by decide))
    refine RelFrom.run rfl (fun L vals A w9 hno hdl hcl hu hp h0 F K hK => ?_) ?_
    · have e1 : A.tmps[1]?.getD undef = .string (bs [a, b]) := h0 1 (fun j _ hj => absurd (List.mem_of_getElem? hj) (by decide))
      clear hu h0 hp
      have ha := a.toNat_lt
      have hb := b.toNat_lt
      have wa : IntKind.i64.wrap (a.toNat : Int) = (a.toNat : Int) := IntWalk.i64_in _ (by omega)
      have wb : IntKind.i64.wrap (b.toNat : Int) = (b.toNat : Int) := IntWalk.i64_in _ (by omega)
      have wc : IntKind.i64.wrap ((a.toNat : Int) - 48) = (a.toNat : Int) - 48 := IntWalk.i64_in _ (by omega)
      have wd : IntKind.i64.wrap ((b.toNat : Int) - 48) = (b.toNat : Int) - 48 := IntWalk.i64_in _ (by omega)
      go_simp
      exact hK.out _ w9 (Pl.fix rfl) (F.skip 4 _ (by decide) (by decide))
    refine RelFrom.run rfl (fun L vals A w9 hno hdl hcl hu hp h0 F K hK => ?_) ?_
    · have e15 : A.tmps[15]?.getD undef = .string (bs [a, b]) := (hu 4 15 (by kernel_rfl) rfl).trans (hp 4 (by kernel_rfl) _ rfl)
      clear hu h0 hp
      have ha := a.toNat_lt
      have hb := b.toNat_lt
      have wa : IntKind.i64.wrap (a.toNat : Int) = (a.toNat : Int) := IntWalk.i64_in _ (by omega)
      have wb : IntKind.i64.wrap (b.toNat : Int) = (b.toNat : Int) := IntWalk.i64_in _ (by omega)
      have wc : IntKind.i64.wrap ((a.toNat : Int) - 48) = (a.toNat : Int) - 48 := IntWalk.i64_in _ (by omega)
      have wd : IntKind.i64.wrap ((b.toNat : Int) - 48) = (b.toNat : Int) - 48 := IntWalk.i64_in _ (by omega)
      go_simp
      exact hK.out _ w9 (Pl.fix rfl) (F.skip 5 _ (by decide) (by decide))
    refine RelFrom.run rfl (fun L vals A w9 hno hdl hcl hu hp h0 F K hK => ?_) ?_
    · have e16 : A.tmps[16]?.getD undef = .int .u8 (b.toNat : Int) := (hu 5 16 (by kernel_rfl) rfl).trans (hp 5 (by kernel_rfl) _ rfl)
      clear hu h0 hp
      have ha := a.toNat_lt
      have hb := b.toNat_lt
      have wa : IntKind.i64.wrap (a.toNat : Int) = (a.toNat : Int) := IntWalk.i64_in _ (by omega)
      have wb : IntKind.i64.wrap (b.toNat : Int) = (b.toNat : Int) := IntWalk.i64_in _ (by omega)
      have wc : IntKind.i64.wrap ((a.toNat : Int) - 48) = (a.toNat : Int) - 48 := IntWalk.i64_in _ (by omega)
      have wd : IntKind.i64.wrap ((b.toNat : Int) - 48) = (b.toNat : Int) - 48 := IntWalk.i64_in _ (by omega)
      go_simp
      exact hK.out _ w9 (Pl.fix rfl) (F.skip 6 _ (by decide) (by decide))
    refine RelFrom.run rfl (fun L vals A w9 hno hdl hcl hu hp h0 F K hK => ?_) ?_
    · have e17 : A.tmps[17]?.getD undef = .int .i64 (b.toNat : Int) := (hu 6 17 (by kernel_rfl) rfl).trans (hp 6 (by kernel_rfl) _ rfl)
      clear hu h0 hp
      have ha := a.toNat_lt
      have hb := b.toNat_lt
      have wa : IntKind.i64.wrap (a.toNat : Int) = (a.toNat : Int) := IntWalk.i64_in _ (by omega)
      have wb : IntKind.i64.wrap (b.toNat : Int) = (b.toNat : Int) := IntWalk.i64_in _ (by omega)
      have wc : IntKind.i64.wrap ((a.toNat : Int) - 48) = (a.toNat : Int) - 48 := IntWalk.i64_in _ (by omega)
      have wd : IntKind.i64.wrap ((b.toNat : Int) - 48) = (b.toNat : Int) - 48 := IntWalk.i64_in _ (by omega)
      go_simp
      exact hK.out _ w9 (Pl.fix rfl) (F.skip 7 _ (by decide) (by decide))
    refine RelFrom.run rfl (fun L vals A w9 hno hdl hcl hu hp h0 F K hK => ?_) ?_
    · have e14 : A.tmps[14]?.getD undef = .int .i64 ((a.toNat : Int) - 48) := (hu 3 14 (by kernel_rfl) rfl).trans (hp 3 (by kernel_rfl) _ rfl)
      have e18 : A.tmps[18]?.getD undef = .int .i64 ((b.toNat : Int) - 48) := (hu 7 18 (by kernel_rfl) rfl).trans (hp 7 (by kernel_rfl) _ rfl)
      clear hu h0 hp
      have ha := a.toNat_lt
      have hb := b.toNat_lt
      have wa : IntKind.i64.wrap (a.toNat : Int) = (a.toNat : Int) := IntWalk.i64_in _ (by omega)
      have wb : IntKind.i64.wrap (b.toNat : Int) = (b.toNat : Int) := IntWalk.i64_in _ (by omega)
      have wc : IntKind.i64.wrap ((a.toNat : Int) - 48) = (a.toNat : Int) - 48 := IntWalk.i64_in _ (by omega)
      have wd : IntKind.i64.wrap ((b.toNat : Int) - 48) = (b.toNat : Int) - 48 := IntWalk.i64_in _ (by omega)
      go_simp
      exact hK.out _ w9 (Pl.fix rfl) (F.skip 8 _ (by decide) (by decide))
    refine RelFrom.run rfl (fun L vals A w9 hno hdl hcl hu hp h0 F K hK => ?_) ?_
    · clear hu h0 hp
      go_simp
      exact hK.out _ _ (Pl.any rfl) (by simpa [upd] using F.s9 (fun h => hno (hcl 10 9 (by kernel_rfl) h)))
    refine RelFrom.run rfl (fun L vals A w9 hno hdl hcl hu hp h0 F K hK => ?_) ?_
    · have e6 : A.tmps[6]?.getD undef = vals 9 := hu 9 6 (by kernel_rfl) rfl
      have e19 : A.tmps[19]?.getD undef = .agg #[.int .i64 ((a.toNat : Int) - 48), .int .i64 ((b.toNat : Int) - 48)] := (hu 8 19 (by kernel_rfl) rfl).trans (hp 8 (by kernel_rfl) _ rfl)
      clear hu h0 hp
      refine (F.f9 (hdl 9 (by kernel_rfl))).elim fun g q => ?_
      refine q.2.2.elim fun p0 q2 => ?_
      refine q2.elim fun p1 q3 => ?_
      have em := e6.trans q.1
      clear e6
      have fr := q3.frozen
      have hl := q3.lt
      have zz := q3.c2
      have z0 := zz.1
      have z1 := zz.2
      go_simp
      exact hK.out undef _ (Pl.any rfl) (by simpa [upd, q.1] using F.s10 q.1 q.2.1 q3)
    exact RelFrom.nil (by decide)
  case gfin_1 =>
    intro vals w9 hp F
    simp only [Fr, Act.put, List.setIfInBounds_toArray, List.set_cons_zero, List.set_cons_succ, Nat.reduceAdd]
    have hb9 := F.bel
    obtain ⟨g, hg1, hg2, hg3⟩ := F.f10 trivial
    rw [hg1]
    have rv := rv.below hb9 rv.lt
    have rr := rr.below hb9 rr.lt
    have hb1 := hb1.trans (hb9.mono hb1.size)
    have hgs : w.heap.size + 2 ≤ g := by omega
    clear F hp hg1 hg2 hb9 hlr frr
    obtain ⟨x, hx⟩ : ∃ x, (a.toNat : Int) - 48 = x := ⟨_, rfl⟩
    obtain ⟨y, hy⟩ : ∃ y, (b.toNat : Int) - 48 = y := ⟨_, rfl⟩
    rw [hx, hy] at hg3
    obtain ⟨c, hc⟩ : ∃ c, rollB v x y = c := ⟨_, rfl⟩
    have hR2 : R = if c = true then ((x, y), true) else ((0, 0), false) := by
      rw [← HR.out]
      unfold rdR
      simp only [List.getD_cons_zero, List.getD_cons_succ, hx, hy, hc, List.length_cons, List.length_nil]
      cases c <;> rfl
    have CR := Lib.hid (fun w9 => isroll_w v hv x y c hc w9)
    have HR2 := Lib.hid hR2
    clear hR2 hc hx hy HR
    obtain ⟨q0, q1, q2, q3⟩ := rv.c4
    obtain ⟨x0, x1⟩ := hg3.c2
    have hlv := rv.lt
    have hlg := hg3.lt
    go_wp2_with fail
    refine (CR.out _).mono ?_
    rintro e w5 ⟨rfl, hb⟩
    have hb1 := hb1.trans (hb.mono hb1.size)
    have rr := rr.below hb rr.lt
    have hg3 := hg3.below hb hlg
    clear q0 q1 q2 q3 x0 x1 hlv hlg hb CR
    obtain ⟨x0, x1⟩ := hg3.c2
    have hlg := hg3.lt
    have hlr := rr.lt
    have frr := rr.frozen
    obtain ⟨r0, r1⟩ := rr.c2
    cases c
    case false =>
      have hRn : R = ((0, 0), false) := HR2.out
      subst hRn
      clear HR2
      go_wp2_with fail
      refine bp_gen (fun W' => Below w.heap.size w W' ∧ RowB W' (w.heap.size + 1) 49 [.int .i64 0, .int .i64 0]) ⟨(hb1.setCell (p := ⟨w.heap.size + 1, 0, none⟩) (by show w.heap.size ≤ w.heap.size + 1; omega) _).setCell (p := ⟨w.heap.size + 1, 1, none⟩) (by show w.heap.size ≤ w.heap.size + 1; omega) _, (rr.set 0 _).set 1 _⟩ ?_
      rintro w8 ⟨hb8, r8⟩
      obtain ⟨z0, z1⟩ := r8.c2
      refine bodyPost_ret (v := .tuple #[.agg #[.int .i64 0, .int .i64 0], .bool false]) (by simp [results, Tryz.results74, go_sem, z0, z1]) rfl ?_
      exact ⟨rfl, hb8⟩
    have hRn : R = ((x, y), true) := HR2.out
    subst hRn
    clear HR2
    go_wp2_with fail
    refine bp_gen (fun W' => Below w.heap.size w W' ∧ RowB W' (w.heap.size + 1) 49 [.int .i64 x, .int .i64 y]) ⟨(hb1.setCell (p := ⟨w.heap.size + 1, 0, none⟩) (by show w.heap.size ≤ w.heap.size + 1; omega) _).setCell (p := ⟨w.heap.size + 1, 1, none⟩) (by show w.heap.size ≤ w.heap.size + 1; omega) _, (rr.set 0 _).set 1 _⟩ ?_
    rintro w8 ⟨hb8, r8⟩
    obtain ⟨z0, z1⟩ := r8.c2
    refine bodyPost_ret (v := .tuple #[.agg #[.int .i64 x, .int .i64 y], .bool true]) (by simp [results, Tryz.results74, go_sem, z0, z1]) rfl ?_
    exact ⟨rfl, hb8⟩
end Go.Proofs.YtlfdcefgelpgmaaGreatDoor.TxI
