/-
  The walk of the law FnExactHintFor. Conditions: each theorem's own.
-/
import Derived.Test.YtfgkkmhafdbicaaLuckLaw
import Derived.Test.YtfgkkmhafdbicaaBd36
import Derived.Test.YtfgkkmhafdbicaaBd37
import Derived.Test.YtfgkkmhafdbicaaBd39
set_option linter.unusedVariables false
set_option linter.unusedSimpArgs false
namespace Go.Proofs.Ytfgkkmhafdbicaa.HintLaw
open Go.ChangeShapes Go.WideShapes Go.ChangeAt Go.RowKit Base Ints Own Clone RelG PlP Bd1 Bd5 Bd6 RegInv RegF RegG Bd25 Bd28 Bd29 Bd36 Bd37 Bd39 Bd40 LuckLaw

theorem _root_.Go.Proofs.Ytfgkkmhafdbicaa.LuckLaw.L3.two {w wr w' : World} {v : Vr} {bs : List Value} {x y : Int} {r1 r2 : Option Nat} (h : L3 w wr v bs x y) (t : Two wr w' r1 r2) (h1 : ∀ g, r1 = some g → w.heap.size + 2 < g) (h2 : ∀ g, r2 = some g → w.heap.size + 2 < g) : L3 w w' v bs x y :=
  ⟨h.bel.trans (t.below h.bel.size (fun g hg => by have := h1 g hg; omega) (fun g hg => by have := h2 g hg; omega)),
   (t.block _ h.rv.lt (fun e => by have := h1 _ e.symm; omega) (fun e => by have := h2 _ e.symm; omega)).trans h.rv,
   (t.block _ h.rb.lt (fun e => by have := h1 _ e.symm; omega) (fun e => by have := h2 _ e.symm; omega)).trans h.rb,
   (t.block _ h.rr.lt (fun e => by have := h1 _ e.symm; omega) (fun e => by have := h2 _ e.symm; omega)).trans h.rr⟩
theorem hint_len (v : Vr) (b : Bd) (x y d : Int) : (hintR v b x y d).1.length ≤ 4 := by
  unfold hintR
  split
  · rename_i h
    obtain ⟨hb, hr, _⟩ := codeT_zero h
    have h1 := Bd15.okR_iff.1 hr
    have h2 := (allP_ok hb h1.1.1 h1.2.1).1
    unfold stepsP
    cases hq : (allP v b x y).1[fgP (plsP v d.toNat b x y)]? with
    | none => simp
    | some p => exact (h2 p (List.mem_of_getElem? hq)).2
  · simp

/-- A board is copied (operation 3), a hint is asked (7), moved (8), its steps taken out (9) and assigned (12). -/
structure HtF (w1 : World) (l m : List Int) (n1 n2 : Nat) (sp : List Stp) (kv fv : Value) (p3 p7 p8 p9 p12 : Prop) (v3 v7 v8 v9 v12 : Value) (w' : World) : Prop where
  bd : LwF w1 l m n1 n2 p3 v3 w'
  f7 : p7 → ∃ sv, v7 = .tuple #[sv, kv, fv] ∧ OwnV 71 4 enSt w' (fun g => w1.heap.size ≤ g) sv sp
  f8 : p8 → v8 = v7
  f9 : p9 → OwnV 71 4 enSt w' (fun g => w1.heap.size ≤ g) v9 sp
  f12 : p12 → v12 = v9
section
variable {w1 w' w'' : World} {l m : List Int} {n1 n2 : Nat} {sp : List Stp} {kv fv : Value} {p3 p7 p8 p9 p12 : Prop} {v3 v7 v8 v9 v12 v' : Value}
theorem HtF.skip {L : Nat → Prop} {vals : Nat → Value} (F : HtF w1 l m n1 n2 sp kv fv (L 3) (L 7) (L 8) (L 9) (L 12) (vals 3) (vals 7) (vals 8) (vals 9) (vals 12) w') (k : Nat) (x : Value) (h3 : 3 ≠ k) (h7 : 7 ≠ k) (h8 : 8 ≠ k) (h9 : 9 ≠ k) (h12 : 12 ≠ k) :
    HtF w1 l m n1 n2 sp kv fv (3 = k ∨ L 3) (7 = k ∨ L 7) (8 = k ∨ L 8) (9 = k ∨ L 9) (12 = k ∨ L 12) (upd vals k x 3) (upd vals k x 7) (upd vals k x 8) (upd vals k x 9) (upd vals k x 12) w' := by
  rw [or_ne h3, or_ne h7, or_ne h8, or_ne h9, or_ne h12, upd_ne h3, upd_ne h7, upd_ne h8, upd_ne h9, upd_ne h12]; exact F
theorem HtF.below (F : HtF w1 l m n1 n2 sp kv fv p3 p7 p8 p9 p12 v3 v7 v8 v9 v12 w') (hb : Below w'.heap.size w' w'') : HtF w1 l m n1 n2 sp kv fv p3 p7 p8 p9 p12 v3 v7 v8 v9 v12 w'' :=
  ⟨F.bd.below hb, fun h => by obtain ⟨sv, e, h1⟩ := F.f7 h; exact ⟨sv, e, h1.keep (.below hb)⟩, F.f8, fun h => (F.f9 h).keep (.below hb), F.f12⟩
theorem HtF.s3 (F : HtF w1 l m n1 n2 sp kv fv p3 p7 p8 p9 p12 v3 v7 v8 v9 v12 w') (hb : Below w'.heap.size w' w'') {A1 A2 : Option Addr} {c1 c2 : Nat} (h1 : OwnS w'' w'.heap.size w''.heap.size 2 1 enI (.slice A1 n1 c1) l) (h2 : OwnS w'' w'.heap.size w''.heap.size 2 1 enI (.slice A2 n2 c2) m) :
    HtF w1 l m n1 n2 sp kv fv True p7 p8 p9 p12 (.agg #[.slice A1 n1 c1, .slice A2 n2 c2]) v7 v8 v9 v12 w'' :=
  ⟨F.bd.made hb h1 h2, (F.below hb).f7, F.f8, (F.below hb).f9, F.f12⟩
theorem HtF.s7 (F : HtF w1 l m n1 n2 sp kv fv p3 p7 p8 p9 p12 v3 v7 v8 v9 v12 w') (n8 : ¬ p8) (hb : Below w'.heap.size w' w'') {sv : Value} (h : OwnS w'' w'.heap.size w''.heap.size 71 4 enSt sv sp) :
    HtF w1 l m n1 n2 sp kv fv p3 True p8 p9 p12 v3 (.tuple #[sv, kv, fv]) v8 v9 v12 w'' :=
  ⟨(F.below hb).bd, fun _ => ⟨sv, rfl, OwnV.of h (Nat.le_refl _) (fun b h1 _ => Nat.le_trans F.bd.bel.size h1)⟩, fun h => absurd h n8, (F.below hb).f9, F.f12⟩
theorem HtF.s8 (F : HtF w1 l m n1 n2 sp kv fv p3 p7 p8 p9 p12 v3 v7 v8 v9 v12 w') : HtF w1 l m n1 n2 sp kv fv p3 p7 True p9 p12 v3 v7 v7 v9 v12 w' := ⟨F.bd, F.f7, fun _ => rfl, F.f9, F.f12⟩
theorem HtF.s9 (F : HtF w1 l m n1 n2 sp kv fv p3 p7 p8 p9 p12 v3 v7 v8 v9 v12 w') (n12 : ¬ p12) (h : OwnV 71 4 enSt w' (fun g => w1.heap.size ≤ g) v' sp) : HtF w1 l m n1 n2 sp kv fv p3 p7 p8 True p12 v3 v7 v8 v' v12 w' := ⟨F.bd, F.f7, F.f8, fun _ => h, fun h => absurd h n12⟩
theorem HtF.s12 (F : HtF w1 l m n1 n2 sp kv fv p3 p7 p8 p9 p12 v3 v7 v8 v9 v12 w') : HtF w1 l m n1 n2 sp kv fv p3 p7 p8 p9 True v3 v7 v8 v9 v9 w' := ⟨F.bd, F.f7, F.f8, F.f9, fun _ => rfl⟩
end

/-- A hint is asked (6), moved (7), its steps taken out (8) and assigned (11). -/
structure HuF (w1 : World) (sp : List Stp) (kv fv : Value) (p6 p7 p8 p11 : Prop) (v6 v7 v8 v11 : Value) (w' : World) : Prop where
  bel : Below w1.heap.size w1 w'
  f7 : p6 → ∃ sv, v6 = .tuple #[sv, kv, fv] ∧ OwnV 71 4 enSt w' (fun g => w1.heap.size ≤ g) sv sp
  f8 : p7 → v7 = v6
  f9 : p8 → OwnV 71 4 enSt w' (fun g => w1.heap.size ≤ g) v8 sp
  f12 : p11 → v11 = v8
section
variable {w1 w' w'' : World} {sp : List Stp} {kv fv : Value} {p6 p7 p8 p11 : Prop} {v6 v7 v8 v11 v' : Value}
theorem HuF.skip {L : Nat → Prop} {vals : Nat → Value} (F : HuF w1 sp kv fv (L 6) (L 7) (L 8) (L 11) (vals 6) (vals 7) (vals 8) (vals 11) w') (k : Nat) (x : Value) (h7 : 6 ≠ k) (h8 : 7 ≠ k) (h9 : 8 ≠ k) (h12 : 11 ≠ k) :
    HuF w1 sp kv fv (6 = k ∨ L 6) (7 = k ∨ L 7) (8 = k ∨ L 8) (11 = k ∨ L 11) (upd vals k x 6) (upd vals k x 7) (upd vals k x 8) (upd vals k x 11) w' := by
  rw [or_ne h7, or_ne h8, or_ne h9, or_ne h12, upd_ne h7, upd_ne h8, upd_ne h9, upd_ne h12]; exact F
theorem HuF.below (F : HuF w1 sp kv fv p6 p7 p8 p11 v6 v7 v8 v11 w') (hb : Below w'.heap.size w' w'') : HuF w1 sp kv fv p6 p7 p8 p11 v6 v7 v8 v11 w'' :=
  ⟨F.bel.trans (hb.mono F.bel.size), fun h => by obtain ⟨sv, e, h1⟩ := F.f7 h; exact ⟨sv, e, h1.keep (.below hb)⟩, F.f8, fun h => (F.f9 h).keep (.below hb), F.f12⟩
theorem HuF.s7 (F : HuF w1 sp kv fv p6 p7 p8 p11 v6 v7 v8 v11 w') (n8 : ¬ p7) (hb : Below w'.heap.size w' w'') {sv : Value} (h : OwnS w'' w'.heap.size w''.heap.size 71 4 enSt sv sp) :
    HuF w1 sp kv fv True p7 p8 p11 (.tuple #[sv, kv, fv]) v7 v8 v11 w'' :=
  ⟨(F.below hb).bel, fun _ => ⟨sv, rfl, OwnV.of h (Nat.le_refl _) (fun b h1 _ => Nat.le_trans F.bel.size h1)⟩, fun h => absurd h n8, (F.below hb).f9, F.f12⟩
theorem HuF.s8 (F : HuF w1 sp kv fv p6 p7 p8 p11 v6 v7 v8 v11 w') : HuF w1 sp kv fv p6 True p8 p11 v6 v6 v8 v11 w' := ⟨F.bel, F.f7, fun _ => rfl, F.f9, F.f12⟩
theorem HuF.s9 (F : HuF w1 sp kv fv p6 p7 p8 p11 v6 v7 v8 v11 w') (n12 : ¬ p11) (h : OwnV 71 4 enSt w' (fun g => w1.heap.size ≤ g) v' sp) : HuF w1 sp kv fv p6 p7 True p11 v6 v7 v' v11 w' := ⟨F.bel, F.f7, F.f8, fun _ => h, fun h => absurd h n12⟩
theorem HuF.s12 (F : HuF w1 sp kv fv p6 p7 p8 p11 v6 v7 v8 v11 w') : HuF w1 sp kv fv p6 p7 p8 True v6 v7 v8 v8 w' := ⟨F.bel, F.f7, F.f8, F.f9, fun _ => rfl⟩
end

set_option maxHeartbeats 8000000 in
set_option maxRecDepth 100000 in
theorem walk (p c h s : Int) (A1 : Option Addr) (c1 : Nat) (l : List Int) (A2 : Option Addr) (c2 : Nat) (m : List Int) (x y d : Int) (w : World)
    (_ : (Lit.int .i64 p).wf = true) (_ : (Lit.int .i64 c).wf = true) (_ : (Lit.int .i64 h).wf = true) (_ : (Lit.int .i64 s).wf = true) (r1 : RdS w w.heap.size 1 (fun x : Int => [Value.int .i64 x]) A1 l) (_ : ∀ x ∈ l, (Lit.int .i64 x).wf = true) (r2 : RdS w w.heap.size 1 (fun x : Int => [Value.int .i64 x]) A2 m) (_ : ∀ x ∈ m, (Lit.int .i64 x).wf = true) (_ : (Lit.int .i64 x).wf = true) (_ : (Lit.int .i64 y).wf = true) (_ : (Lit.int .i64 d).wf = true) :
    Calls Try.prog 5 #[.agg #[.int .i64 p, .int .i64 c, .int .i64 h, .int .i64 s], .agg #[.slice A1 l.length c1, .slice A2 m.length c2], .agg #[.int .i64 x, .int .i64 y], .int .i64 d] w fun e w' => e = .returned (.bool true) ∧ Below w.heap.size w w' := by
  obtain ⟨v, hv⟩ : ∃ v : Vr, v = ⟨p, c, h, s⟩ := ⟨_, rfl⟩
  obtain ⟨rfl, rfl, rfl, rfl⟩ : p = v.p ∧ c = v.c ∧ h = v.h ∧ s = v.s := by rw [hv]; exact ⟨rfl, rfl, rfl, rfl⟩
  have R1 := Lib.hid r1
  have R2 := Lib.hid r2
  have hm1 := r1.1
  have hm2 := r2.1
  obtain ⟨n1, hn1⟩ : ∃ n, l.length = n := ⟨_, rfl⟩
  obtain ⟨n2, hn2⟩ : ∃ n, m.length = n := ⟨_, rfl⟩
  have HN1 := Lib.hid hn1
  have HN2 := Lib.hid hn2
  have CZ := Lib.hid (fun (w9 : World) => szB A1 A2 n1 n2 c1 c2 1048576 w9 (by rw [← hn1]; exact hm1) (by rw [← hn2]; exact hm2) (by omega) (by omega))
  have CB := Lib.hid (fun (hs : n1 ≤ 1048576 ∧ n2 ≤ 1048576) (w9 : World) (h : Below w.heap.size w w9) => toB l m A1 A2 c1 c2 w.heap.size w9 h.size (r1.below h (Nat.le_refl _)) (r2.below h (Nat.le_refl _)) (by omega) (by omega))
  have CS := Lib.hid (fun (w9 : World) (B1 B2 : Option Addr) (d1 d2 : Nat) (k1 : OwnV 2 1 enI w9 All (.slice B1 n1 d1) l) (k2 : OwnV 2 1 enI w9 All (.slice B2 n2 d2) m) => hintX_s v (l, m) B1 B2 d1 d2 x y d w9 (Bd25.OwnV.rd_ k1) (Bd25.OwnV.rd_ k2) (Bd25.OwnV.none0 k1) (Bd25.OwnV.none0 k2))
  have CI := Lib.hid (fun (w9 : World) (B1 B2 : Option Addr) (d1 d2 : Nat) (k1 : OwnV 2 1 enI w9 All (.slice B1 n1 d1) l) (k2 : OwnV 2 1 enI w9 All (.slice B2 n2 d2) m) => hintX_i v (l, m) B1 B2 d1 d2 x y d w9 (Bd25.OwnV.rd_ k1) (Bd25.OwnV.rd_ k2) (Bd25.OwnV.none0 k1) (Bd25.OwnV.none0 k2))
  have CE := Lib.hid (fun (w9 : World) (B1 B2 B3 B4 : Option Addr) (d1 d2 d3 d4 : Nat) (k1 : OwnV 2 1 enI w9 All (.slice B1 n1 d1) l) (k2 : OwnV 2 1 enI w9 All (.slice B2 n2 d2) m) (k3 : OwnV 2 1 enI w9 All (.slice B3 n1 d3) l) (k4 : OwnV 2 1 enI w9 All (.slice B4 n2 d4) m) => eqB l m n1 n2 B1 B2 B3 B4 d1 d2 d3 d4 w9 hn1 hn2 (Bd25.OwnV.rd_ k1) (Bd25.OwnV.rd_ k2) (Bd25.OwnV.rd_ k3) (Bd25.OwnV.rd_ k4))
  have hsl := hint_len v (l, m) x y d
  obtain ⟨Rz, hRz⟩ : ∃ r, hintR v (l, m) x y d = r := ⟨_, rfl⟩
  rw [hRz] at CS CI hsl
  obtain ⟨sp, g1, g2⟩ := Rz
  simp only at hsl
  obtain ⟨mk, hmk⟩ : ∃ z : Int, ((1 + sp.length * 4 : Nat) : Int) = z := ⟨_, rfl⟩
  have hm0 : ¬ mk < 0 := by omega
  have hmm : (mk != mk) = false := by simp
  have CEQ := Lib.hid (fun (w9 : World) (A1 A2 : Option Addr) (c1 c2 : Nat) (S1 S2 : Nat → Prop) (k1 : OwnV 71 4 enSt w9 S1 (.slice A1 sp.length c1) sp) (k2 : OwnV 71 4 enSt w9 S2 (.slice A2 sp.length c2) sp) => eqS w9.heap.size w9.heap.size A1 A2 c1 c2 sp w9 (k1.1.rd enSt_len) (k2.1.rd enSt_len) (Nat.le_refl _) (Nat.le_refl _))
  have CM := Lib.hid (fun (w9 : World) (u : Value) (hu : OwnS w9 0 w9.heap.size 71 4 enSt u sp) => markS 0 w9.heap.size u 1 sp w9 (by omega) (by decide) hu)
  have CH := Lib.hid (fun (w9 : World) (A : Option Addr) (c : Nat) (hu : RdS w9 w9.heap.size 4 enSt A (markL 1 sp.length)) => heldS w9.heap.size A c 1 sp.length w9 (by omega) (by decide) hu)
  rw [hmk] at CM CH
  simp only [hn1, hn2] at CS CI CB
  rw [hn1, hn2]
  clear hv hRz r1 r2 hm1 hm2 hn1 hn2 hmk hsl
  go_enter Try.func5, Try.ntmps5
  go_upto_region 1 with (fail)
  refine wp_gen (fun W' => L3 w W' v [.slice A1 n1 c1, .slice A2 n2 c2] x y) ⟨by go_grown, ((RowB.new _ _ _).alloc _).alloc _, RowB.alloc (RowB.new' _ _ _ (by simp)) _, RowB.new' _ _ _ (by simp)⟩ ?_
  intro w1 K
  obtain ⟨z0, z1⟩ := K.rb.c2
  have hl2 := K.rb.lt
  go_wp2_with fail
  refine (CZ.out w1).mono ?_
  rintro e w2 ⟨⟨rz, rfl, hrz⟩, hb2⟩
  have K := K.below hb2
  clear z0 z1 hl2 hb2 CZ
  rcases hrz with hrz | ⟨hrz, hrz2⟩
  · go_wp2_with fail
    go_ret
    exact ⟨rfl, K.bel⟩
  have hrz' : ¬ rz < 0 := by omega
  have hsz : n1 ≤ 1048576 ∧ n2 ≤ 1048576 := by omega
  have CB := Lib.hid (CB.out hsz)
  have HSZ := Lib.hid hsz
  have HK := Lib.hid K
  clear hrz hrz2 hsz K
  go_wp2_with fail
  refine region_rel [some 29, some 30, some 31, some 32, some 33, some 34, some 35, some 36, some 28, some 37, some 38, some 39, some 10, some 11, some 12] 15 (Pl [some (.agg #[.int .i64 v.p, .int .i64 v.c, .int .i64 v.h, .int .i64 v.s]), some (.agg #[.int .i64 v.p, .int .i64 v.c, .int .i64 v.h, .int .i64 v.s]), some (.agg #[.slice A1 n1 c1, .slice A2 n2 c2]), none, some (.agg #[.int .i64 x, .int .i64 y]), some (.agg #[.int .i64 x, .int .i64 y]), some (.int .i64 d), none, none, none, some (.int .i64 g1), some (.int .i64 g2), none, some (.int .i64 g1), some (.int .i64 g2)]) (fun L vals w' => HtF w2 l m n1 n2 sp (.int .i64 g1) (.int .i64 g2) (L 3) (L 7) (L 8) (L 9) (L 12) (vals 3) (vals 7) (vals 8) (vals 9) (vals 12) w') (by kernel_rfl) (by kernel_rfl) (by kernel_rfl) (by kernel_rfl) (by kernel_rfl) (by kernel_rfl) (by kernel_rfl) ?g0_1 ?gst_1 ?gfin_1
  case g0_1 => exact ⟨⟨(Below.refl _ _).drew, fun h => absurd h (by decide)⟩, fun h => absurd h (by decide), fun h => absurd h (by decide), fun h => absurd h (by decide), fun h => absurd h (by decide)⟩
  case gst_1 =>
    refine RelFrom.run rfl (fun L vals A w9 hno hdl hcl hu hp h0 F K hK => ?_) ?_
    · have e4 : A.tmps[4]?.getD undef = .pointer (some ⟨w.heap.size, 0, none⟩) := h0 4 (fun j _ hj => absurd (List.mem_of_getElem? hj) (by decide))
      clear hu h0 hp
      have KK := HK.out.below F.bd.bel
      have rq := KK.rv.c4
      have q0 := rq.1
      have q1 := rq.2.1
      have q2 := rq.2.2.1
      have q3 := rq.2.2.2
      have rz_ := KK.rb.c2
      have z0 := rz_.1
      have z1 := rz_.2
      have rr := KK.rr.c2
      have r0 := rr.1
      have r1 := rr.2
      clear KK rq rz_ rr
      go_simp
      exact hK.out _ w9 (Pl.fix rfl) (F.skip 0 _ (by decide) (by decide) (by decide) (by decide) (by decide))
    refine RelFrom.run rfl (fun L vals A w9 hno hdl hcl hu hp h0 F K hK => ?_) ?_
    · have e29 : A.tmps[29]?.getD undef = .agg #[.int .i64 v.p, .int .i64 v.c, .int .i64 v.h, .int .i64 v.s] := (hu 0 29 (by kernel_rfl) rfl).trans (hp 0 (by kernel_rfl) _ rfl)
      clear hu h0 hp
      have KK := HK.out.below F.bd.bel
      have rq := KK.rv.c4
      have q0 := rq.1
      have q1 := rq.2.1
      have q2 := rq.2.2.1
      have q3 := rq.2.2.2
      have rz_ := KK.rb.c2
      have z0 := rz_.1
      have z1 := rz_.2
      have rr := KK.rr.c2
      have r0 := rr.1
      have r1 := rr.2
      clear KK rq rz_ rr
      go_simp
      refine (toV v _).mono ?_
      rintro e w6 ⟨rfl, hb6⟩
      exact hK.out _ w6 (Pl.fix rfl) ((F.below hb6).skip 1 _ (by decide) (by decide) (by decide) (by decide) (by decide))
    refine RelFrom.run rfl (fun L vals A w9 hno hdl hcl hu hp h0 F K hK => ?_) ?_
    · have e5 : A.tmps[5]?.getD undef = .pointer (some ⟨w.heap.size + 1, 0, none⟩) := h0 5 (fun j _ hj => absurd (List.mem_of_getElem? hj) (by decide))
      clear hu h0 hp
      have KK := HK.out.below F.bd.bel
      have rq := KK.rv.c4
      have q0 := rq.1
      have q1 := rq.2.1
      have q2 := rq.2.2.1
      have q3 := rq.2.2.2
      have rz_ := KK.rb.c2
      have z0 := rz_.1
      have z1 := rz_.2
      have rr := KK.rr.c2
      have r0 := rr.1
      have r1 := rr.2
      clear KK rq rz_ rr
      go_simp
      exact hK.out _ w9 (Pl.fix rfl) (F.skip 2 _ (by decide) (by decide) (by decide) (by decide) (by decide))
    refine RelFrom.run rfl (fun L vals A w9 hno hdl hcl hu hp h0 F K hK => ?_) ?_
    · have e31 : A.tmps[31]?.getD undef = .agg #[.slice A1 n1 c1, .slice A2 n2 c2] := (hu 2 31 (by kernel_rfl) rfl).trans (hp 2 (by kernel_rfl) _ rfl)
      clear hu h0 hp
      have KK := HK.out.below F.bd.bel
      have rq := KK.rv.c4
      have q0 := rq.1
      have q1 := rq.2.1
      have q2 := rq.2.2.1
      have q3 := rq.2.2.2
      have rz_ := KK.rb.c2
      have z0 := rz_.1
      have z1 := rz_.2
      have rr := KK.rr.c2
      have r0 := rr.1
      have r1 := rr.2
      clear KK rq rz_ rr
      go_simp
      refine (CB.out w9 (HK.out.below F.bd.bel).bel).mono ?_
      rintro e w6 ⟨B1, d1, B2, d2, rfl, h1, h2, -, hb6⟩
      simp only [HN1.out, HN2.out] at h1 h2 ⊢
      exact hK.out _ w6 (Pl.any rfl) (by simpa [upd] using F.s3 hb6 h1 h2)
    refine RelFrom.run rfl (fun L vals A w9 hno hdl hcl hu hp h0 F K hK => ?_) ?_
    · have e6 : A.tmps[6]?.getD undef = .pointer (some ⟨w.heap.size + 2, 0, none⟩) := h0 6 (fun j _ hj => absurd (List.mem_of_getElem? hj) (by decide))
      clear hu h0 hp
      have KK := HK.out.below F.bd.bel
      have rq := KK.rv.c4
      have q0 := rq.1
      have q1 := rq.2.1
      have q2 := rq.2.2.1
      have q3 := rq.2.2.2
      have rz_ := KK.rb.c2
      have z0 := rz_.1
      have z1 := rz_.2
      have rr := KK.rr.c2
      have r0 := rr.1
      have r1 := rr.2
      clear KK rq rz_ rr
      go_simp
      exact hK.out _ w9 (Pl.fix rfl) (F.skip 4 _ (by decide) (by decide) (by decide) (by decide) (by decide))
    refine RelFrom.run rfl (fun L vals A w9 hno hdl hcl hu hp h0 F K hK => ?_) ?_
    · have e33 : A.tmps[33]?.getD undef = .agg #[.int .i64 x, .int .i64 y] := (hu 4 33 (by kernel_rfl) rfl).trans (hp 4 (by kernel_rfl) _ rfl)
      clear hu h0 hp
      have KK := HK.out.below F.bd.bel
      have rq := KK.rv.c4
      have q0 := rq.1
      have q1 := rq.2.1
      have q2 := rq.2.2.1
      have q3 := rq.2.2.2
      have rz_ := KK.rb.c2
      have z0 := rz_.1
      have z1 := rz_.2
      have rr := KK.rr.c2
      have r0 := rr.1
      have r1 := rr.2
      clear KK rq rz_ rr
      go_simp
      refine (toR x y _).mono ?_
      rintro e w6 ⟨rfl, hb6⟩
      exact hK.out _ w6 (Pl.fix rfl) ((F.below hb6).skip 5 _ (by decide) (by decide) (by decide) (by decide) (by decide))
    refine RelFrom.run rfl (fun L vals A w9 hno hdl hcl hu hp h0 F K hK => ?_) ?_
    · have e3 : A.tmps[3]?.getD undef = .int .i64 d := h0 3 (fun j _ hj => absurd (List.mem_of_getElem? hj) (by decide))
      clear hu h0 hp
      have KK := HK.out.below F.bd.bel
      have rq := KK.rv.c4
      have q0 := rq.1
      have q1 := rq.2.1
      have q2 := rq.2.2.1
      have q3 := rq.2.2.2
      have rz_ := KK.rb.c2
      have z0 := rz_.1
      have z1 := rz_.2
      have rr := KK.rr.c2
      have r0 := rr.1
      have r1 := rr.2
      clear KK rq rz_ rr
      go_simp
      exact hK.out _ w9 (Pl.fix rfl) (F.skip 6 _ (by decide) (by decide) (by decide) (by decide) (by decide))
    refine RelFrom.run rfl (fun L vals A w9 hno hdl hcl hu hp h0 F K hK => ?_) ?_
    · have e30 : A.tmps[30]?.getD undef = .agg #[.int .i64 v.p, .int .i64 v.c, .int .i64 v.h, .int .i64 v.s] := (hu 1 30 (by kernel_rfl) rfl).trans (hp 1 (by kernel_rfl) _ rfl)
      have e32 : A.tmps[32]?.getD undef = vals 3 := hu 3 32 (by kernel_rfl) rfl
      have e34 : A.tmps[34]?.getD undef = .agg #[.int .i64 x, .int .i64 y] := (hu 5 34 (by kernel_rfl) rfl).trans (hp 5 (by kernel_rfl) _ rfl)
      have e35 : A.tmps[35]?.getD undef = .int .i64 d := (hu 6 35 (by kernel_rfl) rfl).trans (hp 6 (by kernel_rfl) _ rfl)
      clear hu h0 hp
      refine (F.bd.f (hdl 3 (by kernel_rfl))).elim fun B1 q => ?_
      refine q.elim fun d1 q => ?_
      refine q.elim fun B2 q => ?_
      refine q.elim fun d2 q => ?_
      have eb := e32.trans q.1
      clear e32
      go_simp
      refine (CS.out w9 B1 B2 d1 d2 q.2.1 q.2.2).mono ?_
      rintro e w6 ⟨vv, rfl, h3, hb6⟩
      exact hK.out _ w6 (Pl.any rfl) (by simpa [upd] using F.s7 (fun h => hno (hcl 8 7 (by kernel_rfl) h)) hb6 h3)
    refine RelFrom.run rfl (fun L vals A w9 hno hdl hcl hu hp h0 F K hK => ?_) ?_
    · have e36 : A.tmps[36]?.getD undef = vals 7 := hu 7 36 (by kernel_rfl) rfl
      clear hu h0 hp
      go_simp
      exact hK.out _ w9 (Pl.any rfl) (by simpa [upd] using F.s8)
    refine RelFrom.run rfl (fun L vals A w9 hno hdl hcl hu hp h0 F K hK => ?_) ?_
    · have e28 : A.tmps[28]?.getD undef = vals 8 := hu 8 28 (by kernel_rfl) rfl
      clear hu h0 hp
      have q6 := F.f7 (hdl 7 (by kernel_rfl))
      refine q6.elim fun vv q6 => ?_
      have em := (e28.trans (F.f8 (hdl 8 (by kernel_rfl)))).trans q6.1
      clear e28
      go_simp
      exact hK.out _ w9 (Pl.any rfl) (by simpa [upd] using F.s9 (fun h => hno (hcl 12 9 (by kernel_rfl) h)) q6.2)
    refine RelFrom.run rfl (fun L vals A w9 hno hdl hcl hu hp h0 F K hK => ?_) ?_
    · have e28 : A.tmps[28]?.getD undef = vals 8 := hu 8 28 (by kernel_rfl) rfl
      clear hu h0 hp
      have q6 := F.f7 (hdl 7 (by kernel_rfl))
      refine q6.elim fun vv q6 => ?_
      have em := (e28.trans (F.f8 (hdl 8 (by kernel_rfl)))).trans q6.1
      clear e28
      go_simp
      exact hK.out _ w9 (Pl.fix rfl) (F.skip 10 _ (by decide) (by decide) (by decide) (by decide) (by decide))
    refine RelFrom.run rfl (fun L vals A w9 hno hdl hcl hu hp h0 F K hK => ?_) ?_
    · have e28 : A.tmps[28]?.getD undef = vals 8 := hu 8 28 (by kernel_rfl) rfl
      clear hu h0 hp
      have q6 := F.f7 (hdl 7 (by kernel_rfl))
      refine q6.elim fun vv q6 => ?_
      have em := (e28.trans (F.f8 (hdl 8 (by kernel_rfl)))).trans q6.1
      clear e28
      go_simp
      exact hK.out _ w9 (Pl.fix rfl) (F.skip 11 _ (by decide) (by decide) (by decide) (by decide) (by decide))
    refine RelFrom.run rfl (fun L vals A w9 hno hdl hcl hu hp h0 F K hK => ?_) ?_
    · have e37 : A.tmps[37]?.getD undef = vals 9 := hu 9 37 (by kernel_rfl) rfl
      clear hu h0 hp
      go_simp
      exact hK.out _ w9 (Pl.any rfl) (by simpa [upd] using F.s12)
    refine RelFrom.run rfl (fun L vals A w9 hno hdl hcl hu hp h0 F K hK => ?_) ?_
    · have e38 : A.tmps[38]?.getD undef = .int .i64 g1 := (hu 10 38 (by kernel_rfl) rfl).trans (hp 10 (by kernel_rfl) _ rfl)
      clear hu h0 hp
      have KK := HK.out.below F.bd.bel
      have rq := KK.rv.c4
      have q0 := rq.1
      have q1 := rq.2.1
      have q2 := rq.2.2.1
      have q3 := rq.2.2.2
      have rz_ := KK.rb.c2
      have z0 := rz_.1
      have z1 := rz_.2
      have rr := KK.rr.c2
      have r0 := rr.1
      have r1 := rr.2
      clear KK rq rz_ rr
      go_simp
      exact hK.out _ w9 (Pl.fix rfl) (F.skip 13 _ (by decide) (by decide) (by decide) (by decide) (by decide))
    refine RelFrom.run rfl (fun L vals A w9 hno hdl hcl hu hp h0 F K hK => ?_) ?_
    · have e39 : A.tmps[39]?.getD undef = .int .i64 g2 := (hu 11 39 (by kernel_rfl) rfl).trans (hp 11 (by kernel_rfl) _ rfl)
      clear hu h0 hp
      have KK := HK.out.below F.bd.bel
      have rq := KK.rv.c4
      have q0 := rq.1
      have q1 := rq.2.1
      have q2 := rq.2.2.1
      have q3 := rq.2.2.2
      have rz_ := KK.rb.c2
      have z0 := rz_.1
      have z1 := rz_.2
      have rr := KK.rr.c2
      have r0 := rr.1
      have r1 := rr.2
      clear KK rq rz_ rr
      go_simp
      exact hK.out _ w9 (Pl.fix rfl) (F.skip 14 _ (by decide) (by decide) (by decide) (by decide) (by decide))
    exact RelFrom.nil (by decide)
  case gfin_1 =>
    intro vals w9 hp F
    simp only [Fr, Act.put, List.setIfInBounds_toArray, List.set_cons_zero, List.set_cons_succ, Nat.reduceAdd]
    have K := HK.out.below F.bd.bel
    have o10 := F.f9 trivial
    rw [← F.f12 trivial] at o10
    have h13 : vals 13 = .int .i64 g1 := hp 13 (by decide) _ rfl
    have h14 : vals 14 = .int .i64 g2 := hp 14 (by decide) _ rfl
    rw [h13, h14]
    obtain ⟨s10, hs10⟩ : ∃ u, vals 12 = u := ⟨_, rfl⟩
    rw [hs10] at o10 ⊢
    clear F hp h13 h14 HK hs10
    obtain ⟨z0, z1⟩ := K.rb.c2
    have hl2 := K.rb.lt
    have O10 := Lib.hid (show OwnV 71 4 enSt w9 (fun g => g < w9.heap.size) s10 sp from ⟨o10.1, fun g hg => o10.1.2 g hg⟩)
    have hge : w.heap.size + 2 < w9.heap.size := K.rr.lt
    clear o10
    go_wp2_with fail
    refine (CB.out w9 K.bel).mono ?_
    rintro e w3 ⟨B1, d1, B2, d2, rfl, h1, h2, hap, hb3⟩
    simp only [HN1.out, HN2.out] at h1 h2 hap ⊢
    have K := K.below hb3
    have o10 := O10.out.keep (.below hb3)
    obtain ⟨L0, hL0⟩ : ∃ L, w9.heap.size = L := ⟨_, rfl⟩
    rw [hL0] at o10 h1 h2 hge
    have HL0 : Hid (L0 ≤ w3.heap.size) := Lib.hid (by have := hb3.size; omega)
    have H1 := Lib.hid h1
    have H2 := Lib.hid h2
    have HAP := Lib.hid hap
    have HGE := Lib.hid hge
    clear hge hL0 z0 z1 hl2 hb3 h1 h2 CS O10 hap
    go_upto_region 7 with (fail)
    refine wp_gen (fun W' => Below w3.heap.size w3 W' ∧ RowB W' w3.heap.size 34 [.slice B1 n1 d1, .slice B2 n2 d2]) ?_ ?_
    · exact ⟨(Below.refl _ _).alloc (Nat.le_refl _) _, RowB.new _ _ _⟩
    rintro w4 ⟨hb4, rx⟩
    obtain ⟨gx, hgx⟩ : ∃ g, w3.heap.size = g := ⟨_, rfl⟩
    rw [hgx] at rx ⊢
    have K := K.below hb4
    have HGX := Lib.hid (fun _ : Unit => hgx)
    have o10 := o10.keep (.below hb4)
    have P1 := Lib.hid ((H1.out.below hb4 (Nat.le_refl _)).more hb4.size)
    have P2 := Lib.hid ((H2.out.below hb4 (Nat.le_refl _)).more hb4.size)
    have o1 := own_all P1.out (Nat.le_refl _)
    have o2 := own_all P2.out (Nat.le_refl _)
    have HB34 := Lib.hid hb4
    have HK1 : Hid (∀ g, (Value.slice B1 n1 d1).ownBlock = some g → L0 ≤ g ∧ g < gx) := Lib.hid (fun g hg => by have h := H1.out.block g hg; rw [hgx] at h; exact h)
    have HK2 : Hid (∀ g, (Value.slice B2 n2 d2).ownBlock = some g → L0 ≤ g ∧ g < gx) := Lib.hid (fun g hg => by have h := H2.out.block g hg; rw [hgx] at h; exact h)
    have HG4 := Lib.hid rx.lt
    have HLG : Hid (L0 ≤ gx) := Lib.hid (by have := HL0.out; omega)
    have HK := Lib.hid K
    have RX := Lib.hid rx
    have O1 := Lib.hid o1
    have O2 := Lib.hid o2
    have O10 := Lib.hid o10
    clear K rx o1 o2 hb4 hgx o10 H1 H2
    refine region_rel [some 43, some 44, some 45, some 46, some 47, some 48, some 49, some 42, some 50, some 51, some 52, some 14, some 15, some 16] 14 (Pl [some (.agg #[.int .i64 v.p, .int .i64 v.c, .int .i64 v.h, .int .i64 v.s]), some (.agg #[.int .i64 v.p, .int .i64 v.c, .int .i64 v.h, .int .i64 v.s]), some (.agg #[.slice B1 n1 d1, .slice B2 n2 d2]), some (.agg #[.int .i64 x, .int .i64 y]), some (.agg #[.int .i64 x, .int .i64 y]), some (.int .i64 d), none, none, none, some (.int .i64 g1), some (.int .i64 g2), none, some (.int .i64 g1), some (.int .i64 g2)]) (fun L vals w' => HuF w4 sp (.int .i64 g1) (.int .i64 g2) (L 6) (L 7) (L 8) (L 11) (vals 6) (vals 7) (vals 8) (vals 11) w') (by kernel_rfl) (by kernel_rfl) (by kernel_rfl) (by kernel_rfl) (by kernel_rfl) (by kernel_rfl) (by kernel_rfl) ?g0_2 ?gst_2 ?gfin_2
    case g0_2 => exact ⟨(Below.refl _ _).drew, fun h => absurd h (by decide), fun h => absurd h (by decide), fun h => absurd h (by decide), fun h => absurd h (by decide)⟩
    case gst_2 =>
      refine RelFrom.run rfl (fun L vals A w9 hno hdl hcl hu hp h0 F K hK => ?_) ?_
      · have e4 : A.tmps[4]?.getD undef = .pointer (some ⟨w.heap.size, 0, none⟩) := h0 4 (fun j _ hj => absurd (List.mem_of_getElem? hj) (by decide))
        clear hu h0 hp
        have KK := HK.out.below F.bel
        have rq := KK.rv.c4
        have q0 := rq.1
        have q1 := rq.2.1
        have q2 := rq.2.2.1
        have q3 := rq.2.2.2
        have rz_ := KK.rb.c2
        have z0 := rz_.1
        have z1 := rz_.2
        have rr := KK.rr.c2
        have r0 := rr.1
        have r1 := rr.2
        clear KK rq rz_ rr
        have rx9 := (RX.out.below F.bel RX.out.lt).c2
        have x0 := rx9.1
        have x1 := rx9.2
        clear rx9
        go_simp
        exact hK.out _ w9 (Pl.fix rfl) (F.skip 0 _ (by decide) (by decide) (by decide) (by decide))
      refine RelFrom.run rfl (fun L vals A w9 hno hdl hcl hu hp h0 F K hK => ?_) ?_
      · have e43 : A.tmps[43]?.getD undef = .agg #[.int .i64 v.p, .int .i64 v.c, .int .i64 v.h, .int .i64 v.s] := (hu 0 43 (by kernel_rfl) rfl).trans (hp 0 (by kernel_rfl) _ rfl)
        clear hu h0 hp
        have KK := HK.out.below F.bel
        have rq := KK.rv.c4
        have q0 := rq.1
        have q1 := rq.2.1
        have q2 := rq.2.2.1
        have q3 := rq.2.2.2
        have rz_ := KK.rb.c2
        have z0 := rz_.1
        have z1 := rz_.2
        have rr := KK.rr.c2
        have r0 := rr.1
        have r1 := rr.2
        clear KK rq rz_ rr
        go_simp
        refine (toV v _).mono ?_
        rintro e w6 ⟨rfl, hb6⟩
        exact hK.out _ w6 (Pl.fix rfl) ((F.below hb6).skip 1 _ (by decide) (by decide) (by decide) (by decide))
      refine RelFrom.run rfl (fun L vals A w9 hno hdl hcl hu hp h0 F K hK => ?_) ?_
      · have e13 : A.tmps[13]?.getD undef = .pointer (some ⟨gx, 0, none⟩) := h0 13 (fun j _ hj => absurd (List.mem_of_getElem? hj) (by decide))
        clear hu h0 hp
        have KK := HK.out.below F.bel
        have rq := KK.rv.c4
        have q0 := rq.1
        have q1 := rq.2.1
        have q2 := rq.2.2.1
        have q3 := rq.2.2.2
        have rz_ := KK.rb.c2
        have z0 := rz_.1
        have z1 := rz_.2
        have rr := KK.rr.c2
        have r0 := rr.1
        have r1 := rr.2
        clear KK rq rz_ rr
        have rx9 := (RX.out.below F.bel RX.out.lt).c2
        have x0 := rx9.1
        have x1 := rx9.2
        clear rx9
        go_simp
        exact hK.out _ w9 (Pl.fix rfl) (F.skip 2 _ (by decide) (by decide) (by decide) (by decide))
      refine RelFrom.run rfl (fun L vals A w9 hno hdl hcl hu hp h0 F K hK => ?_) ?_
      · have e6 : A.tmps[6]?.getD undef = .pointer (some ⟨w.heap.size + 2, 0, none⟩) := h0 6 (fun j _ hj => absurd (List.mem_of_getElem? hj) (by decide))
        clear hu h0 hp
        have KK := HK.out.below F.bel
        have rq := KK.rv.c4
        have q0 := rq.1
        have q1 := rq.2.1
        have q2 := rq.2.2.1
        have q3 := rq.2.2.2
        have rz_ := KK.rb.c2
        have z0 := rz_.1
        have z1 := rz_.2
        have rr := KK.rr.c2
        have r0 := rr.1
        have r1 := rr.2
        clear KK rq rz_ rr
        have rx9 := (RX.out.below F.bel RX.out.lt).c2
        have x0 := rx9.1
        have x1 := rx9.2
        clear rx9
        go_simp
        exact hK.out _ w9 (Pl.fix rfl) (F.skip 3 _ (by decide) (by decide) (by decide) (by decide))
      refine RelFrom.run rfl (fun L vals A w9 hno hdl hcl hu hp h0 F K hK => ?_) ?_
      · have e46 : A.tmps[46]?.getD undef = .agg #[.int .i64 x, .int .i64 y] := (hu 3 46 (by kernel_rfl) rfl).trans (hp 3 (by kernel_rfl) _ rfl)
        clear hu h0 hp
        have KK := HK.out.below F.bel
        have rq := KK.rv.c4
        have q0 := rq.1
        have q1 := rq.2.1
        have q2 := rq.2.2.1
        have q3 := rq.2.2.2
        have rz_ := KK.rb.c2
        have z0 := rz_.1
        have z1 := rz_.2
        have rr := KK.rr.c2
        have r0 := rr.1
        have r1 := rr.2
        clear KK rq rz_ rr
        go_simp
        refine (toR x y _).mono ?_
        rintro e w6 ⟨rfl, hb6⟩
        exact hK.out _ w6 (Pl.fix rfl) ((F.below hb6).skip 4 _ (by decide) (by decide) (by decide) (by decide))
      refine RelFrom.run rfl (fun L vals A w9 hno hdl hcl hu hp h0 F K hK => ?_) ?_
      · have e3 : A.tmps[3]?.getD undef = .int .i64 d := h0 3 (fun j _ hj => absurd (List.mem_of_getElem? hj) (by decide))
        clear hu h0 hp
        have KK := HK.out.below F.bel
        have rq := KK.rv.c4
        have q0 := rq.1
        have q1 := rq.2.1
        have q2 := rq.2.2.1
        have q3 := rq.2.2.2
        have rz_ := KK.rb.c2
        have z0 := rz_.1
        have z1 := rz_.2
        have rr := KK.rr.c2
        have r0 := rr.1
        have r1 := rr.2
        clear KK rq rz_ rr
        have rx9 := (RX.out.below F.bel RX.out.lt).c2
        have x0 := rx9.1
        have x1 := rx9.2
        clear rx9
        go_simp
        exact hK.out _ w9 (Pl.fix rfl) (F.skip 5 _ (by decide) (by decide) (by decide) (by decide))
      refine RelFrom.run rfl (fun L vals A w9 hno hdl hcl hu hp h0 F K hK => ?_) ?_
      · have e44 : A.tmps[44]?.getD undef = .agg #[.int .i64 v.p, .int .i64 v.c, .int .i64 v.h, .int .i64 v.s] := (hu 1 44 (by kernel_rfl) rfl).trans (hp 1 (by kernel_rfl) _ rfl)
        have e45 : A.tmps[45]?.getD undef = .agg #[.slice B1 n1 d1, .slice B2 n2 d2] := (hu 2 45 (by kernel_rfl) rfl).trans (hp 2 (by kernel_rfl) _ rfl)
        have e47 : A.tmps[47]?.getD undef = .agg #[.int .i64 x, .int .i64 y] := (hu 4 47 (by kernel_rfl) rfl).trans (hp 4 (by kernel_rfl) _ rfl)
        have e48 : A.tmps[48]?.getD undef = .int .i64 d := (hu 5 48 (by kernel_rfl) rfl).trans (hp 5 (by kernel_rfl) _ rfl)
        clear hu h0 hp
        go_simp
        refine (CI.out w9 B1 B2 d1 d2 (O1.out.keep (.below F.bel)) (O2.out.keep (.below F.bel))).mono ?_
        rintro e w6 ⟨vv, rfl, h3, hb6⟩
        exact hK.out _ w6 (Pl.any rfl) (by simpa [upd] using F.s7 (fun h => hno (hcl 7 6 (by kernel_rfl) h)) hb6 h3)
      refine RelFrom.run rfl (fun L vals A w9 hno hdl hcl hu hp h0 F K hK => ?_) ?_
      · have e49 : A.tmps[49]?.getD undef = vals 6 := hu 6 49 (by kernel_rfl) rfl
        clear hu h0 hp
        go_simp
        exact hK.out _ w9 (Pl.any rfl) (by simpa [upd] using F.s8)
      refine RelFrom.run rfl (fun L vals A w9 hno hdl hcl hu hp h0 F K hK => ?_) ?_
      · have e42 : A.tmps[42]?.getD undef = vals 7 := hu 7 42 (by kernel_rfl) rfl
        clear hu h0 hp
        have q6 := F.f7 (hdl 6 (by kernel_rfl))
        refine q6.elim fun vv q6 => ?_
        have em := (e42.trans (F.f8 (hdl 7 (by kernel_rfl)))).trans q6.1
        clear e42
        go_simp
        exact hK.out _ w9 (Pl.any rfl) (by simpa [upd] using F.s9 (fun h => hno (hcl 11 8 (by kernel_rfl) h)) q6.2)
      refine RelFrom.run rfl (fun L vals A w9 hno hdl hcl hu hp h0 F K hK => ?_) ?_
      · have e42 : A.tmps[42]?.getD undef = vals 7 := hu 7 42 (by kernel_rfl) rfl
        clear hu h0 hp
        have q6 := F.f7 (hdl 6 (by kernel_rfl))
        refine q6.elim fun vv q6 => ?_
        have em := (e42.trans (F.f8 (hdl 7 (by kernel_rfl)))).trans q6.1
        clear e42
        go_simp
        exact hK.out _ w9 (Pl.fix rfl) (F.skip 9 _ (by decide) (by decide) (by decide) (by decide))
      refine RelFrom.run rfl (fun L vals A w9 hno hdl hcl hu hp h0 F K hK => ?_) ?_
      · have e42 : A.tmps[42]?.getD undef = vals 7 := hu 7 42 (by kernel_rfl) rfl
        clear hu h0 hp
        have q6 := F.f7 (hdl 6 (by kernel_rfl))
        refine q6.elim fun vv q6 => ?_
        have em := (e42.trans (F.f8 (hdl 7 (by kernel_rfl)))).trans q6.1
        clear e42
        go_simp
        exact hK.out _ w9 (Pl.fix rfl) (F.skip 10 _ (by decide) (by decide) (by decide) (by decide))
      refine RelFrom.run rfl (fun L vals A w9 hno hdl hcl hu hp h0 F K hK => ?_) ?_
      · have e50 : A.tmps[50]?.getD undef = vals 8 := hu 8 50 (by kernel_rfl) rfl
        clear hu h0 hp
        go_simp
        exact hK.out _ w9 (Pl.any rfl) (by simpa [upd] using F.s12)
      refine RelFrom.run rfl (fun L vals A w9 hno hdl hcl hu hp h0 F K hK => ?_) ?_
      · have e51 : A.tmps[51]?.getD undef = .int .i64 g1 := (hu 9 51 (by kernel_rfl) rfl).trans (hp 9 (by kernel_rfl) _ rfl)
        clear hu h0 hp
        have KK := HK.out.below F.bel
        have rq := KK.rv.c4
        have q0 := rq.1
        have q1 := rq.2.1
        have q2 := rq.2.2.1
        have q3 := rq.2.2.2
        have rz_ := KK.rb.c2
        have z0 := rz_.1
        have z1 := rz_.2
        have rr := KK.rr.c2
        have r0 := rr.1
        have r1 := rr.2
        clear KK rq rz_ rr
        have rx9 := (RX.out.below F.bel RX.out.lt).c2
        have x0 := rx9.1
        have x1 := rx9.2
        clear rx9
        go_simp
        exact hK.out _ w9 (Pl.fix rfl) (F.skip 12 _ (by decide) (by decide) (by decide) (by decide))
      refine RelFrom.run rfl (fun L vals A w9 hno hdl hcl hu hp h0 F K hK => ?_) ?_
      · have e52 : A.tmps[52]?.getD undef = .int .i64 g2 := (hu 10 52 (by kernel_rfl) rfl).trans (hp 10 (by kernel_rfl) _ rfl)
        clear hu h0 hp
        have KK := HK.out.below F.bel
        have rq := KK.rv.c4
        have q0 := rq.1
        have q1 := rq.2.1
        have q2 := rq.2.2.1
        have q3 := rq.2.2.2
        have rz_ := KK.rb.c2
        have z0 := rz_.1
        have z1 := rz_.2
        have rr := KK.rr.c2
        have r0 := rr.1
        have r1 := rr.2
        clear KK rq rz_ rr
        have rx9 := (RX.out.below F.bel RX.out.lt).c2
        have x0 := rx9.1
        have x1 := rx9.2
        clear rx9
        go_simp
        exact hK.out _ w9 (Pl.fix rfl) (F.skip 13 _ (by decide) (by decide) (by decide) (by decide))
      exact RelFrom.nil (by decide)
    case gfin_2 =>
      intro vals w9 hp F
      simp only [Fr, Act.put, List.setIfInBounds_toArray, List.set_cons_zero, List.set_cons_succ, Nat.reduceAdd]
      have hb9 := F.bel
      have K := HK.out.below hb9
      have o14 := F.f9 trivial
      rw [← F.f12 trivial] at o14
      have h12 : vals 12 = .int .i64 g1 := hp 12 (by decide) _ rfl
      have h13 : vals 13 = .int .i64 g2 := hp 13 (by decide) _ rfl
      rw [h12, h13]
      obtain ⟨s14, hs14⟩ : ∃ u, vals 11 = u := ⟨_, rfl⟩
      rw [hs14] at o14 ⊢
      clear F hp h12 h13 HK hs14
      have P1 := Lib.hid ((P1.out.below hb9 (Nat.le_refl _)).more hb9.size)
      have P2 := Lib.hid ((P2.out.below hb9 (Nat.le_refl _)).more hb9.size)
      have hsl14 := o14.sl enSt_len
      obtain ⟨A14, c14, e14, k14, -⟩ := hsl14
      subst e14
      have o10 := O10.out.keep (.below hb9)
      have hsl10 := o10.sl enSt_len
      obtain ⟨A10, c10, e10, k10, -⟩ := hsl10
      subst e10
      have HK := Lib.hid K
      have rx := RX.out.below hb9 RX.out.lt
      have RX := Lib.hid rx
      have O1' := Lib.hid (O1.out.keep (.below hb9))
      have O2' := Lib.hid (O2.out.keep (.below hb9))
      have CQ := Lib.hid (eqS _ _ A14 A10 c14 c10 sp _ k14.rd k10.rd (Nat.le_refl _) (Nat.le_refl _))
      have O14 := Lib.hid o14
      have O10 := Lib.hid o10
      obtain ⟨ns, hns⟩ : ∃ n, sp.length = n := ⟨_, rfl⟩
      have HNS := Lib.hid hns
      rw [hns] at O14 O10 CQ CEQ CM CH ⊢
      have e1 : (g1 != g1) = false := by simp
      have e2 : (g2 != g2) = false := by simp
      clear K rx o14 o10 k14 k10 hb9 hns O1 O2
      go_wp2_with fail
      refine CQ.out.mono ?_
      rintro e w5 ⟨rfl, hb5⟩
      have K := HK.out.below hb5
      have rx := RX.out.below hb5 RX.out.lt
      have o1 := O1'.out.keep (.below hb5)
      have o2 := O2'.out.keep (.below hb5)
      have o14 := O14.out.keep (.below hb5)
      have o10 := O10.out.keep (.below hb5)
      have P1 := Lib.hid ((P1.out.below hb5 (Nat.le_refl _)).more hb5.size)
      have P2 := Lib.hid ((P2.out.below hb5 (Nat.le_refl _)).more hb5.size)
      have HK := Lib.hid K
      have RX := Lib.hid rx
      have O1 := Lib.hid o1
      have O2 := Lib.hid o2
      have O14 := Lib.hid o14
      have O10 := Lib.hid o10
      clear K rx o1 o2 o14 o10 hb5 O1' O2' CQ
      go_wp2_with fail
      refine region_rel [some 67, some 68, some 69, some 70, some 71] 5 (Pl [some (.agg #[.slice B1 n1 d1, .slice B2 n2 d2]), some (.agg #[.slice A1 n1 c1, .slice A2 n2 c2]), none, some (.bool true), some (.bool false)]) (fun L vals w' => LwF w5 l m n1 n2 (L 2) (vals 2) w') (by kernel_rfl) (by kernel_rfl) (by kernel_rfl) (by kernel_rfl) (by kernel_rfl) (by kernel_rfl) (by kernel_rfl) ?g0_3 ?gst_3 ?gfin_3
      case g0_3 => exact ⟨(Below.refl _ _).drew, fun h => absurd h (by decide)⟩
      case gst_3 =>
        refine RelFrom.run rfl (fun L vals A w9 hno hdl hcl hu hp h0 F K hK => ?_) ?_
        · have e13 : A.tmps[13]?.getD undef = .pointer (some ⟨gx, 0, none⟩) := h0 13 (fun j _ hj => absurd (List.mem_of_getElem? hj) (by decide))
          clear hu h0 hp
          have KK := HK.out.below F.bel
          have rq := KK.rv.c4
          have q0 := rq.1
          have q1 := rq.2.1
          have q2 := rq.2.2.1
          have q3 := rq.2.2.2
          have rz_ := KK.rb.c2
          have z0 := rz_.1
          have z1 := rz_.2
          have rr := KK.rr.c2
          have r0 := rr.1
          have r1 := rr.2
          clear KK rq rz_ rr
          have rx9 := (RX.out.below F.bel RX.out.lt).c2
          have x0 := rx9.1
          have x1 := rx9.2
          clear rx9
          go_simp
          exact hK.out _ w9 (Pl.fix rfl) (F.skip 0 _ (by decide))
        refine RelFrom.run rfl (fun L vals A w9 hno hdl hcl hu hp h0 F K hK => ?_) ?_
        · have e5 : A.tmps[5]?.getD undef = .pointer (some ⟨w.heap.size + 1, 0, none⟩) := h0 5 (fun j _ hj => absurd (List.mem_of_getElem? hj) (by decide))
          clear hu h0 hp
          have KK := HK.out.below F.bel
          have rq := KK.rv.c4
          have q0 := rq.1
          have q1 := rq.2.1
          have q2 := rq.2.2.1
          have q3 := rq.2.2.2
          have rz_ := KK.rb.c2
          have z0 := rz_.1
          have z1 := rz_.2
          have rr := KK.rr.c2
          have r0 := rr.1
          have r1 := rr.2
          clear KK rq rz_ rr
          have rx9 := (RX.out.below F.bel RX.out.lt).c2
          have x0 := rx9.1
          have x1 := rx9.2
          clear rx9
          go_simp
          exact hK.out _ w9 (Pl.fix rfl) (F.skip 1 _ (by decide))
        refine RelFrom.run rfl (fun L vals A w9 hno hdl hcl hu hp h0 F K hK => ?_) ?_
        · have e68 : A.tmps[68]?.getD undef = .agg #[.slice A1 n1 c1, .slice A2 n2 c2] := (hu 1 68 (by kernel_rfl) rfl).trans (hp 1 (by kernel_rfl) _ rfl)
          clear hu h0 hp
          have KK := HK.out.below F.bel
          have rq := KK.rv.c4
          have q0 := rq.1
          have q1 := rq.2.1
          have q2 := rq.2.2.1
          have q3 := rq.2.2.2
          have rz_ := KK.rb.c2
          have z0 := rz_.1
          have z1 := rz_.2
          have rr := KK.rr.c2
          have r0 := rr.1
          have r1 := rr.2
          clear KK rq rz_ rr
          go_simp
          refine (CB.out w9 (HK.out.below F.bel).bel).mono ?_
          rintro e w6 ⟨B1, d1, B2, d2, rfl, h1, h2, -, hb6⟩
          simp only [HN1.out, HN2.out] at h1 h2 ⊢
          exact hK.out _ w6 (Pl.any rfl) (by simpa [upd] using F.made hb6 h1 h2)
        refine RelFrom.run rfl (fun L vals A w9 hno hdl hcl hu hp h0 F K hK => ?_) ?_
        · have e67 : A.tmps[67]?.getD undef = .agg #[.slice B1 n1 d1, .slice B2 n2 d2] := (hu 0 67 (by kernel_rfl) rfl).trans (hp 0 (by kernel_rfl) _ rfl)
          have e69 : A.tmps[69]?.getD undef = vals 2 := hu 2 69 (by kernel_rfl) rfl
          clear hu h0 hp
          refine (F.f (hdl 2 (by kernel_rfl))).elim fun B3 q => ?_
          refine q.elim fun d3 q => ?_
          refine q.elim fun B4 q => ?_
          refine q.elim fun d4 q => ?_
          have eb := e69.trans q.1
          clear e69
          go_simp
          refine (CE.out w9 B1 B2 B3 B4 d1 d2 d3 d4 (O1.out.keep (.below F.bel)) (O2.out.keep (.below F.bel)) q.2.1 q.2.2).mono ?_
          rintro e w6 ⟨rfl, hb6⟩
          exact hK.out _ w6 (Pl.fix rfl) ((F.below hb6).skip 3 _ (by decide))
        refine RelFrom.run rfl (fun L vals A w9 hno hdl hcl hu hp h0 F K hK => ?_) ?_
        · have e70 : A.tmps[70]?.getD undef = .bool true := (hu 3 70 (by kernel_rfl) rfl).trans (hp 3 (by kernel_rfl) _ rfl)
          clear hu h0 hp
          have KK := HK.out.below F.bel
          have rq := KK.rv.c4
          have q0 := rq.1
          have q1 := rq.2.1
          have q2 := rq.2.2.1
          have q3 := rq.2.2.2
          have rz_ := KK.rb.c2
          have z0 := rz_.1
          have z1 := rz_.2
          have rr := KK.rr.c2
          have r0 := rr.1
          have r1 := rr.2
          clear KK rq rz_ rr
          have rx9 := (RX.out.below F.bel RX.out.lt).c2
          have x0 := rx9.1
          have x1 := rx9.2
          clear rx9
          go_simp
          exact hK.out _ w9 (Pl.fix rfl) (F.skip 4 _ (by decide))
        exact RelFrom.nil (by decide)
      case gfin_3 =>
        intro vals w9 hp F
        simp only [Fr, Act.put, List.setIfInBounds_toArray, List.set_cons_zero, List.set_cons_succ, Nat.reduceAdd]
        have hb9 := F.bel
        have h4 : vals 4 = .bool false := hp 4 (by decide) _ rfl
        rw [h4]
        have P1 := Lib.hid ((P1.out.below hb9 (Nat.le_refl _)).more hb9.size)
        have P2 := Lib.hid ((P2.out.below hb9 (Nat.le_refl _)).more hb9.size)
        have K := HK.out.below hb9
        have rx := RX.out.below hb9 RX.out.lt
        have o14 := O14.out.keep (.below hb9)
        have o10 := O10.out.keep (.below hb9)
        have HK := Lib.hid K
        have RX := Lib.hid rx
        have O14 := Lib.hid o14
        have O10 := Lib.hid o10
        obtain ⟨x0, x1⟩ := rx.c2
        have hl5 := rx.lt
        clear F hp h4 K rx o14 o10 hb9 O1 O2 CE
        go_wp2_with fail
        refine (markB _ _ l m n1 n2 B1 B2 d1 d2 w9 HN1.out HN2.out P1.out P2.out (by rw [HN1.out]; exact HSZ.out.1) (by rw [HN2.out]; exact HSZ.out.2) (Nat.le_refl _) HAP.out).mono ?_
        rintro e w6 ⟨mz, rfl, tw⟩
        have K := HK.out.two tw (fun g hg => by have := HK1.out g hg; have := HGE.out; omega) (fun g hg => by have := HK2.out g hg; have := HGE.out; omega)
        have o14 := O14.out.keep (tw.still (fun g hg hs => by have h1 := HK1.out g hg; have h2 := HG4.out; have h3 : w4.heap.size ≤ g := hs; omega) (fun g hg hs => by have h1 := HK2.out g hg; have h2 := HG4.out; have h3 : w4.heap.size ≤ g := hs; omega))
        have o10 := O10.out.keep (tw.still (fun g hg hs => by have h1 := HK1.out g hg; have h3 : g < L0 := hs; omega) (fun g hg hs => by have h1 := HK2.out g hg; have h3 : g < L0 := hs; omega))
        have HK := Lib.hid K
        have O14 := Lib.hid o14
        have O10 := Lib.hid o10
        have hmz : ¬ (mz : Int) < 0 := by omega
        have hl5 : True := trivial
        clear K o14 o10 tw P1 P2 RX x0 x1 hl5 HAP
        go_wp2_with fail
        refine (CEQ.out w6 A14 A10 c14 c10 _ _ O14.out O10.out).mono ?_
        rintro e w7 ⟨rfl, hb7⟩
        have K := HK.out.below hb7
        have o14 := O14.out.keep (.below hb7)
        have o10 := O10.out.keep (.below hb7)
        have HK := Lib.hid K
        have O14 := Lib.hid o14
        have O10 := Lib.hid o10
        clear K o14 o10 hb7
        go_wp2_with fail
        refine (CM.out w7 _ O14.out.1).mono ?_
        rintro e w8 ⟨rfl, hg8, om⟩
        have tw : Two w7 w8 (Value.slice A14 ns c14).ownBlock none := (Two.of (Below.refl _ _)).g1 hg8
        have hs14 := O14.out.2
        have K := HK.out.two tw (fun g hg => by have h := hs14 g hg; have h3 : w4.heap.size ≤ g := h; have := HG4.out; have := HLG.out; have := HGE.out; omega) (fun g hg => by simp at hg)
        have o10 := O10.out.keep (tw.still (fun g hg hs => by have h := hs14 g hg; have h3 : w4.heap.size ≤ g := h; have h4 : g < L0 := hs; have := HG4.out; have := HLG.out; omega) (fun g hg => by simp at hg))
        have o14 : OwnV 71 4 enSt w8 (fun g => w4.heap.size ≤ g) (.slice A14 ns c14) (markL 1 ns) := ⟨om.more hg8.size, hs14⟩
        have HK := Lib.hid K
        have O14 := Lib.hid o14
        have O10 := Lib.hid o10
        clear K o14 o10 tw hs14 hg8 om
        go_wp2_with fail
        refine (CH.out w8 A14 c14 (O14.out.1.rd enSt_len)).mono ?_
        rintro e w8' ⟨rfl, rfl⟩
        go_wp2_with fail
        refine region_rel [some 105, some 106, some 107, some 108, some 109, some 110, some 111, some 112, some 104, some 113, some 114, some 115, some 20, some 21, some 22] 15 (Pl [some (.agg #[.int .i64 v.p, .int .i64 v.c, .int .i64 v.h, .int .i64 v.s]), some (.agg #[.int .i64 v.p, .int .i64 v.c, .int .i64 v.h, .int .i64 v.s]), some (.agg #[.slice A1 n1 c1, .slice A2 n2 c2]), none, some (.agg #[.int .i64 x, .int .i64 y]), some (.agg #[.int .i64 x, .int .i64 y]), some (.int .i64 d), none, none, none, some (.int .i64 g1), some (.int .i64 g2), none, some (.int .i64 g1), some (.int .i64 g2)]) (fun L vals w' => HtF w8 l m n1 n2 sp (.int .i64 g1) (.int .i64 g2) (L 3) (L 7) (L 8) (L 9) (L 12) (vals 3) (vals 7) (vals 8) (vals 9) (vals 12) w') (by kernel_rfl) (by kernel_rfl) (by kernel_rfl) (by kernel_rfl) (by kernel_rfl) (by kernel_rfl) (by kernel_rfl) ?g0_4 ?gst_4 ?gfin_4
        case g0_4 => exact ⟨⟨(Below.refl _ _).drew, fun h => absurd h (by decide)⟩, fun h => absurd h (by decide), fun h => absurd h (by decide), fun h => absurd h (by decide), fun h => absurd h (by decide)⟩
        case gst_4 =>
          refine RelFrom.run rfl (fun L vals A w9 hno hdl hcl hu hp h0 F K hK => ?_) ?_
          · have e4 : A.tmps[4]?.getD undef = .pointer (some ⟨w.heap.size, 0, none⟩) := h0 4 (fun j _ hj => absurd (List.mem_of_getElem? hj) (by decide))
            clear hu h0 hp
            have KK := HK.out.below F.bd.bel
            have rq := KK.rv.c4
            have q0 := rq.1
            have q1 := rq.2.1
            have q2 := rq.2.2.1
            have q3 := rq.2.2.2
            have rz_ := KK.rb.c2
            have z0 := rz_.1
            have z1 := rz_.2
            have rr := KK.rr.c2
            have r0 := rr.1
            have r1 := rr.2
            clear KK rq rz_ rr
            go_simp
            exact hK.out _ w9 (Pl.fix rfl) (F.skip 0 _ (by decide) (by decide) (by decide) (by decide) (by decide))
          refine RelFrom.run rfl (fun L vals A w9 hno hdl hcl hu hp h0 F K hK => ?_) ?_
          · have e105 : A.tmps[105]?.getD undef = .agg #[.int .i64 v.p, .int .i64 v.c, .int .i64 v.h, .int .i64 v.s] := (hu 0 105 (by kernel_rfl) rfl).trans (hp 0 (by kernel_rfl) _ rfl)
            clear hu h0 hp
            have KK := HK.out.below F.bd.bel
            have rq := KK.rv.c4
            have q0 := rq.1
            have q1 := rq.2.1
            have q2 := rq.2.2.1
            have q3 := rq.2.2.2
            have rz_ := KK.rb.c2
            have z0 := rz_.1
            have z1 := rz_.2
            have rr := KK.rr.c2
            have r0 := rr.1
            have r1 := rr.2
            clear KK rq rz_ rr
            go_simp
            refine (toV v _).mono ?_
            rintro e w6 ⟨rfl, hb6⟩
            exact hK.out _ w6 (Pl.fix rfl) ((F.below hb6).skip 1 _ (by decide) (by decide) (by decide) (by decide) (by decide))
          refine RelFrom.run rfl (fun L vals A w9 hno hdl hcl hu hp h0 F K hK => ?_) ?_
          · have e5 : A.tmps[5]?.getD undef = .pointer (some ⟨w.heap.size + 1, 0, none⟩) := h0 5 (fun j _ hj => absurd (List.mem_of_getElem? hj) (by decide))
            clear hu h0 hp
            have KK := HK.out.below F.bd.bel
            have rq := KK.rv.c4
            have q0 := rq.1
            have q1 := rq.2.1
            have q2 := rq.2.2.1
            have q3 := rq.2.2.2
            have rz_ := KK.rb.c2
            have z0 := rz_.1
            have z1 := rz_.2
            have rr := KK.rr.c2
            have r0 := rr.1
            have r1 := rr.2
            clear KK rq rz_ rr
            go_simp
            exact hK.out _ w9 (Pl.fix rfl) (F.skip 2 _ (by decide) (by decide) (by decide) (by decide) (by decide))
          refine RelFrom.run rfl (fun L vals A w9 hno hdl hcl hu hp h0 F K hK => ?_) ?_
          · have e107 : A.tmps[107]?.getD undef = .agg #[.slice A1 n1 c1, .slice A2 n2 c2] := (hu 2 107 (by kernel_rfl) rfl).trans (hp 2 (by kernel_rfl) _ rfl)
            clear hu h0 hp
            have KK := HK.out.below F.bd.bel
            have rq := KK.rv.c4
            have q0 := rq.1
            have q1 := rq.2.1
            have q2 := rq.2.2.1
            have q3 := rq.2.2.2
            have rz_ := KK.rb.c2
            have z0 := rz_.1
            have z1 := rz_.2
            have rr := KK.rr.c2
            have r0 := rr.1
            have r1 := rr.2
            clear KK rq rz_ rr
            go_simp
            refine (CB.out w9 (HK.out.below F.bd.bel).bel).mono ?_
            rintro e w6 ⟨B1, d1, B2, d2, rfl, h1, h2, -, hb6⟩
            simp only [HN1.out, HN2.out] at h1 h2 ⊢
            exact hK.out _ w6 (Pl.any rfl) (by simpa [upd] using F.s3 hb6 h1 h2)
          refine RelFrom.run rfl (fun L vals A w9 hno hdl hcl hu hp h0 F K hK => ?_) ?_
          · have e6 : A.tmps[6]?.getD undef = .pointer (some ⟨w.heap.size + 2, 0, none⟩) := h0 6 (fun j _ hj => absurd (List.mem_of_getElem? hj) (by decide))
            clear hu h0 hp
            have KK := HK.out.below F.bd.bel
            have rq := KK.rv.c4
            have q0 := rq.1
            have q1 := rq.2.1
            have q2 := rq.2.2.1
            have q3 := rq.2.2.2
            have rz_ := KK.rb.c2
            have z0 := rz_.1
            have z1 := rz_.2
            have rr := KK.rr.c2
            have r0 := rr.1
            have r1 := rr.2
            clear KK rq rz_ rr
            go_simp
            exact hK.out _ w9 (Pl.fix rfl) (F.skip 4 _ (by decide) (by decide) (by decide) (by decide) (by decide))
          refine RelFrom.run rfl (fun L vals A w9 hno hdl hcl hu hp h0 F K hK => ?_) ?_
          · have e109 : A.tmps[109]?.getD undef = .agg #[.int .i64 x, .int .i64 y] := (hu 4 109 (by kernel_rfl) rfl).trans (hp 4 (by kernel_rfl) _ rfl)
            clear hu h0 hp
            have KK := HK.out.below F.bd.bel
            have rq := KK.rv.c4
            have q0 := rq.1
            have q1 := rq.2.1
            have q2 := rq.2.2.1
            have q3 := rq.2.2.2
            have rz_ := KK.rb.c2
            have z0 := rz_.1
            have z1 := rz_.2
            have rr := KK.rr.c2
            have r0 := rr.1
            have r1 := rr.2
            clear KK rq rz_ rr
            go_simp
            refine (toR x y _).mono ?_
            rintro e w6 ⟨rfl, hb6⟩
            exact hK.out _ w6 (Pl.fix rfl) ((F.below hb6).skip 5 _ (by decide) (by decide) (by decide) (by decide) (by decide))
          refine RelFrom.run rfl (fun L vals A w9 hno hdl hcl hu hp h0 F K hK => ?_) ?_
          · have e3 : A.tmps[3]?.getD undef = .int .i64 d := h0 3 (fun j _ hj => absurd (List.mem_of_getElem? hj) (by decide))
            clear hu h0 hp
            have KK := HK.out.below F.bd.bel
            have rq := KK.rv.c4
            have q0 := rq.1
            have q1 := rq.2.1
            have q2 := rq.2.2.1
            have q3 := rq.2.2.2
            have rz_ := KK.rb.c2
            have z0 := rz_.1
            have z1 := rz_.2
            have rr := KK.rr.c2
            have r0 := rr.1
            have r1 := rr.2
            clear KK rq rz_ rr
            go_simp
            exact hK.out _ w9 (Pl.fix rfl) (F.skip 6 _ (by decide) (by decide) (by decide) (by decide) (by decide))
          refine RelFrom.run rfl (fun L vals A w9 hno hdl hcl hu hp h0 F K hK => ?_) ?_
          · have e106 : A.tmps[106]?.getD undef = .agg #[.int .i64 v.p, .int .i64 v.c, .int .i64 v.h, .int .i64 v.s] := (hu 1 106 (by kernel_rfl) rfl).trans (hp 1 (by kernel_rfl) _ rfl)
            have e108 : A.tmps[108]?.getD undef = vals 3 := hu 3 108 (by kernel_rfl) rfl
            have e110 : A.tmps[110]?.getD undef = .agg #[.int .i64 x, .int .i64 y] := (hu 5 110 (by kernel_rfl) rfl).trans (hp 5 (by kernel_rfl) _ rfl)
            have e111 : A.tmps[111]?.getD undef = .int .i64 d := (hu 6 111 (by kernel_rfl) rfl).trans (hp 6 (by kernel_rfl) _ rfl)
            clear hu h0 hp
            refine (F.bd.f (hdl 3 (by kernel_rfl))).elim fun B1 q => ?_
            refine q.elim fun d1 q => ?_
            refine q.elim fun B2 q => ?_
            refine q.elim fun d2 q => ?_
            have eb := e108.trans q.1
            clear e108
            go_simp
            refine (CI.out w9 B1 B2 d1 d2 q.2.1 q.2.2).mono ?_
            rintro e w6 ⟨vv, rfl, h3, hb6⟩
            exact hK.out _ w6 (Pl.any rfl) (by simpa [upd] using F.s7 (fun h => hno (hcl 8 7 (by kernel_rfl) h)) hb6 h3)
          refine RelFrom.run rfl (fun L vals A w9 hno hdl hcl hu hp h0 F K hK => ?_) ?_
          · have e112 : A.tmps[112]?.getD undef = vals 7 := hu 7 112 (by kernel_rfl) rfl
            clear hu h0 hp
            go_simp
            exact hK.out _ w9 (Pl.any rfl) (by simpa [upd] using F.s8)
          refine RelFrom.run rfl (fun L vals A w9 hno hdl hcl hu hp h0 F K hK => ?_) ?_
          · have e104 : A.tmps[104]?.getD undef = vals 8 := hu 8 104 (by kernel_rfl) rfl
            clear hu h0 hp
            have q6 := F.f7 (hdl 7 (by kernel_rfl))
            refine q6.elim fun vv q6 => ?_
            have em := (e104.trans (F.f8 (hdl 8 (by kernel_rfl)))).trans q6.1
            clear e104
            go_simp
            exact hK.out _ w9 (Pl.any rfl) (by simpa [upd] using F.s9 (fun h => hno (hcl 12 9 (by kernel_rfl) h)) q6.2)
          refine RelFrom.run rfl (fun L vals A w9 hno hdl hcl hu hp h0 F K hK => ?_) ?_
          · have e104 : A.tmps[104]?.getD undef = vals 8 := hu 8 104 (by kernel_rfl) rfl
            clear hu h0 hp
            have q6 := F.f7 (hdl 7 (by kernel_rfl))
            refine q6.elim fun vv q6 => ?_
            have em := (e104.trans (F.f8 (hdl 8 (by kernel_rfl)))).trans q6.1
            clear e104
            go_simp
            exact hK.out _ w9 (Pl.fix rfl) (F.skip 10 _ (by decide) (by decide) (by decide) (by decide) (by decide))
          refine RelFrom.run rfl (fun L vals A w9 hno hdl hcl hu hp h0 F K hK => ?_) ?_
          · have e104 : A.tmps[104]?.getD undef = vals 8 := hu 8 104 (by kernel_rfl) rfl
            clear hu h0 hp
            have q6 := F.f7 (hdl 7 (by kernel_rfl))
            refine q6.elim fun vv q6 => ?_
            have em := (e104.trans (F.f8 (hdl 8 (by kernel_rfl)))).trans q6.1
            clear e104
            go_simp
            exact hK.out _ w9 (Pl.fix rfl) (F.skip 11 _ (by decide) (by decide) (by decide) (by decide) (by decide))
          refine RelFrom.run rfl (fun L vals A w9 hno hdl hcl hu hp h0 F K hK => ?_) ?_
          · have e113 : A.tmps[113]?.getD undef = vals 9 := hu 9 113 (by kernel_rfl) rfl
            clear hu h0 hp
            go_simp
            exact hK.out _ w9 (Pl.any rfl) (by simpa [upd] using F.s12)
          refine RelFrom.run rfl (fun L vals A w9 hno hdl hcl hu hp h0 F K hK => ?_) ?_
          · have e114 : A.tmps[114]?.getD undef = .int .i64 g1 := (hu 10 114 (by kernel_rfl) rfl).trans (hp 10 (by kernel_rfl) _ rfl)
            clear hu h0 hp
            have KK := HK.out.below F.bd.bel
            have rq := KK.rv.c4
            have q0 := rq.1
            have q1 := rq.2.1
            have q2 := rq.2.2.1
            have q3 := rq.2.2.2
            have rz_ := KK.rb.c2
            have z0 := rz_.1
            have z1 := rz_.2
            have rr := KK.rr.c2
            have r0 := rr.1
            have r1 := rr.2
            clear KK rq rz_ rr
            go_simp
            exact hK.out _ w9 (Pl.fix rfl) (F.skip 13 _ (by decide) (by decide) (by decide) (by decide) (by decide))
          refine RelFrom.run rfl (fun L vals A w9 hno hdl hcl hu hp h0 F K hK => ?_) ?_
          · have e115 : A.tmps[115]?.getD undef = .int .i64 g2 := (hu 11 115 (by kernel_rfl) rfl).trans (hp 11 (by kernel_rfl) _ rfl)
            clear hu h0 hp
            have KK := HK.out.below F.bd.bel
            have rq := KK.rv.c4
            have q0 := rq.1
            have q1 := rq.2.1
            have q2 := rq.2.2.1
            have q3 := rq.2.2.2
            have rz_ := KK.rb.c2
            have z0 := rz_.1
            have z1 := rz_.2
            have rr := KK.rr.c2
            have r0 := rr.1
            have r1 := rr.2
            clear KK rq rz_ rr
            go_simp
            exact hK.out _ w9 (Pl.fix rfl) (F.skip 14 _ (by decide) (by decide) (by decide) (by decide) (by decide))
          exact RelFrom.nil (by decide)
        case gfin_4 =>
          intro vals w9 hp F
          simp only [Fr, Act.put, List.setIfInBounds_toArray, List.set_cons_zero, List.set_cons_succ, Nat.reduceAdd]
          have hb9 := F.bd.bel
          have K := HK.out.below hb9
          have o20 := F.f9 trivial
          rw [← F.f12 trivial] at o20
          have h13 : vals 13 = .int .i64 g1 := hp 13 (by decide) _ rfl
          have h14 : vals 14 = .int .i64 g2 := hp 14 (by decide) _ rfl
          rw [h13, h14]
          obtain ⟨s20, hs20⟩ : ∃ u, vals 12 = u := ⟨_, rfl⟩
          rw [hs20] at o20 ⊢
          clear F hp h13 h14 HK hs20
          have o14 := O14.out.keep (.below hb9)
          have o10 := O10.out.keep (.below hb9)
          have hsl20 := o20.sl enSt_len
          obtain ⟨A20, c20, e20, k20, -⟩ := hsl20
          subst e20
          rw [HNS.out] at o20 ⊢
          have HK := Lib.hid K
          have O14 := Lib.hid o14
          have O10 := Lib.hid o10
          have O20 := Lib.hid o20
          clear K o14 o10 o20 k20 hb9
          go_wp2_with fail
          refine (CEQ.out w9 A20 A10 c20 c10 _ _ O20.out O10.out).mono ?_
          rintro e wa ⟨rfl, hba⟩
          have K := HK.out.below hba
          have o14 := O14.out.keep (.below hba)
          have HK := Lib.hid K
          have O14 := Lib.hid o14
          clear K o14 hba O10 O20
          go_wp2_with fail
          refine (CH.out wa A14 c14 (O14.out.1.rd enSt_len)).mono ?_
          rintro e wa' ⟨rfl, rfl⟩
          go_wp2_with fail
          go_ret
          exact ⟨rfl, HK.out.bel⟩
end Go.Proofs.Ytfgkkmhafdbicaa.HintLaw
