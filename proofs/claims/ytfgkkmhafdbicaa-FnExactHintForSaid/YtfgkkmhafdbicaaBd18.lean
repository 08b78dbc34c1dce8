/-
  Plays go on by one step: of the reference (l05Next). Conditions: each theorem's own.
-/
import Derived.Test.YtfgkkmhafdbicaaBd16
import Derived.Test.YtfgkkmhafdbicaaBd7
import Derived.StillTailTactics
set_option linter.unusedVariables false
set_option linter.unusedSimpArgs false
namespace Go.Proofs.Ytfgkkmhafdbicaa.Bd18
open Go.ChangeShapes Go.WideShapes Go.ChangeAt Go.RowKit Base Ints Own Clone RelG PlP Bd1 Bd4 Bd5 Bd6 Bd7 Bd7S Bd8 Bd9 Bd11 RegInv RegF RegG Bd16 Bd17

/-- Plays that are being collected: the slice, the variant's box. -/
structure Nx1 (w wr : World) (v : Vr) (vl : Value) (X : List Pl) (k m : Nat) : Prop where
  bel : Below w.heap.size w wr
  rv : RowB wr w.heap.size 32 [.int .i64 v.p, .int .i64 v.c, .int .i64 v.h, .int .i64 v.s]
  og : OwnG RelP wr (w.heap.size + 1) wr.heap.size 65 3 enP vl X
  co : Coll v k m X
theorem Nx1.below {w wr w' : World} {v : Vr} {vl : Value} {X : List Pl} {k m : Nat} (h : Nx1 w wr v vl X k m) (hb : Below wr.heap.size wr w') : Nx1 w w' v vl X k m :=
  ⟨h.bel.trans (hb.mono h.bel.size), h.rv.below hb h.rv.lt, (h.og.below_ hb).more hb.size, h.co⟩
theorem Nx1.blk {w wr : World} {v : Vr} {vl : Value} {X : List Pl} {k m : Nat} (h : Nx1 w wr v vl X k m) : ∀ g, vl.ownBlock = some g → w.heap.size + 1 ≤ g ∧ g < wr.heap.size := fun g hg => by obtain ⟨rs, h1, -⟩ := h.og; exact h1.block g hg
/-- Its legal steps besides. -/
structure Nx2 (w wr : World) (v : Vr) (vl : Value) (X : List Pl) (k m : Nat) (sv : Value) (ss : List Stp) : Prop where
  k1 : Nx1 w wr v vl X k m
  st : SlV 4 enSt wr (NotIn vl (w.heap.size + 1)) sv ss
theorem Nx2.below {w wr w' : World} {v : Vr} {vl : Value} {X : List Pl} {k m : Nat} {sv : Value} {ss : List Stp} (h : Nx2 w wr v vl X k m sv ss) (hb : Below wr.heap.size wr w') : Nx2 w w' v vl X k m sv ss :=
  ⟨h.k1.below hb, (relV 4 enSt).keep h.st (.below hb)⟩

/-- The board behind a step is made and laid into a box. -/
structure BdF (w8 : World) (nb : Bd) (n : Nat) (p10 p11 p12 : Prop) (v10 v11 : Value) (w' : World) : Prop where
  bel : Below w8.heap.size w8 w'
  f10 : p10 → ∃ A3 c3 A4 c4, v10 = .agg #[.slice A3 n c3, .slice A4 n c4] ∧ OwnV 2 1 enI w' (fun b => w8.heap.size ≤ b ∧ (p11 → v11 ≠ .pointer (some ⟨b, 0, none⟩))) (.slice A3 n c3) nb.1 ∧ OwnV 2 1 enI w' (fun b => w8.heap.size ≤ b ∧ (p11 → v11 ≠ .pointer (some ⟨b, 0, none⟩))) (.slice A4 n c4) nb.2
  f11 : p11 → ¬ p12 → ∃ g x y, v11 = .pointer (some ⟨g, 0, none⟩) ∧ w8.heap.size ≤ g ∧ RowB w' g 34 [x, y]
  f12 : p12 → ∃ g A3 c3 A4 c4, v11 = .pointer (some ⟨g, 0, none⟩) ∧ w8.heap.size ≤ g ∧ RowB w' g 34 [.slice A3 n c3, .slice A4 n c4] ∧ OwnV 2 1 enI w' (fun b => w8.heap.size ≤ b ∧ b ≠ g) (.slice A3 n c3) nb.1 ∧ OwnV 2 1 enI w' (fun b => w8.heap.size ≤ b ∧ b ≠ g) (.slice A4 n c4) nb.2
section
variable {w8 w' w'' : World} {nb : Bd} {n : Nat} {p10 p11 p12 : Prop} {v10 v11 : Value}
theorem BdF.skip {L : Nat → Prop} {vals : Nat → Value} (F : BdF w8 nb n (L 10) (L 11) (L 12) (vals 10) (vals 11) w') (k : Nat) (x : Value) (h10 : 10 ≠ k) (h11 : 11 ≠ k) (h12 : 12 ≠ k) :
    BdF w8 nb n (10 = k ∨ L 10) (11 = k ∨ L 11) (12 = k ∨ L 12) (upd vals k x 10) (upd vals k x 11) w' := by
  rw [or_ne h10, or_ne h11, or_ne h12, upd_ne h10, upd_ne h11]; exact F
theorem BdF.s10 (F : BdF w8 nb n p10 p11 p12 v10 v11 w') (n12 : ¬ p12) {A3 A4 : Option Addr} {c3 c4 : Nat} (h1 : OwnS w'' w'.heap.size w''.heap.size 2 1 enI (.slice A3 n c3) nb.1) (h2 : OwnS w'' w'.heap.size w''.heap.size 2 1 enI (.slice A4 n c4) nb.2) (hb : Below w'.heap.size w' w'') :
    BdF w8 nb n True p11 p12 (.agg #[.slice A3 n c3, .slice A4 n c4]) v11 w'' := by
  have hs := F.bel.size
  have one : ∀ b, w'.heap.size ≤ b → (w8.heap.size ≤ b ∧ (p11 → v11 ≠ .pointer (some ⟨b, 0, none⟩))) := fun b hb' => ⟨by omega, fun h e => by
    obtain ⟨g, x, y, e1, h3, h4⟩ := F.f11 h n12
    rw [e1] at e
    simp only [Value.pointer.injEq, Option.some.injEq, Addr.mk.injEq, and_true] at e
    have := h4.lt
    omega⟩
  refine ⟨F.bel.trans (hb.mono hs), fun _ => ⟨A3, c3, A4, c4, rfl, OwnV.of h1 (Nat.le_refl _) (fun b hb' _ => one b hb'), OwnV.of h2 (Nat.le_refl _) (fun b hb' _ => one b hb')⟩, fun h hn => ?_, fun h => absurd h n12⟩
  obtain ⟨g, x, y, e1, h3, h4⟩ := F.f11 h hn
  exact ⟨g, x, y, e1, h3, h4.below hb h4.lt⟩
theorem BdF.s11 (F : BdF w8 nb n p10 p11 p12 v10 v11 w') (n12 : ¬ p12) (x y : Value) : BdF w8 nb n p10 True p12 v10 (.pointer (some ⟨w'.heap.size, 0, none⟩)) (w'.alloc (.cells ⟨[x, y]⟩ 34)) := by
  have hs := F.bel.size
  refine ⟨F.bel.alloc hs _, fun h => ?_, fun _ _ => ⟨_, x, y, rfl, hs, RowB.new _ _ _⟩, fun h => absurd h n12⟩
  obtain ⟨A3, c3, A4, c4, e, h1, h2⟩ := F.f10 h
  have hb : Below w'.heap.size w' (w'.alloc (.cells ⟨[x, y]⟩ 34)) := (Below.refl _ _).alloc (Nat.le_refl _) _
  have one : ∀ (u : Value) (l : List Int), OwnV 2 1 enI w' (fun b => w8.heap.size ≤ b ∧ (p11 → v11 ≠ .pointer (some ⟨b, 0, none⟩))) u l → OwnV 2 1 enI (w'.alloc (.cells ⟨[x, y]⟩ 34)) (fun b => w8.heap.size ≤ b ∧ (True → Value.pointer (some ⟨w'.heap.size, 0, none⟩) ≠ .pointer (some ⟨b, 0, none⟩))) u l := fun u l h =>
    ⟨(OwnV.keep h (.below hb)).1, fun g hg => ⟨(h.2 g hg).1, fun _ e => by
      simp only [Value.pointer.injEq, Option.some.injEq, Addr.mk.injEq, and_true] at e
      have := h.1.2 g hg
      omega⟩⟩
  exact ⟨A3, c3, A4, c4, e, one _ _ h1, one _ _ h2⟩
theorem BdF.s12 (F : BdF w8 nb n p10 p11 p12 v10 v11 w') {A3 A4 : Option Addr} {c3 c4 g : Nat} {x y : Value} (h11 : p11) (e : v11 = .pointer (some ⟨g, 0, none⟩)) (hg : w8.heap.size ≤ g) (hr : RowB w' g 34 [x, y]) (e2 : v10 = .agg #[.slice A3 n c3, .slice A4 n c4])
    (h1 : OwnV 2 1 enI w' (fun b => w8.heap.size ≤ b ∧ (p11 → v11 ≠ .pointer (some ⟨b, 0, none⟩))) (.slice A3 n c3) nb.1) (h2 : OwnV 2 1 enI w' (fun b => w8.heap.size ≤ b ∧ (p11 → v11 ≠ .pointer (some ⟨b, 0, none⟩))) (.slice A4 n c4) nb.2) :
    BdF w8 nb n p10 p11 True v10 v11 ((w'.setCell ⟨g, 0, none⟩ (.slice A3 n c3)).setCell ⟨g, 1, none⟩ (.slice A4 n c4)) := by
  have hst : Still (fun b => w8.heap.size ≤ b ∧ (p11 → v11 ≠ .pointer (some ⟨b, 0, none⟩))) w' ((w'.setCell ⟨g, 0, none⟩ (.slice A3 n c3)).setCell ⟨g, 1, none⟩ (.slice A4 n c4)) :=
    (Still.grown (grownBy_setCell _ g 0 _) (fun k hk hn => by simp at hk; subst hk; exact hn.2 h11 e)).trans (Still.grown (grownBy_setCell _ g 1 _) (fun k hk hn => by simp at hk; subst hk; exact hn.2 h11 e))
  have k1 := OwnV.keep h1 hst
  have k2 := OwnV.keep h2 hst
  have wk : ∀ {u : Value} {l : List Int} {W : World}, OwnV 2 1 enI W (fun b => w8.heap.size ≤ b ∧ (p11 → v11 ≠ .pointer (some ⟨b, 0, none⟩))) u l → OwnV 2 1 enI W (fun b => w8.heap.size ≤ b ∧ b ≠ g) u l := fun h => (relO 2 1 enI).weak h (fun b hb _ => ⟨hb.1, fun hbg => hb.2 h11 (by rw [hbg]; exact e)⟩)
  exact ⟨below_two F.bel hg _ _, fun _ => ⟨A3, c3, A4, c4, e2, k1, k2⟩, fun _ h => absurd trivial h, fun _ => ⟨g, A3, c3, A4, c4, e, hg, two_ hr _ _, wk k1, wk k2⟩⟩
end

/-- A play more is put together and appended. -/
structure NxF (w w9 : World) (u8 : Value) (Y : List Pl) (sp : List Stp) (s : Stp) (nb : Bd) (a b : Value) (p1 p7 p12 p13 p15 p16 p17 p18 : Prop) (v1 v7 v12 v13 v15 v16 v17 v18 : Value) (w' : World) : Prop where
  pre : ¬ p17 → GoF w9 sp s p1 p7 p12 p13 False v1 v7 v12 v13 undef w'
  f15 : p15 → v15 = .agg #[v13, a, b]
  f16 : p16 → ¬ p17 → ∃ g, v16 = .slice (some ⟨g, 0, none⟩) 1 1 ∧ RowB w' g 65 [v13, a, b]
  f17 : p17 → ∃ g k c, v17 = .slice (some ⟨g, 0, none⟩) k c ∧ OwnG RelP w' (w.heap.size + 1) w'.heap.size 65 3 enP v17 (Y ++ [(sp ++ [s], nb)]) ∧ w9.grownBy w' u8.ownBlock ∧ (u8.ownBlock = some g ∨ w9.heap.size ≤ g)
  f18 : p18 → v18 = v17
section
variable {w w9 w' w'' : World} {u8 : Value} {Y : List Pl} {sp : List Stp} {s : Stp} {nb : Bd} {a b : Value} {p1 p7 p12 p13 p15 p16 p17 p18 : Prop} {v1 v7 v12 v13 v15 v16 v17 v18 v' : Value}
theorem NxF.skip {L : Nat → Prop} {vals : Nat → Value} (F : NxF w w9 u8 Y sp s nb a b (L 1) (L 7) (L 12) (L 13) (L 15) (L 16) (L 17) (L 18) (vals 1) (vals 7) (vals 12) (vals 13) (vals 15) (vals 16) (vals 17) (vals 18) w') (k : Nat) (x : Value) (h1 : 1 ≠ k) (h7 : 7 ≠ k) (h12 : 12 ≠ k) (h13 : 13 ≠ k) (h15 : 15 ≠ k) (h16 : 16 ≠ k) (h17 : 17 ≠ k) (h18 : 18 ≠ k) :
    NxF w w9 u8 Y sp s nb a b (1 = k ∨ L 1) (7 = k ∨ L 7) (12 = k ∨ L 12) (13 = k ∨ L 13) (15 = k ∨ L 15) (16 = k ∨ L 16) (17 = k ∨ L 17) (18 = k ∨ L 18) (upd vals k x 1) (upd vals k x 7) (upd vals k x 12) (upd vals k x 13) (upd vals k x 15) (upd vals k x 16) (upd vals k x 17) (upd vals k x 18) w' := by
  rw [or_ne h1, or_ne h7, or_ne h12, or_ne h13, or_ne h15, or_ne h16, or_ne h17, or_ne h18, upd_ne h1, upd_ne h7, upd_ne h12, upd_ne h13, upd_ne h15, upd_ne h16, upd_ne h17, upd_ne h18]; exact F
/-- Behind an early step. -/
theorem NxF.early (F : NxF w w9 u8 Y sp s nb a b p1 p7 p12 p13 p15 p16 p17 p18 v1 v7 v12 v13 v15 v16 v17 v18 w') {q1 q7 q12 q13 : Prop} {u1 u7 u12 u13 : Value} (n15 : ¬ p15) (n16 : ¬ p16) (n17 : ¬ p17) (n18 : ¬ p18) (h : GoF w9 sp s q1 q7 q12 q13 False u1 u7 u12 u13 undef w'') :
    NxF w w9 u8 Y sp s nb a b q1 q7 q12 q13 p15 p16 p17 p18 u1 u7 u12 u13 v15 v16 v17 v18 w'' :=
  ⟨fun _ => h, fun h => absurd h n15, fun h => absurd h n16, fun h => absurd h n17, fun h => absurd h n18⟩
theorem NxF.s15 (F : NxF w w9 u8 Y sp s nb a b p1 p7 p12 p13 p15 p16 p17 p18 v1 v7 v12 v13 v15 v16 v17 v18 w') (n16 : ¬ p16) (n17 : ¬ p17) (n18 : ¬ p18) :
    NxF w w9 u8 Y sp s nb a b p1 p7 p12 p13 True p16 p17 p18 v1 v7 v12 v13 (.agg #[v13, a, b]) v16 v17 v18 w' :=
  ⟨F.pre, fun _ => rfl, fun h => absurd h n16, fun h => absurd h n17, fun h => absurd h n18⟩
theorem NxF.s16 (F : NxF w w9 u8 Y sp s nb a b p1 p7 p12 p13 p15 p16 p17 p18 v1 v7 v12 v13 v15 v16 v17 v18 w') (y7 : p7) (y13 : p13) (n17 : ¬ p17) (n18 : ¬ p18) :
    NxF w w9 u8 Y sp s nb a b p1 p7 p12 p13 p15 True p17 p18 v1 v7 v12 v13 v15 (.slice (some ⟨w'.heap.size, 0, none⟩) 1 1) v17 v18 (w'.alloc (.cells ⟨[v13, a, b]⟩ 65)) := by
  have G := F.pre n17
  exact ⟨fun _ => ⟨G.bel.alloc G.bel.size _, fun _ h => absurd y7 h, fun _ h => absurd y13 h, fun _ h => absurd y13 h, fun h => ((G.f10 h).alloc _).more (by simp), fun h => h.elim⟩, F.f15, fun _ _ => ⟨_, rfl, RowB.new _ _ _⟩, fun h => absurd h n17, fun h => absurd h n18⟩
theorem NxF.s18 (F : NxF w w9 u8 Y sp s nb a b p1 p7 p12 p13 p15 p16 p17 p18 v1 v7 v12 v13 v15 v16 v17 v18 w') : NxF w w9 u8 Y sp s nb a b p1 p7 p12 p13 p15 p16 p17 True v1 v7 v12 v13 v15 v16 v17 v17 w' :=
  ⟨F.pre, F.f15, F.f16, F.f17, fun _ => rfl⟩
theorem NxF.s17 (F : NxF w w9 u8 Y sp s nb a b p1 p7 p12 p13 p15 p16 p17 p18 v1 v7 v12 v13 v15 v16 v17 v18 w') (n18 : ¬ p18) {g k c : Nat} (e : v' = .slice (some ⟨g, 0, none⟩) k c) (ho : OwnG RelP w'' (w.heap.size + 1) w''.heap.size 65 3 enP v' (Y ++ [(sp ++ [s], nb)])) (hg : w9.grownBy w'' u8.ownBlock) (hat : u8.ownBlock = some g ∨ w9.heap.size ≤ g) :
    NxF w w9 u8 Y sp s nb a b p1 p7 p12 p13 p15 p16 True p18 v1 v7 v12 v13 v15 v16 v' v18 w'' :=
  ⟨fun h => absurd trivial h, F.f15, fun _ h => absurd trivial h, fun _ => ⟨g, k, c, e, ho, hg, hat⟩, fun h => absurd h n18⟩
end

set_option maxHeartbeats 8000000 in
set_option maxRecDepth 100000 in
theorem next_s (v : Vr) (hv : okV v = true) (m : Nat) (hm : m ≤ 10) (ps : List Pl) (hps : RowOk v m ps) (hN : ps.length ≤ 20000) (d : Int) (hd : 1 ≤ d ∧ d ≤ 6) (u : Value) (S0 : Nat → Prop) (w : World) (hu : SlG RelP 3 enP w S0 u ps) :
    Calls Try.prog 80 #[.agg #[.int .i64 v.p, .int .i64 v.c, .int .i64 v.h, .int .i64 v.s], u, .int .i64 d] w fun e w' => ∃ vv, e = .returned vv ∧ OwnG RelP w' w.heap.size w'.heap.size 65 3 enP vv (nextP v d ps) ∧ Below w.heap.size w w' := by
  obtain ⟨i4, hi4, hz0, hz1, hz2⟩ := info_parts infoSt
  obtain ⟨i3, hi3, hy0, hy1, hy2⟩ := info_parts infoP
  have hvv := okV_iff.1 hv
  obtain ⟨Ap, cp, rs, rfl, hrd, hls, -⟩ := hu
  obtain ⟨N, hNN⟩ : ∃ N, ps.length = N := ⟨_, rfl⟩
  rw [hNN] at hN ⊢
  have HNN := Lib.hid hNN
  have HRD := Lib.hid hrd
  have HLS := Lib.hid hls
  have HPS := Lib.hid hps
  obtain ⟨P, hP⟩ : ∃ P : Nat, v.p = (P : Int) := ⟨v.p.toNat, by omega⟩
  have HP := Lib.hid hP
  have hP24 : P ≤ 24 := by omega
  have HC := Lib.hid (show v.c ≤ 15 by omega)
  clear hNN hrd hls hps hP hv hvv
  go_enter Try.func80, Try.ntmps80
  go_upto_region 2 with (fail)
  refine wp_gen (fun W' => Nx1 w W' v (.slice (some ⟨w.heap.size + 1, 0, none⟩) 0 0) [] (m + 1) 0) ?_ ?_
  · exact ⟨by go_grown, (RowB.new _ _ _).alloc _, ⟨[], RowB.own (xs := ([] : List PRow)) (RowB.new' _ _ _ (by first | simp | go_size | rfl)) enP_len (Nat.le_refl _) (by go_size) (by decide), LsR.nil _ _ _⟩, Coll.nil _ _⟩
  intro w2 K
  have hl1 := K.rv.lt
  go_wp2_with fail
  go_loopw [7, 8] (fun vl i wr => ∃ k : Nat, k ≤ N ∧ i = .int .i64 (k : Int) ∧ Nx1 w wr v vl (nxGo v d (ps.take k) []) (m + 1) (k * 25)) (fun _ i _ => N - (intOf i).toNat)
  case atStart => exact ⟨0, Nat.zero_le _, by first | rfl | trivial, K⟩
  case round =>
    obtain ⟨k, hk, rfl, K⟩ := hrel
    clear hl1
    have hl1 := K.rv.lt
    by_cases hlt : k < N
    · obtain ⟨b1, o1, r, rfl, -, hb1, hr, hc⟩ := (HRD.out.keep (.below K.bel)).at_ (i := k) (by rw [HLS.out.1, HNN.out]; exact hlt)
      obtain ⟨p, hp, hR⟩ := HLS.out.at_ hr
      have HT := Lib.hid (show nxGo v d (ps.take (k + 1)) [] = nxIn v p (legalP v p.2 d) (nxGo v d (ps.take k) []) from by rw [takeS hp, nxGo_snoc])
      have HOK := Lib.hid (HPS.out p (List.mem_of_getElem? hp))
      obtain ⟨X, hX⟩ : ∃ X, nxGo v d (ps.take k) [] = X := ⟨_, rfl⟩
      rw [hX] at K HT
      clear hX
      obtain ⟨sp, bd⟩ := p
      obtain ⟨r0, rl, rm⟩ := r
      have hR0 := hR.1.sl enSt_len
      have hR1 := hR.2.1
      have hR2 := hR.2.2
      simp only at hR0 hR1 hR2 HOK HT
      obtain ⟨As, cs, rfl, ks, -⟩ := hR0
      obtain ⟨Ao, co, rfl, ko, hAo⟩ := hR1
      obtain ⟨At, ct, rfl, kt, hAt⟩ := hR2
      have hkn : (k : Int) < (N : Int) := by omega
      have hwk : IntKind.i64.wrap ((k : Int) + 1) = (k : Int) + 1 := IntWalk.i64_in _ (by omega)
      have hln1 := HOK.out.1.own.len
      have hln2 := HOK.out.1.oth.len
      obtain ⟨n, hn⟩ : ∃ n, P + 1 = n := ⟨_, rfl⟩
      have eln : bd.1.length = n := by have := HP.out; omega
      have emn : bd.2.length = n := by have := HP.out; omega
      obtain ⟨ns, hns⟩ : ∃ k, sp.length = k := ⟨_, rfl⟩
      have HNS := Lib.hid hns
      have hns10 : ns ≤ 10 := by have := HOK.out.2; omega
      have hAo' := Lib.hid hAo
      have hAt' := Lib.hid hAt
      have RS := Lib.hid (fun (w9 : World) (h : Below w.heap.size w w9) => (ks.rd.below h (Nat.le_refl _)))
      have RO := Lib.hid (fun (w9 : World) (h : Below w.heap.size w w9) => (ko.rd.below h (Nat.le_refl _)))
      have RT' := Lib.hid (fun (w9 : World) (h : Below w.heap.size w w9) => (kt.rd.below h (Nat.le_refl _)))
      have HLN := Lib.hid eln
      have HMN := Lib.hid emn
      have CL := Lib.hid (fun (w9 : World) (h : Below w.heap.size w w9) => legal_s v bd HOK.out.1 Ao At co ct w.heap.size d hd w9 h.size (RO.out w9 h) (RT'.out w9 h))
      rw [eln, emn] at CL
      have hbw : b1 < w.heap.size ∨ True := .inr trivial
      have PC := Lib.hid (fun (w9 : World) (h : Below w.heap.size w w9) => by
        obtain ⟨b2, o2, r2, e2, -, hb2, hr2, hc2⟩ := (HRD.out.keep (.below h)).at_ (i := k) (by rw [HLS.out.1, HNN.out]; exact hlt)
        simp only [Option.some.injEq, Addr.mk.injEq, and_true] at e2
        obtain ⟨rfl, rfl⟩ := e2
        rw [hr] at hr2
        simp only [Option.some.injEq] at hr2
        subst hr2
        have h0 : w9.cell? ⟨b1, o1 + k * 3, none⟩ = some (.slice As ns cs) := by have := hc2 0 _ rfl; simp only [hns] at this; exact this
        have h1 : w9.cell? ⟨b1, o1 + k * 3 + 1, none⟩ = some (.slice Ao n co) := by have := hc2 1 _ rfl; simp only [eln] at this; exact this
        have h2 : w9.cell? ⟨b1, o1 + k * 3 + 2, none⟩ = some (.slice At n ct) := by have := hc2 2 _ rfl; simp only [emn] at this; exact this
        exact (⟨h0, h1, h2⟩ : w9.cell? ⟨b1, o1 + k * 3, none⟩ = some (.slice As ns cs) ∧ w9.cell? ⟨b1, o1 + k * 3 + 1, none⟩ = some (.slice Ao n co) ∧ w9.cell? ⟨b1, o1 + k * 3 + 2, none⟩ = some (.slice At n ct)))
      obtain ⟨hc0, hc1, hc2⟩ := PC.out wr K.bel
      clear hr hp hR hc ks ko kt hAo hAt hln1 hln2 eln emn hns hbw
      obtain ⟨q0, q1, q2, q3⟩ := K.rv.c4
      go_wp2_with fail
      go_still_tail 7, (by kernel_rfl)
      go_wp2_with fail
      refine (CL.out _ K.bel.drew).mono ?_
      rintro e w4 ⟨sv, rfl, hst, hb4⟩
      have K0 : Nx1 w wr.drew v u7 X (m + 1) (k * 25) := K.below (Below.refl _ _).drew
      have hst' : SlV 4 enSt w4 (NotIn u7 (w.heap.size + 1)) sv (legalP v bd d) := by
        have h1 : OwnV 71 4 enSt w4 (NotIn u7 (w.heap.size + 1)) sv (legalP v bd d) := OwnV.of hst (Nat.le_refl _) (fun b hb _ => ⟨fun h => by have := (K0.blk b h).2; omega, by have := K0.rv.lt; omega⟩)
        exact h1.sl enSt_len
      obtain ⟨As2, cs2, hsv, -⟩ := hst.form enSt_len
      have K2 : Nx2 w w4 v u7 X (m + 1) (k * 25) sv (legalP v bd d) := ⟨K0.below hb4, hst'⟩
      subst hsv
      clear K K0 hst hst' hb4 hc0 hc1 hc2 q0 q1 q2 q3 hl1 CL
      have hl1 := K2.k1.rv.lt
      obtain ⟨M, hM⟩ : ∃ M, (legalP v bd d).length = M := ⟨_, rfl⟩
      have HM := Lib.hid hM
      have hM25 : M ≤ 25 := by have := legal_len v bd d; have := HP.out; omega
      rw [hM] at K2 ⊢
      clear hM
      go_wp2_with fail
      go_loopw [7, 10] (fun vl i wq => ∃ j : Nat, j ≤ M ∧ i = .int .i64 (j : Int) ∧ Nx2 w wq v vl (nxIn v (sp, bd) ((legalP v bd d).take j) X) (m + 1) (k * 25 + j) (.slice As2 M cs2) (legalP v bd d)) (fun _ i _ => M - (intOf i).toNat)
      case atStart => exact ⟨0, Nat.zero_le _, by first | rfl | trivial, K2⟩
      case round =>
        obtain ⟨j, hj, rfl, K2⟩ := hrel
        clear hl1
        have hl1 := K2.k1.rv.lt
        by_cases hlj : j < M
        · obtain ⟨A5, c5, e5, hrd5, -⟩ := K2.st
          simp only [Value.slice.injEq] at e5
          obtain ⟨rfl, -, rfl⟩ := e5
          obtain ⟨b5, o5, s, rfl, -, hb5, hsj, hc5⟩ := hrd5.at_ (i := j) (by rw [HM.out]; exact hlj)
          have HSM := Lib.hid (List.mem_of_getElem? hsj)
          have hsok : StOk v s := legal_parts hd.1 HOK.out.1 HSM.out
          obtain ⟨nb, hnb⟩ : ∃ nb, afterP v bd s = nb := ⟨_, rfl⟩
          have HNB := Lib.hid (show Ok v nb from by rw [← hnb]; exact legal_ok hd.1 HOK.out.1 HSM.out)
          have HS := Lib.hid (show nxIn v (sp, bd) ((legalP v bd d).take (j + 1)) X = addOne (nxIn v (sp, bd) ((legalP v bd d).take j) X) (sp ++ [s], nb) from by rw [takeS hsj, nxIn_snoc, hnb])
          obtain ⟨Y, hY⟩ : ∃ Y, nxIn v (sp, bd) ((legalP v bd d).take j) X = Y := ⟨_, rfl⟩
          rw [hY] at K2 HS
          have hl3 : nb.1.length = n := by have := HNB.out.own.len; have := HP.out; omega
          have hl4 : nb.2.length = n := by have := HNB.out.oth.len; have := HP.out; omega
          have CA := Lib.hid (fun (w9 : World) (h : Below w.heap.size w w9) => after_s v bd HOK.out.1 Ao At co ct w.heap.size s hsok w9 h.size (RO.out w9 h) (RT'.out w9 h) hAo'.out hAt'.out)
          rw [hnb, HLN.out, HMN.out] at CA
          obtain ⟨sf, sto, sd, sh⟩ := s
          have SC := Lib.hid (fun (w9 : World) (h : Below wr.heap.size wr w9) => by
            have e := fun (i : Nat) (u : Value) (hu : (enSt (sf, sto, sd, sh))[i]? = some u) => ((Below.cell h (p := ⟨b5, o5 + j * 4 + i, none⟩) hb5).trans (hc5 i u hu))
            have h0 : w9.cell? ⟨b5, o5 + j * 4, none⟩ = some (.int .i64 sf) := e 0 _ rfl
            exact (⟨h0, e 1 _ rfl, e 2 _ rfl, e 3 _ rfl⟩ : w9.cell? ⟨b5, o5 + j * 4, none⟩ = some (.int .i64 sf) ∧ w9.cell? ⟨b5, o5 + j * 4 + 1, none⟩ = some (.int .i64 sto) ∧ w9.cell? ⟨b5, o5 + j * 4 + 2, none⟩ = some (.int .i64 sd) ∧ w9.cell? ⟨b5, o5 + j * 4 + 3, none⟩ = some (.bool sh)))
          have hji : (j : Int) < (M : Int) := by omega
          have hwj : IntKind.i64.wrap ((j : Int) + 1) = (j : Int) + 1 := IntWalk.i64_in _ (by omega)
          simp only at CA
          have HB0 : w.heap.size ≤ wr.heap.size := K2.k1.bel.size
          have BE := Lib.hid K2.k1.bel
          have RV := Lib.hid K2.k1.rv
          clear hY hnb hsj hc5 hsok hrd5 hb5
          go_wp2_with fail
          refine region_rel [some 33, some 34, some 35, some 36, some 37, some 38, some 39, some 40, some 41, some 42, some 43, some 11, none] 13 (Pl [some (.agg #[.int .i64 v.p, .int .i64 v.c, .int .i64 v.h, .int .i64 v.s]), some (.slice (some ⟨b1, o1, none⟩) N cp), some (.int .i64 (k : Int)), some (.pointer (some ⟨b1, o1 + k * 3, none⟩)), some (.pointer (some ⟨b1, o1 + k * 3 + 1, none⟩)), some (.agg #[.slice Ao n co, .slice At n ct]), some (.slice (some ⟨b5, o5, none⟩) M cs2), some (.int .i64 (j : Int)), some (.pointer (some ⟨b5, o5 + j * 4, none⟩)), some (.agg #[.int .i64 sf, .int .i64 sto, .int .i64 sd, .bool sh]), none, none, none]) (fun L vals w' => BdF wr nb n (L 10) (L 11) (L 12) (vals 10) (vals 11) w') (by kernel_rfl) (by kernel_rfl) (by kernel_rfl) (by kernel_rfl) (by kernel_rfl) (by kernel_rfl) (by kernel_rfl) ?g0_1 ?gst_1 ?gfin_1
          case g0_1 => exact ⟨(Below.refl _ _).drew, fun h => absurd h (by decide), fun h => absurd h (by decide), fun h => absurd h (by decide)⟩
          case gst_1 =>
            refine RelFrom.run rfl (fun L vals A w9 hno hdl hcl hu hp h0 F K hK => ?_) ?_
            · have e3 : A.tmps[3]?.getD undef = .pointer (some ⟨w.heap.size, 0, none⟩) := h0 3 (fun j _ hj => absurd (List.mem_of_getElem? hj) (by decide))
              clear hu h0 hp
              have hbx := BE.out.trans (F.bel.mono BE.out.size)
              have pc := PC.out w9 hbx
              have c0 := pc.1
              have c1 := pc.2.1
              have c2 := pc.2.2
              have sc := SC.out w9 F.bel
              have d0 := sc.1
              have d1 := sc.2.1
              have d2 := sc.2.2.1
              have d3 := sc.2.2.2
              have rq := (RV.out.below F.bel RV.out.lt).c4
              have q0 := rq.1
              have q1 := rq.2.1
              have q2 := rq.2.2.1
              have q3 := rq.2.2.2
              clear hbx pc sc rq
              go_simp
              exact hK.out _ w9 (Pl.fix rfl) (F.skip 0 _ (by decide) (by decide) (by decide))
            refine RelFrom.run rfl (fun L vals A w9 hno hdl hcl hu hp h0 F K hK => ?_) ?_
            · have e1 : A.tmps[1]?.getD undef = .slice (some ⟨b1, o1, none⟩) N cp := h0 1 (fun j _ hj => absurd (List.mem_of_getElem? hj) (by decide))
              clear hu h0 hp
              have hbx := BE.out.trans (F.bel.mono BE.out.size)
              have pc := PC.out w9 hbx
              have c0 := pc.1
              have c1 := pc.2.1
              have c2 := pc.2.2
              have sc := SC.out w9 F.bel
              have d0 := sc.1
              have d1 := sc.2.1
              have d2 := sc.2.2.1
              have d3 := sc.2.2.2
              have rq := (RV.out.below F.bel RV.out.lt).c4
              have q0 := rq.1
              have q1 := rq.2.1
              have q2 := rq.2.2.1
              have q3 := rq.2.2.2
              clear hbx pc sc rq
              go_simp
              exact hK.out _ w9 (Pl.fix rfl) (F.skip 1 _ (by decide) (by decide) (by decide))
            refine RelFrom.run rfl (fun L vals A w9 hno hdl hcl hu hp h0 F K hK => ?_) ?_
            · have e8 : A.tmps[8]?.getD undef = .int .i64 (k : Int) := h0 8 (fun j _ hj => absurd (List.mem_of_getElem? hj) (by decide))
              clear hu h0 hp
              have hbx := BE.out.trans (F.bel.mono BE.out.size)
              have pc := PC.out w9 hbx
              have c0 := pc.1
              have c1 := pc.2.1
              have c2 := pc.2.2
              have sc := SC.out w9 F.bel
              have d0 := sc.1
              have d1 := sc.2.1
              have d2 := sc.2.2.1
              have d3 := sc.2.2.2
              have rq := (RV.out.below F.bel RV.out.lt).c4
              have q0 := rq.1
              have q1 := rq.2.1
              have q2 := rq.2.2.1
              have q3 := rq.2.2.2
              clear hbx pc sc rq
              go_simp
              exact hK.out _ w9 (Pl.fix rfl) (F.skip 2 _ (by decide) (by decide) (by decide))
            refine RelFrom.run rfl (fun L vals A w9 hno hdl hcl hu hp h0 F K hK => ?_) ?_
            · have e34 : A.tmps[34]?.getD undef = .slice (some ⟨b1, o1, none⟩) N cp := (hu 1 34 (by kernel_rfl) rfl).trans (hp 1 (by kernel_rfl) _ rfl)
              have e35 : A.tmps[35]?.getD undef = .int .i64 (k : Int) := (hu 2 35 (by kernel_rfl) rfl).trans (hp 2 (by kernel_rfl) _ rfl)
              clear hu h0 hp
              have hbx := BE.out.trans (F.bel.mono BE.out.size)
              have pc := PC.out w9 hbx
              have c0 := pc.1
              have c1 := pc.2.1
              have c2 := pc.2.2
              have sc := SC.out w9 F.bel
              have d0 := sc.1
              have d1 := sc.2.1
              have d2 := sc.2.2.1
              have d3 := sc.2.2.2
              have rq := (RV.out.below F.bel RV.out.lt).c4
              have q0 := rq.1
              have q1 := rq.2.1
              have q2 := rq.2.2.1
              have q3 := rq.2.2.2
              clear hbx pc sc rq
              go_simp
              exact hK.out _ w9 (Pl.fix rfl) (F.skip 3 _ (by decide) (by decide) (by decide))
            refine RelFrom.run rfl (fun L vals A w9 hno hdl hcl hu hp h0 F K hK => ?_) ?_
            · have e36 : A.tmps[36]?.getD undef = .pointer (some ⟨b1, o1 + k * 3, none⟩) := (hu 3 36 (by kernel_rfl) rfl).trans (hp 3 (by kernel_rfl) _ rfl)
              clear hu h0 hp
              have hbx := BE.out.trans (F.bel.mono BE.out.size)
              have pc := PC.out w9 hbx
              have c0 := pc.1
              have c1 := pc.2.1
              have c2 := pc.2.2
              have sc := SC.out w9 F.bel
              have d0 := sc.1
              have d1 := sc.2.1
              have d2 := sc.2.2.1
              have d3 := sc.2.2.2
              have rq := (RV.out.below F.bel RV.out.lt).c4
              have q0 := rq.1
              have q1 := rq.2.1
              have q2 := rq.2.2.1
              have q3 := rq.2.2.2
              clear hbx pc sc rq
              go_simp
              exact hK.out _ w9 (Pl.fix rfl) (F.skip 4 _ (by decide) (by decide) (by decide))
            refine RelFrom.run rfl (fun L vals A w9 hno hdl hcl hu hp h0 F K hK => ?_) ?_
            · have e37 : A.tmps[37]?.getD undef = .pointer (some ⟨b1, o1 + k * 3 + 1, none⟩) := (hu 4 37 (by kernel_rfl) rfl).trans (hp 4 (by kernel_rfl) _ rfl)
              clear hu h0 hp
              have hbx := BE.out.trans (F.bel.mono BE.out.size)
              have pc := PC.out w9 hbx
              have c0 := pc.1
              have c1 := pc.2.1
              have c2 := pc.2.2
              have sc := SC.out w9 F.bel
              have d0 := sc.1
              have d1 := sc.2.1
              have d2 := sc.2.2.1
              have d3 := sc.2.2.2
              have rq := (RV.out.below F.bel RV.out.lt).c4
              have q0 := rq.1
              have q1 := rq.2.1
              have q2 := rq.2.2.1
              have q3 := rq.2.2.2
              clear hbx pc sc rq
              go_simp
              exact hK.out _ w9 (Pl.fix rfl) (F.skip 5 _ (by decide) (by decide) (by decide))
            refine RelFrom.run rfl (fun L vals A w9 hno hdl hcl hu hp h0 F K hK => ?_) ?_
            · have e9 : A.tmps[9]?.getD undef = .slice (some ⟨b5, o5, none⟩) M cs2 := h0 9 (fun j _ hj => absurd (List.mem_of_getElem? hj) (by decide))
              clear hu h0 hp
              have hbx := BE.out.trans (F.bel.mono BE.out.size)
              have pc := PC.out w9 hbx
              have c0 := pc.1
              have c1 := pc.2.1
              have c2 := pc.2.2
              have sc := SC.out w9 F.bel
              have d0 := sc.1
              have d1 := sc.2.1
              have d2 := sc.2.2.1
              have d3 := sc.2.2.2
              have rq := (RV.out.below F.bel RV.out.lt).c4
              have q0 := rq.1
              have q1 := rq.2.1
              have q2 := rq.2.2.1
              have q3 := rq.2.2.2
              clear hbx pc sc rq
              go_simp
              exact hK.out _ w9 (Pl.fix rfl) (F.skip 6 _ (by decide) (by decide) (by decide))
            refine RelFrom.run rfl (fun L vals A w9 hno hdl hcl hu hp h0 F K hK => ?_) ?_
            · have e10 : A.tmps[10]?.getD undef = .int .i64 (j : Int) := h0 10 (fun j _ hj => absurd (List.mem_of_getElem? hj) (by decide))
              clear hu h0 hp
              have hbx := BE.out.trans (F.bel.mono BE.out.size)
              have pc := PC.out w9 hbx
              have c0 := pc.1
              have c1 := pc.2.1
              have c2 := pc.2.2
              have sc := SC.out w9 F.bel
              have d0 := sc.1
              have d1 := sc.2.1
              have d2 := sc.2.2.1
              have d3 := sc.2.2.2
              have rq := (RV.out.below F.bel RV.out.lt).c4
              have q0 := rq.1
              have q1 := rq.2.1
              have q2 := rq.2.2.1
              have q3 := rq.2.2.2
              clear hbx pc sc rq
              go_simp
              exact hK.out _ w9 (Pl.fix rfl) (F.skip 7 _ (by decide) (by decide) (by decide))
            refine RelFrom.run rfl (fun L vals A w9 hno hdl hcl hu hp h0 F K hK => ?_) ?_
            · have e39 : A.tmps[39]?.getD undef = .slice (some ⟨b5, o5, none⟩) M cs2 := (hu 6 39 (by kernel_rfl) rfl).trans (hp 6 (by kernel_rfl) _ rfl)
              have e40 : A.tmps[40]?.getD undef = .int .i64 (j : Int) := (hu 7 40 (by kernel_rfl) rfl).trans (hp 7 (by kernel_rfl) _ rfl)
              clear hu h0 hp
              have hbx := BE.out.trans (F.bel.mono BE.out.size)
              have pc := PC.out w9 hbx
              have c0 := pc.1
              have c1 := pc.2.1
              have c2 := pc.2.2
              have sc := SC.out w9 F.bel
              have d0 := sc.1
              have d1 := sc.2.1
              have d2 := sc.2.2.1
              have d3 := sc.2.2.2
              have rq := (RV.out.below F.bel RV.out.lt).c4
              have q0 := rq.1
              have q1 := rq.2.1
              have q2 := rq.2.2.1
              have q3 := rq.2.2.2
              clear hbx pc sc rq
              go_simp
              exact hK.out _ w9 (Pl.fix rfl) (F.skip 8 _ (by decide) (by decide) (by decide))
            refine RelFrom.run rfl (fun L vals A w9 hno hdl hcl hu hp h0 F K hK => ?_) ?_
            · have e41 : A.tmps[41]?.getD undef = .pointer (some ⟨b5, o5 + j * 4, none⟩) := (hu 8 41 (by kernel_rfl) rfl).trans (hp 8 (by kernel_rfl) _ rfl)
              clear hu h0 hp
              have hbx := BE.out.trans (F.bel.mono BE.out.size)
              have pc := PC.out w9 hbx
              have c0 := pc.1
              have c1 := pc.2.1
              have c2 := pc.2.2
              have sc := SC.out w9 F.bel
              have d0 := sc.1
              have d1 := sc.2.1
              have d2 := sc.2.2.1
              have d3 := sc.2.2.2
              have rq := (RV.out.below F.bel RV.out.lt).c4
              have q0 := rq.1
              have q1 := rq.2.1
              have q2 := rq.2.2.1
              have q3 := rq.2.2.2
              clear hbx pc sc rq
              go_simp
              exact hK.out _ w9 (Pl.fix rfl) (F.skip 9 _ (by decide) (by decide) (by decide))
            refine RelFrom.run rfl (fun L vals A w9 hno hdl hcl hu hp h0 F K hK => ?_) ?_
            · have e33 : A.tmps[33]?.getD undef = .agg #[.int .i64 v.p, .int .i64 v.c, .int .i64 v.h, .int .i64 v.s] := (hu 0 33 (by kernel_rfl) rfl).trans (hp 0 (by kernel_rfl) _ rfl)
              have e38 : A.tmps[38]?.getD undef = .agg #[.slice Ao n co, .slice At n ct] := (hu 5 38 (by kernel_rfl) rfl).trans (hp 5 (by kernel_rfl) _ rfl)
              have e42 : A.tmps[42]?.getD undef = .agg #[.int .i64 sf, .int .i64 sto, .int .i64 sd, .bool sh] := (hu 9 42 (by kernel_rfl) rfl).trans (hp 9 (by kernel_rfl) _ rfl)
              clear hu h0 hp
              have hbx := BE.out.trans (F.bel.mono BE.out.size)
              go_simp
              refine (CA.out w9 hbx).mono ?_
              rintro e w6 ⟨A3, c3, A4, c4, rfl, h3, h4, hap, hb6⟩
              rw [hl3] at h3
              rw [hl4] at h4
              simp only [hl3, hl4]
              exact hK.out _ w6 (Pl.any rfl) (by simpa [upd] using F.s10 (fun h => hno (hcl 12 10 (by kernel_rfl) h)) h3 h4 hb6)
            refine RelFrom.run rfl (fun L vals A w9 hno hdl hcl hu hp h0 F K hK => ?_) ?_
            · clear hu h0 hp
              go_simp
              exact hK.out _ _ (Pl.any rfl) (by simpa [upd] using F.s11 (fun h => hno (hcl 12 11 (by kernel_rfl) h)) _ _)
            refine RelFrom.run rfl (fun L vals A w9 hno hdl hcl hu hp h0 F K hK => ?_) ?_
            · have e11 : A.tmps[11]?.getD undef = vals 11 := hu 11 11 (by kernel_rfl) rfl
              have e43 : A.tmps[43]?.getD undef = vals 10 := hu 10 43 (by kernel_rfl) rfl
              clear hu h0 hp
              have q10 := F.f10 (hdl 10 (by kernel_rfl))
              have q11 := F.f11 (hdl 11 (by kernel_rfl)) hno
              refine q11.elim fun g q => ?_
              refine q.elim fun x q => ?_
              refine q.elim fun y q => ?_
              refine q10.elim fun A3 z => ?_
              refine z.elim fun c3 z => ?_
              refine z.elim fun A4 z => ?_
              refine z.elim fun c4 z => ?_
              have e11' := e11.trans q.1
              have e43' := e43.trans z.1
              have cc := q.2.2.c2
              have x0 := cc.1
              have x1 := cc.2
              have xf := q.2.2.frozen
              clear cc e11 e43
              go_simp
              exact hK.out undef _ (Pl.any rfl) (by simpa [upd] using F.s12 (hdl 11 (by kernel_rfl)) q.1 q.2.1 q.2.2 z.1 z.2.1 z.2.2)
            exact RelFrom.nil (by decide)
          case gfin_1 =>
            intro vals w9 hp F
            simp only [Fr, Act.put, List.setIfInBounds_toArray, List.set_cons_zero, List.set_cons_succ, Nat.reduceAdd]
            obtain ⟨g11, A3, c3, A4, c4, e11, hg11, rn, o3, o4⟩ := F.f12 trivial
            have hb9 := F.bel
            clear F hp
            rw [e11]
            have hu7 := K2.k1.blk
            have hHB : ∀ b, wr.heap.size ≤ b → NotIn u7 (w.heap.size + 1) b := fun b hb => ⟨fun h => by have := (hu7 b h).2; omega, by omega⟩
            have HB3 : SlV 1 enI w9 (NotIn u7 (w.heap.size + 1)) (.slice A3 n c3) nb.1 := ((relO 2 1 enI).weak o3 (fun b hb _ => hHB b hb.1) : OwnV 2 1 enI w9 _ _ nb.1).sl enI_len
            have HB4 : SlV 1 enI w9 (NotIn u7 (w.heap.size + 1)) (.slice A4 n c4) nb.2 := ((relO 2 1 enI).weak o4 (fun b hb _ => hHB b hb.1) : OwnV 2 1 enI w9 _ _ nb.2).sl enI_len
            have K2 := K2.below hb9
            have SC := Lib.hid (fun (w8 : World) (h : Below w9.heap.size w9 w8) => SC.out w8 (hb9.trans (h.mono hb9.size)))
            clear o3 o4 hHB hu7 e11 CA BE RV HB0 hl1
            have hl1 := K2.k1.rv.lt
            have hl2 := rn.lt
            obtain ⟨z0, z1⟩ := rn.c2
            have FI := Lib.hid (by
              obtain ⟨Ax, cx, ex, kx, -⟩ := HB3
              obtain ⟨Ay, cy, ey, ky, -⟩ := HB4
              simp only [Value.slice.injEq] at ex ey
              obtain ⟨rfl, -, rfl⟩ := ex
              obtain ⟨rfl, -, rfl⟩ := ey
              exact find_s Y nb n (by omega) (row_sides K2.k1.co.ok (by have := HP.out; omega)) hl3 hl4 u7 A3 A4 c3 c4 w9.heap.size w9 (Nat.le_refl _) ((relSl RelP 3 enP).weak (K2.k1.og.sl enP_len (Nat.le_refl _)) (fun _ _ _ => trivial)) kx.rd ky.rd)
            have hl3 := Lib.hid hl3
            have hl4 := Lib.hid hl4
            go_wp2_with fail
            refine FI.out.mono ?_
            rintro e w8 ⟨r, rfl, hr, hb8⟩
            have K2 := K2.below hb8
            have rn := rn.below hb8 rn.lt
            have HB3 := (relV 1 enI).keep HB3 (.below hb8)
            have HB4 := (relV 1 enI).keep HB4 (.below hb8)
            have SC := Lib.hid (fun (w7 : World) (h : Below w8.heap.size w8 w7) => SC.out w7 (hb8.trans (h.mono hb8.size)))
            clear z0 z1 hl1 hl2 hb8 FI hb9
            obtain ⟨x, hx⟩ : ∃ x, hasB Y nb = x := ⟨_, rfl⟩
            rw [hx] at hr
            have HX := Lib.hid hx
            clear hx
            cases x
            case true =>
              have hr : decide (r < 0) = false := hr
              have HS' : nxIn v (sp, bd) ((legalP v bd d).take (j + 1)) X = Y := by rw [HS.out]; exact addOne_has HX.out
              have K9 : Nx2 w w8 v u7 (nxIn v (sp, bd) ((legalP v bd d).take (j + 1)) X) (m + 1) (k * 25 + (j + 1)) (.slice (some ⟨b5, o5, none⟩) M cs2) (legalP v bd d) := by
                rw [HS']
                exact ⟨⟨K2.k1.bel, K2.k1.rv, K2.k1.og, K2.k1.co.more (by omega)⟩, K2.st⟩
              clear K2 HS'
              go_wp2_with fail
              go_roundw
              case rel => exact ⟨j + 1, by omega, by go_num, K9⟩
              case measure => simp [intOf]; omega
            case false =>
              have hr : decide (r < 0) = true := hr
              have hy25 : Y.length ≤ 1000000 := by have := K2.k1.co.len; omega
              have HSN := Lib.hid (show nxIn v (sp, bd) ((legalP v bd d).take (j + 1)) X = Y ++ [(sp ++ [(sf, sto, sd, sh)], nb)] from by rw [HS.out]; exact addOne_new HX.out)
              have hco := K2.k1.co.add (p := (sp ++ [(sf, sto, sd, sh)], nb)) ⟨HNB.out, by simp [HOK.out.2]⟩
              rw [addOne_new (show hasB Y nb = false from HX.out)] at hco
              have hs8 : w.heap.size + 1 ≤ w8.heap.size := K2.k1.rv.lt
              have BE := Lib.hid K2.k1.bel
              have RV := Lib.hid K2.k1.rv
              have OG := Lib.hid K2.k1.og
              have ST_ := Lib.hid K2.st
              have RN := Lib.hid rn
              have RSX := Lib.hid (RS.out w8 BE.out)
              have HB0 : w.heap.size ≤ w8.heap.size := by omega
              have hu7 := Lib.hid K2.k1.blk
              obtain ⟨n15, hn15⟩ : ∃ k, (sp ++ [(sf, sto, sd, sh)]).length = k := ⟨_, rfl⟩
              have HN15 := Lib.hid hn15
              have HCO := Lib.hid hco
              clear K2 rn HX HS hn15 hco RS RO RT'
              go_wp2_with fail
              refine region_rel [some 48, some 49, some 50, some 51, some 52, some 53, some 54, some 55, some 56, some 57, some 58, some 59, some 60, some 61, some 62, some 63, some 64, some 65, some 7] 19 (Pl [some (u7), none, some (.slice (some ⟨b1, o1, none⟩) N cp), some (.int .i64 (k : Int)), some (.pointer (some ⟨b1, o1 + k * 3, none⟩)), some (.pointer (some ⟨b1, o1 + k * 3, none⟩)), some (.slice As ns cs), none, some (.slice (some ⟨b5, o5, none⟩) M cs2), some (.int .i64 (j : Int)), some (.pointer (some ⟨b5, o5 + j * 4, none⟩)), some (.agg #[.int .i64 sf, .int .i64 sto, .int .i64 sd, .bool sh]), none, none, some (.agg #[.slice A3 n c3, .slice A4 n c4]), none, none, none, none]) (fun L vals w' => NxF w w8 u7 Y sp (sf, sto, sd, sh) nb (.slice A3 n c3) (.slice A4 n c4) (L 1) (L 7) (L 12) (L 13) (L 15) (L 16) (L 17) (L 18) (vals 1) (vals 7) (vals 12) (vals 13) (vals 15) (vals 16) (vals 17) (vals 18) w') (by kernel_rfl) (by kernel_rfl) (by kernel_rfl) (by kernel_rfl) (by kernel_rfl) (by kernel_rfl) (by kernel_rfl) ?g0_2 ?gst_2 ?gfin_2
              case g0_2 => exact ⟨fun _ => ⟨(Below.refl _ _).drew, fun h => absurd h (by decide), fun h => absurd h (by decide), fun h => absurd h (by decide), fun h => absurd h (by decide), fun h => h.elim⟩, fun h => absurd h (by decide), fun h => absurd h (by decide), fun h => absurd h (by decide), fun h => absurd h (by decide)⟩
              case gst_2 =>
                refine RelFrom.run rfl (fun L vals A w9 hno hdl hcl hu hp h0 F K hK => ?_) ?_
                · have e7 : A.tmps[7]?.getD undef = u7 := h0 7 (fun j hl hj => by obtain rfl := nd_of _ (by kernel_rfl) j 18 7 hj rfl; exact hno (hcl 18 0 (by kernel_rfl) hl))
                  clear hu h0 hp
                  go_simp
                  exact hK.out _ w9 (Pl.fix rfl) (F.skip 0 _ (by decide) (by decide) (by decide) (by decide) (by decide) (by decide) (by decide) (by decide))
                refine RelFrom.run rfl (fun L vals A w9 hno hdl hcl hu hp h0 F K hK => ?_) ?_
                · clear hu h0 hp
                  have G := F.pre (fun h => hno (hcl 17 1 (by kernel_rfl) h))
                  go_simp
                  exact hK.out _ _ (Pl.any rfl) (by simpa [upd] using F.early (fun h => hno (hcl 15 1 (by kernel_rfl) h)) (fun h => hno (hcl 16 1 (by kernel_rfl) h)) (fun h => hno (hcl 17 1 (by kernel_rfl) h)) (fun h => hno (hcl 18 1 (by kernel_rfl) h)) (G.s4 (fun h => hno (hcl 7 1 (by kernel_rfl) h)) (fun h => hno (hcl 13 1 (by kernel_rfl) h)) (fun h => h) (RowB.own (xs := ([] : List Stp)) (RowB.new _ _ _) enSt_len G.bel.size (by simp) (by decide)) (World.grownBy_alloc _ _ _)))
                refine RelFrom.run rfl (fun L vals A w9 hno hdl hcl hu hp h0 F K hK => ?_) ?_
                · have e1 : A.tmps[1]?.getD undef = .slice (some ⟨b1, o1, none⟩) N cp := h0 1 (fun j _ hj => absurd (List.mem_of_getElem? hj) (by decide))
                  clear hu h0 hp
                  go_simp
                  exact hK.out _ w9 (Pl.fix rfl) (F.skip 2 _ (by decide) (by decide) (by decide) (by decide) (by decide) (by decide) (by decide) (by decide))
                refine RelFrom.run rfl (fun L vals A w9 hno hdl hcl hu hp h0 F K hK => ?_) ?_
                · have e8 : A.tmps[8]?.getD undef = .int .i64 (k : Int) := h0 8 (fun j _ hj => absurd (List.mem_of_getElem? hj) (by decide))
                  clear hu h0 hp
                  go_simp
                  exact hK.out _ w9 (Pl.fix rfl) (F.skip 3 _ (by decide) (by decide) (by decide) (by decide) (by decide) (by decide) (by decide) (by decide))
                refine RelFrom.run rfl (fun L vals A w9 hno hdl hcl hu hp h0 F K hK => ?_) ?_
                · have e50 : A.tmps[50]?.getD undef = .slice (some ⟨b1, o1, none⟩) N cp := (hu 2 50 (by kernel_rfl) rfl).trans (hp 2 (by kernel_rfl) _ rfl)
                  have e51 : A.tmps[51]?.getD undef = .int .i64 (k : Int) := (hu 3 51 (by kernel_rfl) rfl).trans (hp 3 (by kernel_rfl) _ rfl)
                  clear hu h0 hp
                  have G := F.pre (fun h => hno (hcl 17 4 (by kernel_rfl) h))
                  have rb := (RN.out.below G.bel RN.out.lt).c2
                  have z0 := rb.1
                  have z1 := rb.2
                  have hbx := BE.out.trans (G.bel.mono BE.out.size)
                  have pc := PC.out w9 hbx
                  have c0 := pc.1
                  have c1 := pc.2.1
                  have c2 := pc.2.2
                  have sc := SC.out w9 G.bel
                  have d0 := sc.1
                  have d1 := sc.2.1
                  have d2 := sc.2.2.1
                  have d3 := sc.2.2.2
                  have rq := (RV.out.below G.bel RV.out.lt).c4
                  have q0 := rq.1
                  have q1 := rq.2.1
                  have q2 := rq.2.2.1
                  have q3 := rq.2.2.2
                  clear hbx pc sc rq
                  go_simp
                  exact hK.out _ w9 (Pl.fix rfl) (F.skip 4 _ (by decide) (by decide) (by decide) (by decide) (by decide) (by decide) (by decide) (by decide))
                refine RelFrom.run rfl (fun L vals A w9 hno hdl hcl hu hp h0 F K hK => ?_) ?_
                · have e52 : A.tmps[52]?.getD undef = .pointer (some ⟨b1, o1 + k * 3, none⟩) := (hu 4 52 (by kernel_rfl) rfl).trans (hp 4 (by kernel_rfl) _ rfl)
                  clear hu h0 hp
                  have G := F.pre (fun h => hno (hcl 17 5 (by kernel_rfl) h))
                  have rb := (RN.out.below G.bel RN.out.lt).c2
                  have z0 := rb.1
                  have z1 := rb.2
                  have hbx := BE.out.trans (G.bel.mono BE.out.size)
                  have pc := PC.out w9 hbx
                  have c0 := pc.1
                  have c1 := pc.2.1
                  have c2 := pc.2.2
                  have sc := SC.out w9 G.bel
                  have d0 := sc.1
                  have d1 := sc.2.1
                  have d2 := sc.2.2.1
                  have d3 := sc.2.2.2
                  have rq := (RV.out.below G.bel RV.out.lt).c4
                  have q0 := rq.1
                  have q1 := rq.2.1
                  have q2 := rq.2.2.1
                  have q3 := rq.2.2.2
                  clear hbx pc sc rq
                  go_simp
                  exact hK.out _ w9 (Pl.fix rfl) (F.skip 5 _ (by decide) (by decide) (by decide) (by decide) (by decide) (by decide) (by decide) (by decide))
                refine RelFrom.run rfl (fun L vals A w9 hno hdl hcl hu hp h0 F K hK => ?_) ?_
                · have e53 : A.tmps[53]?.getD undef = .pointer (some ⟨b1, o1 + k * 3, none⟩) := (hu 5 53 (by kernel_rfl) rfl).trans (hp 5 (by kernel_rfl) _ rfl)
                  clear hu h0 hp
                  have G := F.pre (fun h => hno (hcl 17 6 (by kernel_rfl) h))
                  have rb := (RN.out.below G.bel RN.out.lt).c2
                  have z0 := rb.1
                  have z1 := rb.2
                  have hbx := BE.out.trans (G.bel.mono BE.out.size)
                  have pc := PC.out w9 hbx
                  have c0 := pc.1
                  have c1 := pc.2.1
                  have c2 := pc.2.2
                  have sc := SC.out w9 G.bel
                  have d0 := sc.1
                  have d1 := sc.2.1
                  have d2 := sc.2.2.1
                  have d3 := sc.2.2.2
                  have rq := (RV.out.below G.bel RV.out.lt).c4
                  have q0 := rq.1
                  have q1 := rq.2.1
                  have q2 := rq.2.2.1
                  have q3 := rq.2.2.2
                  clear hbx pc sc rq
                  go_simp
                  exact hK.out _ w9 (Pl.fix rfl) (F.skip 6 _ (by decide) (by decide) (by decide) (by decide) (by decide) (by decide) (by decide) (by decide))
                refine RelFrom.run rfl (fun L vals A w9 hno hdl hcl hu hp h0 F K hK => ?_) ?_
                · have e49 : A.tmps[49]?.getD undef = vals 1 := hu 1 49 (by kernel_rfl) rfl
                  have e54 : A.tmps[54]?.getD undef = .slice As ns cs := (hu 6 54 (by kernel_rfl) rfl).trans (hp 6 (by kernel_rfl) _ rfl)
                  clear hu h0 hp
                  have G := F.pre (fun h => hno (hcl 17 7 (by kernel_rfl) h))
                  have o4 := G.f4 (hdl 1 (by kernel_rfl)) hno
                  refine wp_app (en := enSt) _ _ _ rfl w8.heap.size w9.heap.size 71 i4 (.agg #[.int .i64 0, .int .i64 0, .int .i64 0, .bool false]) 4 32 Try.underlying42 hi4 hz0 hz1 hz2 rfl (by decide) enSt_len (vals 1) [] sp (fun x _ => one_St x) (ev e49) o4 As ns cs w.heap.size (ev e54) HNS.out.symm (RSX.out.below G.bel HB0) (by unfold maxLen; simp; omega) (by simp; omega) G.bel.size (Nat.le_refl _) ?_
                  intro v' w11 ho11 hg11 hat11
                  exact hK.out _ w11 (Pl.any rfl) (by simpa [upd] using F.early (fun h => hno (hcl 15 7 (by kernel_rfl) h)) (fun h => hno (hcl 16 7 (by kernel_rfl) h)) (fun h => hno (hcl 17 7 (by kernel_rfl) h)) (fun h => hno (hcl 18 7 (by kernel_rfl) h)) (G.s7 (hdl 1 (by kernel_rfl)) hno (fun h => hno (hcl 13 7 (by kernel_rfl) h)) (fun h => h) (by simpa using ho11) hg11 hat11))
                refine RelFrom.run rfl (fun L vals A w9 hno hdl hcl hu hp h0 F K hK => ?_) ?_
                · have e9 : A.tmps[9]?.getD undef = .slice (some ⟨b5, o5, none⟩) M cs2 := h0 9 (fun j _ hj => absurd (List.mem_of_getElem? hj) (by decide))
                  clear hu h0 hp
                  go_simp
                  exact hK.out _ w9 (Pl.fix rfl) (F.skip 8 _ (by decide) (by decide) (by decide) (by decide) (by decide) (by decide) (by decide) (by decide))
                refine RelFrom.run rfl (fun L vals A w9 hno hdl hcl hu hp h0 F K hK => ?_) ?_
                · have e10 : A.tmps[10]?.getD undef = .int .i64 (j : Int) := h0 10 (fun j _ hj => absurd (List.mem_of_getElem? hj) (by decide))
                  clear hu h0 hp
                  go_simp
                  exact hK.out _ w9 (Pl.fix rfl) (F.skip 9 _ (by decide) (by decide) (by decide) (by decide) (by decide) (by decide) (by decide) (by decide))
                refine RelFrom.run rfl (fun L vals A w9 hno hdl hcl hu hp h0 F K hK => ?_) ?_
                · have e56 : A.tmps[56]?.getD undef = .slice (some ⟨b5, o5, none⟩) M cs2 := (hu 8 56 (by kernel_rfl) rfl).trans (hp 8 (by kernel_rfl) _ rfl)
                  have e57 : A.tmps[57]?.getD undef = .int .i64 (j : Int) := (hu 9 57 (by kernel_rfl) rfl).trans (hp 9 (by kernel_rfl) _ rfl)
                  clear hu h0 hp
                  have G := F.pre (fun h => hno (hcl 17 10 (by kernel_rfl) h))
                  have rb := (RN.out.below G.bel RN.out.lt).c2
                  have z0 := rb.1
                  have z1 := rb.2
                  have hbx := BE.out.trans (G.bel.mono BE.out.size)
                  have pc := PC.out w9 hbx
                  have c0 := pc.1
                  have c1 := pc.2.1
                  have c2 := pc.2.2
                  have sc := SC.out w9 G.bel
                  have d0 := sc.1
                  have d1 := sc.2.1
                  have d2 := sc.2.2.1
                  have d3 := sc.2.2.2
                  have rq := (RV.out.below G.bel RV.out.lt).c4
                  have q0 := rq.1
                  have q1 := rq.2.1
                  have q2 := rq.2.2.1
                  have q3 := rq.2.2.2
                  clear hbx pc sc rq
                  go_simp
                  exact hK.out _ w9 (Pl.fix rfl) (F.skip 10 _ (by decide) (by decide) (by decide) (by decide) (by decide) (by decide) (by decide) (by decide))
                refine RelFrom.run rfl (fun L vals A w9 hno hdl hcl hu hp h0 F K hK => ?_) ?_
                · have e58 : A.tmps[58]?.getD undef = .pointer (some ⟨b5, o5 + j * 4, none⟩) := (hu 10 58 (by kernel_rfl) rfl).trans (hp 10 (by kernel_rfl) _ rfl)
                  clear hu h0 hp
                  have G := F.pre (fun h => hno (hcl 17 11 (by kernel_rfl) h))
                  have rb := (RN.out.below G.bel RN.out.lt).c2
                  have z0 := rb.1
                  have z1 := rb.2
                  have hbx := BE.out.trans (G.bel.mono BE.out.size)
                  have pc := PC.out w9 hbx
                  have c0 := pc.1
                  have c1 := pc.2.1
                  have c2 := pc.2.2
                  have sc := SC.out w9 G.bel
                  have d0 := sc.1
                  have d1 := sc.2.1
                  have d2 := sc.2.2.1
                  have d3 := sc.2.2.2
                  have rq := (RV.out.below G.bel RV.out.lt).c4
                  have q0 := rq.1
                  have q1 := rq.2.1
                  have q2 := rq.2.2.1
                  have q3 := rq.2.2.2
                  clear hbx pc sc rq
                  go_simp
                  exact hK.out _ w9 (Pl.fix rfl) (F.skip 11 _ (by decide) (by decide) (by decide) (by decide) (by decide) (by decide) (by decide) (by decide))
                refine RelFrom.run rfl (fun L vals A w9 hno hdl hcl hu hp h0 F K hK => ?_) ?_
                · have e59 : A.tmps[59]?.getD undef = .agg #[.int .i64 sf, .int .i64 sto, .int .i64 sd, .bool sh] := (hu 11 59 (by kernel_rfl) rfl).trans (hp 11 (by kernel_rfl) _ rfl)
                  clear hu h0 hp
                  have G := F.pre (fun h => hno (hcl 17 12 (by kernel_rfl) h))
                  go_simp
                  exact hK.out _ _ (Pl.any rfl) (by simpa [upd, enSt] using F.early (fun h => hno (hcl 15 12 (by kernel_rfl) h)) (fun h => hno (hcl 16 12 (by kernel_rfl) h)) (fun h => hno (hcl 17 12 (by kernel_rfl) h)) (fun h => hno (hcl 18 12 (by kernel_rfl) h)) (G.s9 (fun h => hno (hcl 13 12 (by kernel_rfl) h)) (fun h => h)))
                refine RelFrom.run rfl (fun L vals A w9 hno hdl hcl hu hp h0 F K hK => ?_) ?_
                · have e55 : A.tmps[55]?.getD undef = vals 7 := hu 7 55 (by kernel_rfl) rfl
                  have e60 : A.tmps[60]?.getD undef = vals 12 := hu 12 60 (by kernel_rfl) rfl
                  clear hu h0 hp
                  have G := F.pre (fun h => hno (hcl 17 13 (by kernel_rfl) h))
                  have o7 := G.f7 (hdl 7 (by kernel_rfl)) hno
                  have q9 := G.f9 (hdl 12 (by kernel_rfl)) hno
                  refine q9.elim fun g9 q9 => ?_
                  refine wp_app (en := enSt) _ _ _ rfl w8.heap.size w9.heap.size 71 i4 (.agg #[.int .i64 0, .int .i64 0, .int .i64 0, .bool false]) 4 32 Try.underlying42 hi4 hz0 hz1 hz2 rfl (by decide) enSt_len (vals 7) sp [(sf, sto, sd, sh)] (fun x _ => one_St x) (ev e55) o7 (some ⟨g9, 0, none⟩) 1 1 (g9 + 1) ((ev e60).trans q9.1) rfl (rd_row q9.2.2.1 (Nat.lt_succ_self _)) (by rw [HNS.out]; unfold maxLen; omega) (by rw [HNS.out]; omega) G.bel.size (Nat.le_refl _) ?_
                  intro v' w11 ho11 hg11 hat11
                  exact hK.out _ w11 (Pl.any rfl) (by simpa [upd] using F.early (fun h => hno (hcl 15 13 (by kernel_rfl) h)) (fun h => hno (hcl 16 13 (by kernel_rfl) h)) (fun h => hno (hcl 17 13 (by kernel_rfl) h)) (fun h => hno (hcl 18 13 (by kernel_rfl) h)) (G.s10 (hdl 7 (by kernel_rfl)) hno (fun h => h) ho11 hg11))
                refine RelFrom.run rfl (fun L vals A w9 hno hdl hcl hu hp h0 F K hK => ?_) ?_
                · have e11 : A.tmps[11]?.getD undef = .pointer (some ⟨g11, 0, none⟩) := h0 11 (fun j _ hj => absurd (List.mem_of_getElem? hj) (by decide))
                  clear hu h0 hp
                  have G := F.pre (fun h => hno (hcl 17 14 (by kernel_rfl) h))
                  have rb := (RN.out.below G.bel RN.out.lt).c2
                  have z0 := rb.1
                  have z1 := rb.2
                  have hbx := BE.out.trans (G.bel.mono BE.out.size)
                  have pc := PC.out w9 hbx
                  have c0 := pc.1
                  have c1 := pc.2.1
                  have c2 := pc.2.2
                  have sc := SC.out w9 G.bel
                  have d0 := sc.1
                  have d1 := sc.2.1
                  have d2 := sc.2.2.1
                  have d3 := sc.2.2.2
                  have rq := (RV.out.below G.bel RV.out.lt).c4
                  have q0 := rq.1
                  have q1 := rq.2.1
                  have q2 := rq.2.2.1
                  have q3 := rq.2.2.2
                  clear hbx pc sc rq
                  go_simp
                  exact hK.out _ w9 (Pl.fix rfl) (F.skip 14 _ (by decide) (by decide) (by decide) (by decide) (by decide) (by decide) (by decide) (by decide))
                refine RelFrom.run rfl (fun L vals A w9 hno hdl hcl hu hp h0 F K hK => ?_) ?_
                · have e61 : A.tmps[61]?.getD undef = vals 13 := hu 13 61 (by kernel_rfl) rfl
                  have e62 : A.tmps[62]?.getD undef = .agg #[.slice A3 n c3, .slice A4 n c4] := (hu 14 62 (by kernel_rfl) rfl).trans (hp 14 (by kernel_rfl) _ rfl)
                  clear hu h0 hp
                  have G := F.pre (fun h => hno (hcl 17 15 (by kernel_rfl) h))
                  have o13 := G.f10 (hdl 13 (by kernel_rfl))
                  refine (o13.form enSt_len).elim fun A13 h13 => ?_
                  refine h13.elim fun c13 h13 => ?_
                  have hv13 : vals 13 = .slice A13 n15 c13 := by rw [← HN15.out]; exact h13.1
                  clear h13
                  have e61' := e61.trans hv13
                  clear e61
                  go_simp
                  exact hK.out _ _ (Pl.any rfl) (by rw [← hv13]; simpa [upd] using F.s15 (fun h => hno (hcl 16 15 (by kernel_rfl) h)) (fun h => hno (hcl 17 15 (by kernel_rfl) h)) (fun h => hno (hcl 18 15 (by kernel_rfl) h)))
                refine RelFrom.run rfl (fun L vals A w9 hno hdl hcl hu hp h0 F K hK => ?_) ?_
                · have e63 : A.tmps[63]?.getD undef = vals 15 := hu 15 63 (by kernel_rfl) rfl
                  clear hu h0 hp
                  have e63' := e63.trans (F.f15 (hdl 15 (by kernel_rfl)))
                  clear e63
                  go_simp
                  exact hK.out _ _ (Pl.any rfl) (by simpa [upd] using F.s16 (hdl 7 (by kernel_rfl)) (hdl 13 (by kernel_rfl)) (fun h => hno (hcl 17 16 (by kernel_rfl) h)) (fun h => hno (hcl 18 16 (by kernel_rfl) h)))
                refine RelFrom.run rfl (fun L vals A w9 hno hdl hcl hu hp h0 F K hK => ?_) ?_
                · have e48 : A.tmps[48]?.getD undef = u7 := (hu 0 48 (by kernel_rfl) rfl).trans (hp 0 (by kernel_rfl) _ rfl)
                  have e64 : A.tmps[64]?.getD undef = vals 16 := hu 16 64 (by kernel_rfl) rfl
                  clear hu h0 hp
                  have G := F.pre hno
                  have o13 := G.f10 (hdl 13 (by kernel_rfl))
                  refine (o13.form enSt_len).elim fun A13 h13 => ?_
                  refine h13.elim fun c13 h13 => ?_
                  have hv13 : vals 13 = .slice A13 n15 c13 := by rw [← HN15.out]; exact h13.1
                  clear h13
                  have q16 := F.f16 (hdl 16 (by kernel_rfl)) hno
                  refine q16.elim fun g16 q16 => ?_
                  refine ((OG.out.below_ G.bel).more G.bel.size : OwnG RelP w9 (w.heap.size + 1) w9.heap.size 65 3 enP u7 Y).elim fun rs9 hq => ?_
                  have hrl := hq.2.1
                  refine wp_one _ _ _ rfl (w.heap.size + 1) w9.heap.size 65 i3 (.agg #[.slice none 0 0, .slice none 0 0, .slice none 0 0]) 3 72 Try.underlying55 hi3 hy0 hy1 hy2 rfl (by decide) enP_len u7 rs9 (vals 13, .slice A3 n c3, .slice A4 n c4) (one_P _ ⟨by rw [hv13]; rfl, rfl, rfl⟩) (ev e48) hq.1 g16 1 65 ((ev e64).trans q16.1) q16.2 (by unfold maxLen; omega) (by omega) (by have := G.bel.size; omega) ?_
                  intro g14 c14 w12 ho12 hg12 hat12 hlt12
                  have hxR : RelP.R w9 (NotIn u7 (w.heap.size + 1)) (vals 13, .slice A3 n c3, .slice A4 n c4) (sp ++ [(sf, sto, sd, sh)], nb) := ⟨OwnV.of o13 (Nat.le_refl _) (fun b hb _ => ⟨fun h => by have := (hu7.out b h).2; omega, by omega⟩), (relV 1 enI).keep HB3 (.below G.bel), (relV 1 enI).keep HB4 (.below G.bel)⟩
                  exact hK.out _ w12 (Pl.any rfl) (by simpa [upd] using F.s17 (fun h => hno (hcl 18 17 (by kernel_rfl) h)) rfl (own_snoc hq.2 hxR ho12 hg12 hat12) (below_grown G.bel hg12) (hat12.imp (fun h => h) (fun h => by rw [h]; exact G.bel.size)))
                refine RelFrom.run rfl (fun L vals A w9 hno hdl hcl hu hp h0 F K hK => ?_) ?_
                · have e65 : A.tmps[65]?.getD undef = vals 17 := hu 17 65 (by kernel_rfl) rfl
                  clear hu h0 hp
                  go_simp
                  exact hK.out _ w9 (Pl.any rfl) (by simpa [upd] using F.s18)
                exact RelFrom.nil (by decide)
              case gfin_2 =>
                intro vals w9 hp F
                simp only [Fr, Act.put, List.setIfInBounds_toArray, List.set_cons_zero, List.set_cons_succ, Nat.reduceAdd]
                obtain ⟨g17, k17, c17, e17, ho, hg, hat⟩ := F.f17 trivial
                have e18 := F.f18 trivial
                rw [e17] at e18 ho
                clear F hp e17
                rw [e18]
                have hb17 := hg.size
                have K9 : Nx2 w w9 v (.slice (some ⟨g17, 0, none⟩) k17 c17) (nxIn v (sp, bd) ((legalP v bd d).take (j + 1)) X) (m + 1) (k * 25 + (j + 1)) (.slice (some ⟨b5, o5, none⟩) M cs2) (legalP v bd d) := by
                  rw [HSN.out]
                  exact ⟨⟨BE.out.grown hg BE.out.size (fun g h => by have := (hu7.out g h).1; omega), RV.out.grown hg (fun g h => by have := (hu7.out g h).1; omega), ho, HCO.out⟩, app_still' (K := relV 4 enSt) hg hat ST_.out⟩
                clear ho hg hat e18
                go_wp2_with fail
                go_roundw
                case rel => exact ⟨j + 1, by omega, by go_num, K9⟩
                case measure => simp [intOf]; omega
        · obtain rfl : j = M := by omega
          have hall : nxIn v (sp, bd) ((legalP v bd d).take j) X = nxGo v d (ps.take (k + 1)) [] := by rw [← HM.out, List.take_length]; exact HT.out.symm
          have K9 := K2.k1
          rw [hall] at K9
          have K9 : Nx1 w wr v u7 (nxGo v d (ps.take (k + 1)) []) (m + 1) ((k + 1) * 25) := ⟨K9.bel, K9.rv, K9.og, K9.co.more (by omega)⟩
          clear K2 hall
          go_wp2_with fail
          go_roundw
          case rel => exact ⟨k + 1, by omega, by go_num, K9⟩
          case measure => simp [intOf]; omega
    · obtain rfl : k = N := by omega
      have hall : nxGo v d (ps.take k) [] = nextP v d ps := by rw [← HNN.out, List.take_length]; rfl
      rw [hall] at K
      have hnk : ¬ ((k : Int) < (k : Int)) := by omega
      clear hall
      go_wp2_with fail
      go_ret
      exact ⟨_, rfl, K.og.less (by omega), K.bel⟩
end Go.Proofs.Ytfgkkmhafdbicaa.Bd18
