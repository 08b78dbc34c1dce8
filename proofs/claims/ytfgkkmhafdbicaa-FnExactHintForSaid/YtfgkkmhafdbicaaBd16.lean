/-
  What is kept in memory while plays are collected. Conditions: each theorem's own.
  Plays go on by one step: of the program (goOn). Conditions: each theorem's own.
-/
import Derived.Test.YtfgkkmhafdbicaaPlP
import Derived.Test.YtfgkkmhafdbicaaBd4
import Derived.Test.YtfgkkmhafdbicaaBd7
import Derived.Test.YtfgkkmhafdbicaaBd9
import Derived.Test.YtfgkkmhafdbicaaBd11
import Derived.Test.YtfgkkmhafdbicaaSeen
import Derived.Test.YtfgkkmhafdbicaaRegG
import Derived.Deep.DeepCutAuto

set_option linter.unusedVariables false
set_option linter.unusedSimpArgs false
namespace Go.Proofs.Ytfgkkmhafdbicaa.Bd16
open Go.ChangeShapes Go.WideShapes Go.ChangeAt Go.RowKit Base Ints Own Clone RelG PlP Bd1 Bd5 Bd6 Bd7 Bd8 Bd9 Bd11 RegInv RegF RegG Seen

theorem infoP : (Try.prog.info? 65).map (fun i => (i.zero, i.size, i.bytes)) = some (some (.agg #[.slice none 0 0, .slice none 0 0, .slice none 0 0]), 3, 72) := by kernel_rfl
theorem one_P (r : PRow) (h : r.1.oneCell' = true ∧ r.2.1.oneCell' = true ∧ r.2.2.oneCell' = true) : ∀ u ∈ enP r, u.oneCell' = true := by
  intro u hu; simp [enP] at hu; rcases hu with rfl | rfl | rfl
  · exact h.1
  · exact h.2.1
  · exact h.2.2
theorem three {W : World} {g : Nat} {t : TypeId} {a b c : Value} (h : RowB W g t [a, b, c]) (u v x : Value) : RowB (((W.setCell ⟨g, 0, none⟩ u).setCell ⟨g, 1, none⟩ v).setCell ⟨g, 2, none⟩ x) g t [u, v, x] :=
  ((h.set 0 u).set 1 v).set 2 x
theorem below_three {B : Nat} {w W : World} (h : Below B w W) {g : Nat} (hg : B ≤ g) (u v x : Value) : Below B w (((W.setCell ⟨g, 0, none⟩ u).setCell ⟨g, 1, none⟩ v).setCell ⟨g, 2, none⟩ x) :=
  ((h.setCell (p := ⟨g, 0, none⟩) hg _).setCell (p := ⟨g, 1, none⟩) hg _).setCell (p := ⟨g, 2, none⟩) hg _
/-- A block known whole that reads as one element. -/
theorem rd_row {α : Type} {en : α → List Value} {w : World} {g sz B : Nat} {e : TypeId} {x : α} (h : RowB w g e (en x)) (hg : g < B) : RdS w B sz en (some ⟨g, 0, none⟩) [x] :=
  ⟨by show 1 ≤ maxLen; decide, fun _ => ⟨g, 0, rfl, hg, fun i y hy j u hu => by
    cases i with
    | zero =>
      simp at hy; subst hy
      rw [show 0 + 0 * sz + j = j from by omega, h.cell j]; exact hu
    | succ i => simp at hy⟩⟩
section
variable {ρ α : Type} {K : Rel ρ α} {w w' : World} {lo hi sz : Nat} {e : TypeId} {en : ρ → List Value} {v : Value} {xs : List α}
/-- Behind writes into an elder block. -/
theorem own_low {g : Nat} (h : OwnG K w lo hi e sz en v xs) (hg : w.grownBy w' (some g)) (hl : g < lo) : OwnG K w' lo hi e sz en v xs := by
  obtain ⟨rs, h1, h2⟩ := h
  exact ⟨rs, h1.grown hg (fun k hk => by simp at hk; omega), h2.keep (Still.grown hg (fun k hk hn => by simp at hk; have := hn.2; omega))⟩
/-- An append, put together. -/
theorem own_snoc {rs : List ρ} {r : ρ} {x : α} {g n c : Nat} (h2 : LsR K w (NotIn v lo) rs xs) (hx : K.R w (NotIn v lo) r x) (ho : OwnS w' lo w'.heap.size e sz en (.slice (some ⟨g, 0, none⟩) n c) (rs ++ [r])) (hg : w.grownBy w' v.ownBlock) (hat : v.ownBlock = some g ∨ g = w.heap.size) :
    OwnG K w' lo w'.heap.size e sz en (.slice (some ⟨g, 0, none⟩) n c) (xs ++ [x]) :=
  ⟨rs ++ [r], ho, LsR.snoc ⟨h2.1, fun i r' x' hr hx' => app_still hg hat (h2.2 i r' x' hr hx')⟩ (app_still hg hat hx)⟩
end
theorem app_still' {w w' : World} {lo g n c : Nat} {v : Value} (hg : w.grownBy w' v.ownBlock) (hat : v.ownBlock = some g ∨ w.heap.size ≤ g) {ρ α : Type} {K : Rel ρ α} {r : ρ} {x : α} (h : K.R w (NotIn v lo) r x) : K.R w' (NotIn (.slice (some ⟨g, 0, none⟩) n c) lo) r x := by
  have h1 : K.R w (fun b => NotIn v lo b ∧ b < w.heap.size) r x := K.weak h (fun b hb hl => ⟨hb, hl⟩)
  have h2 := K.keep h1 (Still.grown (S := fun b => NotIn v lo b ∧ b < w.heap.size) hg (fun k hk hn => hn.1.1 hk))
  refine K.weak h2 (fun b hb _ => ⟨?_, hb.1.2⟩)
  intro e
  simp [Value.ownBlock] at e
  subst e
  rcases hat with hat | hat
  · exact hb.1.1 hat
  · have := hb.2; omega
theorem Seen.same {w : World} {b n : Nat} {S S' : List (List UInt8)} (h : Seen w b n S) (hs : ∀ s, s ∈ S ↔ s ∈ S') : Seen w b n S' := by
  obtain ⟨D, h1, h2, h3⟩ := h
  exact ⟨D, h1, h2, fun s hl => by rw [h3 s hl]; congr 2; exact decide_eq_decide.2 (hs _)⟩
def keysP (X : List Pl) : List (List UInt8) := X.map fun q => keyP q.2
/-- Plays that are being collected: the set of their boards' texts, the slice, the variant's box. -/
structure Go1 (w wr : World) (v : Vr) (gs : Nat) (vl : Value) (X : List Pl) (k m : Nat) : Prop where
  bel : Below w.heap.size w wr
  rv : RowB wr w.heap.size 32 [.int .i64 v.p, .int .i64 v.c, .int .i64 v.h, .int .i64 v.s]
  ge : w.heap.size < gs
  sn : Seen wr gs X.length (keysP X)
  og : OwnG RelP wr (gs + 1) wr.heap.size 65 3 enP vl X
  co : Coll v k m X
theorem Go1.below {w wr w' : World} {v : Vr} {gs : Nat} {vl : Value} {X : List Pl} {k m : Nat} (h : Go1 w wr v gs vl X k m) (hb : Below wr.heap.size wr w') : Go1 w w' v gs vl X k m :=
  ⟨h.bel.trans (hb.mono h.bel.size), h.rv.below hb h.rv.lt, h.ge, h.sn.below hb, (h.og.below_ hb).more hb.size, h.co⟩
/-- The box of the play at hand, its legal steps. -/
structure Go2 (w wr : World) (v : Vr) (gs : Nat) (vl : Value) (X : List Pl) (k m : Nat) (g : Nat) (cs : List Value) (sv : Value) (ss : List Stp) : Prop where
  k1 : Go1 w wr v gs vl X k m
  gg : gs < g
  rp : RowB wr g 65 cs
  np : vl.ownBlock ≠ some g
  st : SlV 4 enSt wr (NotIn vl (gs + 1)) sv ss
theorem Go2.below {w wr w' : World} {v : Vr} {gs : Nat} {vl : Value} {X : List Pl} {k m g : Nat} {cs : List Value} {sv : Value} {ss : List Stp} (h : Go2 w wr v gs vl X k m g cs sv ss) (hb : Below wr.heap.size wr w') : Go2 w w' v gs vl X k m g cs sv ss :=
  ⟨h.k1.below hb, h.gg, h.rp.below hb h.rp.lt, h.np, (relV 4 enSt).keep h.st (.below hb)⟩
/-- Behind a store into the set. -/
theorem Go2.put {w wr w' : World} {v : Vr} {gs : Nat} {vl : Value} {X : List Pl} {k m g : Nat} {cs : List Value} {sv : Value} {ss : List Stp} (h : Go2 w wr v gs vl X k m g cs sv ss) (hg : wr.grownBy w' (some gs)) :
    Below w.heap.size w w' ∧ RowB w' w.heap.size 32 [.int .i64 v.p, .int .i64 v.c, .int .i64 v.h, .int .i64 v.s] ∧ OwnG RelP w' (gs + 1) w'.heap.size 65 3 enP vl X ∧ RowB w' g 65 cs ∧ SlV 4 enSt w' (NotIn vl (gs + 1)) sv ss :=
  ⟨h.k1.bel.grown hg h.k1.bel.size (fun k hk => by simp at hk; have := h.k1.ge; omega), h.k1.rv.grown hg (fun k hk => by simp at hk; have := h.k1.ge; omega), (own_low h.k1.og hg (by omega)).more hg.size, h.rp.grown hg (fun k hk => by simp at hk; have := h.gg; omega), (relV 4 enSt).keep h.st (Still.grown hg (fun k hk hn => by simp at hk; have := hn.2; omega))⟩
end Go.Proofs.Ytfgkkmhafdbicaa.Bd16

set_option linter.unusedVariables false
set_option linter.unusedSimpArgs false
namespace Go.Proofs.Ytfgkkmhafdbicaa.Bd17
open Go.ChangeShapes Go.WideShapes Go.ChangeAt Go.RowKit Base Ints Own Clone RelG PlP Bd1 Bd4 Bd5 Bd6 Bd7 Bd8 Bd9 Bd11 RegInv RegF RegG Seen Bd16

/-- The steps of a play with one more: what stands while they are put together. -/
structure GoF (w9 : World) (sp : List Stp) (s : Stp) (p4 p7 p9 p10 p11 : Prop) (v4 v7 v9 v10 v11 : Value) (w' : World) : Prop where
  bel : Below w9.heap.size w9 w'
  f4 : p4 → ¬ p7 → OwnS w' w9.heap.size w'.heap.size 71 4 enSt v4 []
  f7 : p7 → ¬ p10 → OwnS w' w9.heap.size w'.heap.size 71 4 enSt v7 sp
  f9 : p9 → ¬ p10 → ∃ g, v9 = .slice (some ⟨g, 0, none⟩) 1 1 ∧ w9.heap.size ≤ g ∧ RowB w' g 71 (enSt s) ∧ (p4 → ¬ p7 → v4.ownBlock ≠ some g) ∧ (p7 → v7.ownBlock ≠ some g)
  f10 : p10 → OwnS w' w9.heap.size w'.heap.size 71 4 enSt v10 (sp ++ [s])
  f11 : p11 → v11 = v10
theorem GoF.skip {w9 : World} {sp : List Stp} {s : Stp} {L : Nat → Prop} {vals : Nat → Value} {w' : World} (F : GoF w9 sp s (L 4) (L 7) (L 9) (L 10) (L 11) (vals 4) (vals 7) (vals 9) (vals 10) (vals 11) w') (k : Nat) (x : Value) (h4 : 4 ≠ k) (h7 : 7 ≠ k) (h9 : 9 ≠ k) (h10 : 10 ≠ k) (h11 : 11 ≠ k) :
    GoF w9 sp s (4 = k ∨ L 4) (7 = k ∨ L 7) (9 = k ∨ L 9) (10 = k ∨ L 10) (11 = k ∨ L 11) (upd vals k x 4) (upd vals k x 7) (upd vals k x 9) (upd vals k x 10) (upd vals k x 11) w' := by
  rw [or_ne h4, or_ne h7, or_ne h9, or_ne h10, or_ne h11, upd_ne h4, upd_ne h7, upd_ne h9, upd_ne h10, upd_ne h11]; exact F

section
variable {w9 w' w'' : World} {sp : List Stp} {s : Stp} {p4 p7 p9 p10 p11 : Prop} {v4 v7 v9 v10 v11 v' : Value}
theorem GoF.s4 (F : GoF w9 sp s p4 p7 p9 p10 p11 v4 v7 v9 v10 v11 w') {c : Nat} (n7 : ¬ p7) (n10 : ¬ p10) (n11 : ¬ p11) (hown : OwnS w'' w9.heap.size w''.heap.size 71 4 enSt (.slice (some ⟨w'.heap.size, 0, none⟩) 0 c) []) (hg : w'.grownBy w'' none) :
    GoF w9 sp s True p7 p9 p10 p11 (.slice (some ⟨w'.heap.size, 0, none⟩) 0 c) v7 v9 v10 v11 w'' := by
  refine ⟨F.bel.grown hg F.bel.size (fun g h => by simp at h), fun _ _ => hown, fun h => absurd h n7, fun h hn => ?_, fun h => absurd h n10, fun h => absurd h n11⟩
  obtain ⟨g, e, h1, h2, h3, h4⟩ := F.f9 h hn
  refine ⟨g, e, h1, h2.grown hg (fun k hk => by simp at hk), fun _ _ hh => ?_, fun h => absurd h n7⟩
  have := h2.lt
  simp [Value.ownBlock] at hh
  omega
theorem GoF.s7 (F : GoF w9 sp s p4 p7 p9 p10 p11 v4 v7 v9 v10 v11 w') (y4 : p4) (n7 : ¬ p7) (n10 : ¬ p10) (n11 : ¬ p11) (hown : OwnS w'' w9.heap.size w''.heap.size 71 4 enSt v' sp) (hg : w'.grownBy w'' v4.ownBlock) (hat : ∀ g, v'.ownBlock = some g → v4.ownBlock = some g ∨ g = w'.heap.size) :
    GoF w9 sp s p4 True p9 p10 p11 v4 v' v9 v10 v11 w'' := by
  have o4 := F.f4 y4 n7
  refine ⟨F.bel.grown hg F.bel.size (fun g h => (o4.block g h).1), fun _ h => absurd trivial h, fun _ _ => hown, fun h hn => ?_, fun h => absurd h n10, fun h => absurd h n11⟩
  obtain ⟨g, e, h1, h2, h3, h4⟩ := F.f9 h hn
  refine ⟨g, e, h1, h2.grown hg (fun k hk hh => h3 y4 n7 (by rw [hk, hh])), fun _ h => absurd trivial h, fun _ hh => ?_⟩
  rcases hat g hh with h5 | h5
  · exact h3 y4 n7 h5
  · have := h2.lt; omega
theorem GoF.s9 (F : GoF w9 sp s p4 p7 p9 p10 p11 v4 v7 v9 v10 v11 w') (n10 : ¬ p10) (n11 : ¬ p11) :
    GoF w9 sp s p4 p7 True p10 p11 v4 v7 (.slice (some ⟨w'.heap.size, 0, none⟩) 1 1) v10 v11 (w'.alloc (.cells ⟨enSt s⟩ 71)) := by
  refine ⟨F.bel.alloc F.bel.size _, fun h hn => ((F.f4 h hn).alloc _).more (by simp), fun h hn => ((F.f7 h hn).alloc _).more (by simp), fun _ _ => ⟨_, rfl, F.bel.size, RowB.new _ _ _, fun h hn hh => ?_, fun h hh => ?_⟩, fun h => absurd h n10, fun h => absurd h n11⟩
  · have := ((F.f4 h hn).block _ hh).2; omega
  · have := ((F.f7 h n10).block _ hh).2; omega
theorem GoF.s10 (F : GoF w9 sp s p4 p7 p9 p10 p11 v4 v7 v9 v10 v11 w') (y7 : p7) (n10 : ¬ p10) (n11 : ¬ p11) (hown : OwnS w'' w9.heap.size w''.heap.size 71 4 enSt v' (sp ++ [s])) (hg : w'.grownBy w'' v7.ownBlock) :
    GoF w9 sp s p4 p7 p9 True p11 v4 v7 v9 v' v11 w'' := by
  have o7 := F.f7 y7 n10
  exact ⟨F.bel.grown hg F.bel.size (fun g h => (o7.block g h).1), fun _ h => absurd y7 h, fun _ h => absurd trivial h, fun _ h => absurd trivial h, fun _ => hown, fun h => absurd h n11⟩
theorem GoF.s11 (F : GoF w9 sp s p4 p7 p9 p10 p11 v4 v7 v9 v10 v11 w') : GoF w9 sp s p4 p7 p9 p10 True v4 v7 v9 v10 v10 w' :=
  ⟨F.bel, F.f4, F.f7, F.f9, F.f10, fun _ => rfl⟩
end

set_option maxHeartbeats 4000000 in
set_option maxRecDepth 100000 in
theorem goOn_i (v : Vr) (hv : okV v = true) (m : Nat) (hm : m ≤ 10) (ps : List Pl) (hps : RowOk v m ps) (hN : ps.length ≤ 20000) (d : Int) (hd : 1 ≤ d ∧ d ≤ 6) (u : Value) (S0 : Nat → Prop) (w : World) (hu : SlG RelP 3 enP w S0 u ps) :
    Calls Try.prog 90 #[.agg #[.int .i64 v.p, .int .i64 v.c, .int .i64 v.h, .int .i64 v.s], u, .int .i64 d] w fun e w' => ∃ vv, e = .returned vv ∧ OwnG RelP w' w.heap.size w'.heap.size 65 3 enP vv (nextP v d ps) ∧ Below w.heap.size w w' := by
  obtain ⟨i4, hi4, hz0, hz1, hz2⟩ := info_parts infoSt
  obtain ⟨i3, hi3, hy0, hy1, hy2⟩ := info_parts infoP
  have hvv := okV_iff.1 hv
  obtain ⟨Ap, cp, rs, rfl, hrd, hls, -⟩ := hu
  obtain ⟨N, hNN⟩ : ∃ N, ps.length = N := ⟨_, rfl⟩
  rw [hNN] at hN ⊢
  have HNN := Lib.hid hNN
  have HRD := Lib.hid hrd
  have HLS := Lib.hid hls
  have HPS := Lib.hid hps
  obtain ⟨P, hP⟩ : ∃ P : Nat, v.p = (P : Int) := ⟨v.p.toNat, by omega⟩
  have HP := Lib.hid hP
  have hP24 : P ≤ 24 := by omega
  have HC := Lib.hid (show v.c ≤ 15 by omega)
  have HMT : Try.prog.underlying 87 = some (.map 9 4) := by first | exact Try.underlying87 | kernel_rfl
  have HMK : ∀ w : World, (Instr.makeMap 87 none).run Try.prog w = .ok (.map (some w.heap.size)) (w.alloc (.map #[] 0)) := fun _ => rfl
  clear hNN hrd hls hps hP hv hvv
  go_enter Try.func90, Try.ntmps90
  go_upto_region 1 with (fail)
  refine wp_gen (fun W' => Below w.heap.size w W' ∧ RowB W' w.heap.size 32 [.int .i64 v.p, .int .i64 v.c, .int .i64 v.h, .int .i64 v.s]) ⟨by go_grown, RowB.new _ _ _⟩ ?_
  rintro w1 ⟨hb1, rv⟩
  go_upto_region 2 with (fail)
  refine wp_gen (fun W' => Go1 w W' v w1.heap.size (.slice none 0 0) [] (m + 1) 0) ⟨(hb1.alloc hb1.size _), rv.alloc _, rv.lt, Seen.made _, OwnG.nil_ _ _ _ _ _ _ _, Coll.nil _ _⟩ ?_
  intro w2 K
  obtain ⟨gs, hgs⟩ : ∃ g, w1.heap.size = g := ⟨_, rfl⟩
  rw [hgs] at K ⊢
  have hl1 := K.rv.lt
  clear hb1 rv hgs
  go_wp2_with fail
  go_loopw [8, 19] (fun vl i wr => ∃ k : Nat, k ≤ N ∧ i = .int .i64 (k : Int) ∧ Go1 w wr v gs vl (nxGo v d (ps.take k) []) (m + 1) (k * 25)) (fun _ i _ => N - (intOf i).toNat)
  case atStart => exact ⟨0, Nat.zero_le _, by first | rfl | trivial, K⟩
  case round =>
    obtain ⟨k, hk, rfl, K⟩ := hrel
    clear hl1
    have hl1 := K.rv.lt
    by_cases hlt : k < N
    · obtain ⟨b1, o1, r, rfl, -, hb1, hr, hc⟩ := (HRD.out.keep (.below K.bel)).at_ (i := k) (by rw [HLS.out.1, HNN.out]; exact hlt)
      obtain ⟨p, hp, hR⟩ := HLS.out.at_ hr
      have HT := Lib.hid (show nxGo v d (ps.take (k + 1)) [] = nxIn v p (legalP v p.2 d) (nxGo v d (ps.take k) []) from by rw [takeS hp, nxGo_snoc])
      have HOK := Lib.hid (HPS.out p (List.mem_of_getElem? hp))
      obtain ⟨X, hX⟩ : ∃ X, nxGo v d (ps.take k) [] = X := ⟨_, rfl⟩
      rw [hX] at K HT
      clear hX
      obtain ⟨sp, bd⟩ := p
      obtain ⟨r0, rl, rm⟩ := r
      have hR0 := hR.1.sl enSt_len
      have hR1 := hR.2.1
      have hR2 := hR.2.2
      simp only at hR0 hR1 hR2 HOK HT
      obtain ⟨As, cs, rfl, ks, -⟩ := hR0
      obtain ⟨Ao, co, rfl, ko, hAo⟩ := hR1
      obtain ⟨At, ct, rfl, kt, hAt⟩ := hR2
      have hc0 : wr.cell? ⟨b1, o1 + k * 3, none⟩ = some (.slice As sp.length cs) := hc 0 _ rfl
      have hc1 : wr.cell? ⟨b1, o1 + k * 3 + 1, none⟩ = some (.slice Ao bd.1.length co) := hc 1 _ rfl
      have hc2 : wr.cell? ⟨b1, o1 + k * 3 + 2, none⟩ = some (.slice At bd.2.length ct) := hc 2 _ rfl
      have hkn : (k : Int) < (N : Int) := by omega
      have hwk : IntKind.i64.wrap ((k : Int) + 1) = (k : Int) + 1 := IntWalk.i64_in _ (by omega)
      have hln1 := HOK.out.1.own.len
      have hln2 := HOK.out.1.oth.len
      obtain ⟨n, hn⟩ : ∃ n, P + 1 = n := ⟨_, rfl⟩
      have eln : bd.1.length = n := by have := HP.out; omega
      have emn : bd.2.length = n := by have := HP.out; omega
      obtain ⟨ns, hns⟩ : ∃ k, sp.length = k := ⟨_, rfl⟩
      have HNS := Lib.hid hns
      have hns10 : ns ≤ 10 := by have := HOK.out.2; omega
      have hAo' := Lib.hid hAo
      have hAt' := Lib.hid hAt
      have RS := Lib.hid (fun (w9 : World) (h : Below w.heap.size w w9) => (ks.rd.below h (Nat.le_refl _)))
      have RO := Lib.hid (fun (w9 : World) (h : Below w.heap.size w w9) => (ko.rd.below h (Nat.le_refl _)))
      have RT' := Lib.hid (fun (w9 : World) (h : Below w.heap.size w w9) => (kt.rd.below h (Nat.le_refl _)))
      have HLN := Lib.hid eln
      have HMN := Lib.hid emn
      have CL := Lib.hid (fun (w9 : World) (h : Below w.heap.size w w9) => legal_i v bd HOK.out.1 Ao At co ct w.heap.size d hd w9 h.size (RO.out w9 h) (RT'.out w9 h))
      rw [eln, emn] at CL
      rw [eln] at hc1
      rw [emn] at hc2
      rw [hns] at hc0
      clear hr hp hR hc ks ko kt hAo hAt hln1 hln2 eln emn hns
      go_upto_region 6 with (fail)
      refine wp_gen (fun W' => Below wr.heap.size wr W' ∧ RowB W' wr.heap.size 65 [.slice As ns cs, .slice Ao n co, .slice At n ct]) ?_ ?_
      · exact ⟨(Below.refl _ _).alloc (Nat.le_refl _) _, RowB.new _ _ _⟩
      rintro w3 ⟨hb3, rp⟩
      have hgr : gs < wr.heap.size := K.sn.lt
      have hnp : u8.ownBlock ≠ some wr.heap.size := fun h => by obtain ⟨rs9, h9, -⟩ := K.og; have := (h9.block _ h).2; omega
      have K := K.below hb3
      obtain ⟨gp, hgp⟩ : ∃ g, wr.heap.size = g := ⟨_, rfl⟩
      rw [hgp] at rp hgr hnp ⊢
      clear hc0 hc1 hc2 hb1 hb3 hl1 hgp
      obtain ⟨q0, q1, q2, q3⟩ := K.rv.c4
      obtain ⟨p0, p1, p2⟩ := rp.c3
      have hl1 := K.rv.lt
      have hl2 := rp.lt
      go_wp2_with fail
      refine (CL.out w3 K.bel).mono ?_
      rintro e w4 ⟨sv, rfl, hst, hb4⟩
      obtain ⟨As2, cs2, hsv, -⟩ := hst.form enSt_len
      have hst' : SlV 4 enSt w4 (NotIn u8 (gs + 1)) sv (legalP v bd d) := by
        have h1 : OwnV 71 4 enSt w4 (NotIn u8 (gs + 1)) sv (legalP v bd d) := OwnV.of hst (Nat.le_refl _) (fun b hb _ => ⟨fun h => by obtain ⟨rs9, h9, -⟩ := K.og; have := (h9.block _ h).2; omega, by omega⟩)
        exact h1.sl enSt_len
      have K2 : Go2 w w4 v gs u8 X (m + 1) (k * 25) gp [.slice As ns cs, .slice Ao n co, .slice At n ct] sv (legalP v bd d) := ⟨K.below hb4, hgr, rp.below hb4 rp.lt, hnp, hst'⟩
      subst hsv
      clear K rp hst hst' hb4 hgr hnp q0 q1 q2 q3 p0 p1 p2 hl1 hl2
      have hl1 := K2.k1.rv.lt
      obtain ⟨M, hM⟩ : ∃ M, (legalP v bd d).length = M := ⟨_, rfl⟩
      have HM := Lib.hid hM
      have hM25 : M ≤ 25 := by have := legal_len v bd d; have := HP.out; omega
      rw [hM] at K2 ⊢
      clear hM
      go_wp2_with fail
      go_loopw [8, 29] (fun vl i wq => ∃ j : Nat, j ≤ M ∧ i = .int .i64 (j : Int) ∧ Go2 w wq v gs vl (nxIn v (sp, bd) ((legalP v bd d).take j) X) (m + 1) (k * 25 + j) gp [.slice As ns cs, .slice Ao n co, .slice At n ct] (.slice As2 M cs2) (legalP v bd d)) (fun _ i _ => M - (intOf i).toNat)
      case atStart => exact ⟨0, Nat.zero_le _, by first | rfl | trivial, K2⟩
      case round =>
        obtain ⟨j, hj, rfl, K2⟩ := hrel
        clear hl1
        have hl1 := K2.k1.rv.lt
        by_cases hlj : j < M
        · obtain ⟨A5, c5, e5, hrd5, -⟩ := K2.st
          simp only [Value.slice.injEq] at e5
          obtain ⟨rfl, -, rfl⟩ := e5
          obtain ⟨b5, o5, s, rfl, -, hb5, hsj, hc5⟩ := hrd5.at_ (i := j) (by rw [HM.out]; exact hlj)
          have HSM := Lib.hid (List.mem_of_getElem? hsj)
          have hsok : StOk v s := legal_parts hd.1 HOK.out.1 HSM.out
          obtain ⟨nb, hnb⟩ : ∃ nb, afterP v bd s = nb := ⟨_, rfl⟩
          have HNB := Lib.hid (show Ok v nb from by rw [← hnb]; exact legal_ok hd.1 HOK.out.1 HSM.out)
          have HS := Lib.hid (show nxIn v (sp, bd) ((legalP v bd d).take (j + 1)) X = addOne (nxIn v (sp, bd) ((legalP v bd d).take j) X) (sp ++ [s], nb) from by rw [takeS hsj, nxIn_snoc, hnb])
          obtain ⟨Y, hY⟩ : ∃ Y, nxIn v (sp, bd) ((legalP v bd d).take j) X = Y := ⟨_, rfl⟩
          rw [hY] at K2 HS
          have hl3 : nb.1.length = n := by have := HNB.out.own.len; have := HP.out; omega
          have hl4 : nb.2.length = n := by have := HNB.out.oth.len; have := HP.out; omega
          have CA := Lib.hid (fun (w9 : World) (h : Below w.heap.size w w9) => after_i v bd HOK.out.1 Ao At co ct w.heap.size s hsok w9 h.size (RO.out w9 h) (RT'.out w9 h) hAo'.out hAt'.out)
          rw [hnb, HLN.out, HMN.out] at CA
          obtain ⟨sf, sto, sd, sh⟩ := s
          have d0 : wr.cell? ⟨b5, o5 + j * 4, none⟩ = some (.int .i64 sf) := hc5 0 _ rfl
          have d1 : wr.cell? ⟨b5, o5 + j * 4 + 1, none⟩ = some (.int .i64 sto) := hc5 1 _ rfl
          have d2 : wr.cell? ⟨b5, o5 + j * 4 + 2, none⟩ = some (.int .i64 sd) := hc5 2 _ rfl
          have d3 : wr.cell? ⟨b5, o5 + j * 4 + 3, none⟩ = some (.bool sh) := hc5 3 _ rfl
          have hji : (j : Int) < (M : Int) := by omega
          have hwj : IntKind.i64.wrap ((j : Int) + 1) = (j : Int) + 1 := IntWalk.i64_in _ (by omega)
          simp only at CA
          clear hY hnb hsj hc5 hsok hrd5
          go_upto_region 9 with (fail)
          refine wp_gen (fun W' => Below wr.heap.size wr W' ∧ RowB W' wr.heap.size 71 [.int .i64 sf, .int .i64 sto, .int .i64 sd, .bool sh]) ?_ ?_
          · exact ⟨(Below.refl _ _).alloc (Nat.le_refl _) _, RowB.new _ _ _⟩
          rintro w5 ⟨hb5', rs5⟩
          have hg12' : gs < wr.heap.size := K2.k1.sn.lt
          have hn12 : u8.ownBlock ≠ some wr.heap.size := fun h => by obtain ⟨rs9, h9, -⟩ := K2.k1.og; have := (h9.block _ h).2; omega
          have hn12' : gp ≠ wr.heap.size := by have := K2.rp.lt; omega
          have K2 := K2.below hb5'
          obtain ⟨g12, hg12⟩ : ∃ g, wr.heap.size = g := ⟨_, rfl⟩
          rw [hg12] at rs5 hg12' hn12 hn12' ⊢
          clear d0 d1 d2 d3 hb5 hb5' hl1 hg12
          obtain ⟨q0, q1, q2, q3⟩ := K2.k1.rv.c4
          obtain ⟨p0, p1, p2⟩ := K2.rp.c3
          obtain ⟨s0, s1, s2, s3⟩ := rs5.c4
          have hl1 := K2.k1.rv.lt
          have hl2 := K2.rp.lt
          have hl3' := rs5.lt
          go_wp2_with fail
          refine (CA.out w5 K2.k1.bel).mono ?_
          rintro e w6 ⟨A3, c3, A4, c4, rfl, ho3, ho4, hap, hb6⟩
          have hbl5 := K2.k1.bel
          have hn13 : u8.ownBlock ≠ some w6.heap.size := fun h => by obtain ⟨rs9, h9, -⟩ := K2.k1.og; have := (h9.block _ h).2; have := hb6.size; omega
          have hn5 : ∀ b, u8.ownBlock = some b → b < w5.heap.size := fun b h => by obtain ⟨rs9, h9, -⟩ := K2.k1.og; exact (h9.block _ h).2
          have hgs5 : gs < w5.heap.size := K2.k1.sn.lt
          have HB3 : SlV 1 enI w6 (NotIn u8 (gs + 1)) (.slice A3 nb.1.length c3) nb.1 := (OwnV.of ho3 (Nat.le_refl _) (fun b hb _ => ⟨fun h => by have := hn5 b h; omega, by omega⟩) : OwnV 2 1 enI w6 (NotIn u8 (gs + 1)) _ nb.1).sl enI_len
          have HB4 : SlV 1 enI w6 (NotIn u8 (gs + 1)) (.slice A4 nb.2.length c4) nb.2 := (OwnV.of ho4 (Nat.le_refl _) (fun b hb _ => ⟨fun h => by have := hn5 b h; omega, by omega⟩) : OwnV 2 1 enI w6 (NotIn u8 (gs + 1)) _ nb.2).sl enI_len
          have K2 := K2.below hb6
          have rs5 := rs5.below hb6 rs5.lt
          have hl3'' := rs5.lt
          have hgp6 := K2.rp.lt
          rw [hl3] at HB3 ⊢
          rw [hl4] at HB4 ⊢
          clear q0 q1 q2 q3 p0 p1 p2 s0 s1 s2 s3 hl1 hl2 hl3' hb6 ho3 ho4 hap hn5 hbl5 CA
          go_upto_region 10 with (fail)
          refine wp_gen (fun W' => Below w6.heap.size w6 W' ∧ RowB W' w6.heap.size 34 [.slice A3 n c3, .slice A4 n c4]) ?_ ?_
          · exact ⟨(Below.refl _ _).alloc (Nat.le_refl _) _, RowB.new _ _ _⟩
          rintro w7 ⟨hb7, rn⟩
          have K2 := K2.below hb7
          have rs5 := rs5.below hb7 rs5.lt
          have HB3 := (relV 1 enI).keep HB3 (.below hb7)
          have HB4 := (relV 1 enI).keep HB4 (.below hb7)
          have hg13' : gs < w6.heap.size := by omega
          have hn13' : gp < w6.heap.size ∧ g12 < w6.heap.size := ⟨hgp6, hl3''⟩
          obtain ⟨g13, hg13⟩ : ∃ g, w6.heap.size = g := ⟨_, rfl⟩
          rw [hg13] at rn hn13 hg13' hn13' ⊢
          clear hb7 hg13 hl3'' hgs5 hgp6
          obtain ⟨z0, z1⟩ := rn.c2
          have hl1 := rn.lt
          have KEY := Lib.hid (by
            obtain ⟨Ax, cx, ex, kx, -⟩ := HB3
            obtain ⟨Ay, cy, ey, ky, -⟩ := HB4
            simp only [Value.slice.injEq] at ex ey
            obtain ⟨rfl, -, rfl⟩ := ex
            obtain ⟨rfl, -, rfl⟩ := ey
            exact key_i nb.1 nb.2 n hl3 hl4 (by omega) (fun i => ⟨HNB.out.own.nn i, by have := HNB.out.own.top i; have := HC.out; omega⟩) (fun i => ⟨HNB.out.oth.nn i, by have := HNB.out.oth.top i; have := HC.out; omega⟩) A3 A4 c3 c4 w7.heap.size w7 (Nat.le_refl _) kx.rd ky.rd)
          go_wp2_with fail
          refine KEY.out.mono ?_
          rintro e w8 ⟨rfl, hb8⟩
          have K2 := K2.below hb8
          have rs5 := rs5.below hb8 rs5.lt
          have rn := rn.below hb8 rn.lt
          have HB3 := (relV 1 enI).keep HB3 (.below hb8)
          have HB4 := (relV 1 enI).keep HB4 (.below hb8)
          have hl3 := Lib.hid hl3
          have hl4 := Lib.hid hl4
          clear z0 z1 hl1 hb8 KEY
          obtain ⟨key, hkey⟩ : ∃ key : ByteArray, (⟨(keyP (nb.1, nb.2)).toArray⟩ : ByteArray) = key := ⟨_, rfl⟩
          rw [hkey]
          have hkd : key.data.toList = keyP nb := by rw [← hkey]
          have hks : key.size ≤ maxLen := by rw [← hkey]; show (keyP nb).toArray.size ≤ maxLen; rw [List.size_toArray, key_len, hl3.out, hl4.out]; unfold maxLen; omega
          obtain ⟨x, hx⟩ : ∃ x, decide (key.data.toList ∈ keysP Y) = x := ⟨_, rfl⟩
          have HLK := K2.k1.sn.look HMT key hks x hx
          have HXB := Lib.hid (show x = hasB Y nb from by rw [← hx, hkd]; exact has_key (fun q hq => (K2.k1.co.ok q hq).1) HNB.out)
          have HKD := Lib.hid hkd
          have HKS := Lib.hid hks
          clear hkey hkd hks hx
          cases x
          case true =>
            have HS' : nxIn v (sp, bd) ((legalP v bd d).take (j + 1)) X = Y := by rw [HS.out]; exact addOne_has HXB.out.symm
            have K9 : Go2 w w8 v gs u8 (nxIn v (sp, bd) ((legalP v bd d).take (j + 1)) X) (m + 1) (k * 25 + (j + 1)) gp [.slice As ns cs, .slice Ao n co, .slice At n ct] (.slice (some ⟨b5, o5, none⟩) M cs2) (legalP v bd d) := by
              rw [HS']
              exact ⟨⟨K2.k1.bel, K2.k1.rv, K2.k1.ge, K2.k1.sn, K2.k1.og, K2.k1.co.more (by omega)⟩, K2.gg, K2.rp, K2.np, K2.st⟩
            clear K2 HS'
            go_wp2_with fail
            go_roundw
            case rel => exact ⟨j + 1, by omega, by go_num, K9⟩
            case measure => simp [intOf]; omega
          case false =>
            have hy25 : Y.length ≤ 1000000 := by have := K2.k1.co.len; omega
            go_wp2_with (refine Seen.wpL_put rfl _ _ _ _ rfl HMT rfl K2.k1.sn (by unfold maxLen; omega) key HKS.out rfl rfl ?_)
            intro w10 hsn hg10
            obtain ⟨bel, rv, og, rp, st⟩ := K2.put hg10
            have rs5 := rs5.grown hg10 (fun k hk => by simp at hk; omega)
            have rn := rn.grown hg10 (fun k hk => by simp at hk; omega)
            have HB3 := (relV 1 enI).keep HB3 (Still.grown hg10 (fun k hk hn => by simp at hk; have := hn.2; omega))
            have HB4 := (relV 1 enI).keep HB4 (Still.grown hg10 (fun k hk hn => by simp at hk; have := hn.2; omega))
            have hsn : Seen w10 gs (Y ++ [(sp ++ [(sf, sto, sd, sh)], nb)]).length (keysP (Y ++ [(sp ++ [(sf, sto, sd, sh)], nb)])) := by
              rw [List.length_append]
              refine Bd16.Seen.same hsn (fun q => ?_)
              rw [HKD.out]; unfold keysP; rw [List.map_append]; simp [or_comm]
            have HSN := Lib.hid (show nxIn v (sp, bd) ((legalP v bd d).take (j + 1)) X = Y ++ [(sp ++ [(sf, sto, sd, sh)], nb)] from by rw [HS.out]; exact addOne_new HXB.out.symm)
            have hco := K2.k1.co.add (p := (sp ++ [(sf, sto, sd, sh)], nb)) ⟨HNB.out, by simp [HOK.out.2]⟩
            rw [addOne_new (show hasB Y nb = false from HXB.out.symm)] at hco
            have ge := K2.k1.ge
            have gg := K2.gg
            have np := K2.np
            clear K2 hg10 HLK HXB HKD HKS HS
            have RP := Lib.hid rp
            have RS5 := Lib.hid rs5
            have RSX := Lib.hid (RS.out w10 bel)
            have HB0 : w.heap.size ≤ w10.heap.size := bel.size
            have hw1 : IntKind.i64.wrap ((ns : Int) + 1) = ((ns + 1 : Nat) : Int) := by rw [IntWalk.i64_in _ (by omega)]; omega
            have BE := Lib.hid bel
            have RV := Lib.hid rv
            have hgs10 : gs < w10.heap.size := hsn.lt
            have U10 : ∀ b, u8.ownBlock = some b → ¬ w10.heap.size ≤ b := fun b h => by obtain ⟨rs9, h9, -⟩ := og; have := (h9.block _ h).2; omega
            clear bel rv rp rs5
            go_wp2_with fail
            refine region_rel [some 45, some 46, some 47, some 48, some 49, some 50, some 51, some 52, some 53, some 54, some 55, some 15] 12 (Pl [some (.pointer (some ⟨gp, 0, none⟩)), some (.slice As ns cs), some (.int .i64 (ns : Int)), some (.int .i64 ((ns + 1 : Nat) : Int)), none, some (.pointer (some ⟨gp, 0, none⟩)), some (.slice As ns cs), none, some (.agg #[.int .i64 sf, .int .i64 sto, .int .i64 sd, .bool sh]), none, none, none]) (fun L vals w' => GoF w10 sp (sf, sto, sd, sh) (L 4) (L 7) (L 9) (L 10) (L 11) (vals 4) (vals 7) (vals 9) (vals 10) (vals 11) w') (by kernel_rfl) (by kernel_rfl) (by kernel_rfl) (by kernel_rfl) (by kernel_rfl) (by kernel_rfl) (by kernel_rfl) ?g0_1 ?gst_1 ?gfin_1
            case g0_1 => exact ⟨(Below.refl _ _).drew, fun h => absurd h (by decide), fun h => absurd h (by decide), fun h => absurd h (by decide), fun h => absurd h (by decide), fun h => absurd h (by decide)⟩
            case gst_1 =>
              refine RelFrom.run rfl (fun L vals A w9 hno hdl hcl hu hp h0 F K hK => ?_) ?_
              · have e10 : A.tmps[10]?.getD undef = .pointer (some ⟨gp, 0, none⟩) := h0 10 (fun j _ hj => absurd (List.mem_of_getElem? hj) (by decide))
                clear hu h0 hp
                have cp := (RP.out.below F.bel RP.out.lt).c3
                have cs := (RS5.out.below F.bel RS5.out.lt).c4
                have c0 := cp.1
                have d0 := cs.1
                have d1 := cs.2.1
                have d2 := cs.2.2.1
                have d3 := cs.2.2.2
                clear cp cs
                go_simp
                exact hK.out _ w9 (Pl.fix rfl) (F.skip 0 _ (by decide) (by decide) (by decide) (by decide) (by decide))
              refine RelFrom.run rfl (fun L vals A w9 hno hdl hcl hu hp h0 F K hK => ?_) ?_
              · have e45 : A.tmps[45]?.getD undef = .pointer (some ⟨gp, 0, none⟩) := (hu 0 45 (by kernel_rfl) rfl).trans (hp 0 (by kernel_rfl) _ rfl)
                clear hu h0 hp
                have cp := (RP.out.below F.bel RP.out.lt).c3
                have cs := (RS5.out.below F.bel RS5.out.lt).c4
                have c0 := cp.1
                have d0 := cs.1
                have d1 := cs.2.1
                have d2 := cs.2.2.1
                have d3 := cs.2.2.2
                clear cp cs
                go_simp
                exact hK.out _ w9 (Pl.fix rfl) (F.skip 1 _ (by decide) (by decide) (by decide) (by decide) (by decide))
              refine RelFrom.run rfl (fun L vals A w9 hno hdl hcl hu hp h0 F K hK => ?_) ?_
              · have e46 : A.tmps[46]?.getD undef = .slice As ns cs := (hu 1 46 (by kernel_rfl) rfl).trans (hp 1 (by kernel_rfl) _ rfl)
                clear hu h0 hp
                have cp := (RP.out.below F.bel RP.out.lt).c3
                have cs := (RS5.out.below F.bel RS5.out.lt).c4
                have c0 := cp.1
                have d0 := cs.1
                have d1 := cs.2.1
                have d2 := cs.2.2.1
                have d3 := cs.2.2.2
                clear cp cs
                go_simp
                exact hK.out _ w9 (Pl.fix rfl) (F.skip 2 _ (by decide) (by decide) (by decide) (by decide) (by decide))
              refine RelFrom.run rfl (fun L vals A w9 hno hdl hcl hu hp h0 F K hK => ?_) ?_
              · have e47 : A.tmps[47]?.getD undef = .int .i64 (ns : Int) := (hu 2 47 (by kernel_rfl) rfl).trans (hp 2 (by kernel_rfl) _ rfl)
                clear hu h0 hp
                have cp := (RP.out.below F.bel RP.out.lt).c3
                have cs := (RS5.out.below F.bel RS5.out.lt).c4
                have c0 := cp.1
                have d0 := cs.1
                have d1 := cs.2.1
                have d2 := cs.2.2.1
                have d3 := cs.2.2.2
                clear cp cs
                go_simp
                exact hK.out _ w9 (Pl.fix rfl) (F.skip 3 _ (by decide) (by decide) (by decide) (by decide) (by decide))
              refine RelFrom.run rfl (fun L vals A w9 hno hdl hcl hu hp h0 F K hK => ?_) ?_
              · have e48 : A.tmps[48]?.getD undef = .int .i64 ((ns + 1 : Nat) : Int) := (hu 3 48 (by kernel_rfl) rfl).trans (hp 3 (by kernel_rfl) _ rfl)
                clear hu h0 hp
                refine wp_make (en := enSt) _ _ _ rfl w10.heap.size 71 i4 (.agg #[.int .i64 0, .int .i64 0, .int .i64 0, .bool false]) 4 Try.underlying42 hi4 hz0 hz1 .i64 .i64 (ns + 1) rfl (ev e48) (by rw [hz2]; omega) (by unfold maxLen; omega) F.bel.size ?_
                intro w11 ho11 hg11
                exact hK.out _ w11 (Pl.any rfl) (by simpa [upd] using F.s4 (fun h => hno (hcl 7 4 (by kernel_rfl) h)) (fun h => hno (hcl 10 4 (by kernel_rfl) h)) (fun h => hno (hcl 11 4 (by kernel_rfl) h)) ho11 hg11)
              refine RelFrom.run rfl (fun L vals A w9 hno hdl hcl hu hp h0 F K hK => ?_) ?_
              · have e10 : A.tmps[10]?.getD undef = .pointer (some ⟨gp, 0, none⟩) := h0 10 (fun j _ hj => absurd (List.mem_of_getElem? hj) (by decide))
                clear hu h0 hp
                have cp := (RP.out.below F.bel RP.out.lt).c3
                have cs := (RS5.out.below F.bel RS5.out.lt).c4
                have c0 := cp.1
                have d0 := cs.1
                have d1 := cs.2.1
                have d2 := cs.2.2.1
                have d3 := cs.2.2.2
                clear cp cs
                go_simp
                exact hK.out _ w9 (Pl.fix rfl) (F.skip 5 _ (by decide) (by decide) (by decide) (by decide) (by decide))
              refine RelFrom.run rfl (fun L vals A w9 hno hdl hcl hu hp h0 F K hK => ?_) ?_
              · have e50 : A.tmps[50]?.getD undef = .pointer (some ⟨gp, 0, none⟩) := (hu 5 50 (by kernel_rfl) rfl).trans (hp 5 (by kernel_rfl) _ rfl)
                clear hu h0 hp
                have cp := (RP.out.below F.bel RP.out.lt).c3
                have cs := (RS5.out.below F.bel RS5.out.lt).c4
                have c0 := cp.1
                have d0 := cs.1
                have d1 := cs.2.1
                have d2 := cs.2.2.1
                have d3 := cs.2.2.2
                clear cp cs
                go_simp
                exact hK.out _ w9 (Pl.fix rfl) (F.skip 6 _ (by decide) (by decide) (by decide) (by decide) (by decide))
              refine RelFrom.run rfl (fun L vals A w9 hno hdl hcl hu hp h0 F K hK => ?_) ?_
              · have e49 : A.tmps[49]?.getD undef = vals 4 := hu 4 49 (by kernel_rfl) rfl
                have e51 : A.tmps[51]?.getD undef = .slice As ns cs := (hu 6 51 (by kernel_rfl) rfl).trans (hp 6 (by kernel_rfl) _ rfl)
                clear hu h0 hp
                have o4 := F.f4 (hdl 4 (by kernel_rfl)) hno
                refine wp_app (en := enSt) _ _ _ rfl w10.heap.size w9.heap.size 71 i4 (.agg #[.int .i64 0, .int .i64 0, .int .i64 0, .bool false]) 4 32 Try.underlying42 hi4 hz0 hz1 hz2 rfl (by decide) enSt_len (vals 4) [] sp (fun x _ => one_St x) (ev e49) o4 As ns cs w.heap.size (ev e51) HNS.out.symm (RSX.out.below F.bel HB0) (by unfold maxLen; simp; omega) (by simp; omega) F.bel.size (Nat.le_refl _) ?_
                intro v' w11 ho11 hg11 hat11
                exact hK.out _ w11 (Pl.any rfl) (by simpa [upd] using F.s7 (hdl 4 (by kernel_rfl)) hno (fun h => hno (hcl 10 7 (by kernel_rfl) h)) (fun h => hno (hcl 11 7 (by kernel_rfl) h)) (by simpa using ho11) hg11 hat11)
              refine RelFrom.run rfl (fun L vals A w9 hno hdl hcl hu hp h0 F K hK => ?_) ?_
              · have e12 : A.tmps[12]?.getD undef = .pointer (some ⟨g12, 0, none⟩) := h0 12 (fun j _ hj => absurd (List.mem_of_getElem? hj) (by decide))
                clear hu h0 hp
                have cp := (RP.out.below F.bel RP.out.lt).c3
                have cs := (RS5.out.below F.bel RS5.out.lt).c4
                have c0 := cp.1
                have d0 := cs.1
                have d1 := cs.2.1
                have d2 := cs.2.2.1
                have d3 := cs.2.2.2
                clear cp cs
                go_simp
                exact hK.out _ w9 (Pl.fix rfl) (F.skip 8 _ (by decide) (by decide) (by decide) (by decide) (by decide))
              refine RelFrom.run rfl (fun L vals A w9 hno hdl hcl hu hp h0 F K hK => ?_) ?_
              · have e53 : A.tmps[53]?.getD undef = .agg #[.int .i64 sf, .int .i64 sto, .int .i64 sd, .bool sh] := (hu 8 53 (by kernel_rfl) rfl).trans (hp 8 (by kernel_rfl) _ rfl)
                clear hu h0 hp
                go_simp
                exact hK.out _ _ (Pl.any rfl) (by simpa [upd, enSt] using F.s9 (fun h => hno (hcl 10 9 (by kernel_rfl) h)) (fun h => hno (hcl 11 9 (by kernel_rfl) h)))
              refine RelFrom.run rfl (fun L vals A w9 hno hdl hcl hu hp h0 F K hK => ?_) ?_
              · have e52 : A.tmps[52]?.getD undef = vals 7 := hu 7 52 (by kernel_rfl) rfl
                have e54 : A.tmps[54]?.getD undef = vals 9 := hu 9 54 (by kernel_rfl) rfl
                clear hu h0 hp
                have o7 := F.f7 (hdl 7 (by kernel_rfl)) hno
                have q9 := F.f9 (hdl 9 (by kernel_rfl)) hno
                refine q9.elim fun g9 q9 => ?_
                refine wp_app (en := enSt) _ _ _ rfl w10.heap.size w9.heap.size 71 i4 (.agg #[.int .i64 0, .int .i64 0, .int .i64 0, .bool false]) 4 32 Try.underlying42 hi4 hz0 hz1 hz2 rfl (by decide) enSt_len (vals 7) sp [(sf, sto, sd, sh)] (fun x _ => one_St x) (ev e52) o7 (some ⟨g9, 0, none⟩) 1 1 (g9 + 1) ((ev e54).trans q9.1) rfl (rd_row q9.2.2.1 (Nat.lt_succ_self _)) (by rw [HNS.out]; unfold maxLen; omega) (by rw [HNS.out]; omega) F.bel.size (Nat.le_refl _) ?_
                intro v' w11 ho11 hg11 hat11
                exact hK.out _ w11 (Pl.any rfl) (by simpa [upd] using F.s10 (hdl 7 (by kernel_rfl)) hno (fun h => hno (hcl 11 10 (by kernel_rfl) h)) ho11 hg11)
              refine RelFrom.run rfl (fun L vals A w9 hno hdl hcl hu hp h0 F K hK => ?_) ?_
              · have e55 : A.tmps[55]?.getD undef = vals 10 := hu 10 55 (by kernel_rfl) rfl
                clear hu h0 hp
                go_simp
                exact hK.out _ w9 (Pl.any rfl) (by simpa [upd] using F.s11)
              exact RelFrom.nil (by decide)
            case gfin_1 =>
              intro vals w9 hp F
              simp only [Fr, Act.put, List.setIfInBounds_toArray, List.set_cons_zero, List.set_cons_succ, Nat.reduceAdd]
              have o15 := F.f10 trivial
              rw [← F.f11 trivial] at o15
              have hb9 := F.bel
              clear F hp
              generalize vals 11 = v15 at o15 ⊢
              obtain ⟨A15, c15, hv15, -⟩ := o15.form enSt_len
              subst hv15
              obtain ⟨n15, hn15⟩ : ∃ k, (sp ++ [(sf, sto, sd, sh)]).length = k := ⟨_, rfl⟩
              rw [hn15] at o15 ⊢
              clear hn15
              have bel := BE.out.trans (hb9.mono BE.out.size)
              have rv := RV.out.below hb9 RV.out.lt
              have og := (og.below_ hb9).more hb9.size
              have rp := RP.out.below hb9 RP.out.lt
              have st := (relV 4 enSt).keep st (.below hb9)
              have rn := rn.below hb9 rn.lt
              have HB3 := (relV 1 enI).keep HB3 (.below hb9)
              have HB4 := (relV 1 enI).keep HB4 (.below hb9)
              have hsn := hsn.below hb9
              have hls9 := hb9.size
              obtain ⟨rs9, ho9, hl9⟩ := og
              have hrl := Lib.hid hl9.1
              have hu8 : ∀ g, u8.ownBlock = some g → gs + 1 ≤ g ∧ g < w9.heap.size := fun g hg => ho9.block g hg
              have hX15 : OwnV 71 4 enSt w9 (NotIn u8 (gs + 1)) (.slice A15 n15 c15) (sp ++ [(sf, sto, sd, sh)]) := OwnV.of o15 (Nat.le_refl _) (fun b hb hb2 => ⟨fun h => U10 b h hb, by omega⟩)
              clear o15 RS RO RT' RSX hb9 BE RV RP RS5
              obtain ⟨z0, z1⟩ := rn.c2
              have hl1 := rn.lt
              go_wp2_with (at_builtin; go_loud (refine wpL_one rfl _ _ _ rfl (gs + 1) _ 65 i3 (.agg #[.slice none 0 0, .slice none 0 0, .slice none 0 0]) 3 72 Try.underlying55 hi3 hy0 hy1 hy2 rfl (by decide) enP_len u8 rs9 (.slice A15 n15 c15, .slice A3 n c3, .slice A4 n c4) (one_P _ ⟨rfl, rfl, rfl⟩) rfl (ho9.alloc _) w9.heap.size 1 65 rfl (RowB.new _ _ _) ?c1 ?c2 ?c3 ?_))
              case c1 => have := hrl.out; unfold maxLen; omega
              case c2 => have := hrl.out; omega
              case c3 => have := bel.size; have := hsn.lt; go_size
              intro g14 c14 w12 ho12 hg12 hat12 hlt12
              have hbA : Below w9.heap.size w9 (w9.alloc (.cells #[.slice A15 n15 c15, .slice A3 n c3, .slice A4 n c4] 65)) := by go_grown
              have hat12 : u8.ownBlock = some g14 ∨ g14 = (w9.alloc (.cells #[.slice A15 n15 c15, .slice A3 n c3, .slice A4 n c4] 65)).heap.size := by simpa using hat12
              have hsA : (w9.alloc (.cells #[.slice A15 n15 c15, .slice A3 n c3, .slice A4 n c4] 65)).heap.size = w9.heap.size + 1 := by simp
              have hgW : w9.grownBy w12 u8.ownBlock := below_grown (w := w9) hbA hg12
              have hxR : RelP.R (w9.alloc (.cells #[.slice A15 n15 c15, .slice A3 n c3, .slice A4 n c4] 65)) (NotIn u8 (gs + 1)) (.slice A15 n15 c15, .slice A3 n c3, .slice A4 n c4) (sp ++ [(sf, sto, sd, sh)], nb) := RelP.keep ⟨hX15, HB3, HB4⟩ (.below hbA)
              have og := own_snoc (hl9.keep (.below hbA)) hxR ho12 hg12 hat12
              have st := app_still (K := relV 4 enSt) (n := rs9.length + 1) (c := c14) hg12 hat12 ((relV 4 enSt).keep st (.below hbA))
              have np' : (Value.slice (some ⟨g14, 0, none⟩) (rs9.length + 1) c14).ownBlock ≠ some gp := fun h => by
                simp [Value.ownBlock] at h
                rcases hat12 with h9 | h9
                · exact np (by rw [h9, h])
                · have := rp.lt; have := hbA.size; omega
              have K9 : Go2 w w12 v gs (.slice (some ⟨g14, 0, none⟩) (rs9.length + 1) c14) (nxIn v (sp, bd) ((legalP v bd d).take (j + 1)) X) (m + 1) (k * 25 + (j + 1)) gp [.slice As ns cs, .slice Ao n co, .slice At n ct] (.slice (some ⟨b5, o5, none⟩) M cs2) (legalP v bd d) := by
                rw [HSN.out]
                exact ⟨⟨bel.grown hgW bel.size (fun g hg => by have := (hu8 g hg).1; omega), rv.grown hgW (fun g hg => by have := (hu8 g hg).1; omega), ge, hsn.grown hgW (fun hg => by have := (hu8 gs hg).1; omega), og, hco⟩, gg, rp.grown hgW (fun g hg hh => np (by rw [hg, hh])), np', st⟩
              clear og st np' hxR hgW hbA ho12 hg12 hat12 bel rv rp rn HB3 HB4 hsn hls9 ho9 hl9 hu8 hX15 z0 z1 hl1
              go_wp2_with fail
              go_roundw
              case rel => exact ⟨j + 1, by omega, by go_num, K9⟩
              case measure => simp [intOf]; omega
        · obtain rfl : j = M := by omega
          have hall : nxIn v (sp, bd) ((legalP v bd d).take j) X = nxGo v d (ps.take (k + 1)) [] := by rw [← HM.out, List.take_length]; exact HT.out.symm
          have K9 := K2.k1
          rw [hall] at K9
          have K9 : Go1 w wr v gs u8 (nxGo v d (ps.take (k + 1)) []) (m + 1) ((k + 1) * 25) := ⟨K9.bel, K9.rv, K9.ge, K9.sn, K9.og, K9.co.more (by omega)⟩
          clear K2 hall
          go_wp2_with fail
          go_roundw
          case rel => exact ⟨k + 1, by omega, by go_num, K9⟩
          case measure => simp [intOf]; omega
    · obtain rfl : k = N := by omega
      have hall : nxGo v d (ps.take k) [] = nextP v d ps := by rw [← HNN.out, List.take_length]; rfl
      rw [hall] at K
      have hnk : ¬ ((k : Int) < (k : Int)) := by omega
      clear hall
      go_wp2_with fail
      go_ret
      exact ⟨_, rfl, K.og.less (by have := K.ge; omega), K.bel⟩
end Go.Proofs.Ytfgkkmhafdbicaa.Bd17
