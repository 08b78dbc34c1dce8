/-
  l28Read of the reference: what it returns. Conditions: each theorem's own.
-/
import Derived.Test.YtlfdcefgelpgmaaGreatDoorTsJ
import Derived.Test.YtlfdcefgelpgmaaGreatDoorTxU
import Derived.Deep.CutBlock
set_option linter.unusedVariables false
set_option linter.unusedSimpArgs false
namespace Go.Proofs.YtlfdcefgelpgmaaGreatDoor.TsI
open Go.ChangeShapes Go.WideShapes Go.ChangeAt Go.RowKit Base Ints Own JoinN PlP TxP Num Bd1 Bd5 RegF RegG TxI

/-- The boxes of l28Read: a variant, the result, the event under way. -/
structure Bl (w wr : World) (v : Vr) (cs : List Value) : Prop where
  bel : Below w.heap.size w wr
  rv : RowB wr w.heap.size 25 [.int .i64 v.p, .int .i64 v.c, .int .i64 v.h, .int .i64 v.s]
  re : RowB wr (w.heap.size + 1) 28 [.int .i64 0, .int .i64 0, .int .i64 0, .slice none 0 0, .int .i64 0]
  rs : RowB wr (w.heap.size + 2) 28 cs
theorem Bl.below {w wr w' : World} {v : Vr} {cs : List Value} (k : Bl w wr v cs) (hb : Below wr.heap.size wr w') : Bl w w' v cs :=
  ⟨k.bel.trans (hb.mono k.bel.size), k.rv.below hb k.rv.lt, k.re.below hb k.re.lt, k.rs.below hb k.rs.lt⟩
theorem Bl.five {w wr : World} {v : Vr} {a b c d e : Value} (k : Bl w wr v [a, b, c, d, e]) (a2 b2 c2 d2 e2 : Value) :
    Bl w (((((wr.setCell ⟨w.heap.size + 2, 0, none⟩ a2).setCell ⟨w.heap.size + 2, 1, none⟩ b2).setCell ⟨w.heap.size + 2, 2, none⟩ c2).setCell ⟨w.heap.size + 2, 3, none⟩ d2).setCell ⟨w.heap.size + 2, 4, none⟩ e2) v [a2, b2, c2, d2, e2] := by
  have h1 : w.heap.size ≠ w.heap.size + 2 := by omega
  have h2 : w.heap.size + 1 ≠ w.heap.size + 2 := by omega
  exact ⟨below_five k.bel (by omega) _ _ _ _ _, ((((k.rv.other h1 _).other h1 _).other h1 _).other h1 _).other h1 _, ((((k.re.other h2 _).other h2 _).other h2 _).other h2 _).other h2 _, TxI.five k.rs _ _ _ _ _⟩
theorem cell_at {w : World} {bw ow : Nat} {ws : List By} (h : RdS w w.heap.size 1 enBs (some ⟨bw, ow, none⟩) ws) {i : Nat} {x : By} (hx : ws[i]? = some x) : w.cell? ⟨bw, ow + i, none⟩ = some (.string (bs x)) := by
  have hi := (List.getElem?_eq_some_iff.1 hx).1
  obtain ⟨b, o, y, e, hb, hy, hc⟩ := rdBs_at h hi
  simp only [Option.some.injEq, Addr.mk.injEq, and_true] at e
  obtain ⟨rfl, rfl⟩ := e
  rw [hx] at hy
  obtain rfl : x = y := by simpa using hy
  exact hc
theorem spl_ne (c : UInt8) (l : By) : spl c l ≠ [] := by
  cases l with
  | nil => simp [spl]
  | cons y l =>
    unfold spl
    split
    · simp
    · split <;> simp
/-- The event under way, where the first word is known. -/
def gEr (v : Vr) (t w : By) (ws : List By) : Ev :=
  if w = opW then
    (match ws with
    | [a, b] => ⟨1, (valS a).1, (valS b).1, [], 0⟩
    | _ => nulE)
  else if w = reW then
    (match ws with
    | [a] => ⟨3, 0, 0, [], (valS a).1⟩
    | _ => nulE)
  else if w = tuW then
    (if 5 < t.length then
      match rdTI v (t.drop 5) with
      | some (x, y, ss) => ⟨2, x, y, ss, 0⟩
      | none => nulE
    else nulE)
  else nulE
def TrnOk (o : Option (Int × Int × List Stp)) (x y c : Int) (ss : List Stp) : Prop :=
  match o with
  | some r => r = (x, y, ss) ∧ c = 0
  | none => c ≠ 0
/-- A call that returns a roll, an own slice and a code, taken apart, and a box made and written beside it. -/
structure TnF (w1 : World) (o : Option (Int × Int × List Stp)) (p3 p4 p5 p6 p7 p8 p9 p10 p11 : Prop) (v3 v4 v5 v6 v7 v8 v10 v11 : Value) (w' : World) : Prop where
  bel : Below w1.heap.size w1 w'
  f3 : p3 → ∃ (x y : Int) (sv : Value) (c : Int) (ss : List Stp), v3 = .tuple #[.agg #[.int .i64 x, .int .i64 y], sv, .int .i64 c] ∧ OwnS w' w1.heap.size w'.heap.size 91 4 enSt sv ss ∧ TrnOk o x y c ss
  f4 : p4 → v4 = v3
  f5 : p5 → ∀ X S C, v3 = .tuple #[X, S, C] → v5 = X
  f6 : p6 → ∀ X S C, v3 = .tuple #[X, S, C] → v6 = S
  f7 : p7 → ∀ X S C, v3 = .tuple #[X, S, C] → v7 = C
  f8 : p8 → ∃ g, v8 = .pointer (some ⟨g, 0, none⟩) ∧ w1.heap.size ≤ g ∧ (∃ a b, RowB w' g 49 [a, b]) ∧ (p3 → ∀ X S C, v3 = .tuple #[X, S, C] → S.ownBlock ≠ some g)
  f9 : p9 → ∀ x y S C g, v3 = .tuple #[.agg #[x, y], S, C] → v8 = .pointer (some ⟨g, 0, none⟩) → RowB w' g 49 [x, y]
  f10 : p10 → v10 = v6
  f11 : p11 → v11 = v7
section
variable {w1 w' w'' : World} {o : Option (Int × Int × List Stp)} {p3 p4 p5 p6 p7 p8 p9 p10 p11 : Prop} {v3 v4 v5 v6 v7 v8 v10 v11 : Value}
theorem TnF.skip {L : Nat → Prop} {vals : Nat → Value} (F : TnF w1 o (L 3) (L 4) (L 5) (L 6) (L 7) (L 8) (L 9) (L 10) (L 11) (vals 3) (vals 4) (vals 5) (vals 6) (vals 7) (vals 8) (vals 10) (vals 11) w') (k : Nat) (z : Value) (hk : k < 3) :
    TnF w1 o (3 = k ∨ L 3) (4 = k ∨ L 4) (5 = k ∨ L 5) (6 = k ∨ L 6) (7 = k ∨ L 7) (8 = k ∨ L 8) (9 = k ∨ L 9) (10 = k ∨ L 10) (11 = k ∨ L 11) (upd vals k z 3) (upd vals k z 4) (upd vals k z 5) (upd vals k z 6) (upd vals k z 7) (upd vals k z 8) (upd vals k z 10) (upd vals k z 11) w' := by
  have h3 : 3 ≠ k := by omega
  have h4 : 4 ≠ k := by omega
  have h5 : 5 ≠ k := by omega
  have h6 : 6 ≠ k := by omega
  have h7 : 7 ≠ k := by omega
  have h8 : 8 ≠ k := by omega
  have h9 : 9 ≠ k := by omega
  have h10 : 10 ≠ k := by omega
  have h11 : 11 ≠ k := by omega
  rw [or_ne h3, or_ne h4, or_ne h5, or_ne h6, or_ne h7, or_ne h8, or_ne h9, or_ne h10, or_ne h11, upd_ne h3, upd_ne h4, upd_ne h5, upd_ne h6, upd_ne h7, upd_ne h8, upd_ne h10, upd_ne h11]; exact F
theorem TnF.s3 {sv : Value} {x y c : Int} {ss : List Stp} (F : TnF w1 o p3 p4 p5 p6 p7 p8 p9 p10 p11 v3 v4 v5 v6 v7 v8 v10 v11 w') (n4 : ¬ p4) (n5 : ¬ p5) (n6 : ¬ p6) (n7 : ¬ p7) (n9 : ¬ p9) (hb : Below w'.heap.size w' w'') (h : OwnS w'' w'.heap.size w''.heap.size 91 4 enSt sv ss) (hm : TrnOk o x y c ss) :
    TnF w1 o True p4 p5 p6 p7 p8 p9 p10 p11 (.tuple #[.agg #[.int .i64 x, .int .i64 y], sv, .int .i64 c]) v4 v5 v6 v7 v8 v10 v11 w'' :=
  ⟨F.bel.trans (hb.mono F.bel.size), fun _ => ⟨x, y, sv, c, ss, rfl, h.less F.bel.size, hm⟩, fun h => absurd h n4, fun h => absurd h n5, fun h => absurd h n6, fun h => absurd h n7,
    fun h8 => by
      obtain ⟨g, h1, h2, ⟨a, b, h3⟩, h4⟩ := F.f8 h8
      refine ⟨g, h1, h2, ⟨a, b, h3.below hb h3.lt⟩, fun _ X S C e hg => ?_⟩
      simp only [Value.tuple.injEq, Array.mk.injEq, List.cons.injEq, and_true] at e
      obtain ⟨-, rfl, -⟩ := e
      have := (h.block g hg).1
      have := h3.lt
      omega, fun h => absurd h n9, F.f10, F.f11⟩
theorem TnF.s4 (F : TnF w1 o p3 p4 p5 p6 p7 p8 p9 p10 p11 v3 v4 v5 v6 v7 v8 v10 v11 w') : TnF w1 o p3 True p5 p6 p7 p8 p9 p10 p11 v3 v3 v5 v6 v7 v8 v10 v11 w' :=
  ⟨F.bel, F.f3, fun _ => rfl, F.f5, F.f6, F.f7, F.f8, F.f9, F.f10, F.f11⟩
theorem inj3 {X S C X' S' C' : Value} (e : Value.tuple #[X, S, C] = .tuple #[X', S', C']) : X = X' ∧ S = S' ∧ C = C' := by simpa using e
theorem TnF.s5 {X S C : Value} (F : TnF w1 o p3 p4 p5 p6 p7 p8 p9 p10 p11 v3 v4 v5 v6 v7 v8 v10 v11 w') (hv : v3 = .tuple #[X, S, C]) : TnF w1 o p3 p4 True p6 p7 p8 p9 p10 p11 v3 v4 X v6 v7 v8 v10 v11 w' :=
  ⟨F.bel, F.f3, F.f4, fun _ X' S' C' e => (inj3 (hv.symm.trans e)).1, F.f6, F.f7, F.f8, F.f9, F.f10, F.f11⟩
theorem TnF.s6 {X S C : Value} (F : TnF w1 o p3 p4 p5 p6 p7 p8 p9 p10 p11 v3 v4 v5 v6 v7 v8 v10 v11 w') (hv : v3 = .tuple #[X, S, C]) (n10 : ¬ p10) : TnF w1 o p3 p4 p5 True p7 p8 p9 p10 p11 v3 v4 v5 S v7 v8 v10 v11 w' :=
  ⟨F.bel, F.f3, F.f4, F.f5, fun _ X' S' C' e => (inj3 (hv.symm.trans e)).2.1, F.f7, F.f8, F.f9, fun h => absurd h n10, F.f11⟩
theorem TnF.s7 {X S C : Value} (F : TnF w1 o p3 p4 p5 p6 p7 p8 p9 p10 p11 v3 v4 v5 v6 v7 v8 v10 v11 w') (hv : v3 = .tuple #[X, S, C]) (n11 : ¬ p11) : TnF w1 o p3 p4 p5 p6 True p8 p9 p10 p11 v3 v4 v5 v6 C v8 v10 v11 w' :=
  ⟨F.bel, F.f3, F.f4, F.f5, F.f6, fun _ X' S' C' e => (inj3 (hv.symm.trans e)).2.2, F.f8, F.f9, F.f10, fun h => absurd h n11⟩
theorem TnF.s8 (F : TnF w1 o p3 p4 p5 p6 p7 p8 p9 p10 p11 v3 v4 v5 v6 v7 v8 v10 v11 w') (n9 : ¬ p9) {a b : Value} : TnF w1 o p3 p4 p5 p6 p7 True p9 p10 p11 v3 v4 v5 v6 v7 (.pointer (some ⟨w'.heap.size, 0, none⟩)) v10 v11 (w'.alloc (.cells #[a, b] 49)) :=
  ⟨F.bel.alloc F.bel.size _, fun h => by
      obtain ⟨x, y, sv, c, ss, h1, h2, h3⟩ := F.f3 h
      exact ⟨x, y, sv, c, ss, h1, (h2.alloc _).more (by simp), h3⟩, F.f4, F.f5, F.f6, F.f7,
    fun _ => ⟨_, rfl, F.bel.size, ⟨a, b, RowB.new _ _ _⟩, fun h X S C e hg => by
      obtain ⟨x, y, sv, c, ss, h1, h2, h3⟩ := F.f3 h
      have := (inj3 (h1.symm.trans e)).2.1
      subst this
      have := (h2.block _ hg).2
      omega⟩, fun h => absurd h n9, F.f10, F.f11⟩
theorem TnF.s9 {x y S C a b : Value} {g : Nat} (F : TnF w1 o p3 p4 p5 p6 p7 p8 p9 p10 p11 v3 v4 v5 v6 v7 v8 v10 v11 w') (hv : v3 = .tuple #[.agg #[x, y], S, C]) (hv8 : v8 = .pointer (some ⟨g, 0, none⟩)) (hg : w1.heap.size ≤ g) (r : RowB w' g 49 [a, b]) (ha : S.ownBlock ≠ some g) :
    TnF w1 o p3 p4 p5 p6 p7 p8 True p10 p11 v3 v4 v5 v6 v7 v8 v10 v11 ((w'.setCell ⟨g, 0, none⟩ x).setCell ⟨g, 1, none⟩ y) := by
  have r2 : RowB ((w'.setCell ⟨g, 0, none⟩ x).setCell ⟨g, 1, none⟩ y) g 49 [x, y] := (r.set 0 _).set 1 _
  have hgr : w'.grownBy ((w'.setCell ⟨g, 0, none⟩ x).setCell ⟨g, 1, none⟩ y) (some g) := Base.grownBy_trans (Base.grownBy_setCell _ _ _ _) (Base.grownBy_setCell _ _ _ _)
  refine ⟨(F.bel.setCell (p := ⟨g, 0, none⟩) hg _).setCell (p := ⟨g, 1, none⟩) hg _, fun h => ?_, F.f4, F.f5, F.f6, F.f7, fun h => ?_, fun _ x' y' S' C' g' e e8 => ?_, F.f10, F.f11⟩
  · obtain ⟨x2, y2, sv, c, ss, h1, h2, h3⟩ := F.f3 h
    have := (inj3 (h1.symm.trans hv)).2.1
    subst this
    refine ⟨x2, y2, sv, c, ss, h1, ?_, h3⟩
    have := Own.OwnS.far h2 (v := .slice (some ⟨g, 0, none⟩) 1 1) hgr (fun k hk hu => by simp [Value.ownBlock] at hk; subst hk; exact ha hu)
    simpa using this
  · obtain ⟨g2, h1, h2, h3, h4⟩ := F.f8 h
    have : g2 = g := by rw [hv8] at h1; simpa using h1.symm
    subst this
    exact ⟨g2, h1, h2, ⟨_, _, r2⟩, h4⟩
  · have e1 := (inj3 (e.symm.trans hv)).1
    have e2 : g' = g := by rw [hv8] at e8; simpa using e8.symm
    subst e2
    simp only [Value.agg.injEq, Array.mk.injEq, List.cons.injEq, and_true] at e1
    rw [e1.1, e1.2]
    exact r2
theorem TnF.s10 (F : TnF w1 o p3 p4 p5 p6 p7 p8 p9 p10 p11 v3 v4 v5 v6 v7 v8 v10 v11 w') : TnF w1 o p3 p4 p5 p6 p7 p8 p9 True p11 v3 v4 v5 v6 v7 v8 v6 v11 w' :=
  ⟨F.bel, F.f3, F.f4, F.f5, F.f6, F.f7, F.f8, F.f9, fun _ => rfl, F.f11⟩
theorem TnF.s11 (F : TnF w1 o p3 p4 p5 p6 p7 p8 p9 p10 p11 v3 v4 v5 v6 v7 v8 v10 v11 w') : TnF w1 o p3 p4 p5 p6 p7 p8 p9 p10 True v3 v4 v5 v6 v7 v8 v10 v7 w' :=
  ⟨F.bel, F.f3, F.f4, F.f5, F.f6, F.f7, F.f8, F.f9, F.f10, fun _ => rfl⟩
end
set_option maxHeartbeats 4000000 in
set_option maxRecDepth 100000 in
theorem lread_s (v : Vr) (hv : okV v = true) (t : By) (hl : t.length ≤ 4194304) (w : World) :
    Calls Tryz.prog 30 #[.agg #[.int .i64 v.p, .int .i64 v.c, .int .i64 v.h, .int .i64 v.s], .string (bs t)] w fun e w' => EvR (rdE v t) w e w' := by
  obtain ⟨R, hR⟩ : ∃ r, rdE v t = r := ⟨_, rfl⟩
  have hE := rdES_eq hv t
  rw [hR] at hE ⊢
  have HE := Lib.hid hE
  have CS := Lib.hid (fun (w9 : World) => split_s t 32 32 rfl hl w9)
  have HW := Lib.hid (fun x hx => Nat.le_trans (spl_word 32 t x hx) hl)
  have HV := Lib.hid hv
  have HL := Lib.hid hl
  clear hE hR hv hl
  go_enter Tryz.func30, Tryz.ntmps30
  go_upto_region 2 with (fail)
  refine wp_gen (fun W' => Bl w W' v [.int .i64 0, .int .i64 0, .int .i64 0, .slice none 0 0, .int .i64 0]) ⟨by go_grown, ((RowB.new _ _ _).alloc _).alloc _, (RowB.new' _ _ _ (by simp)).alloc _, RowB.new' _ _ _ (by simp)⟩ ?_
  intro w2 K
  have hl2 : w.heap.size + 2 < w2.heap.size := K.rs.lt
  go_wp2_with fail
  refine (CS.out _).mono ?_
  rintro e w3 ⟨sw, rfl, hos, hb3⟩
  have K := K.below hb3
  have hs23 := hb3.size
  have hG0 : gES v t = gES v t := rfl
  obtain ⟨G, hG⟩ : ∃ g, gES v t = g := ⟨_, rfl⟩
  have hGd : gES v t = match spl 32 t with | w :: ws => gEr v t w ws | [] => nulE := rfl
  rw [hG] at hGd
  obtain ⟨ws, hws⟩ : ∃ z, spl 32 t = z := ⟨_, rfl⟩
  rw [hws] at hGd hos HW
  obtain ⟨w0, rest, hcons⟩ : ∃ a l, ws = a :: l := by
    cases hc : ws with
    | nil => exact absurd (hws.trans hc) (spl_ne 32 t)
    | cons a l => exact ⟨a, l, rfl⟩
  subst hcons
  simp only at hGd
  obtain ⟨n, hn⟩ : ∃ n, rest.length = n := ⟨_, rfl⟩
  obtain ⟨Aw, cw, hsw, hrd⟩ := hos.form enBs_len
  rw [List.length_cons, hn] at hsw
  subst hsw
  have HRD := Lib.hid hrd
  obtain ⟨bw, ow, x, rfl, hbw, hx0, hc0⟩ := rdBs_at hrd (i := 0) (by simp)
  have hx0 : w0 = x := by simpa using hx0
  subst hx0
  rw [Nat.add_zero] at hc0
  have HGD := Lib.hid hGd
  have HN := Lib.hid hn
  have HGG := Lib.hid hG
  have HB3 := Lib.hid hb3
  clear hrd hos hGd hn hG hws hG0 hb3 CS
  obtain ⟨q0, q1, q2, q3⟩ := K.rv.c4
  have hlv := K.rv.lt
  obtain ⟨y0, y1, y2, y3, y4⟩ := K.rs.c5
  have hls := K.rs.lt
  have frs := K.rs.frozen
  obtain ⟨b1, hb1⟩ : ∃ b, ((bs w0).toList == [111, 112, 101, 110, 105, 110, 103]) = b := ⟨_, rfl⟩
  obtain ⟨b2, hb2⟩ : ∃ b, ((bs w0).toList == [114, 101, 115, 105, 103, 110]) = b := ⟨_, rfl⟩
  obtain ⟨b3, hb3⟩ : ∃ b, ((bs w0).toList == [116, 117, 114, 110]) = b := ⟨_, rfl⟩
  go_upto_block 0 with fail
  go_cut [8, 9, 10, 11, 12, 13, 14, 15, 16] from 23 (fun s8 s9 s10 s11 s12 s13 s14 s15 s16 wx => ∃ (k a b : Int) (ss : List Stp) (r : Int) (A : Option Addr) (cp : Nat), Bl w wx v [.int .i64 k, .int .i64 a, .int .i64 b, .slice A ss.length cp, .int .i64 r] ∧ Hid (OwnS wx w2.heap.size wx.heap.size 91 4 enSt (.slice A ss.length cp) ss) ∧ Hid (G = ⟨k, a, b, ss, r⟩))
  case first =>
    cases b1
    case true =>
      have hw0 : w0 = opW := by
        rw [ByteArray.toList_eq, bs_data] at hb1
        exact eq_of_beq hb1
      clear hb2 hb3 b2 b3 hx0
      by_cases h2 : n = 2
      · subst h2
        obtain ⟨xa, xb, rfl⟩ : ∃ xa xb, rest = [xa, xb] := by
          have := HN.out
          match rest with
          | [p, q] => exact ⟨p, q, rfl⟩
        have hg : G = ⟨1, (valS xa).1, (valS xb).1, [], 0⟩ := by rw [HGD.out, hw0]; rfl
        have hc1 := cell_at HRD.out (i := 1) (x := xa) rfl
        have hc2 := cell_at HRD.out (i := 2) (x := xb) rfl
        have CA := Lib.hid (fun w9 => val_s xa (HW.out xa (by simp)) w9)
        have CB := Lib.hid (fun w9 => val_s xb (HW.out xb (by simp)) w9)
        obtain ⟨⟨na, oa⟩, hna⟩ : ∃ z, valS xa = z := ⟨_, rfl⟩
        obtain ⟨⟨nb, ob⟩, hnb⟩ : ∃ z, valS xb = z := ⟨_, rfl⟩
        rw [hna] at CA hg
        rw [hnb] at CB hg
        simp only at CA CB hg
        have HGz := Lib.hid hg
        have dn : (((2 : Nat) : Int) + 1 == 3) = true := by decide
        clear hg hna hnb hw0 q0 q1 q2 q3 hlv y0 y1 y2 y3 y4 hls frs HGD
        go_wp2_with fail
        refine (CA.out _).mono ?_
        rintro e w4 ⟨rfl, hb⟩
        have K := K.below hb
        have hc2 := (hb.cell (p := ⟨bw, ow + 2, none⟩) hbw).trans hc2
        clear hb hc1 hc0
        go_wp2_with fail
        refine (CB.out _).mono ?_
        rintro e w5 ⟨rfl, hb⟩
        have K := K.below hb
        obtain ⟨y0, y1, y2, y3, y4⟩ := K.rs.c5
        have hls := K.rs.lt
        have frs := K.rs.frozen
        clear hb hc2
        go_wp2_with fail
        go_meet
        exact ⟨1, na, nb, [], 0, none, 0, K.five _ _ _ _ _, Lib.hid (OwnS.nil_ _ _ _ _ _ _), HGz⟩
      · have hg : G = ⟨0, 0, 0, [], 0⟩ := by
          rw [HGD.out, hw0]
          have := HN.out
          unfold gEr
          rw [if_pos rfl]
          match rest with
          | [] => rfl
          | [p] => rfl
          | [p, q] => exact absurd (HN.out.symm) h2
          | p :: q :: r :: l => rfl
        have HGz := Lib.hid hg
        have dn : ((n : Int) + 1 == 3) = false := by
          refine beq_eq_false_iff_ne.2 ?_
          omega
        clear hg hw0
        go_wp2_with fail
        go_meet
        exact ⟨0, 0, 0, [], 0, none, 0, K, Lib.hid (OwnS.nil_ _ _ _ _ _ _), HGz⟩
    case false =>
      cases b2
      case true =>
        have hw0 : w0 = reW := by
          rw [ByteArray.toList_eq, bs_data] at hb2
          exact eq_of_beq hb2
        clear hb3 b3 hx0
        by_cases h2 : n = 1
        · subst h2
          obtain ⟨xa, rfl⟩ : ∃ xa, rest = [xa] := by
            have := HN.out
            match rest with
            | [p] => exact ⟨p, rfl⟩
          have hg : G = ⟨3, 0, 0, [], (valS xa).1⟩ := by rw [HGD.out, hw0]; rfl
          have hc1 := cell_at HRD.out (i := 1) (x := xa) rfl
          have CA := Lib.hid (fun w9 => val_s xa (HW.out xa (by simp)) w9)
          obtain ⟨⟨na, oa⟩, hna⟩ : ∃ z, valS xa = z := ⟨_, rfl⟩
          rw [hna] at CA hg
          simp only at CA hg
          have HGz := Lib.hid hg
          have dn : (((1 : Nat) : Int) + 1 == 2) = true := by decide
          clear hg hna hw0 q0 q1 q2 q3 hlv y0 y1 y2 y3 y4 hls frs HGD
          go_wp2_with fail
          refine (CA.out _).mono ?_
          rintro e w5 ⟨rfl, hb⟩
          have K := K.below hb
          obtain ⟨y0, y1, y2, y3, y4⟩ := K.rs.c5
          have hls := K.rs.lt
          have frs := K.rs.frozen
          clear hb hc1
          go_wp2_with fail
          go_meet
          exact ⟨3, 0, 0, [], na, none, 0, K.five _ _ _ _ _, Lib.hid (OwnS.nil_ _ _ _ _ _ _), HGz⟩
        · have hg : G = ⟨0, 0, 0, [], 0⟩ := by
            rw [HGD.out, hw0]
            have := HN.out
            unfold gEr
            rw [if_neg (by decide), if_pos rfl]
            match rest with
            | [] => rfl
            | [p] => exact absurd (HN.out.symm) h2
            | p :: q :: l => rfl
          have HGz := Lib.hid hg
          have dn : ((n : Int) + 1 == 2) = false := by
            refine beq_eq_false_iff_ne.2 ?_
            omega
          clear hg hw0
          go_wp2_with fail
          go_meet
          exact ⟨0, 0, 0, [], 0, none, 0, K, Lib.hid (OwnS.nil_ _ _ _ _ _ _), HGz⟩
      case false =>
        cases b3
        case false =>
          have hg : G = ⟨0, 0, 0, [], 0⟩ := by
            rw [HGD.out]
            unfold gEr
            rw [ByteArray.toList_eq, bs_data] at hb1 hb2 hb3
            rw [if_neg (fun h => by rw [h] at hb1; exact absurd hb1 (by decide)), if_neg (fun h => by rw [h] at hb2; exact absurd hb2 (by decide)), if_neg (fun h => by rw [h] at hb3; exact absurd hb3 (by decide))]
            rfl
          have HGz := Lib.hid hg
          clear hg
          go_wp2_with fail
          go_meet
          exact ⟨0, 0, 0, [], 0, none, 0, K, Lib.hid (OwnS.nil_ _ _ _ _ _ _), HGz⟩
        case true =>
          have hw0 : w0 = tuW := by
            rw [ByteArray.toList_eq, bs_data] at hb3
            exact eq_of_beq hb3
          clear hx0
          have hgE : G = if 5 < t.length then (match rdTI v (t.drop 5) with | some (x, y, ss) => ⟨2, x, y, ss, 0⟩ | none => nulE) else nulE := by
            rw [HGD.out, hw0]
            unfold gEr
            rw [if_neg (by decide), if_neg (by decide), if_pos rfl]
          by_cases h5 : 5 < t.length
          rotate_left
          · have hg : G = ⟨0, 0, 0, [], 0⟩ := by rw [hgE, if_neg h5]; rfl
            have HGz := Lib.hid hg
            have d5 : decide ((5 : Int) < ((bs t).size : Int)) = false := decide_eq_false (by rw [bs_size]; omega)
            clear hg hw0 hgE h5
            go_wp2_with fail
            go_meet
            exact ⟨0, 0, 0, [], 0, none, 0, K, Lib.hid (OwnS.nil_ _ _ _ _ _ _), HGz⟩
          rw [if_pos h5, ← rdT_eq HV.out] at hgE
          obtain ⟨O, hO⟩ : ∃ o, rdTS v (t.drop 5) = o := ⟨_, rfl⟩
          have CT := Lib.hid (fun w9 => rturn_s v HV.out (t.drop 5) (by rw [List.length_drop]; have := HL.out; omega) w9)
          rw [hO] at CT hgE
          have HGE := Lib.hid hgE
          obtain ⟨s, hs⟩ : ∃ s, bs t = s := ⟨_, rfl⟩
          have hsd : s.data.toList = t := by rw [← hs]; rfl
          have HZ : Hid (s.size = t.length) := by show _ = _; rw [← hs]; exact bs_size t
          have hx5 : s.extract 5 s.size = bs (t.drop 5) := by rw [Lib.extract_eq, hsd, HZ.out, List.take_of_length_le (by rw [List.length_drop]; exact Nat.le_refl _)]; rfl
          have HS := Lib.hid hs
          rw [hs]
          have hsm : s.size ≤ 4194304 := by rw [HZ.out]; exact HL.out
          have d5 : decide ((5 : Int) < (s.size : Int)) = true := decide_eq_true (by rw [HZ.out]; omega)
          have h5i : (5 : Int) ≤ (s.size : Int) := by rw [HZ.out]; omega
          have h5s : 5 ≤ s.size := by rw [HZ.out]; omega
          clear hw0 hgE h5 hO hs hsd hc0
          go_upto_region 15 with (fail)
          have KB := K
          clear K y0 y1 y2 y3 y4 hls frs q0 q1 q2 q3
          refine region_rel [some 65, some 66, some 67, some 68, some 64, some 69, some 70, some 71, some 14, none, some 15, some 16] 12 (Pl [some (.agg #[.int .i64 v.p, .int .i64 v.c, .int .i64 v.h, .int .i64 v.s]), some (.string s), some (.string (bs (t.drop 5))), none, none, none, none, none, none, none, none, none]) (fun L vals w' => TnF w3 O (L 3) (L 4) (L 5) (L 6) (L 7) (L 8) (L 9) (L 10) (L 11) (vals 3) (vals 4) (vals 5) (vals 6) (vals 7) (vals 8) (vals 10) (vals 11) w') (by kernel_rfl) (by kernel_rfl) (by kernel_rfl) (by kernel_rfl) (by kernel_rfl) (by kernel_rfl) (by kernel_rfl) ?g0_1 ?gst_1 ?gfin_1
          case g0_1 => exact ⟨(Below.refl _ _).drew, fun h => absurd h (by decide), fun h => absurd h (by decide), fun h => absurd h (by decide), fun h => absurd h (by decide), fun h => absurd h (by decide), fun h => absurd h (by decide), fun h => absurd h (by decide), fun h => absurd h (by decide), fun h => absurd h (by decide)⟩
          case gst_1 =>
            refine RelFrom.run rfl (fun L vals A w9 hno hdl hcl hu hp h0 F K hK => ?_) ?_
            · have e2 : A.tmps[2]?.getD undef = .pointer (some ⟨w.heap.size, 0, none⟩) := h0 2 (fun j _ hj => absurd (List.mem_of_getElem? hj) (by decide))
              clear hu h0 hp
              have rw_ := KB.rv.below F.bel hlv
              have rq := rw_.c4
              have q0 := rq.1
              have q1 := rq.2.1
              have q2 := rq.2.2.1
              have q3 := rq.2.2.2
              clear rw_ rq
              go_simp
              exact hK.out _ w9 (Pl.fix rfl) (F.skip 0 _ (by decide))
            refine RelFrom.run rfl (fun L vals A w9 hno hdl hcl hu hp h0 F K hK => ?_) ?_
            · have e1 : A.tmps[1]?.getD undef = .string s := h0 1 (fun j _ hj => absurd (List.mem_of_getElem? hj) (by decide))
              clear hu h0 hp
              have rw_ := KB.rv.below F.bel hlv
              have rq := rw_.c4
              have q0 := rq.1
              have q1 := rq.2.1
              have q2 := rq.2.2.1
              have q3 := rq.2.2.2
              clear rw_ rq
              go_simp
              exact hK.out _ w9 (Pl.fix rfl) (F.skip 1 _ (by decide))
            refine RelFrom.run rfl (fun L vals A w9 hno hdl hcl hu hp h0 F K hK => ?_) ?_
            · have e66 : A.tmps[66]?.getD undef = .string s := (hu 1 66 (by kernel_rfl) rfl).trans (hp 1 (by kernel_rfl) _ rfl)
              clear hu h0 hp
              have rw_ := KB.rv.below F.bel hlv
              have rq := rw_.c4
              have q0 := rq.1
              have q1 := rq.2.1
              have q2 := rq.2.2.1
              have q3 := rq.2.2.2
              clear rw_ rq
              go_simp
              exact hK.out _ w9 (Pl.fix rfl) (F.skip 2 _ (by decide))
            refine RelFrom.run rfl (fun L vals A w9 hno hdl hcl hu hp h0 F K hK => ?_) ?_
            · have e65 : A.tmps[65]?.getD undef = .agg #[.int .i64 v.p, .int .i64 v.c, .int .i64 v.h, .int .i64 v.s] := (hu 0 65 (by kernel_rfl) rfl).trans (hp 0 (by kernel_rfl) _ rfl)
              have e67 : A.tmps[67]?.getD undef = .string (bs (t.drop 5)) := (hu 2 67 (by kernel_rfl) rfl).trans (hp 2 (by kernel_rfl) _ rfl)
              clear hu h0 hp
              go_simp
              refine (CT.out w9).mono ?_
              rintro e w6 ⟨x, y, sv, c, ss, rfl, ho6, hb6, hm6⟩
              exact hK.out _ w6 (Pl.any rfl) (by simpa [upd] using F.s3 (fun h => hno (hcl 4 3 (by kernel_rfl) h)) (fun h => hno (hcl 5 3 (by kernel_rfl) h)) (fun h => hno (hcl 6 3 (by kernel_rfl) h)) (fun h => hno (hcl 7 3 (by kernel_rfl) h)) (fun h => hno (hcl 9 3 (by kernel_rfl) h)) hb6 ho6 hm6)
            refine RelFrom.run rfl (fun L vals A w9 hno hdl hcl hu hp h0 F K hK => ?_) ?_
            · have e68 : A.tmps[68]?.getD undef = vals 3 := hu 3 68 (by kernel_rfl) rfl
              clear hu h0 hp
              go_simp
              exact hK.out _ w9 (Pl.any rfl) (by simpa [upd] using F.s4)
            refine RelFrom.run rfl (fun L vals A w9 hno hdl hcl hu hp h0 F K hK => ?_) ?_
            · have e64 : A.tmps[64]?.getD undef = vals 4 := hu 4 64 (by kernel_rfl) rfl
              clear hu h0 hp
              have f3 := F.f3 (hdl 3 (by kernel_rfl))
              refine f3.elim fun x f3 => ?_
              refine f3.elim fun y f3 => ?_
              refine f3.elim fun sv f3 => ?_
              refine f3.elim fun c f3 => ?_
              refine f3.elim fun ss q => ?_
              have e64' := e64.trans ((F.f4 (hdl 4 (by kernel_rfl))).trans q.1)
              clear e64 f3
              go_simp
              exact hK.out _ w9 (Pl.any rfl) (by simpa [upd] using F.s5 q.1)
            refine RelFrom.run rfl (fun L vals A w9 hno hdl hcl hu hp h0 F K hK => ?_) ?_
            · have e64 : A.tmps[64]?.getD undef = vals 4 := hu 4 64 (by kernel_rfl) rfl
              clear hu h0 hp
              have f3 := F.f3 (hdl 3 (by kernel_rfl))
              refine f3.elim fun x f3 => ?_
              refine f3.elim fun y f3 => ?_
              refine f3.elim fun sv f3 => ?_
              refine f3.elim fun c f3 => ?_
              refine f3.elim fun ss q => ?_
              have e64' := e64.trans ((F.f4 (hdl 4 (by kernel_rfl))).trans q.1)
              clear e64 f3
              go_simp
              exact hK.out _ w9 (Pl.any rfl) (by simpa [upd] using F.s6 q.1 (fun h => hno (hcl 10 6 (by kernel_rfl) h)))
            refine RelFrom.run rfl (fun L vals A w9 hno hdl hcl hu hp h0 F K hK => ?_) ?_
            · have e64 : A.tmps[64]?.getD undef = vals 4 := hu 4 64 (by kernel_rfl) rfl
              clear hu h0 hp
              have f3 := F.f3 (hdl 3 (by kernel_rfl))
              refine f3.elim fun x f3 => ?_
              refine f3.elim fun y f3 => ?_
              refine f3.elim fun sv f3 => ?_
              refine f3.elim fun c f3 => ?_
              refine f3.elim fun ss q => ?_
              have e64' := e64.trans ((F.f4 (hdl 4 (by kernel_rfl))).trans q.1)
              clear e64 f3
              go_simp
              exact hK.out _ w9 (Pl.any rfl) (by simpa [upd] using F.s7 q.1 (fun h => hno (hcl 11 7 (by kernel_rfl) h)))
            refine RelFrom.run rfl (fun L vals A w9 hno hdl hcl hu hp h0 F K hK => ?_) ?_
            · clear hu h0 hp
              go_simp
              exact hK.out _ _ (Pl.any rfl) (by simpa [upd] using F.s8 (fun h => hno (hcl 9 8 (by kernel_rfl) h)))
            refine RelFrom.run rfl (fun L vals A w9 hno hdl hcl hu hp h0 F K hK => ?_) ?_
            · have e14 : A.tmps[14]?.getD undef = vals 8 := hu 8 14 (by kernel_rfl) rfl
              have e69 : A.tmps[69]?.getD undef = vals 5 := hu 5 69 (by kernel_rfl) rfl
              clear hu h0 hp
              have f3 := F.f3 (hdl 3 (by kernel_rfl))
              refine f3.elim fun x f3 => ?_
              refine f3.elim fun y f3 => ?_
              refine f3.elim fun sv f3 => ?_
              refine f3.elim fun c f3 => ?_
              refine f3.elim fun ss q => ?_
              have f8 := F.f8 (hdl 8 (by kernel_rfl))
              refine f8.elim fun g q8 => ?_
              refine q8.2.2.1.elim fun a1 r => ?_
              refine r.elim fun a2 r => ?_
              have e14' := e14.trans q8.1
              have e69' := e69.trans (F.f5 (hdl 5 (by kernel_rfl)) _ _ _ q.1)
              have rc := r.c2
              have y0 := rc.1
              have y1 := rc.2
              have fr := r.frozen
              clear e14 e69 rc f3 f8
              go_simp
              exact hK.out undef _ (Pl.any rfl) (by simpa [upd] using F.s9 q.1 q8.1 q8.2.1 r (q8.2.2.2 (hdl 3 (by kernel_rfl)) _ _ _ q.1))
            refine RelFrom.run rfl (fun L vals A w9 hno hdl hcl hu hp h0 F K hK => ?_) ?_
            · have e70 : A.tmps[70]?.getD undef = vals 6 := hu 6 70 (by kernel_rfl) rfl
              clear hu h0 hp
              go_simp
              exact hK.out _ w9 (Pl.any rfl) (by simpa [upd] using F.s10)
            refine RelFrom.run rfl (fun L vals A w9 hno hdl hcl hu hp h0 F K hK => ?_) ?_
            · have e71 : A.tmps[71]?.getD undef = vals 7 := hu 7 71 (by kernel_rfl) rfl
              clear hu h0 hp
              go_simp
              exact hK.out _ w9 (Pl.any rfl) (by simpa [upd] using F.s11)
            exact RelFrom.nil (by decide)
          intro vals w9 hp F
          simp only [Fr, Act.put, List.setIfInBounds_toArray, List.set_cons_zero, List.set_cons_succ, Nat.reduceAdd]
          obtain ⟨x, y, sv, c, ss, hv3, hos, hm⟩ := F.f3 trivial
          obtain ⟨gx, hv8, hgx, -, -⟩ := F.f8 trivial
          have rx := F.f9 trivial _ _ _ _ gx hv3 hv8
          have hv10 := (F.f10 trivial).trans (F.f6 trivial _ _ _ hv3)
          have hv11 := (F.f11 trivial).trans (F.f7 trivial _ _ _ hv3)
          rw [hv8, hv10, hv11]
          have K := KB.below F.bel
          have hs39 := F.bel.size
          clear F hv3 hv8 hv10 hv11 hp KB
          have HOS := Lib.hid (hos.less (lo' := w2.heap.size) hs23)
          clear hos
          cases O with
          | none =>
            have hg : G = ⟨0, 0, 0, [], 0⟩ := HGE.out
            have HGz := Lib.hid hg
            have dn : (c == 0) = false := beq_eq_false_iff_ne.2 hm
            clear hg hm HGE
            go_wp2_with fail
            have hs := HS.out
            subst hs
            go_meet
            exact ⟨0, 0, 0, [], 0, none, 0, K, Lib.hid (OwnS.nil_ _ _ _ _ _ _), HGz⟩
          | some r =>
            obtain ⟨rfl, rfl⟩ := hm
            have hg : G = ⟨2, x, y, ss, 0⟩ := HGE.out
            have HGz := Lib.hid hg
            obtain ⟨A, cp, hsv, _⟩ := HOS.out.form enSt_len
            subst hsv
            obtain ⟨n2, hn2⟩ : ∃ n, ss.length = n := ⟨_, rfl⟩
            have HN2 := Lib.hid hn2
            rw [hn2]
            rw [hn2] at HOS
            clear hg HGE hn2
            obtain ⟨y0, y1, y2, y3, y4⟩ := K.rs.c5
            have hls := K.rs.lt
            have frs := K.rs.frozen
            obtain ⟨x0, x1⟩ := rx.c2
            have hlx := rx.lt
            go_wp2_with fail
            have hs := HS.out
            subst hs
            go_meet
            refine ⟨2, x, y, ss, 0, A, cp, ?_, Lib.hid ?_, HGz⟩
            · rw [HN2.out]; exact K.five _ _ _ _ _
            · rw [HN2.out]; simpa using own_five HOS.out (g := w.heap.size + 2) hl2 (.int .i64 2) (.int .i64 x) (.int .i64 y) (.slice A n2 cp) (.int .i64 0)
  obtain ⟨k, a, b, ss, r, A, cp, K, HOS, HGz⟩ := hcut
  have hE2 : (if evnT v ⟨k, a, b, ss, r⟩ = t ∧ t ≠ [] then some ⟨k, a, b, ss, r⟩ else none) = R := by
    rw [← HE.out, HGG.out, HGz.out]
  have HE2 := Lib.hid hE2
  have CE := Lib.hid (fun (w9 : World) (h9 : Below wc.heap.size wc w9) => levent_s v HV.out k a b ss r A cp wc.heap.size w9 h9.size ((HOS.out.rd enSt_len).below h9 (Nat.le_refl _)))
  obtain ⟨tx, htx⟩ : ∃ x, evnT v ⟨k, a, b, ss, r⟩ = x := ⟨_, rfl⟩
  rw [htx] at CE hE2
  have HE2 := Lib.hid hE2
  obtain ⟨n2, hn2⟩ : ∃ n, ss.length = n := ⟨_, rfl⟩
  have HN2 := Lib.hid hn2
  rw [hn2] at K HOS CE
  clear hE2 htx hn2 q0 q1 q2 q3 hlv y0 y1 y2 y3 y4 hls frs hx0 hb1 hb2 hb3 b1 b2 b3 hc0
  have hle := K.re.lt
  have fre := K.re.frozen
  obtain ⟨y0, y1, y2, y3, y4⟩ := K.re.c5
  obtain ⟨q0, q1, q2, q3⟩ := K.rv.c4
  have hlv := K.rv.lt
  obtain ⟨x0, x1, x2, x3, x4⟩ := K.rs.c5
  have hls := K.rs.lt
  by_cases ht : t = []
  · have hRn : R = none := by rw [← HE2.out, if_neg (fun h => h.2 ht)]
    subst hRn
    have e0 : (bs t).toList.isEmpty = true := by rw [ByteArray.toList_eq, bs_data, ht]; rfl
    have e0' : ((bs t).toList == []) = true := by rw [ByteArray.toList_eq, bs_data, ht]; rfl
    clear ht HE2
    go_wp2_with fail
    refine bp_gen (fun W' => Below w.heap.size w W' ∧ RowB W' (w.heap.size + 1) 28 [.int .i64 0, .int .i64 0, .int .i64 0, .slice none 0 0, .int .i64 0]) ⟨below_five K.bel (by omega) _ _ _ _ _, TxI.five K.re _ _ _ _ _⟩ ?_
    rintro w8 ⟨hb8, r8⟩
    obtain ⟨z0, z1, z2, z3, z4⟩ := r8.c5
    refine bodyPost_ret (v := .tuple #[.agg #[.int .i64 0, .int .i64 0, .int .i64 0, .slice none 0 0, .int .i64 0], .bool false]) (by simp [results, Tryz.results30, go_sem, z0, z1, z2, z3, z4]) rfl ?_
    exact ⟨0, 0, 0, _, [], 0, false, rfl, OwnS.nil_ _ _ _ _ _ _, hb8, rfl, rfl, rfl, rfl, rfl, rfl⟩
  have e0 : (bs t).toList.isEmpty = false := by rw [ByteArray.toList_eq, bs_data]; cases t with | nil => exact absurd rfl ht | cons a l => rfl
  have e0' : ((bs t).toList == []) = false := by rw [ByteArray.toList_eq, bs_data]; cases t with | nil => exact absurd rfl ht | cons a l => rfl
  by_cases heq : tx = t
  · have hRn : R = some ⟨k, a, b, ss, r⟩ := by rw [← HE2.out, if_pos ⟨heq, ht⟩]
    subst hRn
    have e1 : ((bs tx).toList == (bs t).toList) = true := by rw [bs_eq]; exact decide_eq_true heq
    have e2 : ((bs tx).toList != (bs t).toList) = false := by simp only [bne, e1]; rfl
    clear heq HE2 ht
    go_wp2_with fail
    refine (CE.out _ (Below.refl _ _)).mono ?_
    rintro e w6 ⟨rfl, hb⟩
    have hsc := HB3.out.size
    have K := K.below hb
    have HOS := Lib.hid ((HOS.out.below hb (Nat.le_refl _)).more hb.size)
    clear y0 y1 y2 y3 y4 q0 q1 q2 q3 x0 x1 x2 x3 x4 hlv hls hle fre hb CE
    have hle := K.re.lt
    have fre := K.re.frozen
    obtain ⟨y0, y1, y2, y3, y4⟩ := K.re.c5
    obtain ⟨x0, x1, x2, x3, x4⟩ := K.rs.c5
    have hls := K.rs.lt
    go_wp2_with fail
    refine bp_gen (fun W' => Below w.heap.size w W' ∧ RowB W' (w.heap.size + 1) 28 [.int .i64 k, .int .i64 a, .int .i64 b, .slice A n2 cp, .int .i64 r] ∧ OwnS W' w2.heap.size W'.heap.size 91 4 enSt (.slice A n2 cp) ss) ⟨below_five K.bel (by omega) _ _ _ _ _, TxI.five K.re _ _ _ _ _, by simpa using own_five HOS.out (g := w.heap.size + 1) (by omega) (.int .i64 k) (.int .i64 a) (.int .i64 b) (.slice A n2 cp) (.int .i64 r)⟩ ?_
    rintro w8 ⟨hb8, r8, o8⟩
    obtain ⟨z0, z1, z2, z3, z4⟩ := r8.c5
    refine bodyPost_ret (v := .tuple #[.agg #[.int .i64 k, .int .i64 a, .int .i64 b, .slice A n2 cp, .int .i64 r], .bool true]) (by simp [results, Tryz.results30, go_sem, z0, z1, z2, z3, z4]) rfl ?_
    exact ⟨k, a, b, _, ss, r, true, rfl, o8.less (by omega), hb8, rfl⟩
  · have hRn : R = none := by rw [← HE2.out, if_neg (fun h => heq h.1)]
    subst hRn
    have e1 : ((bs tx).toList == (bs t).toList) = false := by rw [bs_eq]; exact decide_eq_false heq
    have e2 : ((bs tx).toList != (bs t).toList) = true := by simp only [bne, e1]; rfl
    clear heq HE2 ht
    go_wp2_with fail
    refine (CE.out _ (Below.refl _ _)).mono ?_
    rintro e w6 ⟨rfl, hb⟩
    have K := K.below hb
    clear y0 y1 y2 y3 y4 q0 q1 q2 q3 x0 x1 x2 x3 x4 hlv hls hle fre hb CE
    have hle := K.re.lt
    have fre := K.re.frozen
    obtain ⟨y0, y1, y2, y3, y4⟩ := K.re.c5
    go_wp2_with fail
    refine bp_gen (fun W' => Below w.heap.size w W' ∧ RowB W' (w.heap.size + 1) 28 [.int .i64 0, .int .i64 0, .int .i64 0, .slice none 0 0, .int .i64 0]) ⟨below_five K.bel (by omega) _ _ _ _ _, TxI.five K.re _ _ _ _ _⟩ ?_
    rintro w8 ⟨hb8, r8⟩
    obtain ⟨z0, z1, z2, z3, z4⟩ := r8.c5
    refine bodyPost_ret (v := .tuple #[.agg #[.int .i64 0, .int .i64 0, .int .i64 0, .slice none 0 0, .int .i64 0], .bool false]) (by simp [results, Tryz.results30, go_sem, z0, z1, z2, z3, z4]) rfl ?_
    exact ⟨0, 0, 0, _, [], 0, false, rfl, OwnS.nil_ _ _ _ _ _ _, hb8, rfl, rfl, rfl, rfl, rfl, rfl⟩
end Go.Proofs.YtlfdcefgelpgmaaGreatDoor.TsI
