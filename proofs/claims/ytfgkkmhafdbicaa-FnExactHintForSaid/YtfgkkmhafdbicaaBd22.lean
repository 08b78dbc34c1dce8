/-
  The kept sequences of the greatest length for an order of dice: of the reference (l05Longest). Conditions: each theorem's own.
  The number of dice that are used: of the reference (l05Used). Conditions: each theorem's own.
  All plays of a roll: of the reference (l05All). Conditions: each theorem's own.
-/
import Derived.Test.YtfgkkmhafdbicaaBd19

set_option linter.unusedVariables false
set_option linter.unusedSimpArgs false
namespace Go.Proofs.Ytfgkkmhafdbicaa.Bd22
open Go.ChangeShapes Go.WideShapes Go.ChangeAt Go.RowKit Base Ints Own Clone RelG PlP Bd1 Bd4 Bd5 Bd6 Bd7 Bd7S Bd8 Bd9 Bd11 RegInv RegF RegG Bd16 Bd17 Bd18 Bd19 Bd20 Bd21

theorem lng_zero_ {v : Vr} {d : Int} {ds : List Int} {ps : List Pl} {k : Nat} {f : Bool} (h : (nextP v d ps).length = 0) : lngGo v (d :: ds) ps k f = (ps, k, f && decide ((nextP v d ps).length ≤ 3000)) := by
  simp only [lngGo]; rw [if_pos h]
theorem lng_more_ {v : Vr} {d : Int} {ds : List Int} {ps : List Pl} {k : Nat} {f : Bool} (h : ¬ (nextP v d ps).length = 0) : lngGo v (d :: ds) ps k f = lngGo v ds (nextP v d ps) (k + 1) (f && decide ((nextP v d ps).length ≤ 3000)) := by
  simp only [lngGo]; rw [if_neg h]
theorem max_inc (k : Nat) : k + 1 = k + 1 := rfl
/-- One play in a block of its own. -/
theorem one_play' {W : World} {b : Bd} {g1 lo : Nat} {u0 u1 u2 : Value} (h1 : RowB W g1 65 [u0, u1, u2]) (l1 : lo ≤ g1) (k0 : OwnV 71 4 enSt W (fun x => lo ≤ x ∧ x ≠ g1) u0 [])
    (k1 : OwnV 2 1 enI W (fun x => lo ≤ x ∧ x ≠ g1) u1 b.1) (k2 : OwnV 2 1 enI W (fun x => lo ≤ x ∧ x ≠ g1) u2 b.2) : OwnG RelP W lo W.heap.size 65 3 enP (.slice (some ⟨g1, 0, none⟩) 1 1) [([], b)] := by
  have ni : ∀ x, (lo ≤ x ∧ x ≠ g1) → NotIn (.slice (some ⟨g1, 0, none⟩) 1 1) lo x := fun x hx => ⟨fun e => hx.2 (by simp [Value.ownBlock] at e; exact e.symm), hx.1⟩
  refine ⟨[((u0, u1, u2) : PRow)], RowB.own (xs := [((u0, u1, u2) : PRow)]) h1 enP_len l1 h1.lt (show 1 ≤ maxLen by decide), LsR.snoc (LsR.nil _ _ _) ?_⟩
  exact RelP.weak (S := fun x => lo ≤ x ∧ x ≠ g1) ⟨k0, k1.sl enI_len, k2.sl enI_len⟩ (fun x hx _ => ni x hx)
/-- The first play is put together. -/
structure LgF (w1 : World) (b : Bd) (n : Nat) (p0 p3 p6 p7 p8 p9 p10 : Prop) (v0 v3 v6 v7 v8 v9 v10 : Value) (w' : World) : Prop where
  bel : Below w1.heap.size w1 w'
  f0 : p0 → OwnV 71 4 enSt w' (fun x => w1.heap.size ≤ x) v0 []
  f3 : p3 → OwnV 2 1 enI w' (fun x => w1.heap.size ≤ x) v3 b.1
  f6 : p6 → OwnV 2 1 enI w' (fun x => w1.heap.size ≤ x) v6 b.2
  f7 : p7 → v7 = .agg #[v3, v6]
  f8 : p8 → v8 = .agg #[v0, v3, v6]
  f9 : p9 → ∃ g, v9 = .slice (some ⟨g, 0, none⟩) 1 1 ∧ OwnG RelP w' w1.heap.size w'.heap.size 65 3 enP v9 [([], b)]
  f10 : p10 → v10 = v9
section
variable {w1 w' w'' : World} {b : Bd} {n : Nat} {p0 p3 p6 p7 p8 p9 p10 : Prop} {v0 v3 v6 v7 v8 v9 v10 v' : Value}
theorem LgF.skip {L : Nat → Prop} {vals : Nat → Value} (F : LgF w1 b n (L 0) (L 3) (L 6) (L 7) (L 8) (L 9) (L 10) (vals 0) (vals 3) (vals 6) (vals 7) (vals 8) (vals 9) (vals 10) w') (k : Nat) (x : Value) (h0 : 0 ≠ k) (h3 : 3 ≠ k) (h6 : 6 ≠ k) (h7 : 7 ≠ k) (h8 : 8 ≠ k) (h9 : 9 ≠ k) (h10 : 10 ≠ k) :
    LgF w1 b n (0 = k ∨ L 0) (3 = k ∨ L 3) (6 = k ∨ L 6) (7 = k ∨ L 7) (8 = k ∨ L 8) (9 = k ∨ L 9) (10 = k ∨ L 10) (upd vals k x 0) (upd vals k x 3) (upd vals k x 6) (upd vals k x 7) (upd vals k x 8) (upd vals k x 9) (upd vals k x 10) w' := by
  rw [or_ne h0, or_ne h3, or_ne h6, or_ne h7, or_ne h8, or_ne h9, or_ne h10, upd_ne h0, upd_ne h3, upd_ne h6, upd_ne h7, upd_ne h8, upd_ne h9, upd_ne h10]; exact F
theorem LgF.below (F : LgF w1 b n p0 p3 p6 p7 p8 p9 p10 v0 v3 v6 v7 v8 v9 v10 w') (hb : Below w'.heap.size w' w'') : LgF w1 b n p0 p3 p6 p7 p8 p9 p10 v0 v3 v6 v7 v8 v9 v10 w'' :=
  ⟨F.bel.trans (hb.mono F.bel.size), fun h => (F.f0 h).keep (.below hb), fun h => (F.f3 h).keep (.below hb), fun h => (F.f6 h).keep (.below hb), F.f7, F.f8, fun h => by obtain ⟨g, e, ho⟩ := F.f9 h; exact ⟨g, e, (ho.below_ hb).more hb.size⟩, F.f10⟩
theorem LgF.s0 (F : LgF w1 b n p0 p3 p6 p7 p8 p9 p10 v0 v3 v6 v7 v8 v9 v10 w') (n8 : ¬ p8) : LgF w1 b n True p3 p6 p7 p8 p9 p10 (.slice (some ⟨w'.heap.size, 0, none⟩) 0 0) v3 v6 v7 v8 v9 v10 (w'.alloc (.cells ⟨[]⟩ 71)) := by
  have G := F.below (w'' := w'.alloc (.cells ⟨[]⟩ 71)) ((Below.refl _ _).alloc (Nat.le_refl _) _)
  exact ⟨G.bel, fun _ => OwnV.of (RowB.own (xs := ([] : List Stp)) (RowB.new w' 71 []) enSt_len F.bel.size (by simp) (by decide)) (Nat.le_refl _) (fun x hx _ => hx), G.f3, G.f6, G.f7, fun h => absurd h n8, G.f9, G.f10⟩
theorem LgF.s3 (F : LgF w1 b n p0 p3 p6 p7 p8 p9 p10 v0 v3 v6 v7 v8 v9 v10 w') (n7 : ¬ p7) (n8 : ¬ p8) (hb : Below w'.heap.size w' w'') (ho : OwnS w'' w'.heap.size w''.heap.size 2 1 enI v' b.1) : LgF w1 b n p0 True p6 p7 p8 p9 p10 v0 v' v6 v7 v8 v9 v10 w'' := by
  have G := F.below hb
  exact ⟨G.bel, G.f0, fun _ => OwnV.of ho (Nat.le_refl _) (fun x hx _ => Nat.le_trans F.bel.size hx), G.f6, fun h => absurd h n7, fun h => absurd h n8, G.f9, G.f10⟩
theorem LgF.s6 (F : LgF w1 b n p0 p3 p6 p7 p8 p9 p10 v0 v3 v6 v7 v8 v9 v10 w') (n7 : ¬ p7) (n8 : ¬ p8) (hb : Below w'.heap.size w' w'') (ho : OwnS w'' w'.heap.size w''.heap.size 2 1 enI v' b.2) : LgF w1 b n p0 p3 True p7 p8 p9 p10 v0 v3 v' v7 v8 v9 v10 w'' := by
  have G := F.below hb
  exact ⟨G.bel, G.f0, G.f3, fun _ => OwnV.of ho (Nat.le_refl _) (fun x hx _ => Nat.le_trans F.bel.size hx), fun h => absurd h n7, fun h => absurd h n8, G.f9, G.f10⟩
theorem LgF.s7 (F : LgF w1 b n p0 p3 p6 p7 p8 p9 p10 v0 v3 v6 v7 v8 v9 v10 w') : LgF w1 b n p0 p3 p6 True p8 p9 p10 v0 v3 v6 (.agg #[v3, v6]) v8 v9 v10 w' :=
  ⟨F.bel, F.f0, F.f3, F.f6, fun _ => rfl, F.f8, F.f9, F.f10⟩
theorem LgF.s8 (F : LgF w1 b n p0 p3 p6 p7 p8 p9 p10 v0 v3 v6 v7 v8 v9 v10 w') : LgF w1 b n p0 p3 p6 p7 True p9 p10 v0 v3 v6 v7 (.agg #[v0, v3, v6]) v9 v10 w' :=
  ⟨F.bel, F.f0, F.f3, F.f6, F.f7, fun _ => rfl, F.f9, F.f10⟩
theorem LgF.s9 (F : LgF w1 b n p0 p3 p6 p7 p8 p9 p10 v0 v3 v6 v7 v8 v9 v10 w') (y0 : p0) (y3 : p3) (y6 : p6) (n10 : ¬ p10) : LgF w1 b n p0 p3 p6 p7 p8 True p10 v0 v3 v6 v7 v8 (.slice (some ⟨w'.heap.size, 0, none⟩) 1 1) v10 (w'.alloc (.cells ⟨[v0, v3, v6]⟩ 65)) := by
  have hb : Below w'.heap.size w' (w'.alloc (.cells ⟨[v0, v3, v6]⟩ 65)) := (Below.refl _ _).alloc (Nat.le_refl _) _
  have G := F.below hb
  have one : ∀ {α : Type} {e : TypeId} {sz : Nat} {en : α → List Value} {u : Value} {xs : List α}, OwnV e sz en w' (fun x => w1.heap.size ≤ x) u xs → OwnV e sz en (w'.alloc (.cells ⟨[v0, v3, v6]⟩ 65)) (fun x => w1.heap.size ≤ x ∧ x ≠ w'.heap.size) u xs := fun h =>
    ((relO _ _ _).weak h (fun x hx hx2 => ⟨hx, by omega⟩) : OwnV _ _ _ w' (fun x => w1.heap.size ≤ x ∧ x ≠ w'.heap.size) _ _).keep (.below hb)
  exact ⟨G.bel, G.f0, G.f3, G.f6, G.f7, G.f8, fun _ => ⟨_, rfl, one_play' (RowB.new _ _ _) F.bel.size (one (F.f0 y0)) (one (F.f3 y3)) (one (F.f6 y6))⟩, fun h => absurd h n10⟩
theorem LgF.s10 (F : LgF w1 b n p0 p3 p6 p7 p8 p9 p10 v0 v3 v6 v7 v8 v9 v10 w') : LgF w1 b n p0 p3 p6 p7 p8 p9 True v0 v3 v6 v7 v8 v9 v9 w' :=
  ⟨F.bel, F.f0, F.f3, F.f6, F.f7, F.f8, F.f9, fun _ => rfl⟩
end

/-- Under way. -/
structure Lg (w wr : World) (v : Vr) (vl : Value) (X : List Pl) : Prop where
  bel : Below w.heap.size w wr
  rv : RowB wr w.heap.size 32 [.int .i64 v.p, .int .i64 v.c, .int .i64 v.h, .int .i64 v.s]
  og : OwnG RelP wr (w.heap.size + 2) wr.heap.size 65 3 enP vl X
  ge : w.heap.size + 2 ≤ wr.heap.size
theorem Lg.below {w wr w' : World} {v : Vr} {vl : Value} {X : List Pl} (h : Lg w wr v vl X) (hb : Below wr.heap.size wr w') : Lg w w' v vl X :=
  ⟨h.bel.trans (hb.mono h.bel.size), h.rv.below hb h.rv.lt, (h.og.below_ hb).more hb.size, Nat.le_trans h.ge hb.size⟩

set_option maxHeartbeats 8000000 in
set_option maxRecDepth 100000 in
theorem longest_s (v : Vr) (b : Bd) (hb : Ok v b) (Ao At : Option Addr) (co ct : Nat) (ds : List Int) (hds : ∀ d ∈ ds, 1 ≤ d ∧ d ≤ 6) (hlen : ds.length ≤ 4) (u : Value) (w : World) (ho : RdS w w.heap.size 1 enI Ao b.1) (ht : RdS w w.heap.size 1 enI At b.2) (hA : Ao = none → co = 0) (hT : At = none → ct = 0) (hu : SlV 1 enI w All u ds) :
    Calls Try.prog 61 #[.agg #[.int .i64 v.p, .int .i64 v.c, .int .i64 v.h, .int .i64 v.s], .agg #[.slice Ao b.1.length co, .slice At b.2.length ct], u] w fun e w' => ∃ vv, e = .returned (.tuple #[vv, .int .i64 (((lngP v b ds).2.1 : Nat) : Int), .bool (lngP v b ds).2.2]) ∧ OwnG RelP w' w.heap.size w'.heap.size 65 3 enP vv (lngP v b ds).1 ∧ Below w.heap.size w w' := by
  have hv := hb.v1
  have hvV : okV v = true := okV_iff.2 hv
  obtain ⟨P, hP⟩ : ∃ P : Nat, v.p = (P : Int) := ⟨v.p.toNat, by omega⟩
  have HP := Lib.hid hP
  have hP24 : P ≤ 24 := by omega
  obtain ⟨n, hn⟩ : ∃ n, P + 1 = n := ⟨_, rfl⟩
  have eln : b.1.length = n := by have := hb.own.len; omega
  have emn : b.2.length = n := by have := hb.oth.len; omega
  have C1 := Lib.hid (fun (w9 : World) (h : Below w.heap.size w w9) => own02 Ao co w.heap.size b.1 w9 h.size (ho.below h (Nat.le_refl _)) hA (by omega))
  have C2 := Lib.hid (fun (w9 : World) (h : Below w.heap.size w w9) => own02 At ct w.heap.size b.2 w9 h.size (ht.below h (Nat.le_refl _)) hT (by omega))
  rw [eln] at C1 ⊢
  rw [emn] at C2 ⊢
  have HLN := Lib.hid eln
  have HMN := Lib.hid emn
  have HB := Lib.hid hb
  obtain ⟨Au, cu, rfl, hru, -⟩ := hu
  obtain ⟨N, hN⟩ : ∃ N, ds.length = N := ⟨_, rfl⟩
  have HN := Lib.hid hN
  rw [hN] at hlen ⊢
  have HRU := Lib.hid hru
  have HDS := Lib.hid (fun i (h : i < N) => hds _ (List.mem_of_getElem? (at_get (l := ds) (i := i) (by rw [hN]; exact h))))
  have HGO := Lib.hid (fun (w9 : World) (i : Nat) (hi : i ≤ 3) (xs : List Pl) (hxs : RowOk v i xs) (hxl : xs.length ≤ 25 ^ i) (d : Int) (hd : 1 ≤ d ∧ d ≤ 6) (uu : Value) (S0 : Nat → Prop) (hu : SlG RelP 3 enP w9 S0 uu xs) => next_s v hvV i (by omega) xs hxs (Nat.le_trans hxl (pow_le hi)) d hd uu S0 w9 hu)
  obtain ⟨RR, hRR⟩ : ∃ r, lngP v b ds = r := ⟨_, rfl⟩
  rw [hRR]
  have HRR := Lib.hid hRR
  clear hb hv hvV hP eln emn ho ht hA hT hN hru hds hRR
  go_enter Try.func61, Try.ntmps61
  go_upto_region 1 with (fail)
  refine wp_gen (fun W' => Below w.heap.size w W' ∧ RowB W' w.heap.size 32 [.int .i64 v.p, .int .i64 v.c, .int .i64 v.h, .int .i64 v.s] ∧ RowB W' (w.heap.size + 1) 34 [.slice Ao n co, .slice At n ct]) ⟨by go_grown, (RowB.new _ _ _).alloc _, RowB.new' _ _ _ (by simp)⟩ ?_
  rintro w1 ⟨hb1, rv, rb⟩
  have hl2 := rb.lt
  refine region_rel [some 13, some 14, some 15, some 16, some 17, some 18, some 19, some 20, some 21, some 22, some 9] 11 (Pl [none, some (.pointer (some ⟨w.heap.size + 1, 0, none⟩)), some (.slice Ao n co), none, some (.pointer (some ⟨w.heap.size + 1, 1, none⟩)), some (.slice At n ct), none, none, none, none, none]) (fun L vals w' => LgF w1 b n (L 0) (L 3) (L 6) (L 7) (L 8) (L 9) (L 10) (vals 0) (vals 3) (vals 6) (vals 7) (vals 8) (vals 9) (vals 10) w') (by kernel_rfl) (by kernel_rfl) (by kernel_rfl) (by kernel_rfl) (by kernel_rfl) (by kernel_rfl) (by kernel_rfl) ?g0_1 ?gst_1 ?gfin_1
  case g0_1 => exact ⟨(Below.refl _ _).drew, fun h => absurd h (by decide), fun h => absurd h (by decide), fun h => absurd h (by decide), fun h => absurd h (by decide), fun h => absurd h (by decide), fun h => absurd h (by decide), fun h => absurd h (by decide)⟩
  case gst_1 =>
    refine RelFrom.run rfl (fun L vals A w9 hno hdl hcl hu hp h0 F K hK => ?_) ?_
    · clear hu h0 hp
      go_simp
      exact hK.out _ _ (Pl.any rfl) (by simpa [upd] using F.s0 (fun h => hno (hcl 8 0 (by kernel_rfl) h)))
    refine RelFrom.run rfl (fun L vals A w9 hno hdl hcl hu hp h0 F K hK => ?_) ?_
    · have e4 : A.tmps[4]?.getD undef = .pointer (some ⟨w.heap.size + 1, 0, none⟩) := h0 4 (fun j _ hj => absurd (List.mem_of_getElem? hj) (by decide))
      clear hu h0 hp
      have rb9 := (rb.below F.bel rb.lt).c2
      have z0 := rb9.1
      have z1 := rb9.2
      go_simp
      exact hK.out _ w9 (Pl.fix rfl) (F.skip 1 _ (by decide) (by decide) (by decide) (by decide) (by decide) (by decide) (by decide))
    refine RelFrom.run rfl (fun L vals A w9 hno hdl hcl hu hp h0 F K hK => ?_) ?_
    · have e14 : A.tmps[14]?.getD undef = .pointer (some ⟨w.heap.size + 1, 0, none⟩) := (hu 1 14 (by kernel_rfl) rfl).trans (hp 1 (by kernel_rfl) _ rfl)
      clear hu h0 hp
      have rb9 := (rb.below F.bel rb.lt).c2
      have z0 := rb9.1
      have z1 := rb9.2
      go_simp
      exact hK.out _ w9 (Pl.fix rfl) (F.skip 2 _ (by decide) (by decide) (by decide) (by decide) (by decide) (by decide) (by decide))
    refine RelFrom.run rfl (fun L vals A w9 hno hdl hcl hu hp h0 F K hK => ?_) ?_
    · have e15 : A.tmps[15]?.getD undef = .slice Ao n co := (hu 2 15 (by kernel_rfl) rfl).trans (hp 2 (by kernel_rfl) _ rfl)
      clear hu h0 hp
      go_simp
      refine (C1.out w9 (hb1.trans (F.bel.mono hb1.size))).mono ?_
      rintro e w6 ⟨⟨v', rfl, h3⟩, hb6⟩
      exact hK.out _ w6 (Pl.any rfl) (by simpa [upd] using F.s3 (fun h => hno (hcl 7 3 (by kernel_rfl) h)) (fun h => hno (hcl 8 3 (by kernel_rfl) h)) hb6 h3)
    refine RelFrom.run rfl (fun L vals A w9 hno hdl hcl hu hp h0 F K hK => ?_) ?_
    · have e4 : A.tmps[4]?.getD undef = .pointer (some ⟨w.heap.size + 1, 0, none⟩) := h0 4 (fun j _ hj => absurd (List.mem_of_getElem? hj) (by decide))
      clear hu h0 hp
      have rb9 := (rb.below F.bel rb.lt).c2
      have z0 := rb9.1
      have z1 := rb9.2
      go_simp
      exact hK.out _ w9 (Pl.fix rfl) (F.skip 4 _ (by decide) (by decide) (by decide) (by decide) (by decide) (by decide) (by decide))
    refine RelFrom.run rfl (fun L vals A w9 hno hdl hcl hu hp h0 F K hK => ?_) ?_
    · have e17 : A.tmps[17]?.getD undef = .pointer (some ⟨w.heap.size + 1, 1, none⟩) := (hu 4 17 (by kernel_rfl) rfl).trans (hp 4 (by kernel_rfl) _ rfl)
      clear hu h0 hp
      have rb9 := (rb.below F.bel rb.lt).c2
      have z0 := rb9.1
      have z1 := rb9.2
      go_simp
      exact hK.out _ w9 (Pl.fix rfl) (F.skip 5 _ (by decide) (by decide) (by decide) (by decide) (by decide) (by decide) (by decide))
    refine RelFrom.run rfl (fun L vals A w9 hno hdl hcl hu hp h0 F K hK => ?_) ?_
    · have e18 : A.tmps[18]?.getD undef = .slice At n ct := (hu 5 18 (by kernel_rfl) rfl).trans (hp 5 (by kernel_rfl) _ rfl)
      clear hu h0 hp
      go_simp
      refine (C2.out w9 (hb1.trans (F.bel.mono hb1.size))).mono ?_
      rintro e w6 ⟨⟨v', rfl, h3⟩, hb6⟩
      exact hK.out _ w6 (Pl.any rfl) (by simpa [upd] using F.s6 (fun h => hno (hcl 7 6 (by kernel_rfl) h)) (fun h => hno (hcl 8 6 (by kernel_rfl) h)) hb6 h3)
    refine RelFrom.run rfl (fun L vals A w9 hno hdl hcl hu hp h0 F K hK => ?_) ?_
    · have e16 : A.tmps[16]?.getD undef = vals 3 := hu 3 16 (by kernel_rfl) rfl
      have e19 : A.tmps[19]?.getD undef = vals 6 := hu 6 19 (by kernel_rfl) rfl
      clear hu h0 hp
      have o3 := F.f3 (hdl 3 (by kernel_rfl))
      refine (o3.1.form enI_len).elim fun A3 h3 => ?_
      refine h3.elim fun c3 h3 => ?_
      have hv3 := h3.1
      clear h3
      have o6 := F.f6 (hdl 6 (by kernel_rfl))
      refine (o6.1.form enI_len).elim fun A6 h6 => ?_
      refine h6.elim fun c6 h6 => ?_
      have hv6 := h6.1
      clear h6
      rw [HLN.out] at hv3
      rw [HMN.out] at hv6
      have e16' := e16.trans hv3
      have e19' := e19.trans hv6
      clear e16 e19
      go_simp
      exact hK.out _ w9 (Pl.any rfl) (by rw [← hv3, ← hv6]; simpa [upd] using F.s7)
    refine RelFrom.run rfl (fun L vals A w9 hno hdl hcl hu hp h0 F K hK => ?_) ?_
    · have e13 : A.tmps[13]?.getD undef = vals 0 := hu 0 13 (by kernel_rfl) rfl
      have e20 : A.tmps[20]?.getD undef = vals 7 := hu 7 20 (by kernel_rfl) rfl
      clear hu h0 hp
      have o0 := F.f0 (hdl 0 (by kernel_rfl))
      refine (o0.1.form enSt_len).elim fun A0 h0 => ?_
      refine h0.elim fun c0 h0 => ?_
      have hv0 := h0.1
      clear h0
      have e13' := e13.trans hv0
      have e20' := e20.trans (F.f7 (hdl 7 (by kernel_rfl)))
      clear e13 e20
      go_simp
      exact hK.out _ w9 (Pl.any rfl) (by simpa [upd, hv0] using F.s8)
    refine RelFrom.run rfl (fun L vals A w9 hno hdl hcl hu hp h0 F K hK => ?_) ?_
    · have e21 : A.tmps[21]?.getD undef = vals 8 := hu 8 21 (by kernel_rfl) rfl
      clear hu h0 hp
      have e21' := e21.trans (F.f8 (hdl 8 (by kernel_rfl)))
      clear e21
      go_simp
      exact hK.out _ _ (Pl.any rfl) (by simpa [upd] using F.s9 (hdl 0 (by kernel_rfl)) (hdl 3 (by kernel_rfl)) (hdl 6 (by kernel_rfl)) (fun h => hno (hcl 10 9 (by kernel_rfl) h)))
    refine RelFrom.run rfl (fun L vals A w9 hno hdl hcl hu hp h0 F K hK => ?_) ?_
    · have e22 : A.tmps[22]?.getD undef = vals 9 := hu 9 22 (by kernel_rfl) rfl
      clear hu h0 hp
      go_simp
      exact hK.out _ w9 (Pl.any rfl) (by simpa [upd] using F.s10)
    exact RelFrom.nil (by decide)
  case gfin_1 =>
    intro vals w9 hp F
    simp only [Fr, Act.put, List.setIfInBounds_toArray, List.set_cons_zero, List.set_cons_succ, Nat.reduceAdd]
    obtain ⟨g9, e9, ho9⟩ := F.f9 trivial
    have e10 := F.f10 trivial
    rw [e9] at e10 ho9
    rw [e10]
    have K : Lg w w9 v (.slice (some ⟨g9, 0, none⟩) 1 1) [([], b)] := ⟨hb1.trans (F.bel.mono hb1.size), rv.below F.bel rv.lt, ho9.less (by omega), by have := F.bel.size; omega⟩
    clear F hp e9 e10 ho9 hb1 rv rb hl2 C1 C2
    have hl1 := K.rv.lt
    go_wp2_with fail
    go_loopw [9, 10, 11] (fun vl fv i wr => ∃ (k : Nat) (X : List Pl) (f : Bool), k ≤ N ∧ i = .int .i64 (k : Int) ∧ fv = .bool f ∧ Lg w wr v vl X ∧ Hid (RowOk v k X ∧ X.length ≤ 25 ^ k) ∧ Hid (lngGo v (ds.drop k) X k f = RR)) (fun _ _ i _ => N - (intOf i).toNat)
    case atStart => exact ⟨0, [([], b)], true, Nat.zero_le _, by first | rfl | trivial, by first | rfl | trivial, K, Lib.hid ⟨fun q hq => by simp at hq; subst hq; exact ⟨HB.out, rfl⟩, by simp⟩, HRR⟩
    case round =>
      obtain ⟨k, X, f, hk, rfl, rfl, K, HO, HG⟩ := hrel
      clear hl1
      have hl1 := K.rv.lt
      by_cases hlt : k < N
      · obtain ⟨bu, ou, rfl, hbu, hcu⟩ := at_rd (HRU.out.rd.below K.bel (Nat.le_refl _)) (i := k) (by rw [HN.out]; exact hlt)
        have hkn : (k : Int) < (N : Int) := by omega
        have hwk : IntKind.i64.wrap ((k : Int) + 1) = (k : Int) + 1 := IntWalk.i64_in _ (by omega)
        have hD := HDS.out k hlt
        have HG' := Lib.hid HG.out
        rw [drop_at (by rw [HN.out]; exact hlt)] at HG'
        obtain ⟨d, hd⟩ : ∃ d, at_ ds k = d := ⟨_, rfl⟩
        rw [hd] at hcu hD HG'
        clear hd HG
        obtain ⟨q0, q1, q2, q3⟩ := K.rv.c4
        go_wp2_with fail
        go_still_tail 6, (by kernel_rfl)
        go_wp2_with fail
        refine (HGO.out wr.drew k (by omega) _ HO.out.1 HO.out.2 d hD u9 _ ((relSl RelP 3 enP).keep (K.og.sl enP_len (Nat.le_refl _)) (.below (Below.refl _ _).drew))).mono ?_
        rintro e w5 ⟨nv, rfl, hog, hb5⟩
        have hs2 := K.ge
        have K := (K.below (Below.refl _ _).drew).below hb5
        obtain ⟨nx, hnx⟩ : ∃ l, nextP v d X = l := ⟨_, rfl⟩
        have HNX := Lib.hid (show RowOk v (k + 1) nx ∧ nx.length ≤ 25 ^ (k + 1) from by
          rw [← hnx]
          refine ⟨next_ok hD.1 HO.out.1, Nat.le_trans next_len ?_⟩
          rw [Nat.pow_succ]
          exact Nat.mul_le_mul HO.out.2 (by have := HP.out; omega))
        rw [hnx] at hog
        obtain ⟨An, cn, hnv, -⟩ := Bd19.OwnG.form enP_len hog
        obtain ⟨M, hM⟩ : ∃ M, nx.length = M := ⟨_, rfl⟩
        rw [hM] at hnv
        have KN : Lg w w5 v nv nx := ⟨K.bel, K.rv, hog.less (show w.heap.size + 2 ≤ wr.heap.size from hs2), K.ge⟩
        subst hnv
        have HMM := Lib.hid hM
        have HNXE := Lib.hid hnx
        obtain ⟨x, hx⟩ : ∃ x, decide ((M : Int) ≤ 3000) = x := ⟨_, rfl⟩
        have hx2 : decide (nx.length ≤ 3000) = x := by rw [← hx, HMM.out]; exact decide_eq_decide.2 (by omega)
        have HX := Lib.hid hx2
        clear hog hb5 hbu hcu hM hnx q0 q1 q2 q3 hl1 hs2
        by_cases h0 : M = 0
        · have e7 : ((M : Int) == 0) = true := by simp [h0]
          have HE : (X, k, f && x) = RR := by rw [← HG'.out, lng_zero_ (by rw [HNXE.out, HMM.out]; exact h0), HNXE.out, HX.out]
          subst HE
          have hM0 := Lib.hid h0
          have hu9 := K.og.less (lo' := w.heap.size) (by omega)
          have hb9 := K.bel
          clear h0 HG' KN hx2 K
          cases f
          all_goals
            go_wp2_with fail
            go_ret3
            exact ⟨_, by first | rfl | simp, hu9, hb9⟩
        · have e7 : ((M : Int) == 0) = false := by simp [h0]
          have HE : Hid (lngGo v (ds.drop (k + 1)) nx (k + 1) (f && x) = RR) := Lib.hid (by
            rw [← HG'.out, lng_more_ (by rw [HNXE.out, HMM.out]; exact h0), HNXE.out, HX.out])
          have hM0 := Lib.hid h0
          clear h0 HG' hx2 K
          cases f
          all_goals
            go_wp2_with fail
            go_roundw
            case rel => exact ⟨k + 1, nx, _, by omega, by go_num, by first | rfl | (rw [hx]; rfl) | simp, KN, HNX, by first | exact HE | (rw [← hx] at HE; exact HE) | simpa using HE⟩
            case measure => simp [intOf]; omega
      · obtain rfl : k = N := by omega
        have hnk : ¬ ((k : Int) < (k : Int)) := by omega
        have HE : (X, k, f) = RR := by rw [← HG.out, List.drop_of_length_le (by rw [HN.out]; exact Nat.le_refl _)]; rfl
        subst HE
        clear HG
        go_wp2_with fail
        go_ret3
        exact ⟨_, rfl, K.og.less (by omega), K.bel⟩
end Go.Proofs.Ytfgkkmhafdbicaa.Bd22

set_option linter.unusedVariables false
set_option linter.unusedSimpArgs false
namespace Go.Proofs.Ytfgkkmhafdbicaa.Bd23
open Go.ChangeShapes Go.WideShapes Go.ChangeAt Go.RowKit Base Ints Own Clone RelG PlP Bd1 Bd4 Bd5 Bd6 Bd7 Bd7S Bd8 Bd9 Bd11 RegInv RegF RegG Bd16 Bd17 Bd18 Bd19 Bd20 Bd21 Bd22

/-- The three results of l05Longest are taken apart. -/
structure UsF (w1 : World) (X : List Pl) (kv fv : Value) (p6 p7 p8 p11 : Prop) (v6 v7 v8 v11 : Value) (w' : World) : Prop where
  bel : Below w1.heap.size w1 w'
  f6 : p6 → ∃ vv, v6 = .tuple #[vv, kv, fv] ∧ OwnG RelP w' w1.heap.size w'.heap.size 65 3 enP vv X
  f7 : p7 → v7 = v6
  f8 : p8 → OwnG RelP w' w1.heap.size w'.heap.size 65 3 enP v8 X
  f11 : p11 → v11 = v8
section
variable {w1 w' w'' : World} {X : List Pl} {kv fv : Value} {p6 p7 p8 p11 : Prop} {v6 v7 v8 v11 v' : Value}
theorem UsF.skip {L : Nat → Prop} {vals : Nat → Value} (F : UsF w1 X kv fv (L 6) (L 7) (L 8) (L 11) (vals 6) (vals 7) (vals 8) (vals 11) w') (k : Nat) (x : Value) (h6 : 6 ≠ k) (h7 : 7 ≠ k) (h8 : 8 ≠ k) (h11 : 11 ≠ k) :
    UsF w1 X kv fv (6 = k ∨ L 6) (7 = k ∨ L 7) (8 = k ∨ L 8) (11 = k ∨ L 11) (upd vals k x 6) (upd vals k x 7) (upd vals k x 8) (upd vals k x 11) w' := by
  rw [or_ne h6, or_ne h7, or_ne h8, or_ne h11, upd_ne h6, upd_ne h7, upd_ne h8, upd_ne h11]; exact F
theorem UsF.s6 (F : UsF w1 X kv fv p6 p7 p8 p11 v6 v7 v8 v11 w') (n7 : ¬ p7) (n8 : ¬ p8) (n11 : ¬ p11) (hb : Below w'.heap.size w' w'') (ho : OwnG RelP w'' w'.heap.size w''.heap.size 65 3 enP v' X) : UsF w1 X kv fv True p7 p8 p11 (.tuple #[v', kv, fv]) v7 v8 v11 w'' :=
  ⟨F.bel.trans (hb.mono F.bel.size), fun _ => ⟨_, rfl, ho.less F.bel.size⟩, fun h => absurd h n7, fun h => absurd h n8, fun h => absurd h n11⟩
theorem UsF.s7 (F : UsF w1 X kv fv p6 p7 p8 p11 v6 v7 v8 v11 w') : UsF w1 X kv fv p6 True p8 p11 v6 v6 v8 v11 w' := ⟨F.bel, F.f6, fun _ => rfl, F.f8, F.f11⟩
theorem UsF.s8 (F : UsF w1 X kv fv p6 p7 p8 p11 v6 v7 v8 v11 w') (n11 : ¬ p11) (ho : OwnG RelP w' w1.heap.size w'.heap.size 65 3 enP v' X) : UsF w1 X kv fv p6 p7 True p11 v6 v7 v' v11 w' := ⟨F.bel, F.f6, F.f7, fun _ => ho, fun h => absurd h n11⟩
theorem UsF.s11 (F : UsF w1 X kv fv p6 p7 p8 p11 v6 v7 v8 v11 w') : UsF w1 X kv fv p6 p7 p8 True v6 v7 v8 v8 w' := ⟨F.bel, F.f6, F.f7, F.f8, fun _ => rfl⟩
end
/-- Under way. -/
structure Us (w wr : World) (v : Vr) (cs : List Value) (uo : Value) (os : List (List Int)) : Prop where
  bel : Below w.heap.size w wr
  rv : RowB wr w.heap.size 32 [.int .i64 v.p, .int .i64 v.c, .int .i64 v.h, .int .i64 v.s]
  rb : RowB wr (w.heap.size + 1) 34 cs
  or_ : SlG RelI 1 en1 wr All uo os
theorem Us.below {w wr w' : World} {v : Vr} {cs : List Value} {uo : Value} {os : List (List Int)} (h : Us w wr v cs uo os) (hb : Below wr.heap.size wr w') : Us w w' v cs uo os :=
  ⟨h.bel.trans (hb.mono h.bel.size), h.rv.below hb h.rv.lt, h.rb.below hb h.rb.lt, (relSl RelI 1 en1).keep h.or_ (.below hb)⟩
theorem lng_len {v : Vr} {b : Bd} (hb : Ok v b) {o : List Int} (ho : (∀ d ∈ o, 1 ≤ d ∧ d ≤ 6) ∧ o.length ≤ 4) : (lngP v b o).2.1 ≤ 4 := by
  have := (lng_ok (v := v) o [([], b)] 0 true (fun d hd => (ho.1 d hd).1) (by intro p hp; simp at hp; subst hp; exact ⟨hb, rfl⟩) (by simp)).2.2
  unfold lngP; omega
theorem used_le {v : Vr} {b : Bd} {os : List (List Int)} {m : Nat} (h : ∀ o ∈ os, (lngP v b o).2.1 ≤ m) : usedP v b os ≤ m := by
  induction os with
  | nil => exact Nat.zero_le _
  | cons o os ih => have := h o (List.mem_cons_self ..); have := ih (fun q hq => h q (List.mem_cons_of_mem _ hq)); simp only [usedP]; omega

set_option maxHeartbeats 8000000 in
set_option maxRecDepth 100000 in
theorem used_s (v : Vr) (b : Bd) (hb : Ok v b) (Ao At : Option Addr) (co ct : Nat) (x y : Int) (hx : 1 ≤ x ∧ x ≤ 6) (hy : 1 ≤ y ∧ y ≤ 6) (w : World) (ho : RdS w w.heap.size 1 enI Ao b.1) (ht : RdS w w.heap.size 1 enI At b.2) (hA : Ao = none → co = 0) (hT : At = none → ct = 0) :
    Calls Try.prog 59 #[.agg #[.int .i64 v.p, .int .i64 v.c, .int .i64 v.h, .int .i64 v.s], .agg #[.slice Ao b.1.length co, .slice At b.2.length ct], .agg #[.int .i64 x, .int .i64 y]] w fun e w' => e = .returned (.int .i64 ((usedP v b (ordP x y) : Nat) : Int)) ∧ Below w.heap.size w w' := by
  have CO := Lib.hid (fun (w9 : World) => orders_s x y w9)
  obtain ⟨os, hos⟩ : ∃ os, ordP x y = os := ⟨_, rfl⟩
  have HD := ord_dice hx hy
  rw [hos] at HD CO ⊢
  have HDI := Lib.hid HD.1
  have hos2 := HD.2
  have HLL := Lib.hid (fun o (h : o ∈ os) => lng_len hb (HD.1 o h))
  obtain ⟨n1, hn1⟩ : ∃ n, b.1.length = n := ⟨_, rfl⟩
  obtain ⟨n2, hn2⟩ : ∃ n, b.2.length = n := ⟨_, rfl⟩
  have CS := Lib.hid (fun (w9 : World) (h : Below w.heap.size w w9) (o : List Int) (ho_ : o ∈ os) (u : Value) (hu : SlV 1 enI w9 All u o) => longest_s v b hb Ao At co ct o (HDI.out o ho_).1 (HDI.out o ho_).2 u w9 ((ho.below h (Nat.le_refl _)).more h.size) ((ht.below h (Nat.le_refl _)).more h.size) hA hT hu)
  rw [hn1, hn2] at CS ⊢
  obtain ⟨N, hN⟩ : ∃ N, os.length = N := ⟨_, rfl⟩
  have HN := Lib.hid hN
  rw [hN] at hos2
  obtain ⟨RR, hRR⟩ : ∃ r, usedP v b os = r := ⟨_, rfl⟩
  rw [hRR]
  have HRR := Lib.hid hRR
  clear hb ho ht hA hT hos HD hn1 hn2 hN hx hy hRR
  go_enter Try.func59, Try.ntmps59
  go_upto_region 2 with (fail)
  refine wp_gen (fun W' => Below w.heap.size w W' ∧ RowB W' w.heap.size 32 [.int .i64 v.p, .int .i64 v.c, .int .i64 v.h, .int .i64 v.s] ∧ RowB W' (w.heap.size + 1) 34 [.slice Ao n1 co, .slice At n2 ct] ∧ RowB W' (w.heap.size + 2) 36 [.int .i64 x, .int .i64 y]) ⟨by go_grown, ((RowB.new _ _ _).alloc _).alloc _, RowB.alloc (RowB.new' _ _ _ (by simp)) _, RowB.new' _ _ _ (by simp)⟩ ?_
  rintro w1 ⟨hb1, rv, rb, rr⟩
  obtain ⟨r0, r1⟩ := rr.c2
  have hl2 := rr.lt
  go_wp2_with fail
  refine (CO.out w1).mono ?_
  rintro e w2 ⟨uo, rfl, hor, hb2⟩
  have K : Us w w2 v [.slice Ao n1 co, .slice At n2 ct] uo os := ⟨hb1.trans (hb2.mono hb1.size), rv.below hb2 rv.lt, rb.below hb2 rb.lt, (relSl RelI 1 en1).weak hor (fun _ _ _ => trivial)⟩
  obtain ⟨Ar, cr, rs0, huo, -⟩ := hor
  rw [HN.out] at huo
  subst huo
  clear r0 r1 hl2 rb rr rv hb1 hb2 CO
  have hl1 := K.rv.lt
  go_wp2_with fail
  go_loopw [7, 9] (fun mv i wr => ∃ (k t : Nat), k ≤ N ∧ i = .int .i64 (k : Int) ∧ mv = .int .i64 (t : Int) ∧ Us w wr v [.slice Ao n1 co, .slice At n2 ct] (.slice Ar N cr) os ∧ Hid (max t (usedP v b (os.drop k)) = RR)) (fun _ i _ => N - (intOf i).toNat)
  case atStart => exact ⟨0, 0, Nat.zero_le _, by first | rfl | trivial, by first | rfl | trivial, K, Lib.hid (by rw [← HRR.out]; exact Nat.zero_max _)⟩
  case round =>
    obtain ⟨k, t, hk, rfl, rfl, K, HG⟩ := hrel
    clear hl1
    have hl1 := K.rv.lt
    have hl2 := K.rb.lt
    by_cases hlt : k < N
    · obtain ⟨A5, c5, rs, e5, hrd5, hls5, -⟩ := K.or_
      simp only [Value.slice.injEq] at e5
      obtain ⟨rfl, -, rfl⟩ := e5
      obtain ⟨b5, o5, r, rfl, -, hb5, hr, hc5⟩ := hrd5.at_ (i := k) (by rw [hls5.1, HN.out]; exact hlt)
      obtain ⟨o, ho, hRo⟩ := hls5.at_ hr
      have hc5 : wr.cell? ⟨b5, o5 + k, none⟩ = some r := by have := hc5 0 r rfl; simpa using this
      have HOM := Lib.hid (List.mem_of_getElem? ho)
      have HRO := Lib.hid hRo
      have HG' := HG.out
      rw [drop_cons ho] at HG'
      have HC5 := Lib.hid (fun (w9 : World) (h : Below wr.heap.size wr w9) => (Below.cell h (p := ⟨b5, o5 + k, none⟩) hb5).trans hc5)
      have hkn : (k : Int) < (N : Int) := by omega
      have hwk : IntKind.i64.wrap ((k : Int) + 1) = (k : Int) + 1 := IntWalk.i64_in _ (by omega)
      have hK4 := HLL.out o HOM.out
      obtain ⟨L, hL⟩ : ∃ l, lngP v b o = l := ⟨_, rfl⟩
      have CS := Lib.hid (fun (w9 : World) (h : Below wr.heap.size wr w9) => CS.out w9 (K.bel.trans (h.mono K.bel.size)) o HOM.out r (RelI.keep HRO.out (.below h)))
      rw [hL] at CS hK4
      simp only [usedP, hL] at HG'
      obtain ⟨X, kk, ff⟩ := L
      simp only at CS hK4 HG'
      clear hrd5 hls5 hr ho hL hc5 hb5 HRO
      have RV := Lib.hid K.rv
      have RB := Lib.hid K.rb
      go_wp2_with fail
      refine region_rel [some 22, some 23, some 24, some 25, some 26, some 27, some 28, some 21, some 29, some 30, some 31, some 10, some 11, some 12] 14 (Pl [some (.agg #[.int .i64 v.p, .int .i64 v.c, .int .i64 v.h, .int .i64 v.s]), some (.agg #[.slice Ao n1 co, .slice At n2 ct]), some (.slice (some ⟨b5, o5, none⟩) N cr), some (.int .i64 (k : Int)), some (.pointer (some ⟨b5, o5 + k, none⟩)), some (r), none, none, none, some (.int .i64 (kk : Int)), some (.bool ff), none, some (.int .i64 (kk : Int)), some (.bool ff)]) (fun L vals w' => UsF wr X (.int .i64 (kk : Int)) (.bool ff) (L 6) (L 7) (L 8) (L 11) (vals 6) (vals 7) (vals 8) (vals 11) w') (by kernel_rfl) (by kernel_rfl) (by kernel_rfl) (by kernel_rfl) (by kernel_rfl) (by kernel_rfl) (by kernel_rfl) ?g0_1 ?gst_1 ?gfin_1
      case g0_1 => exact ⟨(Below.refl _ _).drew, fun h => absurd h (by decide), fun h => absurd h (by decide), fun h => absurd h (by decide), fun h => absurd h (by decide)⟩
      case gst_1 =>
        refine RelFrom.run rfl (fun L vals A w9 hno hdl hcl hu hp h0 F K hK => ?_) ?_
        · have e3 : A.tmps[3]?.getD undef = .pointer (some ⟨w.heap.size, 0, none⟩) := h0 3 (fun j _ hj => absurd (List.mem_of_getElem? hj) (by decide))
          clear hu h0 hp
          have rq := (RV.out.below F.bel RV.out.lt).c4
          have q0 := rq.1
          have q1 := rq.2.1
          have q2 := rq.2.2.1
          have q3 := rq.2.2.2
          have rz := (RB.out.below F.bel RB.out.lt).c2
          have z0 := rz.1
          have z1 := rz.2
          have c5 := HC5.out w9 F.bel
          clear rq rz
          go_simp
          exact hK.out _ w9 (Pl.fix rfl) (F.skip 0 _ (by decide) (by decide) (by decide) (by decide))
        refine RelFrom.run rfl (fun L vals A w9 hno hdl hcl hu hp h0 F K hK => ?_) ?_
        · have e4 : A.tmps[4]?.getD undef = .pointer (some ⟨w.heap.size + 1, 0, none⟩) := h0 4 (fun j _ hj => absurd (List.mem_of_getElem? hj) (by decide))
          clear hu h0 hp
          have rq := (RV.out.below F.bel RV.out.lt).c4
          have q0 := rq.1
          have q1 := rq.2.1
          have q2 := rq.2.2.1
          have q3 := rq.2.2.2
          have rz := (RB.out.below F.bel RB.out.lt).c2
          have z0 := rz.1
          have z1 := rz.2
          have c5 := HC5.out w9 F.bel
          clear rq rz
          go_simp
          exact hK.out _ w9 (Pl.fix rfl) (F.skip 1 _ (by decide) (by decide) (by decide) (by decide))
        refine RelFrom.run rfl (fun L vals A w9 hno hdl hcl hu hp h0 F K hK => ?_) ?_
        · have e8 : A.tmps[8]?.getD undef = .slice (some ⟨b5, o5, none⟩) N cr := h0 8 (fun j _ hj => absurd (List.mem_of_getElem? hj) (by decide))
          clear hu h0 hp
          have rq := (RV.out.below F.bel RV.out.lt).c4
          have q0 := rq.1
          have q1 := rq.2.1
          have q2 := rq.2.2.1
          have q3 := rq.2.2.2
          have rz := (RB.out.below F.bel RB.out.lt).c2
          have z0 := rz.1
          have z1 := rz.2
          have c5 := HC5.out w9 F.bel
          clear rq rz
          go_simp
          exact hK.out _ w9 (Pl.fix rfl) (F.skip 2 _ (by decide) (by decide) (by decide) (by decide))
        refine RelFrom.run rfl (fun L vals A w9 hno hdl hcl hu hp h0 F K hK => ?_) ?_
        · have e9 : A.tmps[9]?.getD undef = .int .i64 (k : Int) := h0 9 (fun j _ hj => absurd (List.mem_of_getElem? hj) (by decide))
          clear hu h0 hp
          have rq := (RV.out.below F.bel RV.out.lt).c4
          have q0 := rq.1
          have q1 := rq.2.1
          have q2 := rq.2.2.1
          have q3 := rq.2.2.2
          have rz := (RB.out.below F.bel RB.out.lt).c2
          have z0 := rz.1
          have z1 := rz.2
          have c5 := HC5.out w9 F.bel
          clear rq rz
          go_simp
          exact hK.out _ w9 (Pl.fix rfl) (F.skip 3 _ (by decide) (by decide) (by decide) (by decide))
        refine RelFrom.run rfl (fun L vals A w9 hno hdl hcl hu hp h0 F K hK => ?_) ?_
        · have e24 : A.tmps[24]?.getD undef = .slice (some ⟨b5, o5, none⟩) N cr := (hu 2 24 (by kernel_rfl) rfl).trans (hp 2 (by kernel_rfl) _ rfl)
          have e25 : A.tmps[25]?.getD undef = .int .i64 (k : Int) := (hu 3 25 (by kernel_rfl) rfl).trans (hp 3 (by kernel_rfl) _ rfl)
          clear hu h0 hp
          have rq := (RV.out.below F.bel RV.out.lt).c4
          have q0 := rq.1
          have q1 := rq.2.1
          have q2 := rq.2.2.1
          have q3 := rq.2.2.2
          have rz := (RB.out.below F.bel RB.out.lt).c2
          have z0 := rz.1
          have z1 := rz.2
          have c5 := HC5.out w9 F.bel
          clear rq rz
          go_simp
          exact hK.out _ w9 (Pl.fix rfl) (F.skip 4 _ (by decide) (by decide) (by decide) (by decide))
        refine RelFrom.run rfl (fun L vals A w9 hno hdl hcl hu hp h0 F K hK => ?_) ?_
        · have e26 : A.tmps[26]?.getD undef = .pointer (some ⟨b5, o5 + k, none⟩) := (hu 4 26 (by kernel_rfl) rfl).trans (hp 4 (by kernel_rfl) _ rfl)
          clear hu h0 hp
          have rq := (RV.out.below F.bel RV.out.lt).c4
          have q0 := rq.1
          have q1 := rq.2.1
          have q2 := rq.2.2.1
          have q3 := rq.2.2.2
          have rz := (RB.out.below F.bel RB.out.lt).c2
          have z0 := rz.1
          have z1 := rz.2
          have c5 := HC5.out w9 F.bel
          clear rq rz
          go_simp
          exact hK.out _ w9 (Pl.fix rfl) (F.skip 5 _ (by decide) (by decide) (by decide) (by decide))
        refine RelFrom.run rfl (fun L vals A w9 hno hdl hcl hu hp h0 F K hK => ?_) ?_
        · have e22 : A.tmps[22]?.getD undef = .agg #[.int .i64 v.p, .int .i64 v.c, .int .i64 v.h, .int .i64 v.s] := (hu 0 22 (by kernel_rfl) rfl).trans (hp 0 (by kernel_rfl) _ rfl)
          have e23 : A.tmps[23]?.getD undef = .agg #[.slice Ao n1 co, .slice At n2 ct] := (hu 1 23 (by kernel_rfl) rfl).trans (hp 1 (by kernel_rfl) _ rfl)
          have e27 : A.tmps[27]?.getD undef = r := (hu 5 27 (by kernel_rfl) rfl).trans (hp 5 (by kernel_rfl) _ rfl)
          clear hu h0 hp
          go_simp
          refine (CS.out w9 F.bel).mono ?_
          rintro e w6 ⟨vv, rfl, h3, hb6⟩
          exact hK.out _ w6 (Pl.any rfl) (by simpa [upd] using F.s6 (fun h => hno (hcl 7 6 (by kernel_rfl) h)) (fun h => hno (hcl 8 6 (by kernel_rfl) h)) (fun h => hno (hcl 11 6 (by kernel_rfl) h)) hb6 h3)
        refine RelFrom.run rfl (fun L vals A w9 hno hdl hcl hu hp h0 F K hK => ?_) ?_
        · have e28 : A.tmps[28]?.getD undef = vals 6 := hu 6 28 (by kernel_rfl) rfl
          clear hu h0 hp
          go_simp
          exact hK.out _ w9 (Pl.any rfl) (by simpa [upd] using F.s7)
        refine RelFrom.run rfl (fun L vals A w9 hno hdl hcl hu hp h0 F K hK => ?_) ?_
        · have e21 : A.tmps[21]?.getD undef = vals 7 := hu 7 21 (by kernel_rfl) rfl
          clear hu h0 hp
          have q6 := F.f6 (hdl 6 (by kernel_rfl))
          refine q6.elim fun vv q6 => ?_
          have em := (e21.trans (F.f7 (hdl 7 (by kernel_rfl)))).trans q6.1
          clear e21
          go_simp
          exact hK.out _ w9 (Pl.any rfl) (by simpa [upd] using F.s8 (fun h => hno (hcl 11 8 (by kernel_rfl) h)) q6.2)
        refine RelFrom.run rfl (fun L vals A w9 hno hdl hcl hu hp h0 F K hK => ?_) ?_
        · have e21 : A.tmps[21]?.getD undef = vals 7 := hu 7 21 (by kernel_rfl) rfl
          clear hu h0 hp
          have q6 := F.f6 (hdl 6 (by kernel_rfl))
          refine q6.elim fun vv q6 => ?_
          have em := (e21.trans (F.f7 (hdl 7 (by kernel_rfl)))).trans q6.1
          clear e21
          go_simp
          exact hK.out _ w9 (Pl.fix rfl) (F.skip 9 _ (by decide) (by decide) (by decide) (by decide))
        refine RelFrom.run rfl (fun L vals A w9 hno hdl hcl hu hp h0 F K hK => ?_) ?_
        · have e21 : A.tmps[21]?.getD undef = vals 7 := hu 7 21 (by kernel_rfl) rfl
          clear hu h0 hp
          have q6 := F.f6 (hdl 6 (by kernel_rfl))
          refine q6.elim fun vv q6 => ?_
          have em := (e21.trans (F.f7 (hdl 7 (by kernel_rfl)))).trans q6.1
          clear e21
          go_simp
          exact hK.out _ w9 (Pl.fix rfl) (F.skip 10 _ (by decide) (by decide) (by decide) (by decide))
        refine RelFrom.run rfl (fun L vals A w9 hno hdl hcl hu hp h0 F K hK => ?_) ?_
        · have e29 : A.tmps[29]?.getD undef = vals 8 := hu 8 29 (by kernel_rfl) rfl
          clear hu h0 hp
          go_simp
          exact hK.out _ w9 (Pl.any rfl) (by simpa [upd] using F.s11)
        refine RelFrom.run rfl (fun L vals A w9 hno hdl hcl hu hp h0 F K hK => ?_) ?_
        · have e30 : A.tmps[30]?.getD undef = .int .i64 (kk : Int) := (hu 9 30 (by kernel_rfl) rfl).trans (hp 9 (by kernel_rfl) _ rfl)
          clear hu h0 hp
          have rq := (RV.out.below F.bel RV.out.lt).c4
          have q0 := rq.1
          have q1 := rq.2.1
          have q2 := rq.2.2.1
          have q3 := rq.2.2.2
          have rz := (RB.out.below F.bel RB.out.lt).c2
          have z0 := rz.1
          have z1 := rz.2
          have c5 := HC5.out w9 F.bel
          clear rq rz
          go_simp
          exact hK.out _ w9 (Pl.fix rfl) (F.skip 12 _ (by decide) (by decide) (by decide) (by decide))
        refine RelFrom.run rfl (fun L vals A w9 hno hdl hcl hu hp h0 F K hK => ?_) ?_
        · have e31 : A.tmps[31]?.getD undef = .bool ff := (hu 10 31 (by kernel_rfl) rfl).trans (hp 10 (by kernel_rfl) _ rfl)
          clear hu h0 hp
          have rq := (RV.out.below F.bel RV.out.lt).c4
          have q0 := rq.1
          have q1 := rq.2.1
          have q2 := rq.2.2.1
          have q3 := rq.2.2.2
          have rz := (RB.out.below F.bel RB.out.lt).c2
          have z0 := rz.1
          have z1 := rz.2
          have c5 := HC5.out w9 F.bel
          clear rq rz
          go_simp
          exact hK.out _ w9 (Pl.fix rfl) (F.skip 13 _ (by decide) (by decide) (by decide) (by decide))
        exact RelFrom.nil (by decide)
      case gfin_1 =>
        intro vals w9 hp F
        simp only [Fr, Act.put, List.setIfInBounds_toArray, List.set_cons_zero, List.set_cons_succ, Nat.reduceAdd]
        have hb9 := F.bel
        have h11 : vals 12 = .int .i64 (kk : Int) := hp 12 (by decide) _ rfl
        rw [h11]
        clear F hp h11
        have K := K.below hb9
        have HS : Hid ((if t < kk then (kk : Int) else (t : Int)) = ((max t kk : Nat) : Int)) := Lib.hid (by split <;> omega)
        have HG : Hid (max (max t kk) (usedP v b (os.drop (k + 1))) = RR) := Lib.hid (by rw [← HG', Nat.max_assoc])
        clear HG' hb9 RV RB CS HC5
        go_wp2_with fail
        go_roundw
        case rel => exact ⟨k + 1, max t kk, by omega, by go_num, by rw [HS.out], K, HG⟩
        case measure => simp [intOf]; omega
    · obtain rfl : k = N := by omega
      have hnk : ¬ ((k : Int) < (k : Int)) := by omega
      obtain rfl : t = RR := by rw [← HG.out, List.drop_of_length_le (by rw [HN.out]; exact Nat.le_refl _)]; exact (Nat.max_zero _).symm
      have hb9 := K.bel
      clear HG K
      go_wp2_with fail
      go_ret
      exact ⟨rfl, hb9⟩
end Go.Proofs.Ytfgkkmhafdbicaa.Bd23

set_option linter.unusedVariables false
set_option linter.unusedSimpArgs false
namespace Go.Proofs.Ytfgkkmhafdbicaa.Bd24
open Go.ChangeShapes Go.WideShapes Go.ChangeAt Go.RowKit Base Ints Own Clone RelG PlP Bd1 Bd4 Bd5 Bd6 Bd7 Bd7S Bd8 Bd9 Bd11 RegInv RegF RegG Bd16 Bd17 Bd18 Bd19 Bd20 Bd21 Bd22 Bd23

/-- Under way. -/
structure As1 (w wr : World) (v : Vr) (cs : List Value) (vl : Value) (X : List Pl) (n m : Nat) (uo : Value) (os : List (List Int)) : Prop where
  bel : Below w.heap.size w wr
  rv : RowB wr w.heap.size 32 [.int .i64 v.p, .int .i64 v.c, .int .i64 v.h, .int .i64 v.s]
  rb : RowB wr (w.heap.size + 1) 34 cs
  ge : w.heap.size + 3 ≤ wr.heap.size
  og : OwnG RelP wr (w.heap.size + 3) wr.heap.size 65 3 enP vl X
  co : Coll v n m X
  or_ : SlG RelI 1 en1 wr (NotIn vl 0) uo os
structure As2 (w wr : World) (v : Vr) (cs : List Value) (vl : Value) (X : List Pl) (n m : Nat) (uo : Value) (os : List (List Int)) (lv : Value) (ps : List Pl) : Prop where
  k1 : As1 w wr v cs vl X n m uo os
  pl : SlG RelP 3 enP wr (NotIn vl (w.heap.size + 3)) lv ps
section
variable {w wr w' : World} {v : Vr} {cs : List Value} {vl : Value} {X : List Pl} {n m m' : Nat} {uo lv : Value} {os : List (List Int)} {ps : List Pl}
theorem As1.below (h : As1 w wr v cs vl X n m uo os) (hb : Below wr.heap.size wr w') : As1 w w' v cs vl X n m uo os :=
  ⟨h.bel.trans (hb.mono h.bel.size), h.rv.below hb h.rv.lt, h.rb.below hb h.rb.lt, Nat.le_trans h.ge hb.size, (h.og.below_ hb).more hb.size, h.co, (relSl RelI 1 en1).keep h.or_ (.below hb)⟩
theorem As1.more (h : As1 w wr v cs vl X n m uo os) (hm : m ≤ m') : As1 w wr v cs vl X n m' uo os := ⟨h.bel, h.rv, h.rb, h.ge, h.og, h.co.more hm, h.or_⟩
theorem As1.blk (h : As1 w wr v cs vl X n m uo os) : ∀ g, vl.ownBlock = some g → w.heap.size + 3 ≤ g ∧ g < wr.heap.size := fun g hg => by obtain ⟨rs, h1, -⟩ := h.og; exact h1.block g hg
theorem As2.below (h : As2 w wr v cs vl X n m uo os lv ps) (hb : Below wr.heap.size wr w') : As2 w w' v cs vl X n m uo os lv ps := ⟨h.k1.below hb, (relSl RelP 3 enP).keep h.pl (.below hb)⟩
end
theorem lng_bd {v : Vr} {b : Bd} (hb : Ok v b) {o : List Int} (ho : (∀ d ∈ o, 1 ≤ d ∧ d ≤ 6) ∧ o.length ≤ 4) : RowOk v (lngP v b o).2.1 (lngP v b o).1 ∧ (lngP v b o).1.length ≤ 390625 := by
  obtain ⟨h1, h2⟩ := lng_rows v b o
  obtain ⟨r1, r2, r3⟩ := rowsP_ok hb (fun d hd => (ho.1 d hd).1) ho.2
  rw [h1]
  have := r1 ((rowsP v b o).1.length - 1) _ (last_of (by omega))
  exact ⟨this.1, Nat.le_trans this.2 (p25 (by omega))⟩
theorem go_skip {v : Vr} {b : Bd} {u i : Nat} {o : List Int} {os : List (List Int)} {X L : List Pl} {f ff : Bool} {kk : Nat} (hL : lngP v b o = (L, kk, ff)) (h : kk ≠ u ∨ (u = 1 ∧ i = 1 ∧ 0 < X.length)) : allGo v b u i (o :: os) X f = allGo v b u (i + 1) os X (f && ff) := by
  simp only [allGo, hL]; rw [if_pos h]
theorem go_add {v : Vr} {b : Bd} {u i : Nat} {o : List Int} {os : List (List Int)} {X L : List Pl} {f ff : Bool} {kk : Nat} (hL : lngP v b o = (L, kk, ff)) (h : ¬ (kk ≠ u ∨ (u = 1 ∧ i = 1 ∧ 0 < X.length))) : allGo v b u i (o :: os) X f = allGo v b u (i + 1) os (addAll X L) (f && ff) := by
  simp only [allGo, hL]; rw [if_neg h]

set_option maxHeartbeats 16000000 in
set_option maxRecDepth 100000 in
theorem all_s (v : Vr) (b : Bd) (hb : Ok v b) (Ao At : Option Addr) (co ct : Nat) (x y : Int) (hx : 1 ≤ x ∧ x ≤ 6) (hy : 1 ≤ y ∧ y ≤ 6) (w : World) (ho : RdS w w.heap.size 1 enI Ao b.1) (ht : RdS w w.heap.size 1 enI At b.2) (hA : Ao = none → co = 0) (hT : At = none → ct = 0) :
    Calls Try.prog 31 #[.agg #[.int .i64 v.p, .int .i64 v.c, .int .i64 v.h, .int .i64 v.s], .agg #[.slice Ao b.1.length co, .slice At b.2.length ct], .agg #[.int .i64 x, .int .i64 y]] w fun e w' => ∃ vv, e = .returned (.tuple #[vv, .bool (allP v b x y).2]) ∧ OwnG RelP w' w.heap.size w'.heap.size 65 3 enP vv (allP v b x y).1 ∧ Below w.heap.size w w' := by
  obtain ⟨i3, hi3, hy0, hy1, hy2⟩ := info_parts infoP
  have hv := hb.v1
  obtain ⟨P, hP⟩ : ∃ P : Nat, v.p = (P : Int) := ⟨v.p.toNat, by omega⟩
  have HP := Lib.hid hP
  have hP24 : P ≤ 24 := by omega
  obtain ⟨n_, hn_⟩ : ∃ n, P + 1 = n := ⟨_, rfl⟩
  have eln : b.1.length = n_ := by have := hb.own.len; omega
  have emn : b.2.length = n_ := by have := hb.oth.len; omega
  have CO := Lib.hid (fun (w9 : World) => orders_s x y w9)
  have CU := Lib.hid (fun (w9 : World) (h : Below w.heap.size w w9) => used_s v b hb Ao At co ct x y hx hy w9 ((ho.below h (Nat.le_refl _)).more h.size) ((ht.below h (Nat.le_refl _)).more h.size) hA hT)
  obtain ⟨RR, hRR⟩ : ∃ r, allP v b x y = r := ⟨_, rfl⟩
  rw [hRR]
  unfold allP at hRR
  obtain ⟨os, hos⟩ : ∃ os, ordP x y = os := ⟨_, rfl⟩
  have HD := ord_dice hx hy
  rw [hos] at HD CO CU hRR
  have HDI := Lib.hid HD.1
  have hos2 := HD.2
  have HLL := Lib.hid (fun o (h : o ∈ os) => (⟨lng_bd hb (HD.1 o h), lng_len hb (HD.1 o h)⟩ : (RowOk v (lngP v b o).2.1 (lngP v b o).1 ∧ (lngP v b o).1.length ≤ 390625) ∧ (lngP v b o).2.1 ≤ 4))
  obtain ⟨un, hun⟩ : ∃ u, usedP v b os = u := ⟨_, rfl⟩
  have hu4 : un ≤ 4 := by rw [← hun]; exact used_le (fun o h => lng_len hb (HD.1 o h))
  rw [hun] at CU hRR
  have HRR := Lib.hid hRR
  have CS := Lib.hid (fun (w9 : World) (h : Below w.heap.size w w9) (o : List Int) (ho_ : o ∈ os) (u : Value) (hu : SlV 1 enI w9 All u o) => longest_s v b hb Ao At co ct o (HDI.out o ho_).1 (HDI.out o ho_).2 u w9 ((ho.below h (Nat.le_refl _)).more h.size) ((ht.below h (Nat.le_refl _)).more h.size) hA hT hu)
  rw [eln, emn] at CS CU ⊢
  obtain ⟨N, hN⟩ : ∃ N, os.length = N := ⟨_, rfl⟩
  have HN := Lib.hid hN
  rw [hN] at hos2
  clear hb ho ht hA hT hos HD eln emn hN hx hy hRR hv hP hun
  go_enter Try.func31, Try.ntmps31
  go_upto_region 1 with (fail)
  refine wp_gen (fun W' => Below w.heap.size w W' ∧ RowB W' w.heap.size 32 [.int .i64 v.p, .int .i64 v.c, .int .i64 v.h, .int .i64 v.s] ∧ RowB W' (w.heap.size + 1) 34 [.slice Ao n_ co, .slice At n_ ct] ∧ RowB W' (w.heap.size + 2) 36 [.int .i64 x, .int .i64 y]) ⟨by go_grown, ((RowB.new _ _ _).alloc _).alloc _, RowB.alloc (RowB.new' _ _ _ (by simp)) _, RowB.new' _ _ _ (by simp)⟩ ?_
  rintro w1 ⟨hb1, rv, rb, rr⟩
  obtain ⟨q0, q1, q2, q3⟩ := rv.c4
  obtain ⟨z0, z1⟩ := rb.c2
  obtain ⟨r0, r1⟩ := rr.c2
  have hl1 := rv.lt
  have hl2 := rb.lt
  have hl3 := rr.lt
  go_wp2_with fail
  refine (CU.out w1 hb1).mono ?_
  rintro e w2 ⟨rfl, hb2⟩
  have rv := rv.below hb2 rv.lt
  have rb := rb.below hb2 rb.lt
  have rr := rr.below hb2 rr.lt
  have hb1 := hb1.trans (hb2.mono hb1.size)
  have hl3 := rr.lt
  clear q0 q1 q2 q3 z0 z1 r0 r1 hl1 hl2 hb2 CU
  go_upto_region 3 with (fail)
  refine wp_gen (fun W' => Below w2.heap.size w2 W' ∧ OwnG RelP W' (w.heap.size + 3) W'.heap.size 65 3 enP (.slice (some ⟨w2.heap.size, 0, none⟩) 0 0) []) ⟨by go_grown, ⟨[], RowB.own (xs := ([] : List PRow)) (RowB.new w2 65 []) enP_len (by omega) (by simp) (by decide), LsR.nil _ _ _⟩⟩ ?_
  rintro w3 ⟨hb3, og⟩
  have rv := rv.below hb3 rv.lt
  have rb := rb.below hb3 rb.lt
  have rr := rr.below hb3 rr.lt
  have hb1 := hb1.trans (hb3.mono hb1.size)
  have hg3 : (w2.heap.size) < w3.heap.size := by obtain ⟨rs9, h9, -⟩ := og; exact (h9.block _ rfl).2
  obtain ⟨gx, hgx⟩ : ∃ g, w2.heap.size = g := ⟨_, rfl⟩
  rw [hgx] at og hg3 ⊢
  obtain ⟨r0, r1⟩ := rr.c2
  have hl3' := rr.lt
  clear hb3 hgx
  go_wp2_with fail
  refine (CO.out w3).mono ?_
  rintro e w4 ⟨uo, rfl, hor, hb4⟩
  have K : As1 w w4 v [.slice Ao n_ co, .slice At n_ ct] (.slice (some ⟨gx, 0, none⟩) 0 0) [] un 0 uo os :=
    ⟨hb1.trans (hb4.mono hb1.size), rv.below hb4 rv.lt, rb.below hb4 rb.lt, by have := hb4.size; omega, (og.below_ hb4).more hb4.size, Coll.nil _ _, (relSl RelI 1 en1).weak hor (fun x (hx : w3.heap.size ≤ x) _ => ⟨fun h => by simp [Value.ownBlock] at h; omega, Nat.zero_le _⟩)⟩
  obtain ⟨Ar, cr, rs0, huo, -⟩ := hor
  rw [HN.out] at huo
  subst huo
  clear r0 r1 hl3 hl3' rb rr rv hb1 hb4 og hg3 CO
  have hl1 := K.rv.lt
  go_wp2_with fail
  go_loopw [9, 10, 12] (fun vl fv i wr => ∃ (k : Nat) (X : List Pl) (f : Bool), k ≤ N ∧ i = .int .i64 (k : Int) ∧ fv = .bool f ∧ As1 w wr v [.slice Ao n_ co, .slice At n_ ct] vl X un (k * 400000) (.slice Ar N cr) os ∧ Hid (allGo v b un k (os.drop k) X f = RR)) (fun _ _ i _ => N - (intOf i).toNat)
  case atStart => exact ⟨0, [], true, Nat.zero_le _, by first | rfl | trivial, by first | rfl | trivial, K.more (by omega), HRR⟩
  case round =>
    obtain ⟨k, X, f, hk, rfl, rfl, K, HG⟩ := hrel
    clear hl1
    have hl1 := K.rv.lt
    have hl2 := K.rb.lt
    by_cases hlt : k < N
    · obtain ⟨A5, c5, rs, e5, hrd5, hls5, -⟩ := K.or_
      simp only [Value.slice.injEq] at e5
      obtain ⟨rfl, -, rfl⟩ := e5
      obtain ⟨b5, o5, r, rfl, -, hb5, hr, hc5⟩ := hrd5.at_ (i := k) (by rw [hls5.1, HN.out]; exact hlt)
      obtain ⟨o, ho, hRo⟩ := hls5.at_ hr
      have hc5 : wr.cell? ⟨b5, o5 + k, none⟩ = some r := by have := hc5 0 r rfl; simpa using this
      have HOM := Lib.hid (List.mem_of_getElem? ho)
      have HRO := Lib.hid ((RelI).weak hRo (S' := All) (fun _ _ _ => trivial))
      have HG' := HG.out
      rw [drop_cons ho] at HG'
      have HC5 := Lib.hid (fun (w9 : World) (h : Below wr.heap.size wr w9) => (Below.cell h (p := ⟨b5, o5 + k, none⟩) hb5).trans hc5)
      have hkn : (k : Int) < (N : Int) := by omega
      have hwk : IntKind.i64.wrap ((k : Int) + 1) = (k : Int) + 1 := IntWalk.i64_in _ (by omega)
      have hK4 := HLL.out o HOM.out
      obtain ⟨L, hL⟩ : ∃ l, lngP v b o = l := ⟨_, rfl⟩
      have CS := Lib.hid (fun (w9 : World) (h : Below wr.heap.size wr w9) => CS.out w9 (K.bel.trans (h.mono K.bel.size)) o HOM.out r (RelI.keep HRO.out (.below h)))
      rw [hL] at CS hK4
      obtain ⟨ps, kk, ff⟩ := L
      simp only at CS hK4
      have HLE := Lib.hid hL
      have HPS := Lib.hid hK4.1
      have hK4 := hK4.2
      have HG2 := Lib.hid HG'
      have RV := Lib.hid K.rv
      have RB := Lib.hid K.rb
      have hblk := Lib.hid K.blk
      have hge := K.ge
      clear hrd5 hls5 hr ho hL hc5 hb5 HRO HG HG' hRo
      go_wp2_with fail
      refine region_rel [some 31, some 32, some 33, some 34, some 35, some 36, some 37, some 30, some 38, some 39, some 40, some 13, some 14, some 15] 14 (Pl [some (.agg #[.int .i64 v.p, .int .i64 v.c, .int .i64 v.h, .int .i64 v.s]), some (.agg #[.slice Ao n_ co, .slice At n_ ct]), some (.slice (some ⟨b5, o5, none⟩) N cr), some (.int .i64 (k : Int)), some (.pointer (some ⟨b5, o5 + k, none⟩)), some (r), none, none, none, some (.int .i64 (kk : Int)), some (.bool ff), none, some (.int .i64 (kk : Int)), some (.bool ff)]) (fun L vals w' => UsF wr ps (.int .i64 (kk : Int)) (.bool ff) (L 6) (L 7) (L 8) (L 11) (vals 6) (vals 7) (vals 8) (vals 11) w') (by kernel_rfl) (by kernel_rfl) (by kernel_rfl) (by kernel_rfl) (by kernel_rfl) (by kernel_rfl) (by kernel_rfl) ?g0_2 ?gst_2 ?gfin_2
      case g0_2 => exact ⟨(Below.refl _ _).drew, fun h => absurd h (by decide), fun h => absurd h (by decide), fun h => absurd h (by decide), fun h => absurd h (by decide)⟩
      case gst_2 =>
        refine RelFrom.run rfl (fun L vals A w9 hno hdl hcl hu hp h0 F K hK => ?_) ?_
        · have e3 : A.tmps[3]?.getD undef = .pointer (some ⟨w.heap.size, 0, none⟩) := h0 3 (fun j _ hj => absurd (List.mem_of_getElem? hj) (by decide))
          clear hu h0 hp
          have rq := (RV.out.below F.bel RV.out.lt).c4
          have q0 := rq.1
          have q1 := rq.2.1
          have q2 := rq.2.2.1
          have q3 := rq.2.2.2
          have rz := (RB.out.below F.bel RB.out.lt).c2
          have z0 := rz.1
          have z1 := rz.2
          have c5 := HC5.out w9 F.bel
          clear rq rz
          go_simp
          exact hK.out _ w9 (Pl.fix rfl) (F.skip 0 _ (by decide) (by decide) (by decide) (by decide))
        refine RelFrom.run rfl (fun L vals A w9 hno hdl hcl hu hp h0 F K hK => ?_) ?_
        · have e4 : A.tmps[4]?.getD undef = .pointer (some ⟨w.heap.size + 1, 0, none⟩) := h0 4 (fun j _ hj => absurd (List.mem_of_getElem? hj) (by decide))
          clear hu h0 hp
          have rq := (RV.out.below F.bel RV.out.lt).c4
          have q0 := rq.1
          have q1 := rq.2.1
          have q2 := rq.2.2.1
          have q3 := rq.2.2.2
          have rz := (RB.out.below F.bel RB.out.lt).c2
          have z0 := rz.1
          have z1 := rz.2
          have c5 := HC5.out w9 F.bel
          clear rq rz
          go_simp
          exact hK.out _ w9 (Pl.fix rfl) (F.skip 1 _ (by decide) (by decide) (by decide) (by decide))
        refine RelFrom.run rfl (fun L vals A w9 hno hdl hcl hu hp h0 F K hK => ?_) ?_
        · have e11 : A.tmps[11]?.getD undef = .slice (some ⟨b5, o5, none⟩) N cr := h0 11 (fun j _ hj => absurd (List.mem_of_getElem? hj) (by decide))
          clear hu h0 hp
          have rq := (RV.out.below F.bel RV.out.lt).c4
          have q0 := rq.1
          have q1 := rq.2.1
          have q2 := rq.2.2.1
          have q3 := rq.2.2.2
          have rz := (RB.out.below F.bel RB.out.lt).c2
          have z0 := rz.1
          have z1 := rz.2
          have c5 := HC5.out w9 F.bel
          clear rq rz
          go_simp
          exact hK.out _ w9 (Pl.fix rfl) (F.skip 2 _ (by decide) (by decide) (by decide) (by decide))
        refine RelFrom.run rfl (fun L vals A w9 hno hdl hcl hu hp h0 F K hK => ?_) ?_
        · have e12 : A.tmps[12]?.getD undef = .int .i64 (k : Int) := h0 12 (fun j _ hj => absurd (List.mem_of_getElem? hj) (by decide))
          clear hu h0 hp
          have rq := (RV.out.below F.bel RV.out.lt).c4
          have q0 := rq.1
          have q1 := rq.2.1
          have q2 := rq.2.2.1
          have q3 := rq.2.2.2
          have rz := (RB.out.below F.bel RB.out.lt).c2
          have z0 := rz.1
          have z1 := rz.2
          have c5 := HC5.out w9 F.bel
          clear rq rz
          go_simp
          exact hK.out _ w9 (Pl.fix rfl) (F.skip 3 _ (by decide) (by decide) (by decide) (by decide))
        refine RelFrom.run rfl (fun L vals A w9 hno hdl hcl hu hp h0 F K hK => ?_) ?_
        · have e33 : A.tmps[33]?.getD undef = .slice (some ⟨b5, o5, none⟩) N cr := (hu 2 33 (by kernel_rfl) rfl).trans (hp 2 (by kernel_rfl) _ rfl)
          have e34 : A.tmps[34]?.getD undef = .int .i64 (k : Int) := (hu 3 34 (by kernel_rfl) rfl).trans (hp 3 (by kernel_rfl) _ rfl)
          clear hu h0 hp
          have rq := (RV.out.below F.bel RV.out.lt).c4
          have q0 := rq.1
          have q1 := rq.2.1
          have q2 := rq.2.2.1
          have q3 := rq.2.2.2
          have rz := (RB.out.below F.bel RB.out.lt).c2
          have z0 := rz.1
          have z1 := rz.2
          have c5 := HC5.out w9 F.bel
          clear rq rz
          go_simp
          exact hK.out _ w9 (Pl.fix rfl) (F.skip 4 _ (by decide) (by decide) (by decide) (by decide))
        refine RelFrom.run rfl (fun L vals A w9 hno hdl hcl hu hp h0 F K hK => ?_) ?_
        · have e35 : A.tmps[35]?.getD undef = .pointer (some ⟨b5, o5 + k, none⟩) := (hu 4 35 (by kernel_rfl) rfl).trans (hp 4 (by kernel_rfl) _ rfl)
          clear hu h0 hp
          have rq := (RV.out.below F.bel RV.out.lt).c4
          have q0 := rq.1
          have q1 := rq.2.1
          have q2 := rq.2.2.1
          have q3 := rq.2.2.2
          have rz := (RB.out.below F.bel RB.out.lt).c2
          have z0 := rz.1
          have z1 := rz.2
          have c5 := HC5.out w9 F.bel
          clear rq rz
          go_simp
          exact hK.out _ w9 (Pl.fix rfl) (F.skip 5 _ (by decide) (by decide) (by decide) (by decide))
        refine RelFrom.run rfl (fun L vals A w9 hno hdl hcl hu hp h0 F K hK => ?_) ?_
        · have e31 : A.tmps[31]?.getD undef = .agg #[.int .i64 v.p, .int .i64 v.c, .int .i64 v.h, .int .i64 v.s] := (hu 0 31 (by kernel_rfl) rfl).trans (hp 0 (by kernel_rfl) _ rfl)
          have e32 : A.tmps[32]?.getD undef = .agg #[.slice Ao n_ co, .slice At n_ ct] := (hu 1 32 (by kernel_rfl) rfl).trans (hp 1 (by kernel_rfl) _ rfl)
          have e36 : A.tmps[36]?.getD undef = r := (hu 5 36 (by kernel_rfl) rfl).trans (hp 5 (by kernel_rfl) _ rfl)
          clear hu h0 hp
          go_simp
          refine (CS.out w9 F.bel).mono ?_
          rintro e w6 ⟨vv, rfl, h3, hb6⟩
          exact hK.out _ w6 (Pl.any rfl) (by simpa [upd] using F.s6 (fun h => hno (hcl 7 6 (by kernel_rfl) h)) (fun h => hno (hcl 8 6 (by kernel_rfl) h)) (fun h => hno (hcl 11 6 (by kernel_rfl) h)) hb6 h3)
        refine RelFrom.run rfl (fun L vals A w9 hno hdl hcl hu hp h0 F K hK => ?_) ?_
        · have e37 : A.tmps[37]?.getD undef = vals 6 := hu 6 37 (by kernel_rfl) rfl
          clear hu h0 hp
          go_simp
          exact hK.out _ w9 (Pl.any rfl) (by simpa [upd] using F.s7)
        refine RelFrom.run rfl (fun L vals A w9 hno hdl hcl hu hp h0 F K hK => ?_) ?_
        · have e30 : A.tmps[30]?.getD undef = vals 7 := hu 7 30 (by kernel_rfl) rfl
          clear hu h0 hp
          have q6 := F.f6 (hdl 6 (by kernel_rfl))
          refine q6.elim fun vv q6 => ?_
          have em := (e30.trans (F.f7 (hdl 7 (by kernel_rfl)))).trans q6.1
          clear e30
          go_simp
          exact hK.out _ w9 (Pl.any rfl) (by simpa [upd] using F.s8 (fun h => hno (hcl 11 8 (by kernel_rfl) h)) q6.2)
        refine RelFrom.run rfl (fun L vals A w9 hno hdl hcl hu hp h0 F K hK => ?_) ?_
        · have e30 : A.tmps[30]?.getD undef = vals 7 := hu 7 30 (by kernel_rfl) rfl
          clear hu h0 hp
          have q6 := F.f6 (hdl 6 (by kernel_rfl))
          refine q6.elim fun vv q6 => ?_
          have em := (e30.trans (F.f7 (hdl 7 (by kernel_rfl)))).trans q6.1
          clear e30
          go_simp
          exact hK.out _ w9 (Pl.fix rfl) (F.skip 9 _ (by decide) (by decide) (by decide) (by decide))
        refine RelFrom.run rfl (fun L vals A w9 hno hdl hcl hu hp h0 F K hK => ?_) ?_
        · have e30 : A.tmps[30]?.getD undef = vals 7 := hu 7 30 (by kernel_rfl) rfl
          clear hu h0 hp
          have q6 := F.f6 (hdl 6 (by kernel_rfl))
          refine q6.elim fun vv q6 => ?_
          have em := (e30.trans (F.f7 (hdl 7 (by kernel_rfl)))).trans q6.1
          clear e30
          go_simp
          exact hK.out _ w9 (Pl.fix rfl) (F.skip 10 _ (by decide) (by decide) (by decide) (by decide))
        refine RelFrom.run rfl (fun L vals A w9 hno hdl hcl hu hp h0 F K hK => ?_) ?_
        · have e38 : A.tmps[38]?.getD undef = vals 8 := hu 8 38 (by kernel_rfl) rfl
          clear hu h0 hp
          go_simp
          exact hK.out _ w9 (Pl.any rfl) (by simpa [upd] using F.s11)
        refine RelFrom.run rfl (fun L vals A w9 hno hdl hcl hu hp h0 F K hK => ?_) ?_
        · have e39 : A.tmps[39]?.getD undef = .int .i64 (kk : Int) := (hu 9 39 (by kernel_rfl) rfl).trans (hp 9 (by kernel_rfl) _ rfl)
          clear hu h0 hp
          have rq := (RV.out.below F.bel RV.out.lt).c4
          have q0 := rq.1
          have q1 := rq.2.1
          have q2 := rq.2.2.1
          have q3 := rq.2.2.2
          have rz := (RB.out.below F.bel RB.out.lt).c2
          have z0 := rz.1
          have z1 := rz.2
          have c5 := HC5.out w9 F.bel
          clear rq rz
          go_simp
          exact hK.out _ w9 (Pl.fix rfl) (F.skip 12 _ (by decide) (by decide) (by decide) (by decide))
        refine RelFrom.run rfl (fun L vals A w9 hno hdl hcl hu hp h0 F K hK => ?_) ?_
        · have e40 : A.tmps[40]?.getD undef = .bool ff := (hu 10 40 (by kernel_rfl) rfl).trans (hp 10 (by kernel_rfl) _ rfl)
          clear hu h0 hp
          have rq := (RV.out.below F.bel RV.out.lt).c4
          have q0 := rq.1
          have q1 := rq.2.1
          have q2 := rq.2.2.1
          have q3 := rq.2.2.2
          have rz := (RB.out.below F.bel RB.out.lt).c2
          have z0 := rz.1
          have z1 := rz.2
          have c5 := HC5.out w9 F.bel
          clear rq rz
          go_simp
          exact hK.out _ w9 (Pl.fix rfl) (F.skip 13 _ (by decide) (by decide) (by decide) (by decide))
        exact RelFrom.nil (by decide)
      case gfin_2 =>
        intro vals w9 hp F
        simp only [Fr, Act.put, List.setIfInBounds_toArray, List.set_cons_zero, List.set_cons_succ, Nat.reduceAdd]
        have hb9 := F.bel
        have h12 : vals 12 = .int .i64 (kk : Int) := hp 12 (by decide) _ rfl
        have h13 : vals 13 = .bool ff := hp 13 (by decide) _ rfl
        have o8 := F.f8 trivial
        have h11 := F.f11 trivial
        rw [h12, h13, h11]
        clear F hp h12 h13 h11
        generalize vals 8 = lv at o8 ⊢
        have hPL : SlG RelP 3 enP w9 (NotIn u9 (w.heap.size + 3)) lv ps := (relSl RelP 3 enP).weak (o8.sl enP_len (Nat.le_refl _)) (fun x (hx : wr.heap.size ≤ x) _ => ⟨fun h => by have := (hblk.out x h).2; omega, by omega⟩)
        obtain ⟨An, cn, hlv, -⟩ := Bd19.OwnG.form enP_len o8
        obtain ⟨M, hM⟩ : ∃ M, ps.length = M := ⟨_, rfl⟩
        rw [hM] at hlv
        subst hlv
        have HMM := Lib.hid hM
        have hM4 : M ≤ 390625 := by rw [← hM]; exact HPS.out.2
        have K := K.below hb9
        obtain ⟨Ax, cx, hvx, -⟩ := Bd19.OwnG.form enP_len K.og
        obtain ⟨XL, hXL⟩ : ∃ l, X.length = l := ⟨_, rfl⟩
        rw [hXL] at hvx
        have HXL := Lib.hid hXL
        have hXm : XL ≤ 9223372036854775807 := by obtain ⟨rs9, h9, h9'⟩ := K.og; obtain ⟨A8, c8, e8, r8⟩ := h9.form enP_len; have := r8.len; rw [h9'.1] at this; omega
        have K2 : As2 w w9 v [.slice Ao n_ co, .slice At n_ ct] u9 X un (k * 400000) (.slice (some ⟨b5, o5, none⟩) N cr) os (.slice An M cn) ps := ⟨K, hPL⟩
        clear K hPL o8 hb9 RV RB CS HC5 hM hXL hblk hge
        by_cases hs : kk ≠ un ∨ (un = 1 ∧ k = 1 ∧ 0 < XL)
        · have HGA : Hid (allGo v b un (k + 1) (os.drop (k + 1)) X (f && ff) = RR) := Lib.hid (by rw [← HG2.out, go_skip HLE.out (by rw [HXL.out]; exact hs)])
          have K9 : As1 w w9 v [.slice Ao n_ co, .slice At n_ ct] u9 X un ((k + 1) * 400000) (.slice (some ⟨b5, o5, none⟩) N cr) os := K2.k1.more (by omega)
          clear HG2 K2
          subst hvx
          by_cases h1 : kk ≠ un
          · have e1 : ((kk : Int) != (un : Int)) = true := by simp; omega
            have H1 := Lib.hid h1
            clear h1 hs
            cases f
            all_goals
              go_wp2_with fail
              go_roundw
              case rel => exact ⟨k + 1, X, _, by omega, by go_num, by first | rfl | simp, K9, by first | exact HGA | simpa using HGA⟩
              case measure => simp [intOf]; omega
          · obtain ⟨h2, h3, h4⟩ := hs.resolve_left h1
            have e1 : ((kk : Int) != (un : Int)) = false := by simp; omega
            have e2 : ((un : Int) == 1) = true := by simp; omega
            have e3 : ((k : Int) == 1) = true := by simp; omega
            have e4 : (0 : Int) < (XL : Int) := by omega
            have H1 := Lib.hid h1
            have H2 := Lib.hid h2
            have H3 := Lib.hid h3
            clear h1 h2 h3 h4 hs
            cases f
            all_goals
              go_wp2_with fail
              go_roundw
              case rel => exact ⟨k + 1, X, _, by omega, by go_num, by first | rfl | simp, K9, by first | exact HGA | simpa using HGA⟩
              case measure => simp [intOf]; omega
        · have hku : kk = un := by omega
          have HGA : Hid (allGo v b un (k + 1) (os.drop (k + 1)) (addAll X ps) (f && ff) = RR) := Lib.hid (by rw [← HG2.out, go_add HLE.out (by rw [HXL.out]; exact hs)])
          have HPU : Hid (RowOk v un ps) := Lib.hid (by have := HPS.out.1; rw [hku] at this; exact this)
          have e1 : ((kk : Int) != (un : Int)) = false := by simp; omega
          have hcs : (¬ un = 1) ∨ (un = 1 ∧ ¬ k = 1) ∨ (un = 1 ∧ k = 1 ∧ XL = 0) := by omega
          have HKU := Lib.hid hku
          clear hku hs HG2
          subst hvx
          rcases hcs with h2 | ⟨h2, h3⟩ | ⟨h2, h3, h4⟩
          all_goals
            first
              | have e2 : ((un : Int) == 1) = false := by simp; omega
              | have e2 : ((un : Int) == 1) = true := by simp; omega
            first
              | have e3 : ((k : Int) == 1) = true := by simp; omega
              | have e3 : ((k : Int) == 1) = false := by simp; omega
              | skip
            try have e4 : ¬ ((0 : Int) < (XL : Int)) := by omega
            have H2 := Lib.hid h2
            try have H3 := Lib.hid h3
            try have H4 := Lib.hid h4
            clear h2
            try clear h3
            try clear h4
            cases f
          all_goals
            go_wp2_with fail
            go_loopw [9, 16] (fun vl i wq => ∃ j : Nat, j ≤ M ∧ i = .int .i64 (j : Int) ∧ As2 w wq v [.slice Ao n_ co, .slice At n_ ct] vl (addAll X (ps.take j)) un (k * 400000 + j) (.slice (some ⟨b5, o5, none⟩) N cr) os (.slice An M cn) ps) (fun _ i _ => M - (intOf i).toNat)
            case atStart => exact ⟨0, Nat.zero_le _, by first | rfl | trivial, ⟨K2.k1.more (by omega), K2.pl⟩⟩
            case round =>
              obtain ⟨j, hj, rfl, K2⟩ := hrel
              by_cases hlj : j < M
              · obtain ⟨A7, c7, rs7, e7, hrd7, hls7, -⟩ := K2.pl
                simp only [Value.slice.injEq] at e7
                obtain ⟨rfl, -, rfl⟩ := e7
                obtain ⟨b7, o7, r7, rfl, -, hb7, hr7, hc7⟩ := hrd7.at_ (i := j) (by rw [hls7.1, HMM.out]; exact hlj)
                obtain ⟨p, hp, hR7⟩ := hls7.at_ hr7
                have HPO := Lib.hid (HPU.out p (List.mem_of_getElem? hp))
                have HS := Lib.hid (show addAll X (ps.take (j + 1)) = addOne (addAll X (ps.take j)) p from by rw [takeS hp, addAll_snoc])
                obtain ⟨Y, hY⟩ : ∃ Y, addAll X (ps.take j) = Y := ⟨_, rfl⟩
                rw [hY] at K2 HS
                obtain ⟨sp, bd⟩ := p
                obtain ⟨r0, rl, rm⟩ := r7
                have HR7 := Lib.hid hR7
                have hR1 := hR7.2.1
                have hR2 := hR7.2.2
                simp only at hR1 hR2 HPO
                obtain ⟨A3, c3, rfl, k3, -⟩ := hR1
                obtain ⟨A4, c4, rfl, k4, -⟩ := hR2
                have hl3 : bd.1.length = n_ := by have := HPO.out.1.own.len; have := HP.out; omega
                have hl4 : bd.2.length = n_ := by have := HPO.out.1.oth.len; have := HP.out; omega
                obtain ⟨A0, n0, c0', hr0⟩ : ∃ A n c, r0 = .slice A n c := by
                  obtain ⟨A0, c0', e0', -⟩ := hR7.1.1.form enSt_len
                  exact ⟨_, _, _, e0'⟩
                subst hr0
                have PC := Lib.hid (fun (w9 : World) (h : Below wr.heap.size wr w9) => by
                  have e := fun (i : Nat) (u : Value) (hu : (enP (.slice A0 n0 c0', .slice A3 bd.1.length c3, .slice A4 bd.2.length c4))[i]? = some u) => ((Below.cell h (p := ⟨b7, o7 + j * 3 + i, none⟩) hb7).trans (hc7 i u hu))
                  have h0 : w9.cell? ⟨b7, o7 + j * 3, none⟩ = some (.slice A0 n0 c0') := e 0 _ rfl
                  have h1 : w9.cell? ⟨b7, o7 + j * 3 + 1, none⟩ = some (.slice A3 n_ c3) := by have := e 1 _ rfl; simp only [hl3] at this; exact this
                  have h2 : w9.cell? ⟨b7, o7 + j * 3 + 2, none⟩ = some (.slice A4 n_ c4) := by have := e 2 _ rfl; simp only [hl4] at this; exact this
                  exact (⟨h0, h1, h2⟩ : w9.cell? ⟨b7, o7 + j * 3, none⟩ = some (.slice A0 n0 c0') ∧ w9.cell? ⟨b7, o7 + j * 3 + 1, none⟩ = some (.slice A3 n_ c3) ∧ w9.cell? ⟨b7, o7 + j * 3 + 2, none⟩ = some (.slice A4 n_ c4)))
                obtain ⟨c0, c1, c2⟩ := PC.out wr (Below.refl _ _)
                have hji : (j : Int) < (M : Int) := by omega
                have hwj : IntKind.i64.wrap ((j : Int) + 1) = (j : Int) + 1 := IntWalk.i64_in _ (by omega)
                have FI := Lib.hid (find_s Y bd n_ (by omega) (row_sides K2.k1.co.ok (by have := HP.out; omega)) hl3 hl4 u9 A3 A4 c3 c4 wr.heap.size wr (Nat.le_refl _) ((relSl RelP 3 enP).weak (K2.k1.og.sl enP_len (Nat.le_refl _)) (fun _ _ _ => trivial)) k3.rd k4.rd)
                have HL3 := Lib.hid hl3
                have HL4 := Lib.hid hl4
                rw [HL3.out, HL4.out] at HR7
                clear hY hp hR7 hc7 hrd7 hls7 hr7 k3 k4 hl3 hl4 hb7
                go_wp2_with fail
                refine FI.out.mono ?_
                rintro e w8 ⟨r8, rfl, hr8, hb8⟩
                have K2 := K2.below hb8
                have HR8 := RelP.keep HR7.out (.below hb8)
                obtain ⟨d0, d1, d2⟩ := PC.out w8 hb8
                clear c0 c1 c2 FI HR7 PC hb8
                obtain ⟨x9, hx9⟩ : ∃ x, hasB Y bd = x := ⟨_, rfl⟩
                rw [hx9] at hr8
                have HX := Lib.hid hx9
                clear hx9
                cases x9
                case true =>
                  have hr8 : decide (r8 < 0) = false := hr8
                  have HS' : addAll X (ps.take (j + 1)) = Y := by rw [HS.out]; exact addOne_has HX.out
                  have K9 : As2 w w8 v [.slice Ao n_ co, .slice At n_ ct] u9 (addAll X (ps.take (j + 1))) un (k * 400000 + (j + 1)) (.slice (some ⟨b5, o5, none⟩) N cr) os (.slice (some ⟨b7, o7, none⟩) M cn) ps := by
                    rw [HS']
                    exact ⟨K2.k1.more (by omega), K2.pl⟩
                  clear K2 HS'
                  go_wp2_with fail
                  go_roundw
                  case rel => exact ⟨j + 1, by omega, by go_num, K9⟩
                  case measure => simp [intOf]; omega
                case false =>
                  have hr8 : decide (r8 < 0) = true := hr8
                  have hy25 : Y.length ≤ 10000000 := by have := K2.k1.co.len; omega
                  have HSN := Lib.hid (show addAll X (ps.take (j + 1)) = Y ++ [(sp, bd)] from by rw [HS.out]; exact addOne_new HX.out)
                  have hco := K2.k1.co.add (p := (sp, bd)) HPO.out
                  rw [addOne_new (show hasB Y bd = false from HX.out)] at hco
                  obtain ⟨rs9, ho9, hl9⟩ := K2.k1.og
                  have hrl := Lib.hid hl9.1
                  have hu := ho9.block
                  have hge := K2.k1.ge
                  go_wp2_with (at_builtin; refine wpL_one rfl _ _ _ rfl (w.heap.size + 3) _ 65 i3 (.agg #[.slice none 0 0, .slice none 0 0, .slice none 0 0]) 3 72 Try.underlying55 hi3 hy0 hy1 hy2 rfl (by decide) enP_len u9 rs9 (.slice A0 n0 c0', .slice A3 n_ c3, .slice A4 n_ c4) (one_P _ ⟨rfl, rfl, rfl⟩) rfl (ho9.alloc _) w8.heap.size 1 65 rfl (RowB.new _ _ _) ?d1 ?d2 ?d3 ?_)
                  case d1 => have := hrl.out; unfold maxLen; omega
                  case d2 => have := hrl.out; omega
                  case d3 => go_size
                  intro g14 c14 w12 ho12 hg12 hat12 hlt12
                  have hbA : Below w8.heap.size w8 (w8.alloc (.cells #[.slice A0 n0 c0', .slice A3 n_ c3, .slice A4 n_ c4] 65)) := by go_grown
                  have hat12 : u9.ownBlock = some g14 ∨ g14 = (w8.alloc (.cells #[.slice A0 n0 c0', .slice A3 n_ c3, .slice A4 n_ c4] 65)).heap.size := by simpa using hat12
                  have hgW : w8.grownBy w12 u9.ownBlock := below_grown (w := w8) hbA hg12
                  have hX8 : RelP.R w8 (NotIn u9 (w.heap.size + 3)) (.slice A0 n0 c0', .slice A3 n_ c3, .slice A4 n_ c4) (sp, bd) := HR8
                  have og := own_snoc (hl9.keep (.below hbA)) (RelP.keep hX8 (.below hbA)) ho12 hg12 hat12
                  have or2 := app_still (K := relSl RelI 1 en1) (n := rs9.length + 1) (c := c14) hg12 hat12 ((relSl RelI 1 en1).keep K2.k1.or_ (.below hbA))
                  have pl := app_still (K := relSl RelP 3 enP) (n := rs9.length + 1) (c := c14) hg12 hat12 ((relSl RelP 3 enP).keep K2.pl (.below hbA))
                  have K9 : As2 w w12 v [.slice Ao n_ co, .slice At n_ ct] (.slice (some ⟨g14, 0, none⟩) (rs9.length + 1) c14) (addAll X (ps.take (j + 1))) un (k * 400000 + (j + 1)) (.slice (some ⟨b5, o5, none⟩) N cr) os (.slice (some ⟨b7, o7, none⟩) M cn) ps := by
                    rw [HSN.out]
                    exact ⟨⟨K2.k1.bel.grown hgW K2.k1.bel.size (fun g hg => by have := (hu g hg).1; omega), K2.k1.rv.grown hgW (fun g hg => by have := (hu g hg).1; omega), K2.k1.rb.grown hgW (fun g hg => by have := (hu g hg).1; omega), Nat.le_trans hge hgW.size, og, hco.more (by omega), or2⟩, pl⟩
                  clear og or2 pl hgW hbA ho12 hg12 hat12 ho9 hl9 hu HR8 hX8 K2 d0 d1 d2
                  go_wp2_with fail
                  go_roundw
                  case rel => exact ⟨j + 1, by omega, by go_num, K9⟩
                  case measure => simp [intOf]; omega
              · obtain rfl : j = M := by omega
                have hnj : ¬ ((j : Int) < (j : Int)) := by omega
                have hall : ps.take j = ps := List.take_of_length_le (by rw [HMM.out]; exact Nat.le_refl _)
                rw [hall] at K2
                have K9 : As1 w wr v [.slice Ao n_ co, .slice At n_ ct] u9 (addAll X ps) un ((k + 1) * 400000) (.slice (some ⟨b5, o5, none⟩) N cr) os := K2.k1.more (by omega)
                clear hall K2
                go_wp2_with fail
                go_roundw
                case rel => exact ⟨k + 1, addAll X ps, _, by omega, by go_num, by first | rfl | simp, K9, by first | exact HGA | simpa using HGA⟩
                case measure => simp [intOf]; omega
    · obtain rfl : k = N := by omega
      have hnk : ¬ ((k : Int) < (k : Int)) := by omega
      obtain rfl : (X, f) = RR := by rw [← HG.out, List.drop_of_length_le (by rw [HN.out]; exact Nat.le_refl _)]; rfl
      have hb9 := K.bel
      have hog := K.og.less (lo' := w.heap.size) (by omega)
      clear HG K
      go_wp2_with fail
      go_ret2
      exact ⟨_, rfl, hog, hb9⟩
end Go.Proofs.Ytfgkkmhafdbicaa.Bd24
