/-
  The kept sequences of the greatest length for an order of dice: of the reference (l05Longest). Conditions: each theorem's own.
-/
import Derived.Test.YtfgkkmhafdbicaaBd21
set_option linter.unusedVariables false
set_option linter.unusedSimpArgs false
namespace Go.Proofs.Ytfgkkmhafdbicaa.Bd22
open Go.ChangeShapes Go.WideShapes Go.ChangeAt Go.RowKit Base Ints Own Clone RelG PlP Bd1 Bd4 Bd5 Bd6 Bd7 Bd7S Bd8 Bd9 Bd11 RegInv RegF RegG Bd16 Bd17 Bd18 Bd19 Bd20 Bd21

theorem lng_zero_ {v : Vr} {d : Int} {ds : List Int} {ps : List Pl} {k : Nat} {f : Bool} (h : (nextP v d ps).length = 0) : lngGo v (d :: ds) ps k f = (ps, k, f && decide ((nextP v d ps).length ≤ 3000)) := by
  simp only [lngGo]; rw [if_pos h]
theorem lng_more_ {v : Vr} {d : Int} {ds : List Int} {ps : List Pl} {k : Nat} {f : Bool} (h : ¬ (nextP v d ps).length = 0) : lngGo v (d :: ds) ps k f = lngGo v ds (nextP v d ps) (k + 1) (f && decide ((nextP v d ps).length ≤ 3000)) := by
  simp only [lngGo]; rw [if_neg h]
theorem max_inc (k : Nat) : k + 1 = k + 1 := rfl
/-- One play in a block of its own. -/
theorem one_play' {W : World} {b : Bd} {g1 lo : Nat} {u0 u1 u2 : Value} (h1 : RowB W g1 65 [u0, u1, u2]) (l1 : lo ≤ g1) (k0 : OwnV 71 4 enSt W (fun x => lo ≤ x ∧ x ≠ g1) u0 [])
    (k1 : OwnV 2 1 enI W (fun x => lo ≤ x ∧ x ≠ g1) u1 b.1) (k2 : OwnV 2 1 enI W (fun x => lo ≤ x ∧ x ≠ g1) u2 b.2) : OwnG RelP W lo W.heap.size 65 3 enP (.slice (some ⟨g1, 0, none⟩) 1 1) [([], b)] := by
  have ni : ∀ x, (lo ≤ x ∧ x ≠ g1) → NotIn (.slice (some ⟨g1, 0, none⟩) 1 1) lo x := fun x hx => ⟨fun e => hx.2 (by simp [Value.ownBlock] at e; exact e.symm), hx.1⟩
  refine ⟨[((u0, u1, u2) : PRow)], RowB.own (xs := [((u0, u1, u2) : PRow)]) h1 enP_len l1 h1.lt (show 1 ≤ maxLen by decide), LsR.snoc (LsR.nil _ _ _) ?_⟩
  exact RelP.weak (S := fun x => lo ≤ x ∧ x ≠ g1) ⟨k0, k1.sl enI_len, k2.sl enI_len⟩ (fun x hx _ => ni x hx)
/-- The first play is put together. -/
structure LgF (w1 : World) (b : Bd) (n : Nat) (p0 p3 p6 p7 p8 p9 p10 : Prop) (v0 v3 v6 v7 v8 v9 v10 : Value) (w' : World) : Prop where
  bel : Below w1.heap.size w1 w'
  f0 : p0 → OwnV 71 4 enSt w' (fun x => w1.heap.size ≤ x) v0 []
  f3 : p3 → OwnV 2 1 enI w' (fun x => w1.heap.size ≤ x) v3 b.1
  f6 : p6 → OwnV 2 1 enI w' (fun x => w1.heap.size ≤ x) v6 b.2
  f7 : p7 → v7 = .agg #[v3, v6]
  f8 : p8 → v8 = .agg #[v0, v3, v6]
  f9 : p9 → ∃ g, v9 = .slice (some ⟨g, 0, none⟩) 1 1 ∧ OwnG RelP w' w1.heap.size w'.heap.size 65 3 enP v9 [([], b)]
  f10 : p10 → v10 = v9
section
variable {w1 w' w'' : World} {b : Bd} {n : Nat} {p0 p3 p6 p7 p8 p9 p10 : Prop} {v0 v3 v6 v7 v8 v9 v10 v' : Value}
theorem LgF.skip {L : Nat → Prop} {vals : Nat → Value} (F : LgF w1 b n (L 0) (L 3) (L 6) (L 7) (L 8) (L 9) (L 10) (vals 0) (vals 3) (vals 6) (vals 7) (vals 8) (vals 9) (vals 10) w') (k : Nat) (x : Value) (h0 : 0 ≠ k) (h3 : 3 ≠ k) (h6 : 6 ≠ k) (h7 : 7 ≠ k) (h8 : 8 ≠ k) (h9 : 9 ≠ k) (h10 : 10 ≠ k) :
    LgF w1 b n (0 = k ∨ L 0) (3 = k ∨ L 3) (6 = k ∨ L 6) (7 = k ∨ L 7) (8 = k ∨ L 8) (9 = k ∨ L 9) (10 = k ∨ L 10) (upd vals k x 0) (upd vals k x 3) (upd vals k x 6) (upd vals k x 7) (upd vals k x 8) (upd vals k x 9) (upd vals k x 10) w' := by
  rw [or_ne h0, or_ne h3, or_ne h6, or_ne h7, or_ne h8, or_ne h9, or_ne h10, upd_ne h0, upd_ne h3, upd_ne h6, upd_ne h7, upd_ne h8, upd_ne h9, upd_ne h10]; exact F
theorem LgF.below (F : LgF w1 b n p0 p3 p6 p7 p8 p9 p10 v0 v3 v6 v7 v8 v9 v10 w') (hb : Below w'.heap.size w' w'') : LgF w1 b n p0 p3 p6 p7 p8 p9 p10 v0 v3 v6 v7 v8 v9 v10 w'' :=
  ⟨F.bel.trans (hb.mono F.bel.size), fun h => (F.f0 h).keep (.below hb), fun h => (F.f3 h).keep (.below hb), fun h => (F.f6 h).keep (.below hb), F.f7, F.f8, fun h => by obtain ⟨g, e, ho⟩ := F.f9 h; exact ⟨g, e, (ho.below_ hb).more hb.size⟩, F.f10⟩
theorem LgF.s0 (F : LgF w1 b n p0 p3 p6 p7 p8 p9 p10 v0 v3 v6 v7 v8 v9 v10 w') (n8 : ¬ p8) : LgF w1 b n True p3 p6 p7 p8 p9 p10 (.slice (some ⟨w'.heap.size, 0, none⟩) 0 0) v3 v6 v7 v8 v9 v10 (w'.alloc (.cells ⟨[]⟩ 71)) := by
  have G := F.below (w'' := w'.alloc (.cells ⟨[]⟩ 71)) ((Below.refl _ _).alloc (Nat.le_refl _) _)
  exact ⟨G.bel, fun _ => OwnV.of (RowB.own (xs := ([] : List Stp)) (RowB.new w' 71 []) enSt_len F.bel.size (by simp) (by decide)) (Nat.le_refl _) (fun x hx _ => hx), G.f3, G.f6, G.f7, fun h => absurd h n8, G.f9, G.f10⟩
theorem LgF.s3 (F : LgF w1 b n p0 p3 p6 p7 p8 p9 p10 v0 v3 v6 v7 v8 v9 v10 w') (n7 : ¬ p7) (n8 : ¬ p8) (hb : Below w'.heap.size w' w'') (ho : OwnS w'' w'.heap.size w''.heap.size 2 1 enI v' b.1) : LgF w1 b n p0 True p6 p7 p8 p9 p10 v0 v' v6 v7 v8 v9 v10 w'' := by
  have G := F.below hb
  exact ⟨G.bel, G.f0, fun _ => OwnV.of ho (Nat.le_refl _) (fun x hx _ => Nat.le_trans F.bel.size hx), G.f6, fun h => absurd h n7, fun h => absurd h n8, G.f9, G.f10⟩
theorem LgF.s6 (F : LgF w1 b n p0 p3 p6 p7 p8 p9 p10 v0 v3 v6 v7 v8 v9 v10 w') (n7 : ¬ p7) (n8 : ¬ p8) (hb : Below w'.heap.size w' w'') (ho : OwnS w'' w'.heap.size w''.heap.size 2 1 enI v' b.2) : LgF w1 b n p0 p3 True p7 p8 p9 p10 v0 v3 v' v7 v8 v9 v10 w'' := by
  have G := F.below hb
  exact ⟨G.bel, G.f0, G.f3, fun _ => OwnV.of ho (Nat.le_refl _) (fun x hx _ => Nat.le_trans F.bel.size hx), fun h => absurd h n7, fun h => absurd h n8, G.f9, G.f10⟩
theorem LgF.s7 (F : LgF w1 b n p0 p3 p6 p7 p8 p9 p10 v0 v3 v6 v7 v8 v9 v10 w') : LgF w1 b n p0 p3 p6 True p8 p9 p10 v0 v3 v6 (.agg #[v3, v6]) v8 v9 v10 w' :=
  ⟨F.bel, F.f0, F.f3, F.f6, fun _ => rfl, F.f8, F.f9, F.f10⟩
theorem LgF.s8 (F : LgF w1 b n p0 p3 p6 p7 p8 p9 p10 v0 v3 v6 v7 v8 v9 v10 w') : LgF w1 b n p0 p3 p6 p7 True p9 p10 v0 v3 v6 v7 (.agg #[v0, v3, v6]) v9 v10 w' :=
  ⟨F.bel, F.f0, F.f3, F.f6, F.f7, fun _ => rfl, F.f9, F.f10⟩
theorem LgF.s9 (F : LgF w1 b n p0 p3 p6 p7 p8 p9 p10 v0 v3 v6 v7 v8 v9 v10 w') (y0 : p0) (y3 : p3) (y6 : p6) (n10 : ¬ p10) : LgF w1 b n p0 p3 p6 p7 p8 True p10 v0 v3 v6 v7 v8 (.slice (some ⟨w'.heap.size, 0, none⟩) 1 1) v10 (w'.alloc (.cells ⟨[v0, v3, v6]⟩ 65)) := by
  have hb : Below w'.heap.size w' (w'.alloc (.cells ⟨[v0, v3, v6]⟩ 65)) := (Below.refl _ _).alloc (Nat.le_refl _) _
  have G := F.below hb
  have one : ∀ {α : Type} {e : TypeId} {sz : Nat} {en : α → List Value} {u : Value} {xs : List α}, OwnV e sz en w' (fun x => w1.heap.size ≤ x) u xs → OwnV e sz en (w'.alloc (.cells ⟨[v0, v3, v6]⟩ 65)) (fun x => w1.heap.size ≤ x ∧ x ≠ w'.heap.size) u xs := fun h =>
    ((relO _ _ _).weak h (fun x hx hx2 => ⟨hx, by omega⟩) : OwnV _ _ _ w' (fun x => w1.heap.size ≤ x ∧ x ≠ w'.heap.size) _ _).keep (.below hb)
  exact ⟨G.bel, G.f0, G.f3, G.f6, G.f7, G.f8, fun _ => ⟨_, rfl, one_play' (RowB.new _ _ _) F.bel.size (one (F.f0 y0)) (one (F.f3 y3)) (one (F.f6 y6))⟩, fun h => absurd h n10⟩
theorem LgF.s10 (F : LgF w1 b n p0 p3 p6 p7 p8 p9 p10 v0 v3 v6 v7 v8 v9 v10 w') : LgF w1 b n p0 p3 p6 p7 p8 p9 True v0 v3 v6 v7 v8 v9 v9 w' :=
  ⟨F.bel, F.f0, F.f3, F.f6, F.f7, F.f8, F.f9, fun _ => rfl⟩
end

/-- Under way. -/
structure Lg (w wr : World) (v : Vr) (vl : Value) (X : List Pl) : Prop where
  bel : Below w.heap.size w wr
  rv : RowB wr w.heap.size 32 [.int .i64 v.p, .int .i64 v.c, .int .i64 v.h, .int .i64 v.s]
  og : OwnG RelP wr (w.heap.size + 2) wr.heap.size 65 3 enP vl X
  ge : w.heap.size + 2 ≤ wr.heap.size
theorem Lg.below {w wr w' : World} {v : Vr} {vl : Value} {X : List Pl} (h : Lg w wr v vl X) (hb : Below wr.heap.size wr w') : Lg w w' v vl X :=
  ⟨h.bel.trans (hb.mono h.bel.size), h.rv.below hb h.rv.lt, (h.og.below_ hb).more hb.size, Nat.le_trans h.ge hb.size⟩

set_option maxHeartbeats 8000000 in
set_option maxRecDepth 100000 in
theorem longest_s (v : Vr) (b : Bd) (hb : Ok v b) (Ao At : Option Addr) (co ct : Nat) (ds : List Int) (hds : ∀ d ∈ ds, 1 ≤ d ∧ d ≤ 6) (hlen : ds.length ≤ 4) (u : Value) (w : World) (ho : RdS w w.heap.size 1 enI Ao b.1) (ht : RdS w w.heap.size 1 enI At b.2) (hA : Ao = none → co = 0) (hT : At = none → ct = 0) (hu : SlV 1 enI w All u ds) :
    Calls Try.prog 61 #[.agg #[.int .i64 v.p, .int .i64 v.c, .int .i64 v.h, .int .i64 v.s], .agg #[.slice Ao b.1.length co, .slice At b.2.length ct], u] w fun e w' => ∃ vv, e = .returned (.tuple #[vv, .int .i64 (((lngP v b ds).2.1 : Nat) : Int), .bool (lngP v b ds).2.2]) ∧ OwnG RelP w' w.heap.size w'.heap.size 65 3 enP vv (lngP v b ds).1 ∧ Below w.heap.size w w' := by
  have hv := hb.v1
  have hvV : okV v = true := okV_iff.2 hv
  obtain ⟨P, hP⟩ : ∃ P : Nat, v.p = (P : Int) := ⟨v.p.toNat, by omega⟩
  have HP := Lib.hid hP
  have hP24 : P ≤ 24 := by omega
  obtain ⟨n, hn⟩ : ∃ n, P + 1 = n := ⟨_, rfl⟩
  have eln : b.1.length = n := by have := hb.own.len; omega
  have emn : b.2.length = n := by have := hb.oth.len; omega
  have C1 := Lib.hid (fun (w9 : World) (h : Below w.heap.size w w9) => own02 Ao co w.heap.size b.1 w9 h.size (ho.below h (Nat.le_refl _)) hA (by omega))
  have C2 := Lib.hid (fun (w9 : World) (h : Below w.heap.size w w9) => own02 At ct w.heap.size b.2 w9 h.size (ht.below h (Nat.le_refl _)) hT (by omega))
  rw [eln] at C1 ⊢
  rw [emn] at C2 ⊢
  have HLN := Lib.hid eln
  have HMN := Lib.hid emn
  have HB := Lib.hid hb
  obtain ⟨Au, cu, rfl, hru, -⟩ := hu
  obtain ⟨N, hN⟩ : ∃ N, ds.length = N := ⟨_, rfl⟩
  have HN := Lib.hid hN
  rw [hN] at hlen ⊢
  have HRU := Lib.hid hru
  have HDS := Lib.hid (fun i (h : i < N) => hds _ (List.mem_of_getElem? (at_get (l := ds) (i := i) (by rw [hN]; exact h))))
  have HGO := Lib.hid (fun (w9 : World) (i : Nat) (hi : i ≤ 3) (xs : List Pl) (hxs : RowOk v i xs) (hxl : xs.length ≤ 25 ^ i) (d : Int) (hd : 1 ≤ d ∧ d ≤ 6) (uu : Value) (S0 : Nat → Prop) (hu : SlG RelP 3 enP w9 S0 uu xs) => next_s v hvV i (by omega) xs hxs (Nat.le_trans hxl (pow_le hi)) d hd uu S0 w9 hu)
  obtain ⟨RR, hRR⟩ : ∃ r, lngP v b ds = r := ⟨_, rfl⟩
  rw [hRR]
  have HRR := Lib.hid hRR
  clear hb hv hvV hP eln emn ho ht hA hT hN hru hds hRR
  go_enter Try.func61, Try.ntmps61
  go_upto_region 1 with (fail)
  refine wp_gen (fun W' => Below w.heap.size w W' ∧ RowB W' w.heap.size 32 [.int .i64 v.p, .int .i64 v.c, .int .i64 v.h, .int .i64 v.s] ∧ RowB W' (w.heap.size + 1) 34 [.slice Ao n co, .slice At n ct]) ⟨by go_grown, (RowB.new _ _ _).alloc _, RowB.new' _ _ _ (by simp)⟩ ?_
  rintro w1 ⟨hb1, rv, rb⟩
  have hl2 := rb.lt
  refine region_rel [some 13, some 14, some 15, some 16, some 17, some 18, some 19, some 20, some 21, some 22, some 9] 11 (Pl [none, some (.pointer (some ⟨w.heap.size + 1, 0, none⟩)), some (.slice Ao n co), none, some (.pointer (some ⟨w.heap.size + 1, 1, none⟩)), some (.slice At n ct), none, none, none, none, none]) (fun L vals w' => LgF w1 b n (L 0) (L 3) (L 6) (L 7) (L 8) (L 9) (L 10) (vals 0) (vals 3) (vals 6) (vals 7) (vals 8) (vals 9) (vals 10) w') (by kernel_rfl) (by kernel_rfl) (by kernel_rfl) (by kernel_rfl) (by kernel_rfl) (by kernel_rfl) (by kernel_rfl) ?g0_1 ?gst_1 ?gfin_1
  case g0_1 => exact ⟨(Below.refl _ _).drew, fun h => absurd h (by decide), fun h => absurd h (by decide), fun h => absurd h (by decide), fun h => absurd h (by decide), fun h => absurd h (by decide), fun h => absurd h (by decide), fun h => absurd h (by decide)⟩
  case gst_1 =>
    refine RelFrom.run rfl (fun L vals A w9 hno hdl hcl hu hp h0 F K hK => ?_) ?_
    · clear hu h0 hp
      go_simp
      exact hK.out _ _ (Pl.any rfl) (by simpa [upd] using F.s0 (fun h => hno (hcl 8 0 (by kernel_rfl) h)))
    refine RelFrom.run rfl (fun L vals A w9 hno hdl hcl hu hp h0 F K hK => ?_) ?_
    · have e4 : A.tmps[4]?.getD undef = .pointer (some ⟨w.heap.size + 1, 0, none⟩) := h0 4 (fun j _ hj => absurd (List.mem_of_getElem? hj) (by decide))
      clear hu h0 hp
      have rb9 := (rb.below F.bel rb.lt).c2
      have z0 := rb9.1
      have z1 := rb9.2
      go_simp
      exact hK.out _ w9 (Pl.fix rfl) (F.skip 1 _ (by decide) (by decide) (by decide) (by decide) (by decide) (by decide) (by decide))
    refine RelFrom.run rfl (fun L vals A w9 hno hdl hcl hu hp h0 F K hK => ?_) ?_
    · have e14 : A.tmps[14]?.getD undef = .pointer (some ⟨w.heap.size + 1, 0, none⟩) := (hu 1 14 (by kernel_rfl) rfl).trans (hp 1 (by kernel_rfl) _ rfl)
      clear hu h0 hp
      have rb9 := (rb.below F.bel rb.lt).c2
      have z0 := rb9.1
      have z1 := rb9.2
      go_simp
      exact hK.out _ w9 (Pl.fix rfl) (F.skip 2 _ (by decide) (by decide) (by decide) (by decide) (by decide) (by decide) (by decide))
    refine RelFrom.run rfl (fun L vals A w9 hno hdl hcl hu hp h0 F K hK => ?_) ?_
    · have e15 : A.tmps[15]?.getD undef = .slice Ao n co := (hu 2 15 (by kernel_rfl) rfl).trans (hp 2 (by kernel_rfl) _ rfl)
      clear hu h0 hp
      go_simp
      refine (C1.out w9 (hb1.trans (F.bel.mono hb1.size))).mono ?_
      rintro e w6 ⟨⟨v', rfl, h3⟩, hb6⟩
      exact hK.out _ w6 (Pl.any rfl) (by simpa [upd] using F.s3 (fun h => hno (hcl 7 3 (by kernel_rfl) h)) (fun h => hno (hcl 8 3 (by kernel_rfl) h)) hb6 h3)
    refine RelFrom.run rfl (fun L vals A w9 hno hdl hcl hu hp h0 F K hK => ?_) ?_
    · have e4 : A.tmps[4]?.getD undef = .pointer (some ⟨w.heap.size + 1, 0, none⟩) := h0 4 (fun j _ hj => absurd (List.mem_of_getElem? hj) (by decide))
      clear hu h0 hp
      have rb9 := (rb.below F.bel rb.lt).c2
      have z0 := rb9.1
      have z1 := rb9.2
      go_simp
      exact hK.out _ w9 (Pl.fix rfl) (F.skip 4 _ (by decide) (by decide) (by decide) (by decide) (by decide) (by decide) (by decide))
    refine RelFrom.run rfl (fun L vals A w9 hno hdl hcl hu hp h0 F K hK => ?_) ?_
    · have e17 : A.tmps[17]?.getD undef = .pointer (some ⟨w.heap.size + 1, 1, none⟩) := (hu 4 17 (by kernel_rfl) rfl).trans (hp 4 (by kernel_rfl) _ rfl)
      clear hu h0 hp
      have rb9 := (rb.below F.bel rb.lt).c2
      have z0 := rb9.1
      have z1 := rb9.2
      go_simp
      exact hK.out _ w9 (Pl.fix rfl) (F.skip 5 _ (by decide) (by decide) (by decide) (by decide) (by decide) (by decide) (by decide))
    refine RelFrom.run rfl (fun L vals A w9 hno hdl hcl hu hp h0 F K hK => ?_) ?_
    · have e18 : A.tmps[18]?.getD undef = .slice At n ct := (hu 5 18 (by kernel_rfl) rfl).trans (hp 5 (by kernel_rfl) _ rfl)
      clear hu h0 hp
      go_simp
      refine (C2.out w9 (hb1.trans (F.bel.mono hb1.size))).mono ?_
      rintro e w6 ⟨⟨v', rfl, h3⟩, hb6⟩
      exact hK.out _ w6 (Pl.any rfl) (by simpa [upd] using F.s6 (fun h => hno (hcl 7 6 (by kernel_rfl) h)) (fun h => hno (hcl 8 6 (by kernel_rfl) h)) hb6 h3)
    refine RelFrom.run rfl (fun L vals A w9 hno hdl hcl hu hp h0 F K hK => ?_) ?_
    · have e16 : A.tmps[16]?.getD undef = vals 3 := hu 3 16 (by kernel_rfl) rfl
      have e19 : A.tmps[19]?.getD undef = vals 6 := hu 6 19 (by kernel_rfl) rfl
      clear hu h0 hp
      have o3 := F.f3 (hdl 3 (by kernel_rfl))
      refine (o3.1.form enI_len).elim fun A3 h3 => ?_
      refine h3.elim fun c3 h3 => ?_
      have hv3 := h3.1
      clear h3
      have o6 := F.f6 (hdl 6 (by kernel_rfl))
      refine (o6.1.form enI_len).elim fun A6 h6 => ?_
      refine h6.elim fun c6 h6 => ?_
      have hv6 := h6.1
      clear h6
      rw [HLN.out] at hv3
      rw [HMN.out] at hv6
      have e16' := e16.trans hv3
      have e19' := e19.trans hv6
      clear e16 e19
      go_simp
      exact hK.out _ w9 (Pl.any rfl) (by rw [← hv3, ← hv6]; simpa [upd] using F.s7)
    refine RelFrom.run rfl (fun L vals A w9 hno hdl hcl hu hp h0 F K hK => ?_) ?_
    · have e13 : A.tmps[13]?.getD undef = vals 0 := hu 0 13 (by kernel_rfl) rfl
      have e20 : A.tmps[20]?.getD undef = vals 7 := hu 7 20 (by kernel_rfl) rfl
      clear hu h0 hp
      have o0 := F.f0 (hdl 0 (by kernel_rfl))
      refine (o0.1.form enSt_len).elim fun A0 h0 => ?_
      refine h0.elim fun c0 h0 => ?_
      have hv0 := h0.1
      clear h0
      have e13' := e13.trans hv0
      have e20' := e20.trans (F.f7 (hdl 7 (by kernel_rfl)))
      clear e13 e20
      go_simp
      exact hK.out _ w9 (Pl.any rfl) (by simpa [upd, hv0] using F.s8)
    refine RelFrom.run rfl (fun L vals A w9 hno hdl hcl hu hp h0 F K hK => ?_) ?_
    · have e21 : A.tmps[21]?.getD undef = vals 8 := hu 8 21 (by kernel_rfl) rfl
      clear hu h0 hp
      have e21' := e21.trans (F.f8 (hdl 8 (by kernel_rfl)))
      clear e21
      go_simp
      exact hK.out _ _ (Pl.any rfl) (by simpa [upd] using F.s9 (hdl 0 (by kernel_rfl)) (hdl 3 (by kernel_rfl)) (hdl 6 (by kernel_rfl)) (fun h => hno (hcl 10 9 (by kernel_rfl) h)))
    refine RelFrom.run rfl (fun L vals A w9 hno hdl hcl hu hp h0 F K hK => ?_) ?_
    · have e22 : A.tmps[22]?.getD undef = vals 9 := hu 9 22 (by kernel_rfl) rfl
      clear hu h0 hp
      go_simp
      exact hK.out _ w9 (Pl.any rfl) (by simpa [upd] using F.s10)
    exact RelFrom.nil (by decide)
  case gfin_1 =>
    intro vals w9 hp F
    simp only [Fr, Act.put, List.setIfInBounds_toArray, List.set_cons_zero, List.set_cons_succ, Nat.reduceAdd]
    obtain ⟨g9, e9, ho9⟩ := F.f9 trivial
    have e10 := F.f10 trivial
    rw [e9] at e10 ho9
    rw [e10]
    have K : Lg w w9 v (.slice (some ⟨g9, 0, none⟩) 1 1) [([], b)] := ⟨hb1.trans (F.bel.mono hb1.size), rv.below F.bel rv.lt, ho9.less (by omega), by have := F.bel.size; omega⟩
    clear F hp e9 e10 ho9 hb1 rv rb hl2 C1 C2
    have hl1 := K.rv.lt
    go_wp2_with fail
    go_loopw [9, 10, 11] (fun vl fv i wr => ∃ (k : Nat) (X : List Pl) (f : Bool), k ≤ N ∧ i = .int .i64 (k : Int) ∧ fv = .bool f ∧ Lg w wr v vl X ∧ Hid (RowOk v k X ∧ X.length ≤ 25 ^ k) ∧ Hid (lngGo v (ds.drop k) X k f = RR)) (fun _ _ i _ => N - (intOf i).toNat)
    case atStart => exact ⟨0, [([], b)], true, Nat.zero_le _, by first | rfl | trivial, by first | rfl | trivial, K, Lib.hid ⟨fun q hq => by simp at hq; subst hq; exact ⟨HB.out, rfl⟩, by simp⟩, HRR⟩
    case round =>
      obtain ⟨k, X, f, hk, rfl, rfl, K, HO, HG⟩ := hrel
      clear hl1
      have hl1 := K.rv.lt
      by_cases hlt : k < N
      · obtain ⟨bu, ou, rfl, hbu, hcu⟩ := at_rd (HRU.out.rd.below K.bel (Nat.le_refl _)) (i := k) (by rw [HN.out]; exact hlt)
        have hkn : (k : Int) < (N : Int) := by omega
        have hwk : IntKind.i64.wrap ((k : Int) + 1) = (k : Int) + 1 := IntWalk.i64_in _ (by omega)
        have hD := HDS.out k hlt
        have HG' := Lib.hid HG.out
        rw [drop_at (by rw [HN.out]; exact hlt)] at HG'
        obtain ⟨d, hd⟩ : ∃ d, at_ ds k = d := ⟨_, rfl⟩
        rw [hd] at hcu hD HG'
        clear hd HG
        obtain ⟨q0, q1, q2, q3⟩ := K.rv.c4
        go_wp2_with fail
        go_still_tail 6, (by kernel_rfl)
        go_wp2_with fail
        refine (HGO.out wr.drew k (by omega) _ HO.out.1 HO.out.2 d hD u9 _ ((relSl RelP 3 enP).keep (K.og.sl enP_len (Nat.le_refl _)) (.below (Below.refl _ _).drew))).mono ?_
        rintro e w5 ⟨nv, rfl, hog, hb5⟩
        have hs2 := K.ge
        have K := (K.below (Below.refl _ _).drew).below hb5
        obtain ⟨nx, hnx⟩ : ∃ l, nextP v d X = l := ⟨_, rfl⟩
        have HNX := Lib.hid (show RowOk v (k + 1) nx ∧ nx.length ≤ 25 ^ (k + 1) from by
          rw [← hnx]
          refine ⟨next_ok hD.1 HO.out.1, Nat.le_trans next_len ?_⟩
          rw [Nat.pow_succ]
          exact Nat.mul_le_mul HO.out.2 (by have := HP.out; omega))
        rw [hnx] at hog
        obtain ⟨An, cn, hnv, -⟩ := Bd19.OwnG.form enP_len hog
        obtain ⟨M, hM⟩ : ∃ M, nx.length = M := ⟨_, rfl⟩
        rw [hM] at hnv
        have KN : Lg w w5 v nv nx := ⟨K.bel, K.rv, hog.less (show w.heap.size + 2 ≤ wr.heap.size from hs2), K.ge⟩
        subst hnv
        have HMM := Lib.hid hM
        have HNXE := Lib.hid hnx
        obtain ⟨x, hx⟩ : ∃ x, decide ((M : Int) ≤ 3000) = x := ⟨_, rfl⟩
        have hx2 : decide (nx.length ≤ 3000) = x := by rw [← hx, HMM.out]; exact decide_eq_decide.2 (by omega)
        have HX := Lib.hid hx2
        clear hog hb5 hbu hcu hM hnx q0 q1 q2 q3 hl1 hs2
        by_cases h0 : M = 0
        · have e7 : ((M : Int) == 0) = true := by simp [h0]
          have HE : (X, k, f && x) = RR := by rw [← HG'.out, lng_zero_ (by rw [HNXE.out, HMM.out]; exact h0), HNXE.out, HX.out]
          subst HE
          have hM0 := Lib.hid h0
          have hu9 := K.og.less (lo' := w.heap.size) (by omega)
          have hb9 := K.bel
          clear h0 HG' KN hx2 K
          cases f
          all_goals
            go_wp2_with fail
            go_ret3
            exact ⟨_, by first | rfl | simp, hu9, hb9⟩
        · have e7 : ((M : Int) == 0) = false := by simp [h0]
          have HE : Hid (lngGo v (ds.drop (k + 1)) nx (k + 1) (f && x) = RR) := Lib.hid (by
            rw [← HG'.out, lng_more_ (by rw [HNXE.out, HMM.out]; exact h0), HNXE.out, HX.out])
          have hM0 := Lib.hid h0
          clear h0 HG' hx2 K
          cases f
          all_goals
            go_wp2_with fail
            go_roundw
            case rel => exact ⟨k + 1, nx, _, by omega, by go_num, by first | rfl | (rw [hx]; rfl) | simp, KN, HNX, by first | exact HE | (rw [← hx] at HE; exact HE) | simpa using HE⟩
            case measure => simp [intOf]; omega
      · obtain rfl : k = N := by omega
        have hnk : ¬ ((k : Int) < (k : Int)) := by omega
        have HE : (X, k, f) = RR := by rw [← HG.out, List.drop_of_length_le (by rw [HN.out]; exact Nat.le_refl _)]; rfl
        subst HE
        clear HG
        go_wp2_with fail
        go_ret3
        exact ⟨_, rfl, K.og.less (by omega), K.bel⟩
end Go.Proofs.Ytfgkkmhafdbicaa.Bd22
