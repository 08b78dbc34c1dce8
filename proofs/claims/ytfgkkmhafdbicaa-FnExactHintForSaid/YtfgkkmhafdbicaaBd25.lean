/-
  The values of the plays of a roll: of the program, where the search is known. Conditions: each theorem's own.
  The value of a board for a depth: of the program. Conditions: each theorem's own.
-/
import Derived.Test.YtfgkkmhafdbicaaBd22
import Derived.Test.YtfgkkmhafdbicaaBd12
import Derived.Test.YtfgkkmhafdbicaaBd15

set_option linter.unusedVariables false
set_option linter.unusedSimpArgs false
namespace Go.Proofs.Ytfgkkmhafdbicaa.Bd25
open Go.ChangeShapes Go.WideShapes Go.ChangeAt Go.RowKit Base Ints Own Clone RelG PlP Bd1 Bd4 Bd5 Bd6 Bd7 Bd7S Bd8 Bd9 Bd11 RegInv RegF RegG Bd16 Bd17 Bd18 Bd19 Bd20 Bd21 Bd22 Bd23 Bd24

/-- What the search returns for a depth, and what the values of plays are: of the program. -/
def SVi (d : Nat) : Prop := ∀ (v : Vr) (b : Bd) (hb : Ok v b) (hp : v.p ≤ 6) (Ao At : Option Addr) (co ct : Nat) (w : World), RdS w w.heap.size 1 enI Ao b.1 → RdS w w.heap.size 1 enI At b.2 → (Ao = none → co = 0) → (At = none → ct = 0) →
  Calls Try.prog 55 #[.agg #[.int .i64 v.p, .int .i64 v.c, .int .i64 v.h, .int .i64 v.s], .agg #[.slice Ao b.1.length co, .slice At b.2.length ct], .int .i64 (d : Int)] w fun e w' => e = .returned (.tuple #[.int .i64 (valP v d b), .bool true]) ∧ Below w.heap.size w w'
def PVi (d : Nat) : Prop := ∀ (v : Vr) (b : Bd) (hb : Ok v b) (hp : v.p ≤ 6) (Ao At : Option Addr) (co ct : Nat) (x y : Int) (hx : 1 ≤ x ∧ x ≤ 6) (hy : 1 ≤ y ∧ y ≤ 6) (w : World), RdS w w.heap.size 1 enI Ao b.1 → RdS w w.heap.size 1 enI At b.2 → (Ao = none → co = 0) → (At = none → ct = 0) →
  Calls Try.prog 38 #[.agg #[.int .i64 v.p, .int .i64 v.c, .int .i64 v.h, .int .i64 v.s], .agg #[.slice Ao b.1.length co, .slice At b.2.length ct], .agg #[.int .i64 x, .int .i64 y], .int .i64 (d : Int)] w fun e w' => ∃ vv, e = .returned (.tuple #[vv, .bool true]) ∧ OwnS w' w.heap.size w'.heap.size 2 1 enI vv (plsP v d b x y) ∧ Below w.heap.size w w'
theorem addAll_len : ∀ (ps out : List Pl), (addAll out ps).length ≤ out.length + ps.length := by
  intro ps
  induction ps with
  | nil => intro out; exact Nat.le_refl _
  | cons p ps ih =>
    intro out
    have h1 := ih (addOne out p)
    have h2 := addOne_len out p
    have e : addAll out (p :: ps) = addAll (addOne out p) ps := rfl
    rw [e, List.length_cons]
    omega
theorem allGo_len {v : Vr} {b : Bd} {u M : Nat} : ∀ (os : List (List Int)) (i : Nat) (out : List Pl) (f : Bool), (∀ o ∈ os, (lngP v b o).1.length ≤ M) → (allGo v b u i os out f).1.length ≤ out.length + os.length * M := by
  intro os
  induction os with
  | nil => intro i out f _; simp [allGo]
  | cons o os ih =>
    intro i out f h
    have h1 := h o (List.mem_cons_self ..)
    simp only [allGo, List.length_cons, Nat.add_mul, Nat.one_mul]
    split
    · have := ih (i + 1) out (f && (lngP v b o).2.2) (fun q hq => h q (List.mem_cons_of_mem _ hq)); omega
    · have := ih (i + 1) (addAll out (lngP v b o).1) (f && (lngP v b o).2.2) (fun q hq => h q (List.mem_cons_of_mem _ hq))
      have := addAll_len (lngP v b o).1 out
      omega
theorem all_len {v : Vr} {b : Bd} (hb : Ok v b) {x y : Int} (hx : 1 ≤ x ∧ x ≤ 6) (hy : 1 ≤ y ∧ y ≤ 6) : (allP v b x y).1.length ≤ 1000000 := by
  have hd := ord_dice hx hy
  have := allGo_len (v := v) (b := b) (u := usedP v b (ordP x y)) (M := 390625) (ordP x y) 0 [] true (fun o ho => (lng_bd hb (hd.1 o ho)).2)
  have h2 := hd.2
  unfold allP
  have h3 : (ordP x y).length * 390625 ≤ 2 * 390625 := Nat.mul_le_mul_right _ h2
  simp only [List.length_nil, Nat.zero_add] at this
  omega
/-- In a small variant. -/
theorem allSm_i (v : Vr) (b : Bd) (hb : Ok v b) (hp : v.p ≤ 6) (Ao At : Option Addr) (co ct : Nat) (x y : Int) (hx : 1 ≤ x ∧ x ≤ 6) (hy : 1 ≤ y ∧ y ≤ 6) (w : World) (ho : RdS w w.heap.size 1 enI Ao b.1) (ht : RdS w w.heap.size 1 enI At b.2) (hA : Ao = none → co = 0) (hT : At = none → ct = 0) :
    Calls Try.prog 37 #[.agg #[.int .i64 v.p, .int .i64 v.c, .int .i64 v.h, .int .i64 v.s], .agg #[.slice Ao b.1.length co, .slice At b.2.length ct], .agg #[.int .i64 x, .int .i64 y]] w fun e w' => ∃ vv, e = .returned (.tuple #[vv, .bool true]) ∧ OwnG RelP w' w.heap.size w'.heap.size 65 3 enP vv (allP v b x y).1 ∧ Below w.heap.size w w' := by
  have h := allPl_i v b hb Ao At co ct x y hx hy w ho ht hA hT
  have e := allI_eq hb hx.1 hy.1 (fits_small (v := v) (b := b) (x := x) (y := y) hp)
  have e2 : (allI v b x y).2 = true := by
    unfold allI
    have : ((ordP x y).map (rowsP v b)).all (fun r => r.2) = true := by
      rw [List.all_eq_true]
      intro r hr
      obtain ⟨o, ho, rfl⟩ := List.mem_map.1 hr
      have := fits_small (v := v) (b := b) (x := x) (y := y) hp o ho
      rw [(lng_rows v b o).1] at this
      exact this
    simp only [this, if_true]
    split <;> rfl
  rw [e2, e] at h
  exact h
/-- The board is turned, the search runs. -/
structure PvF (w1 : World) (l m : List Int) (n : Nat) (p3 : Prop) (v3 : Value) (w' : World) : Prop where
  bel : Below w1.heap.size w1 w'
  f3 : p3 → ∃ A1 c1 A2 c2, v3 = .agg #[.slice A1 n c1, .slice A2 n c2] ∧ OwnV 2 1 enI w' All (.slice A1 n c1) l ∧ OwnV 2 1 enI w' All (.slice A2 n c2) m
theorem PvF.below {w1 w' w'' : World} {l m : List Int} {n : Nat} {p3 : Prop} {v3 : Value} (F : PvF w1 l m n p3 v3 w') (hb : Below w'.heap.size w' w'') : PvF w1 l m n p3 v3 w'' :=
  ⟨F.bel.trans (hb.mono F.bel.size), fun h => by obtain ⟨A1, c1, A2, c2, e, h1, h2⟩ := F.f3 h; exact ⟨A1, c1, A2, c2, e, h1.keep (.below hb), h2.keep (.below hb)⟩⟩
theorem PvF.skip {w1 w' : World} {l m : List Int} {n : Nat} {L : Nat → Prop} {vals : Nat → Value} (F : PvF w1 l m n (L 3) (vals 3) w') (k : Nat) (x : Value) (h3 : 3 ≠ k) : PvF w1 l m n (3 = k ∨ L 3) (upd vals k x 3) w' := by
  rw [or_ne h3, upd_ne h3]; exact F
theorem own_all {w : World} {lo hi : Nat} {u : Value} {l : List Int} (h : OwnS w lo hi 2 1 enI u l) (hh : hi ≤ w.heap.size) : OwnV 2 1 enI w All u l := OwnV.of h hh (fun _ _ _ => trivial)
theorem OwnV.none0 {w : World} {S : Nat → Prop} {A : Option Addr} {n c : Nat} {l : List Int} (h : OwnV 2 1 enI w S (.slice A n c) l) : A = none → c = 0 := by
  obtain ⟨A', c', e, -, hc⟩ := h.sl enI_len
  simp only [Value.slice.injEq] at e
  obtain ⟨rfl, -, rfl⟩ := e
  exact hc
theorem OwnV.rd_ {w : World} {S : Nat → Prop} {A : Option Addr} {n c : Nat} {l : List Int} (h : OwnV 2 1 enI w S (.slice A n c) l) : RdS w w.heap.size 1 enI A l := by
  obtain ⟨A', c', e, hr, hc⟩ := h.sl enI_len
  simp only [Value.slice.injEq] at e
  obtain ⟨rfl, -, rfl⟩ := e
  exact hr.rd
/-- Values under way. -/
structure Pv (w wr : World) (v : Vr) (gm n k : Nat) (zs : List Int) (pv : Value) (ps : List Pl) : Prop where
  bel : Below w.heap.size w wr
  rv : RowB wr w.heap.size 32 [.int .i64 v.p, .int .i64 v.c, .int .i64 v.h, .int .i64 v.s]
  ge : w.heap.size + 2 < gm
  row : RowB wr gm 2 ((zs.take k).flatMap enI ++ List.replicate (n - k) (.int .i64 0))
  pl : SlG RelP 3 enP wr (fun b => b < gm) pv ps
theorem Pv.below {w wr w' : World} {v : Vr} {gm n k : Nat} {zs : List Int} {pv : Value} {ps : List Pl} (h : Pv w wr v gm n k zs pv ps) (hb : Below wr.heap.size wr w') : Pv w w' v gm n k zs pv ps :=
  ⟨h.bel.trans (hb.mono h.bel.size), h.rv.below hb h.rv.lt, h.ge, h.row.below hb h.row.lt, (relSl RelP 3 enP).keep h.pl (.below hb)⟩
theorem Pv.put {w wr : World} {v : Vr} {gm n k : Nat} {zs : List Int} {pv : Value} {ps : List Pl} (h : Pv w wr v gm n k zs pv ps) (hk : k < n) {z : Int} (hz : zs[k]? = some z) : Pv w (wr.setCell ⟨gm, k, none⟩ (.int .i64 z)) v gm n (k + 1) zs pv ps := by
  have hge := h.ge
  refine ⟨h.bel.setCell (p := ⟨gm, k, none⟩) (by show _ ≤ gm; omega) _, h.rv.other (p := ⟨gm, k, none⟩) (by show _ ≠ gm; omega) _, hge, ?_, (relSl RelP 3 enP).keep h.pl (Still.grown (grownBy_setCell wr gm k _) (fun g hg hn => by simp at hg; omega))⟩
  have := h.row.set k (.int .i64 z)
  obtain ⟨m, hm⟩ : ∃ m, n - k = m + 1 := ⟨n - k - 1, by omega⟩
  rw [hm, fill1 hz rfl enI_len] at this
  rw [show n - (k + 1) = m from by omega]
  exact this

set_option maxHeartbeats 8000000 in
set_option maxRecDepth 100000 in
theorem pv_step (d : Nat) (hd : d ≤ 10) (H : SVi d) : PVi d := by
  intro v b hb hp Ao At co ct x y hx hy w ho ht hA hT
  obtain ⟨i0, hi0, hz0, hz1, hz2⟩ := info_parts Ints.info
  have hv := hb.v1
  obtain ⟨P, hP⟩ : ∃ P : Nat, v.p = (P : Int) := ⟨v.p.toNat, by omega⟩
  have HP := Lib.hid hP
  obtain ⟨n, hn⟩ : ∃ n, P + 1 = n := ⟨_, rfl⟩
  have hn7 : n ≤ 7 := by omega
  have eln : b.1.length = n := by have := hb.own.len; omega
  have emn : b.2.length = n := by have := hb.oth.len; omega
  have CA := Lib.hid (fun (w9 : World) (h : Below w.heap.size w w9) => allSm_i v b hb hp Ao At co ct x y hx hy w9 ((ho.below h (Nat.le_refl _)).more h.size) ((ht.below h (Nat.le_refl _)).more h.size) hA hT)
  rw [eln, emn] at CA ⊢
  have hal := all_len hb hx hy
  have HPO := Lib.hid (allP_ok (x := x) (y := y) hb hx.1 hy.1).1
  obtain ⟨zs, hzs⟩ : ∃ zs, plsP v d b x y = zs := ⟨_, rfl⟩
  rw [hzs]
  unfold plsP at hzs
  obtain ⟨ps, hps⟩ : ∃ ps, (allP v b x y).1 = ps := ⟨_, rfl⟩
  rw [hps] at CA hal hzs HPO
  have HZS := Lib.hid hzs
  obtain ⟨M, hM⟩ : ∃ M, ps.length = M := ⟨_, rfl⟩
  have HM := Lib.hid hM
  have HZL := Lib.hid (show zs.length = M from by rw [← hzs, List.length_map, hM])
  rw [hM] at hal
  have HSM := Lib.hid hp
  have HH := Lib.hid H
  clear hb hv hP eln emn ho ht hA hT hps hzs hM hp hx hy H
  go_enter Try.func38, Try.ntmps38
  go_upto_region 1 with (fail)
  refine wp_gen (fun W' => Below w.heap.size w W' ∧ RowB W' w.heap.size 32 [.int .i64 v.p, .int .i64 v.c, .int .i64 v.h, .int .i64 v.s] ∧ RowB W' (w.heap.size + 1) 34 [.slice Ao n co, .slice At n ct] ∧ RowB W' (w.heap.size + 2) 36 [.int .i64 x, .int .i64 y]) ⟨by go_grown, ((RowB.new _ _ _).alloc _).alloc _, RowB.alloc (RowB.new' _ _ _ (by simp)) _, RowB.new' _ _ _ (by simp)⟩ ?_
  rintro w1 ⟨hb1, rv, rb, rr⟩
  obtain ⟨q0, q1, q2, q3⟩ := rv.c4
  obtain ⟨z0, z1⟩ := rb.c2
  obtain ⟨r0, r1⟩ := rr.c2
  have hl1 := rv.lt
  have hl2 := rb.lt
  have hl3 := rr.lt
  go_wp2_with fail
  refine (CA.out w1 hb1).mono ?_
  rintro e w2 ⟨pv, rfl, hog, hb2⟩
  have rv := rv.below hb2 rv.lt
  have hb1 := hb1.trans (hb2.mono hb1.size)
  obtain ⟨Aa, ca, hav, -⟩ := Bd19.OwnG.form enP_len hog
  rw [HM.out] at hav
  subst hav
  have HA := hog.sl enP_len (Nat.le_refl _)
  have hlo : w.heap.size + 3 ≤ w1.heap.size := by omega
  have hs2 := hb2.size
  clear q0 q1 q2 q3 z0 z1 r0 r1 hl1 hl2 hl3 rr rb hog CA hb2
  go_wp2_with (at_make; refine wpList_make_full _ rfl _ _ _ rfl w2.heap.size 2 i0 _ 1 Try.underlying24 hi0 hz0 hz1 _ _ _ _ M rfl rfl rfl rfl ?c1 ?c2 (Nat.le_refl _) ?_)
  case c1 => rw [hz2]; omega
  case c2 => unfold maxLen; omega
  intro w3 hown hgrow
  have hb3 : Below w2.heap.size w2 w3 := (Below.refl _ _).grown hgrow (Nat.le_refl _) (by simp)
  have K : Pv w w3 v w2.heap.size M 0 zs (.slice Aa M ca) ps := ⟨hb1.trans (hb3.mono hb1.size), rv.below hb3 rv.lt, by omega, by simpa [made_rep] using RowB.of_own hown, (relSl RelP 3 enP).keep ((relSl RelP 3 enP).weak HA (fun b _ hb => hb)) (.below hb3)⟩
  obtain ⟨gm, hgm⟩ : ∃ g, w2.heap.size = g := ⟨_, rfl⟩
  rw [hgm] at K ⊢
  clear hown hgrow hb3 hb1 rv HA hgm hs2 hlo
  go_wp2_with fail
  go_loopw [31] (fun i wr => ∃ k : Nat, k ≤ M ∧ i = .int .i64 (k : Int) ∧ Pv w wr v gm M k zs (.slice Aa M ca) ps) (fun i _ => M - (intOf i).toNat)
  case atStart => exact ⟨0, Nat.zero_le _, by first | rfl | trivial, K⟩
  case round =>
    obtain ⟨k, hk, rfl, K⟩ := hrel
    by_cases hlt : k < M
    · obtain ⟨A7, c7, rs7, e7, hrd7, hls7, -⟩ := K.pl
      simp only [Value.slice.injEq] at e7
      obtain ⟨rfl, -, rfl⟩ := e7
      obtain ⟨b7, o7, r7, rfl, -, hb7, hr7, hc7⟩ := hrd7.at_ (i := k) (by rw [hls7.1, HM.out]; exact hlt)
      obtain ⟨p, hp, hR7⟩ := hls7.at_ hr7
      obtain ⟨sp, bd⟩ := p
      have HBD := Lib.hid (HPO.out _ (List.mem_of_getElem? hp)).1
      obtain ⟨X, hX⟩ : ∃ X, valP v d (swp bd) = X := ⟨_, rfl⟩
      have HZ := Lib.hid (show zs[k]? = some (1000000 - X) from by rw [← HZS.out, List.getElem?_map, hp, ← hX]; rfl)
      obtain ⟨r0, rl, rm⟩ := r7
      have hR0 := hR7.1.sl enSt_len
      have hR1 := hR7.2.1
      have hR2 := hR7.2.2
      simp only at hR0 hR1 hR2 HBD
      obtain ⟨A0, c0', rfl, -⟩ := hR0
      obtain ⟨A3, c3, rfl, k3, hA3⟩ := hR1
      obtain ⟨A4, c4, rfl, k4, hA4⟩ := hR2
      have hl3 : bd.1.length = n := by have := HBD.out.own.len; have := HP.out; omega
      have hl4 : bd.2.length = n := by have := HBD.out.oth.len; have := HP.out; omega
      obtain ⟨n0, hn0⟩ : ∃ n, sp.length = n := ⟨_, rfl⟩
      have e0 : wr.cell? ⟨b7, o7 + k * 3, none⟩ = some (.slice A0 n0 c0') := by have := hc7 0 _ rfl; simp only [hn0] at this; exact this
      have e1 : wr.cell? ⟨b7, o7 + k * 3 + 1, none⟩ = some (.slice A3 n c3) := by have := hc7 1 _ rfl; simp only [hl3] at this; exact this
      have e2 : wr.cell? ⟨b7, o7 + k * 3 + 2, none⟩ = some (.slice A4 n c4) := by have := hc7 2 _ rfl; simp only [hl4] at this; exact this
      have hX01 : 0 ≤ X ∧ X ≤ 1000000 := by rw [← hX]; exact val_bd d _ (swp_ok HBD.out)
      have hkn : (k : Int) < (M : Int) := by omega
      have hwk : IntKind.i64.wrap ((k : Int) + 1) = (k : Int) + 1 := IntWalk.i64_in _ (by omega)
      have hwx : IntKind.i64.wrap (1000000 - X) = 1000000 - X := IntWalk.i64_in _ (by omega)
      have CSW := Lib.hid (fun (w9 : World) (h : Below wr.heap.size wr w9) => swap_i bd.1 bd.2 A3 A4 c3 c4 wr.heap.size w9 h.size (k3.rd.below h (Nat.le_refl _)) (k4.rd.below h (Nat.le_refl _)) hA3 hA4 (by omega) (by omega))
      rw [hl3, hl4] at CSW
      have CSV := Lib.hid (fun (w9 : World) (A1 A2 : Option Addr) (c1 c2 : Nat) (h1 : OwnV 2 1 enI w9 All (.slice A1 n c1) bd.2) (h2 : OwnV 2 1 enI w9 All (.slice A2 n c2) bd.1) => HH.out v (swp bd) (swp_ok HBD.out) HSM.out A1 A2 c1 c2 w9 (Bd25.OwnV.rd_ h1) (Bd25.OwnV.rd_ h2) (Bd25.OwnV.none0 h1) (Bd25.OwnV.none0 h2))
      rw [show (swp bd).1.length = n from hl4, show (swp bd).2.length = n from hl3, hX] at CSV
      have HL3 := Lib.hid hl3
      have HL4 := Lib.hid hl4
      clear hp hR7 hc7 hrd7 hls7 hr7 k3 k4 hl3 hl4 hn0 hA3 hA4 hX
      have hl1 := K.rv.lt
      go_upto_region 8 with (fail)
      refine wp_gen (fun W' => Below wr.heap.size wr W' ∧ RowB W' wr.heap.size 65 [.slice A0 n0 c0', .slice A3 n c3, .slice A4 n c4]) ?_ ?_
      · exact ⟨(Below.refl _ _).alloc (Nat.le_refl _) _, RowB.new _ _ _⟩
      rintro w5 ⟨hb5, rp⟩
      have K := K.below hb5
      obtain ⟨g14, hg14⟩ : ∃ g, wr.heap.size = g := ⟨_, rfl⟩
      have HB5 := Lib.hid hb5
      rw [hg14] at rp ⊢
      have RP := Lib.hid rp
      have RV := Lib.hid K.rv
      clear e0 e1 e2 hb7 rp hb5 hl1 hg14
      refine region_rel [some 37, some 38, some 39, some 40, some 41, some 42, some 36, some 43, some 44, some 15, some 16] 11 (Pl [some (.agg #[.int .i64 v.p, .int .i64 v.c, .int .i64 v.h, .int .i64 v.s]), some (.pointer (some ⟨g14, 1, none⟩)), some (.agg #[.slice A3 n c3, .slice A4 n c4]), none, some (.int .i64 (d : Int)), some (.tuple #[.int .i64 X, .bool true]), some (.tuple #[.int .i64 X, .bool true]), some (.int .i64 X), some (.bool true), some (.int .i64 X), some (.bool true)]) (fun L vals w' => PvF w5 bd.2 bd.1 n (L 3) (vals 3) w') (by kernel_rfl) (by kernel_rfl) (by kernel_rfl) (by kernel_rfl) (by kernel_rfl) (by kernel_rfl) (by kernel_rfl) ?g0_1 ?gst_1 ?gfin_1
      case g0_1 => exact ⟨(Below.refl _ _).drew, fun h => absurd h (by decide)⟩
      case gst_1 =>
        refine RelFrom.run rfl (fun L vals A w9 hno hdl hcl hu hp h0 F K hK => ?_) ?_
        · have e4 : A.tmps[4]?.getD undef = .pointer (some ⟨w.heap.size, 0, none⟩) := h0 4 (fun j _ hj => absurd (List.mem_of_getElem? hj) (by decide))
          clear hu h0 hp
          have rq := (RV.out.below F.bel RV.out.lt).c4
          have q0 := rq.1
          have q1 := rq.2.1
          have q2 := rq.2.2.1
          have q3 := rq.2.2.2
          have rp9 := (RP.out.below F.bel RP.out.lt).c3
          have p0 := rp9.1
          have p1 := rp9.2.1
          have p2 := rp9.2.2
          clear rq rp9
          go_simp
          exact hK.out _ w9 (Pl.fix rfl) (F.skip 0 _ (by decide))
        refine RelFrom.run rfl (fun L vals A w9 hno hdl hcl hu hp h0 F K hK => ?_) ?_
        · have e14 : A.tmps[14]?.getD undef = .pointer (some ⟨g14, 0, none⟩) := h0 14 (fun j _ hj => absurd (List.mem_of_getElem? hj) (by decide))
          clear hu h0 hp
          have rq := (RV.out.below F.bel RV.out.lt).c4
          have q0 := rq.1
          have q1 := rq.2.1
          have q2 := rq.2.2.1
          have q3 := rq.2.2.2
          have rp9 := (RP.out.below F.bel RP.out.lt).c3
          have p0 := rp9.1
          have p1 := rp9.2.1
          have p2 := rp9.2.2
          clear rq rp9
          go_simp
          exact hK.out _ w9 (Pl.fix rfl) (F.skip 1 _ (by decide))
        refine RelFrom.run rfl (fun L vals A w9 hno hdl hcl hu hp h0 F K hK => ?_) ?_
        · have e38 : A.tmps[38]?.getD undef = .pointer (some ⟨g14, 1, none⟩) := (hu 1 38 (by kernel_rfl) rfl).trans (hp 1 (by kernel_rfl) _ rfl)
          clear hu h0 hp
          have rq := (RV.out.below F.bel RV.out.lt).c4
          have q0 := rq.1
          have q1 := rq.2.1
          have q2 := rq.2.2.1
          have q3 := rq.2.2.2
          have rp9 := (RP.out.below F.bel RP.out.lt).c3
          have p0 := rp9.1
          have p1 := rp9.2.1
          have p2 := rp9.2.2
          clear rq rp9
          go_simp
          exact hK.out _ w9 (Pl.fix rfl) (F.skip 2 _ (by decide))
        refine RelFrom.run rfl (fun L vals A w9 hno hdl hcl hu hp h0 F K hK => ?_) ?_
        · have e39 : A.tmps[39]?.getD undef = .agg #[.slice A3 n c3, .slice A4 n c4] := (hu 2 39 (by kernel_rfl) rfl).trans (hp 2 (by kernel_rfl) _ rfl)
          clear hu h0 hp
          have rp9 := (RP.out.below F.bel RP.out.lt).c3
          go_simp
          refine (CSW.out w9 (HB5.out.trans (F.bel.mono HB5.out.size))).mono ?_
          rintro e w6 ⟨A1, c1, A2, c2, rfl, h1, h2, -, hb6⟩
          rw [HL4.out] at h1
          rw [HL3.out] at h2
          simp only [HL3.out, HL4.out]
          exact hK.out _ w6 (Pl.any rfl) ⟨F.bel.trans (hb6.mono F.bel.size), fun _ => ⟨A1, c1, A2, c2, rfl, own_all h1 (Nat.le_refl _), own_all h2 (Nat.le_refl _)⟩⟩
        refine RelFrom.run rfl (fun L vals A w9 hno hdl hcl hu hp h0 F K hK => ?_) ?_
        · have e3 : A.tmps[3]?.getD undef = .int .i64 (d : Int) := h0 3 (fun j _ hj => absurd (List.mem_of_getElem? hj) (by decide))
          clear hu h0 hp
          have rq := (RV.out.below F.bel RV.out.lt).c4
          have q0 := rq.1
          have q1 := rq.2.1
          have q2 := rq.2.2.1
          have q3 := rq.2.2.2
          have rp9 := (RP.out.below F.bel RP.out.lt).c3
          have p0 := rp9.1
          have p1 := rp9.2.1
          have p2 := rp9.2.2
          clear rq rp9
          go_simp
          exact hK.out _ w9 (Pl.fix rfl) (F.skip 4 _ (by decide))
        refine RelFrom.run rfl (fun L vals A w9 hno hdl hcl hu hp h0 F K hK => ?_) ?_
        · have e37 : A.tmps[37]?.getD undef = .agg #[.int .i64 v.p, .int .i64 v.c, .int .i64 v.h, .int .i64 v.s] := (hu 0 37 (by kernel_rfl) rfl).trans (hp 0 (by kernel_rfl) _ rfl)
          have e40 : A.tmps[40]?.getD undef = vals 3 := hu 3 40 (by kernel_rfl) rfl
          have e41 : A.tmps[41]?.getD undef = .int .i64 (d : Int) := (hu 4 41 (by kernel_rfl) rfl).trans (hp 4 (by kernel_rfl) _ rfl)
          clear hu h0 hp
          refine (F.f3 (hdl 3 (by kernel_rfl))).elim fun A1 q => ?_
          refine q.elim fun c1 q => ?_
          refine q.elim fun A2 q => ?_
          refine q.elim fun c2 q => ?_
          have e40' := e40.trans q.1
          clear e40
          go_simp
          refine (CSV.out w9 A1 A2 c1 c2 q.2.1 q.2.2).mono ?_
          rintro e w6 ⟨rfl, hb6⟩
          exact hK.out _ w6 (Pl.fix rfl) ((F.below hb6).skip 5 _ (by decide))
        refine RelFrom.run rfl (fun L vals A w9 hno hdl hcl hu hp h0 F K hK => ?_) ?_
        · have e42 : A.tmps[42]?.getD undef = .tuple #[.int .i64 X, .bool true] := (hu 5 42 (by kernel_rfl) rfl).trans (hp 5 (by kernel_rfl) _ rfl)
          clear hu h0 hp
          have rq := (RV.out.below F.bel RV.out.lt).c4
          have q0 := rq.1
          have q1 := rq.2.1
          have q2 := rq.2.2.1
          have q3 := rq.2.2.2
          have rp9 := (RP.out.below F.bel RP.out.lt).c3
          have p0 := rp9.1
          have p1 := rp9.2.1
          have p2 := rp9.2.2
          clear rq rp9
          go_simp
          exact hK.out _ w9 (Pl.fix rfl) (F.skip 6 _ (by decide))
        refine RelFrom.run rfl (fun L vals A w9 hno hdl hcl hu hp h0 F K hK => ?_) ?_
        · have e36 : A.tmps[36]?.getD undef = .tuple #[.int .i64 X, .bool true] := (hu 6 36 (by kernel_rfl) rfl).trans (hp 6 (by kernel_rfl) _ rfl)
          clear hu h0 hp
          have rq := (RV.out.below F.bel RV.out.lt).c4
          have q0 := rq.1
          have q1 := rq.2.1
          have q2 := rq.2.2.1
          have q3 := rq.2.2.2
          have rp9 := (RP.out.below F.bel RP.out.lt).c3
          have p0 := rp9.1
          have p1 := rp9.2.1
          have p2 := rp9.2.2
          clear rq rp9
          go_simp
          exact hK.out _ w9 (Pl.fix rfl) (F.skip 7 _ (by decide))
        refine RelFrom.run rfl (fun L vals A w9 hno hdl hcl hu hp h0 F K hK => ?_) ?_
        · have e36 : A.tmps[36]?.getD undef = .tuple #[.int .i64 X, .bool true] := (hu 6 36 (by kernel_rfl) rfl).trans (hp 6 (by kernel_rfl) _ rfl)
          clear hu h0 hp
          have rq := (RV.out.below F.bel RV.out.lt).c4
          have q0 := rq.1
          have q1 := rq.2.1
          have q2 := rq.2.2.1
          have q3 := rq.2.2.2
          have rp9 := (RP.out.below F.bel RP.out.lt).c3
          have p0 := rp9.1
          have p1 := rp9.2.1
          have p2 := rp9.2.2
          clear rq rp9
          go_simp
          exact hK.out _ w9 (Pl.fix rfl) (F.skip 8 _ (by decide))
        refine RelFrom.run rfl (fun L vals A w9 hno hdl hcl hu hp h0 F K hK => ?_) ?_
        · have e43 : A.tmps[43]?.getD undef = .int .i64 X := (hu 7 43 (by kernel_rfl) rfl).trans (hp 7 (by kernel_rfl) _ rfl)
          clear hu h0 hp
          have rq := (RV.out.below F.bel RV.out.lt).c4
          have q0 := rq.1
          have q1 := rq.2.1
          have q2 := rq.2.2.1
          have q3 := rq.2.2.2
          have rp9 := (RP.out.below F.bel RP.out.lt).c3
          have p0 := rp9.1
          have p1 := rp9.2.1
          have p2 := rp9.2.2
          clear rq rp9
          go_simp
          exact hK.out _ w9 (Pl.fix rfl) (F.skip 9 _ (by decide))
        refine RelFrom.run rfl (fun L vals A w9 hno hdl hcl hu hp h0 F K hK => ?_) ?_
        · have e44 : A.tmps[44]?.getD undef = .bool true := (hu 8 44 (by kernel_rfl) rfl).trans (hp 8 (by kernel_rfl) _ rfl)
          clear hu h0 hp
          have rq := (RV.out.below F.bel RV.out.lt).c4
          have q0 := rq.1
          have q1 := rq.2.1
          have q2 := rq.2.2.1
          have q3 := rq.2.2.2
          have rp9 := (RP.out.below F.bel RP.out.lt).c3
          have p0 := rp9.1
          have p1 := rp9.2.1
          have p2 := rp9.2.2
          clear rq rp9
          go_simp
          exact hK.out _ w9 (Pl.fix rfl) (F.skip 10 _ (by decide))
        exact RelFrom.nil (by decide)
      case gfin_1 =>
        intro vals w9 hp F
        simp only [Fr, Act.put, List.setIfInBounds_toArray, List.set_cons_zero, List.set_cons_succ, Nat.reduceAdd]
        have hb9 := F.bel
        have h9 : vals 9 = .int .i64 X := hp 9 (by decide) _ rfl
        have h10 : vals 10 = .bool true := hp 10 (by decide) _ rfl
        rw [h9, h10]
        clear F hp h9 h10
        have K := K.below hb9
        have K9 := Lib.hid (K.put hlt HZ.out)
        obtain ⟨z, hz⟩ : ∃ z, w9.cell? ⟨gm, k, none⟩ = some z := by
          rw [K.row.cell]
          refine ⟨_, List.getElem?_eq_getElem ?_⟩
          rw [List.length_append, flatMap_len enI_len, List.length_take, List.length_replicate, HZL.out]; omega
        have hfz := K.row.frozen k
        have hgl := K.row.lt
        clear K hb9 RP RV HB5 CSW CSV
        go_wp2_with fail
        go_roundw
        case rel => exact ⟨k + 1, by omega, by go_num, K9.out⟩
        case measure => simp [intOf]; omega
    · obtain rfl : k = M := by omega
      have hnk : ¬ ((k : Int) < (k : Int)) := by omega
      have row := K.row
      rw [Nat.sub_self, List.replicate_zero, List.append_nil, List.take_of_length_le (by rw [HZL.out]; exact Nat.le_refl _)] at row
      have bel := K.bel
      have hge := K.ge
      clear K
      go_wp2_with fail
      go_ret2
      have hres := RowB.own row enI_len (lo := w.heap.size) (by omega) row.lt (by rw [HZL.out]; unfold maxLen; omega)
      rw [HZL.out] at hres
      exact ⟨_, rfl, hres, bel⟩
end Go.Proofs.Ytfgkkmhafdbicaa.Bd25

set_option linter.unusedVariables false
set_option linter.unusedSimpArgs false
namespace Go.Proofs.Ytfgkkmhafdbicaa.Bd26
open Go.ChangeShapes Go.WideShapes Go.ChangeAt Go.RowKit Base Ints Own Clone RelG PlP Bd1 Bd4 Bd5 Bd6 Bd7 Bd7S Bd8 Bd9 Bd11 RegInv RegF RegG Bd16 Bd17 Bd18 Bd19 Bd20 Bd21 Bd22 Bd23 Bd24 Bd12 Bd15 Bd25

/-- The sum over the first k rolls. -/
def smP (v : Vr) (d : Nat) (b : Bd) (k : Nat) : Int := (((rollsP v.s.toNat).take k).map fun r => wtP r * grt (plsP v d b r.1 r.2)).sum
theorem smP_zero (v : Vr) (d : Nat) (b : Bd) : smP v d b 0 = 0 := rfl
theorem smP_succ {v : Vr} {d : Nat} {b : Bd} {k : Nat} {r : Int × Int} (h : (rollsP v.s.toNat)[k]? = some r) : smP v d b (k + 1) = smP v d b k + wtP r * grt (plsP v d b r.1 r.2) := by
  unfold smP; rw [takeS h, List.map_append, List.sum_append]; simp
theorem smP_all {v : Vr} {d : Nat} {b : Bd} {k : Nat} (h : (rollsP v.s.toNat).length ≤ k) : smP v d b k = ((rollsP v.s.toNat).map fun r => wtP r * grt (plsP v d b r.1 r.2)).sum := by
  unfold smP; rw [List.take_of_length_le h]
theorem grt_bd {v : Vr} {d : Nat} {b : Bd} {x y : Int} (hb : Ok v b) (hx : 1 ≤ x) (hy : 1 ≤ y) : 0 ≤ grt (plsP v d b x y) ∧ grt (plsP v d b x y) ≤ 1000000 := by
  have := pls_bd (d := d) hb hx hy
  exact gr_bd this.1 _ (by have := this.2; omega)
theorem wt_bd (r : Int × Int) : 1 ≤ wtP r ∧ wtP r ≤ 2 := by unfold wtP; split <;> omega
theorem term_bd {v : Vr} {d : Nat} {b : Bd} {r : Int × Int} (hb : Ok v b) (hx : 1 ≤ r.1) (hy : 1 ≤ r.2) : 0 ≤ wtP r * grt (plsP v d b r.1 r.2) ∧ wtP r * grt (plsP v d b r.1 r.2) ≤ 2000000 := by
  have h1 := grt_bd (d := d) hb hx hy
  unfold wtP
  split <;> omega
theorem sm_bd {v : Vr} {d : Nat} {b : Bd} (hb : Ok v b) : ∀ k, k ≤ (rollsP v.s.toNat).length → 0 ≤ smP v d b k ∧ smP v d b k ≤ 2000000 * (k : Int) := by
  intro k
  induction k with
  | zero => intro _; rw [smP_zero]; omega
  | succ k ih =>
    intro h
    have h1 := ih (by omega)
    have hr : (rollsP v.s.toNat)[k]? = some ((rollsP v.s.toNat)[k]'(by omega)) := List.getElem?_eq_getElem (by omega)
    have hm := rolls_mem (List.mem_of_getElem? hr)
    have h2 := term_bd (d := d) hb (r := (rollsP v.s.toNat)[k]'(by omega)) (by omega) (by omega)
    rw [smP_succ hr]
    omega
theorem val_over {v : Vr} {d : Nat} {b : Bd} (h : over b = true) : valP v (d + 1) b = est v b := by simp only [valP]; rw [if_pos h]
theorem val_sum {v : Vr} {d : Nat} {b : Bd} (h : over b = false) {k : Nat} (hk : (rollsP v.s.toNat).length ≤ k) : valP v (d + 1) b = smP v d b k / (v.s * v.s) := by
  rw [smP_all hk]; simp only [valP]; rw [if_neg (by rw [h]; simp)]; rfl
theorem rl2 {w : World} {B : Nat} {A : Option Addr} {xs : List (Int × Int)} (h : RdS w B 2 enI2 A xs) {i : Nat} (hi : i < xs.length) :
    ∃ b off x y, A = some ⟨b, off, none⟩ ∧ b < B ∧ xs[i]? = some (x, y) ∧ w.cell? ⟨b, off + i * 2, none⟩ = some (.int .i64 x) ∧ w.cell? ⟨b, off + i * 2 + 1, none⟩ = some (.int .i64 y) := by
  obtain ⟨b, off, ⟨x, y⟩, e, hb, hx, hc⟩ := h.at_ hi
  exact ⟨b, off, x, y, e, hb, hx, hc 0 _ rfl, hc 1 _ rfl⟩

set_option maxHeartbeats 2000000 in
theorem sv_zero : SVi 0 := by
  intro v b hb hp Ao At co ct w ho ht hA hT
  obtain ⟨P, hP⟩ : ∃ P : Nat, v.p = (P : Int) := ⟨v.p.toNat, by have := hb.v1; omega⟩
  obtain ⟨n, hn⟩ : ∃ n, P + 1 = n := ⟨_, rfl⟩
  have eln : b.1.length = n := by have := hb.own.len; omega
  have emn : b.2.length = n := by have := hb.oth.len; omega
  obtain ⟨X, hX⟩ : ∃ X, valP v 0 b = X := ⟨_, rfl⟩
  have CE := Lib.hid (fun (w9 : World) (h : Below w.heap.size w w9) => Bd13I.est_i v b hb Ao At co ct w.heap.size w9 h.size (ho.below h (Nat.le_refl _)) (ht.below h (Nat.le_refl _)))
  rw [show est v b = X from hX, eln, emn] at CE
  rw [hX, eln, emn]
  clear hb hp ho ht hA hT hX eln emn hn hP
  go_enter Try.func55, Try.ntmps55
  go_upto_region 1 with (fail)
  refine wp_gen (fun W' => Below w.heap.size w W' ∧ RowB W' w.heap.size 32 [.int .i64 v.p, .int .i64 v.c, .int .i64 v.h, .int .i64 v.s] ∧ RowB W' (w.heap.size + 1) 34 [.slice Ao n co, .slice At n ct]) ⟨by go_grown, (RowB.new _ _ _).alloc _, RowB.new' _ _ _ (by simp)⟩ ?_
  rintro w1 ⟨hb1, rv, rb⟩
  obtain ⟨q0, q1, q2, q3⟩ := rv.c4
  obtain ⟨z0, z1⟩ := rb.c2
  have hl1 := rv.lt
  have hl2 := rb.lt
  go_wp2_with fail
  refine (CE.out w1 hb1).mono ?_
  rintro e w2 ⟨rfl, hb2⟩
  have hb1 := hb1.trans (hb2.mono hb1.size)
  go_wp2_with fail
  go_ret2
  exact ⟨rfl, hb1⟩

set_option maxHeartbeats 8000000 in
set_option maxRecDepth 100000 in
theorem sv_step (d : Nat) (hd : d ≤ 10) (H : PVi d) : SVi (d + 1) := by
  intro v b hb hp Ao At co ct w ho ht hA hT
  obtain ⟨P, hP⟩ : ∃ P : Nat, v.p = (P : Int) := ⟨v.p.toNat, by have := hb.v1; omega⟩
  obtain ⟨n, hn⟩ : ∃ n, P + 1 = n := ⟨_, rfl⟩
  have eln : b.1.length = n := by have := hb.own.len; omega
  have emn : b.2.length = n := by have := hb.oth.len; omega
  have hv := hb.v1
  have hvV : okV v = true := okV_iff.2 hv
  obtain ⟨D, hD⟩ : ∃ D, d + 1 = D := ⟨_, rfl⟩
  obtain ⟨S, hS⟩ : ∃ S : Nat, v.s = (S : Int) := ⟨v.s.toNat, by omega⟩
  have hS6 : S ≤ 6 ∧ 1 ≤ S := by omega
  have eS : v.s.toNat = S := by omega
  obtain ⟨ov, hov⟩ : ∃ o, over b = o := ⟨_, rfl⟩
  obtain ⟨X, hX⟩ : ∃ X, valP v (d + 1) b = X := ⟨_, rfl⟩
  have CE := Lib.hid (fun (w9 : World) (h : Below w.heap.size w w9) => Bd13I.est_i v b hb Ao At co ct w.heap.size w9 h.size (ho.below h (Nat.le_refl _)) (ht.below h (Nat.le_refl _)))
  have CO := Lib.hid (fun (w9 : World) (h : Below w.heap.size w w9) => Bd2.over_i v b hb Ao At co ct w.heap.size w9 h.size (ho.below h (Nat.le_refl _)) (ht.below h (Nat.le_refl _)) ov hov)
  have CR := Lib.hid (fun (w9 : World) => rolls_i v hvV w9)
  have CP := Lib.hid (fun (w9 : World) (h : Below w.heap.size w w9) (x y : Int) (hr : (x, y) ∈ rollsP S) => H v b hb hp Ao At co ct x y (by have := rolls_mem hr; simp only at this; omega) (by have := rolls_mem hr; simp only at this; omega) w9 ((ho.below h (Nat.le_refl _)).more h.size) ((ht.below h (Nat.le_refl _)).more h.size) hA hT)
  have CW := Lib.hid (fun (w9 : World) (x y : Int) (hr : (x, y) ∈ rollsP S) => weight_i v hvV x y (okR_iff.2 (by have := rolls_mem hr; simp only at this; omega)) w9)
  have HOB := Lib.hid (fun (x y : Int) (hr : (x, y) ∈ rollsP S) => (⟨pls_bd (d := d) hb (x := x) (y := y) (by have := rolls_mem hr; simp only at this; omega) (by have := rolls_mem hr; simp only at this; omega), term_bd (d := d) hb (r := (x, y)) (by have := rolls_mem hr; simp only at this; omega) (by have := rolls_mem hr; simp only at this; omega)⟩ : (((∀ z ∈ plsP v d b x y, 0 ≤ z ∧ z ≤ 1000000) ∧ 0 < (plsP v d b x y).length) ∧ (0 ≤ wtP (x, y) * grt (plsP v d b x y) ∧ wtP (x, y) * grt (plsP v d b x y) ≤ 2000000))))
  have HSB := Lib.hid (sm_bd (d := d) hb)
  have HOVER := Lib.hid (fun (h : ov = true) => val_over (v := v) (d := d) (b := b) (hov.trans h))
  have HSUM := Lib.hid (fun (h : ov = false) (k : Nat) (hk : (rollsP v.s.toNat).length ≤ k) => val_sum (v := v) (d := d) (b := b) (hov.trans h) hk)
  have HSC := Lib.hid (fun (k : Nat) (r : Int × Int) (h : (rollsP v.s.toNat)[k]? = some r) => smP_succ (v := v) (d := d) (b := b) h)
  have hRL : (rollsP S).length ≤ 42 := by have := rolls_len S hS6.1; omega
  rw [hX] at HOVER HSUM
  rw [eS] at CR HSB HSUM HSC
  rw [eln, emn] at CE CO CP
  rw [hX, eln, emn, hD]
  have hDd : IntKind.i64.wrap ((D : Int) - 1) = (d : Int) := by rw [IntWalk.i64_in _ (by omega)]; omega
  have hD0 : ((D : Int) == 0) = false := by simp; omega
  have HS := Lib.hid hS
  clear hb hp ho ht hA hT hX eln emn hn hP hv hvV hD hov eS hS H
  go_enter Try.func55, Try.ntmps55
  go_upto_region 1 with (fail)
  refine wp_gen (fun W' => Below w.heap.size w W' ∧ RowB W' w.heap.size 32 [.int .i64 v.p, .int .i64 v.c, .int .i64 v.h, .int .i64 v.s] ∧ RowB W' (w.heap.size + 1) 34 [.slice Ao n co, .slice At n ct]) ⟨by go_grown, (RowB.new _ _ _).alloc _, RowB.new' _ _ _ (by simp)⟩ ?_
  rintro w1 ⟨hb1, rv, rb⟩
  obtain ⟨q0, q1, q2, q3⟩ := rv.c4
  obtain ⟨z0, z1⟩ := rb.c2
  have hl1 := rv.lt
  have hl2 := rb.lt
  go_wp2_with fail
  refine (CO.out w1 hb1).mono ?_
  rintro e w2 ⟨rfl, hb2⟩
  have rv := rv.below hb2 rv.lt
  have rb := rb.below hb2 rb.lt
  have hb1 := hb1.trans (hb2.mono hb1.size)
  clear q0 q1 q2 q3 z0 z1 hl1 hl2 hb2 CO
  obtain ⟨q0, q1, q2, q3⟩ := rv.c4
  obtain ⟨z0, z1⟩ := rb.c2
  have hl1 := rv.lt
  have hl2 := rb.lt
  cases ov
  case true =>
    obtain rfl : X = est v b := (HOVER.out rfl)
    clear HSUM HSB HOB CP CW CR HSC
    go_wp2_with fail
    refine (CE.out w2 hb1).mono ?_
    rintro e w3 ⟨rfl, hb3⟩
    have hb1 := hb1.trans (hb3.mono hb1.size)
    go_wp2_with fail
    go_ret2
    exact ⟨rfl, hb1⟩
  have HSU2 := Lib.hid (HSUM.out rfl)
  clear CE HOVER HSUM
  go_wp2_with fail
  refine (CR.out w2).mono ?_
  rintro e w3 ⟨lv, rfl, hlo, hb3⟩
  have rv := rv.below hb3 rv.lt
  have rb := rb.below hb3 rb.lt
  have hb1 := hb1.trans (hb3.mono hb1.size)
  obtain ⟨Al, cl, hlv, hrl⟩ := hlo.form enI2_len
  subst hlv
  obtain ⟨N, hN⟩ : ∃ N, (rollsP S).length = N := ⟨_, rfl⟩
  have HN := Lib.hid hN
  rw [hN] at hRL ⊢
  have HRL := Lib.hid hrl
  clear q0 q1 q2 q3 z0 z1 hl1 hl2 hb3 CR hN hlo hrl
  have hl1 := rv.lt
  go_wp2_with fail
  go_loopw [8, 25] (fun s i wr => ∃ k : Nat, k ≤ N ∧ i = .int .i64 (k : Int) ∧ s = .int .i64 (smP v d b k) ∧ Below w3.heap.size w3 wr) (fun _ i _ => N - (intOf i).toNat)
  case atStart => exact ⟨0, Nat.zero_le _, by first | rfl | trivial, by first | rfl | trivial, Below.refl _ _⟩
  case round =>
    obtain ⟨k, hk, rfl, rfl, hbk⟩ := hrel
    clear hl1
    have hbw := hb1.trans (hbk.mono hb1.size)
    have rvk := rv.below hbk rv.lt
    have rbk := rb.below hbk rb.lt
    have hl1 := rvk.lt
    have hl2 := rbk.lt
    have hsb := HSB.out k (by rw [HN.out]; exact hk)
    by_cases hlt : k < N
    · obtain ⟨b5, o5, x, y, rfl, hb5, hxy, c0, c1⟩ := rl2 (HRL.out.below hbk (Nat.le_refl _)) (i := k) (by rw [HN.out]; exact hlt)
      have HM := Lib.hid (List.mem_of_getElem? hxy)
      have HSN := Lib.hid (HSC.out k (x, y) hxy)
      obtain ⟨Sk, hSk⟩ : ∃ s, smP v d b k = s := ⟨_, rfl⟩
      rw [hSk] at hsb HSN ⊢
      obtain ⟨⟨hpl, hpl0⟩, htb⟩ := HOB.out x y HM.out
      obtain ⟨zs, hzs⟩ : ∃ z, plsP v d b x y = z := ⟨_, rfl⟩
      have CPx := Lib.hid (fun (w9 : World) (h : Below w.heap.size w w9) => CP.out w9 h x y HM.out)
      have CWx := Lib.hid (fun (w9 : World) => CW.out w9 x y HM.out)
      rw [hzs] at hpl hpl0 htb CPx HSN
      obtain ⟨W, hW⟩ : ∃ q, wtP (x, y) = q := ⟨_, rfl⟩
      rw [hW] at CWx htb HSN
      have hfg := fg_gr zs (zs.length - 1)
      have hgr : at_ zs (fgP zs) = grt zs := hfg.1
      have hfl : fgP zs < zs.length := by have := hfg.2; show fgU zs (zs.length - 1) < _; omega
      obtain ⟨G, hG⟩ : ∃ g, grt zs = g := ⟨_, rfl⟩
      rw [hG] at htb HSN hgr
      obtain ⟨fg, hf⟩ : ∃ f, fgP zs = f := ⟨_, rfl⟩
      have CF := Lib.hid (fun (w9 : World) (A : Option Addr) (cp B : Nat) (hr : RdS w9 B 1 enI A zs) => first_i A cp B zs w9 hr hpl0)
      rw [hf] at CF hfl hgr
      obtain ⟨L, hL⟩ : ∃ l, zs.length = l := ⟨_, rfl⟩
      have HL := Lib.hid hL
      have HFL := Lib.hid hfl
      have hGR := Lib.hid hgr
      rw [hL] at hfl CF
      obtain ⟨PV, hPV⟩ : ∃ q, W * G = q := ⟨_, rfl⟩
      rw [hPV] at htb HSN
      have hw1 : IntKind.i64.wrap (W * G) = PV := by rw [hPV]; exact IntWalk.i64_in _ (by omega)
      have hw2 : IntKind.i64.wrap (Sk + PV) = Sk + PV := IntWalk.i64_in _ (by omega)
      have hkn : (k : Int) < (N : Int) := by omega
      have hwk : IntKind.i64.wrap ((k : Int) + 1) = (k : Int) + 1 := IntWalk.i64_in _ (by omega)
      have hfi : (fg : Int) < (L : Int) := by omega
      clear hxy hSk hzs hW hG hf hL hPV hpl hpl0 hfg hgr
      go_upto_region 7 with (fail)
      refine wp_gen (fun W' => Below wr.heap.size wr W' ∧ RowB W' wr.heap.size 36 [.int .i64 x, .int .i64 y]) ?_ ?_
      · exact ⟨(Below.refl _ _).alloc (Nat.le_refl _) _, RowB.new _ _ _⟩
      rintro w5 ⟨hb5', rr⟩
      have rvk := rvk.below hb5' rvk.lt
      have rbk := rbk.below hb5' rbk.lt
      have hbw := hbw.trans (hb5'.mono hbw.size)
      have hbk := hbk.trans (hb5'.mono hbk.size)
      obtain ⟨gr, hgr⟩ : ∃ g, wr.heap.size = g := ⟨_, rfl⟩
      rw [hgr] at rr ⊢
      clear c0 c1 hb5 hb5' hl1 hl2 hgr
      obtain ⟨q0, q1, q2, q3⟩ := rvk.c4
      obtain ⟨z0, z1⟩ := rbk.c2
      obtain ⟨r0, r1⟩ := rr.c2
      have hl1 := rvk.lt
      have hl2 := rbk.lt
      have hl3 := rr.lt
      go_wp2_with fail
      refine (CPx.out w5 hbw).mono ?_
      rintro e w6 ⟨vv, rfl, hvo, hb6⟩
      have rvk := rvk.below hb6 rvk.lt
      have rbk := rbk.below hb6 rbk.lt
      have rr := rr.below hb6 rr.lt
      have hbk := hbk.trans (hb6.mono hbk.size)
      obtain ⟨Av, cv, hvv, hvr⟩ := hvo.form enI_len
      rw [HL.out] at hvv
      subst hvv
      have HVR := Lib.hid hvr
      clear q0 q1 q2 q3 z0 z1 r0 r1 hl1 hl2 hl3 hb6 hvo hvr CPx hbw
      obtain ⟨q0, q1, q2, q3⟩ := rvk.c4
      obtain ⟨r0, r1⟩ := rr.c2
      have hl1 := rvk.lt
      have hl3 := rr.lt
      go_wp2_with fail
      refine (CWx.out w6).mono ?_
      rintro e w7 ⟨rfl, hb7⟩
      have hbk := hbk.trans (hb7.mono hbk.size)
      have HVR := Lib.hid (HVR.out.below hb7 (Nat.le_refl _))
      clear q0 q1 q2 q3 r0 r1 hl1 hl3 rvk rbk rr hb7 CWx
      obtain ⟨b8, o8, rfl, hb8, hc8⟩ := at_rd HVR.out (i := fg) HFL.out
      rw [hGR.out] at hc8
      go_wp2_with fail
      refine (CF.out w7 _ cv _ HVR.out).mono ?_
      rintro e w8 ⟨rfl, rfl⟩
      go_wp2_with fail
      go_roundw
      case rel => exact ⟨k + 1, by omega, by go_num, by rw [HSN.out], hbk⟩
      case measure => simp [intOf]; omega
    · obtain rfl : k = N := by omega
      have hnk : ¬ ((k : Int) < (k : Int)) := by omega
      have hX := HSU2.out k (by rw [HN.out]; exact Nat.le_refl _)
      rw [HS.out] at hX
      obtain ⟨Q, hQ⟩ : ∃ q, (S : Int) * (S : Int) = q := ⟨_, rfl⟩
      have hQ36 : 1 ≤ Q ∧ Q ≤ 36 := by
        rw [← hQ]
        have : S = 1 ∨ S = 2 ∨ S = 3 ∨ S = 4 ∨ S = 5 ∨ S = 6 := by omega
        rcases this with rfl | rfl | rfl | rfl | rfl | rfl <;> omega
      obtain ⟨T, hT⟩ : ∃ t, smP v d b k = t := ⟨_, rfl⟩
      rw [hT] at hX hsb ⊢
      rw [hQ] at hX
      have hw1 : IntKind.i64.wrap ((S : Int) * (S : Int)) = Q := by rw [hQ]; exact IntWalk.i64_in _ (by omega)
      have hQ0 : ¬ Q = 0 := by omega
      have hTd : Int.tdiv T Q = X := by rw [hX, Int.tdiv_eq_ediv_of_nonneg hsb.1]
      have hX01 : 0 ≤ X ∧ X ≤ 100000000 := by
        rw [hX]
        exact ⟨Int.ediv_nonneg hsb.1 (by omega), Int.ediv_le_of_le_mul (by omega) (by have : (100000000 : Int) * 1 ≤ 100000000 * Q := Int.mul_le_mul_of_nonneg_left hQ36.1 (by omega); omega)⟩
      have hw2 : IntKind.i64.wrap X = X := IntWalk.i64_in _ (by omega)
      obtain ⟨q0, q1, q2, q3⟩ := rvk.c4
      rw [HS.out] at q3
      clear hX hT hQ HSB HOB CP CW HSU2 HSC hQ36
      go_wp2_with fail
      go_ret2
      exact ⟨rfl, hbw⟩
theorem vals_i : ∀ d, d ≤ 5 → SVi d ∧ PVi d := by
  intro d
  induction d with
  | zero => intro _; exact ⟨sv_zero, pv_step 0 (by omega) sv_zero⟩
  | succ d ih => intro h; have := sv_step d (by omega) (ih (by omega)).2; exact ⟨this, pv_step (d + 1) (by omega) this⟩
end Go.Proofs.Ytfgkkmhafdbicaa.Bd26
