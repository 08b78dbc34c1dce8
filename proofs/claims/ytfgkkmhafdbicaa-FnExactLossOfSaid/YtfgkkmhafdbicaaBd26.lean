/-
  The value of a board for a depth: of the program. Conditions: each theorem's own.
-/
import Derived.Test.YtfgkkmhafdbicaaBd25
set_option linter.unusedVariables false
set_option linter.unusedSimpArgs false
namespace Go.Proofs.Ytfgkkmhafdbicaa.Bd26
open Go.ChangeShapes Go.WideShapes Go.ChangeAt Go.RowKit Base Ints Own Clone RelG PlP Bd1 Bd4 Bd5 Bd6 Bd7 Bd7S Bd8 Bd9 Bd11 RegInv RegF RegG Bd16 Bd17 Bd18 Bd19 Bd20 Bd21 Bd22 Bd23 Bd24 Bd12 Bd15 Bd25

/-- The sum over the first k rolls. -/
def smP (v : Vr) (d : Nat) (b : Bd) (k : Nat) : Int := (((rollsP v.s.toNat).take k).map fun r => wtP r * grt (plsP v d b r.1 r.2)).sum
theorem smP_zero (v : Vr) (d : Nat) (b : Bd) : smP v d b 0 = 0 := rfl
theorem smP_succ {v : Vr} {d : Nat} {b : Bd} {k : Nat} {r : Int × Int} (h : (rollsP v.s.toNat)[k]? = some r) : smP v d b (k + 1) = smP v d b k + wtP r * grt (plsP v d b r.1 r.2) := by
  unfold smP; rw [takeS h, List.map_append, List.sum_append]; simp
theorem smP_all {v : Vr} {d : Nat} {b : Bd} {k : Nat} (h : (rollsP v.s.toNat).length ≤ k) : smP v d b k = ((rollsP v.s.toNat).map fun r => wtP r * grt (plsP v d b r.1 r.2)).sum := by
  unfold smP; rw [List.take_of_length_le h]
theorem grt_bd {v : Vr} {d : Nat} {b : Bd} {x y : Int} (hb : Ok v b) (hx : 1 ≤ x) (hy : 1 ≤ y) : 0 ≤ grt (plsP v d b x y) ∧ grt (plsP v d b x y) ≤ 1000000 := by
  have := pls_bd (d := d) hb hx hy
  exact gr_bd this.1 _ (by have := this.2; omega)
theorem wt_bd (r : Int × Int) : 1 ≤ wtP r ∧ wtP r ≤ 2 := by unfold wtP; split <;> omega
theorem term_bd {v : Vr} {d : Nat} {b : Bd} {r : Int × Int} (hb : Ok v b) (hx : 1 ≤ r.1) (hy : 1 ≤ r.2) : 0 ≤ wtP r * grt (plsP v d b r.1 r.2) ∧ wtP r * grt (plsP v d b r.1 r.2) ≤ 2000000 := by
  have h1 := grt_bd (d := d) hb hx hy
  unfold wtP
  split <;> omega
theorem sm_bd {v : Vr} {d : Nat} {b : Bd} (hb : Ok v b) : ∀ k, k ≤ (rollsP v.s.toNat).length → 0 ≤ smP v d b k ∧ smP v d b k ≤ 2000000 * (k : Int) := by
  intro k
  induction k with
  | zero => intro _; rw [smP_zero]; omega
  | succ k ih =>
    intro h
    have h1 := ih (by omega)
    have hr : (rollsP v.s.toNat)[k]? = some ((rollsP v.s.toNat)[k]'(by omega)) := List.getElem?_eq_getElem (by omega)
    have hm := rolls_mem (List.mem_of_getElem? hr)
    have h2 := term_bd (d := d) hb (r := (rollsP v.s.toNat)[k]'(by omega)) (by omega) (by omega)
    rw [smP_succ hr]
    omega
theorem val_over {v : Vr} {d : Nat} {b : Bd} (h : over b = true) : valP v (d + 1) b = est v b := by simp only [valP]; rw [if_pos h]
theorem val_sum {v : Vr} {d : Nat} {b : Bd} (h : over b = false) {k : Nat} (hk : (rollsP v.s.toNat).length ≤ k) : valP v (d + 1) b = smP v d b k / (v.s * v.s) := by
  rw [smP_all hk]; simp only [valP]; rw [if_neg (by rw [h]; simp)]; rfl
theorem rl2 {w : World} {B : Nat} {A : Option Addr} {xs : List (Int × Int)} (h : RdS w B 2 enI2 A xs) {i : Nat} (hi : i < xs.length) :
    ∃ b off x y, A = some ⟨b, off, none⟩ ∧ b < B ∧ xs[i]? = some (x, y) ∧ w.cell? ⟨b, off + i * 2, none⟩ = some (.int .i64 x) ∧ w.cell? ⟨b, off + i * 2 + 1, none⟩ = some (.int .i64 y) := by
  obtain ⟨b, off, ⟨x, y⟩, e, hb, hx, hc⟩ := h.at_ hi
  exact ⟨b, off, x, y, e, hb, hx, hc 0 _ rfl, hc 1 _ rfl⟩

set_option maxHeartbeats 2000000 in
theorem sv_zero : SVi 0 := by
  intro v b hb hp Ao At co ct w ho ht hA hT
  obtain ⟨P, hP⟩ : ∃ P : Nat, v.p = (P : Int) := ⟨v.p.toNat, by have := hb.v1; omega⟩
  obtain ⟨n, hn⟩ : ∃ n, P + 1 = n := ⟨_, rfl⟩
  have eln : b.1.length = n := by have := hb.own.len; omega
  have emn : b.2.length = n := by have := hb.oth.len; omega
  obtain ⟨X, hX⟩ : ∃ X, valP v 0 b = X := ⟨_, rfl⟩
  have CE := Lib.hid (fun (w9 : World) (h : Below w.heap.size w w9) => Bd13I.est_i v b hb Ao At co ct w.heap.size w9 h.size (ho.below h (Nat.le_refl _)) (ht.below h (Nat.le_refl _)))
  rw [show est v b = X from hX, eln, emn] at CE
  rw [hX, eln, emn]
  clear hb hp ho ht hA hT hX eln emn hn hP
  go_enter Try.func55, Try.ntmps55
  go_upto_region 1 with (fail)
  refine wp_gen (fun W' => Below w.heap.size w W' ∧ RowB W' w.heap.size 32 [.int .i64 v.p, .int .i64 v.c, .int .i64 v.h, .int .i64 v.s] ∧ RowB W' (w.heap.size + 1) 34 [.slice Ao n co, .slice At n ct]) ⟨by go_grown, (RowB.new _ _ _).alloc _, RowB.new' _ _ _ (by simp)⟩ ?_
  rintro w1 ⟨hb1, rv, rb⟩
  obtain ⟨q0, q1, q2, q3⟩ := rv.c4
  obtain ⟨z0, z1⟩ := rb.c2
  have hl1 := rv.lt
  have hl2 := rb.lt
  go_wp2_with fail
  refine (CE.out w1 hb1).mono ?_
  rintro e w2 ⟨rfl, hb2⟩
  have hb1 := hb1.trans (hb2.mono hb1.size)
  go_wp2_with fail
  go_ret2
  exact ⟨rfl, hb1⟩

set_option maxHeartbeats 8000000 in
set_option maxRecDepth 100000 in
theorem sv_step (d : Nat) (hd : d ≤ 10) (H : PVi d) : SVi (d + 1) := by
  intro v b hb hp Ao At co ct w ho ht hA hT
  obtain ⟨P, hP⟩ : ∃ P : Nat, v.p = (P : Int) := ⟨v.p.toNat, by have := hb.v1; omega⟩
  obtain ⟨n, hn⟩ : ∃ n, P + 1 = n := ⟨_, rfl⟩
  have eln : b.1.length = n := by have := hb.own.len; omega
  have emn : b.2.length = n := by have := hb.oth.len; omega
  have hv := hb.v1
  have hvV : okV v = true := okV_iff.2 hv
  obtain ⟨D, hD⟩ : ∃ D, d + 1 = D := ⟨_, rfl⟩
  obtain ⟨S, hS⟩ : ∃ S : Nat, v.s = (S : Int) := ⟨v.s.toNat, by omega⟩
  have hS6 : S ≤ 6 ∧ 1 ≤ S := by omega
  have eS : v.s.toNat = S := by omega
  obtain ⟨ov, hov⟩ : ∃ o, over b = o := ⟨_, rfl⟩
  obtain ⟨X, hX⟩ : ∃ X, valP v (d + 1) b = X := ⟨_, rfl⟩
  have CE := Lib.hid (fun (w9 : World) (h : Below w.heap.size w w9) => Bd13I.est_i v b hb Ao At co ct w.heap.size w9 h.size (ho.below h (Nat.le_refl _)) (ht.below h (Nat.le_refl _)))
  have CO := Lib.hid (fun (w9 : World) (h : Below w.heap.size w w9) => Bd2.over_i v b hb Ao At co ct w.heap.size w9 h.size (ho.below h (Nat.le_refl _)) (ht.below h (Nat.le_refl _)) ov hov)
  have CR := Lib.hid (fun (w9 : World) => rolls_i v hvV w9)
  have CP := Lib.hid (fun (w9 : World) (h : Below w.heap.size w w9) (x y : Int) (hr : (x, y) ∈ rollsP S) => H v b hb hp Ao At co ct x y (by have := rolls_mem hr; simp only at this; omega) (by have := rolls_mem hr; simp only at this; omega) w9 ((ho.below h (Nat.le_refl _)).more h.size) ((ht.below h (Nat.le_refl _)).more h.size) hA hT)
  have CW := Lib.hid (fun (w9 : World) (x y : Int) (hr : (x, y) ∈ rollsP S) => weight_i v hvV x y (okR_iff.2 (by have := rolls_mem hr; simp only at this; omega)) w9)
  have HOB := Lib.hid (fun (x y : Int) (hr : (x, y) ∈ rollsP S) => (⟨pls_bd (d := d) hb (x := x) (y := y) (by have := rolls_mem hr; simp only at this; omega) (by have := rolls_mem hr; simp only at this; omega), term_bd (d := d) hb (r := (x, y)) (by have := rolls_mem hr; simp only at this; omega) (by have := rolls_mem hr; simp only at this; omega)⟩ : (((∀ z ∈ plsP v d b x y, 0 ≤ z ∧ z ≤ 1000000) ∧ 0 < (plsP v d b x y).length) ∧ (0 ≤ wtP (x, y) * grt (plsP v d b x y) ∧ wtP (x, y) * grt (plsP v d b x y) ≤ 2000000))))
  have HSB := Lib.hid (sm_bd (d := d) hb)
  have HOVER := Lib.hid (fun (h : ov = true) => val_over (v := v) (d := d) (b := b) (hov.trans h))
  have HSUM := Lib.hid (fun (h : ov = false) (k : Nat) (hk : (rollsP v.s.toNat).length ≤ k) => val_sum (v := v) (d := d) (b := b) (hov.trans h) hk)
  have HSC := Lib.hid (fun (k : Nat) (r : Int × Int) (h : (rollsP v.s.toNat)[k]? = some r) => smP_succ (v := v) (d := d) (b := b) h)
  have hRL : (rollsP S).length ≤ 42 := by have := rolls_len S hS6.1; omega
  rw [hX] at HOVER HSUM
  rw [eS] at CR HSB HSUM HSC
  rw [eln, emn] at CE CO CP
  rw [hX, eln, emn, hD]
  have hDd : IntKind.i64.wrap ((D : Int) - 1) = (d : Int) := by rw [IntWalk.i64_in _ (by omega)]; omega
  have hD0 : ((D : Int) == 0) = false := by simp; omega
  have HS := Lib.hid hS
  clear hb hp ho ht hA hT hX eln emn hn hP hv hvV hD hov eS hS H
  go_enter Try.func55, Try.ntmps55
  go_upto_region 1 with (fail)
  refine wp_gen (fun W' => Below w.heap.size w W' ∧ RowB W' w.heap.size 32 [.int .i64 v.p, .int .i64 v.c, .int .i64 v.h, .int .i64 v.s] ∧ RowB W' (w.heap.size + 1) 34 [.slice Ao n co, .slice At n ct]) ⟨by go_grown, (RowB.new _ _ _).alloc _, RowB.new' _ _ _ (by simp)⟩ ?_
  rintro w1 ⟨hb1, rv, rb⟩
  obtain ⟨q0, q1, q2, q3⟩ := rv.c4
  obtain ⟨z0, z1⟩ := rb.c2
  have hl1 := rv.lt
  have hl2 := rb.lt
  go_wp2_with fail
  refine (CO.out w1 hb1).mono ?_
  rintro e w2 ⟨rfl, hb2⟩
  have rv := rv.below hb2 rv.lt
  have rb := rb.below hb2 rb.lt
  have hb1 := hb1.trans (hb2.mono hb1.size)
  clear q0 q1 q2 q3 z0 z1 hl1 hl2 hb2 CO
  obtain ⟨q0, q1, q2, q3⟩ := rv.c4
  obtain ⟨z0, z1⟩ := rb.c2
  have hl1 := rv.lt
  have hl2 := rb.lt
  cases ov
  case true =>
    obtain rfl : X = est v b := (HOVER.out rfl)
    clear HSUM HSB HOB CP CW CR HSC
    go_wp2_with fail
    refine (CE.out w2 hb1).mono ?_
    rintro e w3 ⟨rfl, hb3⟩
    have hb1 := hb1.trans (hb3.mono hb1.size)
    go_wp2_with fail
    go_ret2
    exact ⟨rfl, hb1⟩
  have HSU2 := Lib.hid (HSUM.out rfl)
  clear CE HOVER HSUM
  go_wp2_with fail
  refine (CR.out w2).mono ?_
  rintro e w3 ⟨lv, rfl, hlo, hb3⟩
  have rv := rv.below hb3 rv.lt
  have rb := rb.below hb3 rb.lt
  have hb1 := hb1.trans (hb3.mono hb1.size)
  obtain ⟨Al, cl, hlv, hrl⟩ := hlo.form enI2_len
  subst hlv
  obtain ⟨N, hN⟩ : ∃ N, (rollsP S).length = N := ⟨_, rfl⟩
  have HN := Lib.hid hN
  rw [hN] at hRL ⊢
  have HRL := Lib.hid hrl
  clear q0 q1 q2 q3 z0 z1 hl1 hl2 hb3 CR hN hlo hrl
  have hl1 := rv.lt
  go_wp2_with fail
  go_loopw [8, 25] (fun s i wr => ∃ k : Nat, k ≤ N ∧ i = .int .i64 (k : Int) ∧ s = .int .i64 (smP v d b k) ∧ Below w3.heap.size w3 wr) (fun _ i _ => N - (intOf i).toNat)
  case atStart => exact ⟨0, Nat.zero_le _, by first | rfl | trivial, by first | rfl | trivial, Below.refl _ _⟩
  case round =>
    obtain ⟨k, hk, rfl, rfl, hbk⟩ := hrel
    clear hl1
    have hbw := hb1.trans (hbk.mono hb1.size)
    have rvk := rv.below hbk rv.lt
    have rbk := rb.below hbk rb.lt
    have hl1 := rvk.lt
    have hl2 := rbk.lt
    have hsb := HSB.out k (by rw [HN.out]; exact hk)
    by_cases hlt : k < N
    · obtain ⟨b5, o5, x, y, rfl, hb5, hxy, c0, c1⟩ := rl2 (HRL.out.below hbk (Nat.le_refl _)) (i := k) (by rw [HN.out]; exact hlt)
      have HM := Lib.hid (List.mem_of_getElem? hxy)
      have HSN := Lib.hid (HSC.out k (x, y) hxy)
      obtain ⟨Sk, hSk⟩ : ∃ s, smP v d b k = s := ⟨_, rfl⟩
      rw [hSk] at hsb HSN ⊢
      obtain ⟨⟨hpl, hpl0⟩, htb⟩ := HOB.out x y HM.out
      obtain ⟨zs, hzs⟩ : ∃ z, plsP v d b x y = z := ⟨_, rfl⟩
      have CPx := Lib.hid (fun (w9 : World) (h : Below w.heap.size w w9) => CP.out w9 h x y HM.out)
      have CWx := Lib.hid (fun (w9 : World) => CW.out w9 x y HM.out)
      rw [hzs] at hpl hpl0 htb CPx HSN
      obtain ⟨W, hW⟩ : ∃ q, wtP (x, y) = q := ⟨_, rfl⟩
      rw [hW] at CWx htb HSN
      have hfg := fg_gr zs (zs.length - 1)
      have hgr : at_ zs (fgP zs) = grt zs := hfg.1
      have hfl : fgP zs < zs.length := by have := hfg.2; show fgU zs (zs.length - 1) < _; omega
      obtain ⟨G, hG⟩ : ∃ g, grt zs = g := ⟨_, rfl⟩
      rw [hG] at htb HSN hgr
      obtain ⟨fg, hf⟩ : ∃ f, fgP zs = f := ⟨_, rfl⟩
      have CF := Lib.hid (fun (w9 : World) (A : Option Addr) (cp B : Nat) (hr : RdS w9 B 1 enI A zs) => first_i A cp B zs w9 hr hpl0)
      rw [hf] at CF hfl hgr
      obtain ⟨L, hL⟩ : ∃ l, zs.length = l := ⟨_, rfl⟩
      have HL := Lib.hid hL
      have HFL := Lib.hid hfl
      have hGR := Lib.hid hgr
      rw [hL] at hfl CF
      obtain ⟨PV, hPV⟩ : ∃ q, W * G = q := ⟨_, rfl⟩
      rw [hPV] at htb HSN
      have hw1 : IntKind.i64.wrap (W * G) = PV := by rw [hPV]; exact IntWalk.i64_in _ (by omega)
      have hw2 : IntKind.i64.wrap (Sk + PV) = Sk + PV := IntWalk.i64_in _ (by omega)
      have hkn : (k : Int) < (N : Int) := by omega
      have hwk : IntKind.i64.wrap ((k : Int) + 1) = (k : Int) + 1 := IntWalk.i64_in _ (by omega)
      have hfi : (fg : Int) < (L : Int) := by omega
      clear hxy hSk hzs hW hG hf hL hPV hpl hpl0 hfg hgr
      go_upto_region 7 with (fail)
      refine wp_gen (fun W' => Below wr.heap.size wr W' ∧ RowB W' wr.heap.size 36 [.int .i64 x, .int .i64 y]) ?_ ?_
      · exact ⟨(Below.refl _ _).alloc (Nat.le_refl _) _, RowB.new _ _ _⟩
      rintro w5 ⟨hb5', rr⟩
      have rvk := rvk.below hb5' rvk.lt
      have rbk := rbk.below hb5' rbk.lt
      have hbw := hbw.trans (hb5'.mono hbw.size)
      have hbk := hbk.trans (hb5'.mono hbk.size)
      obtain ⟨gr, hgr⟩ : ∃ g, wr.heap.size = g := ⟨_, rfl⟩
      rw [hgr] at rr ⊢
      clear c0 c1 hb5 hb5' hl1 hl2 hgr
      obtain ⟨q0, q1, q2, q3⟩ := rvk.c4
      obtain ⟨z0, z1⟩ := rbk.c2
      obtain ⟨r0, r1⟩ := rr.c2
      have hl1 := rvk.lt
      have hl2 := rbk.lt
      have hl3 := rr.lt
      go_wp2_with fail
      refine (CPx.out w5 hbw).mono ?_
      rintro e w6 ⟨vv, rfl, hvo, hb6⟩
      have rvk := rvk.below hb6 rvk.lt
      have rbk := rbk.below hb6 rbk.lt
      have rr := rr.below hb6 rr.lt
      have hbk := hbk.trans (hb6.mono hbk.size)
      obtain ⟨Av, cv, hvv, hvr⟩ := hvo.form enI_len
      rw [HL.out] at hvv
      subst hvv
      have HVR := Lib.hid hvr
      clear q0 q1 q2 q3 z0 z1 r0 r1 hl1 hl2 hl3 hb6 hvo hvr CPx hbw
      obtain ⟨q0, q1, q2, q3⟩ := rvk.c4
      obtain ⟨r0, r1⟩ := rr.c2
      have hl1 := rvk.lt
      have hl3 := rr.lt
      go_wp2_with fail
      refine (CWx.out w6).mono ?_
      rintro e w7 ⟨rfl, hb7⟩
      have hbk := hbk.trans (hb7.mono hbk.size)
      have HVR := Lib.hid (HVR.out.below hb7 (Nat.le_refl _))
      clear q0 q1 q2 q3 r0 r1 hl1 hl3 rvk rbk rr hb7 CWx
      obtain ⟨b8, o8, rfl, hb8, hc8⟩ := at_rd HVR.out (i := fg) HFL.out
      rw [hGR.out] at hc8
      go_wp2_with fail
      refine (CF.out w7 _ cv _ HVR.out).mono ?_
      rintro e w8 ⟨rfl, rfl⟩
      go_wp2_with fail
      go_roundw
      case rel => exact ⟨k + 1, by omega, by go_num, by rw [HSN.out], hbk⟩
      case measure => simp [intOf]; omega
    · obtain rfl : k = N := by omega
      have hnk : ¬ ((k : Int) < (k : Int)) := by omega
      have hX := HSU2.out k (by rw [HN.out]; exact Nat.le_refl _)
      rw [HS.out] at hX
      obtain ⟨Q, hQ⟩ : ∃ q, (S : Int) * (S : Int) = q := ⟨_, rfl⟩
      have hQ36 : 1 ≤ Q ∧ Q ≤ 36 := by
        rw [← hQ]
        have : S = 1 ∨ S = 2 ∨ S = 3 ∨ S = 4 ∨ S = 5 ∨ S = 6 := by omega
        rcases this with rfl | rfl | rfl | rfl | rfl | rfl <;> omega
      obtain ⟨T, hT⟩ : ∃ t, smP v d b k = t := ⟨_, rfl⟩
      rw [hT] at hX hsb ⊢
      rw [hQ] at hX
      have hw1 : IntKind.i64.wrap ((S : Int) * (S : Int)) = Q := by rw [hQ]; exact IntWalk.i64_in _ (by omega)
      have hQ0 : ¬ Q = 0 := by omega
      have hTd : Int.tdiv T Q = X := by rw [hX, Int.tdiv_eq_ediv_of_nonneg hsb.1]
      have hX01 : 0 ≤ X ∧ X ≤ 100000000 := by
        rw [hX]
        exact ⟨Int.ediv_nonneg hsb.1 (by omega), Int.ediv_le_of_le_mul (by omega) (by have : (100000000 : Int) * 1 ≤ 100000000 * Q := Int.mul_le_mul_of_nonneg_left hQ36.1 (by omega); omega)⟩
      have hw2 : IntKind.i64.wrap X = X := IntWalk.i64_in _ (by omega)
      obtain ⟨q0, q1, q2, q3⟩ := rvk.c4
      rw [HS.out] at q3
      clear hX hT hQ HSB HOB CP CW HSU2 HSC hQ36
      go_wp2_with fail
      go_ret2
      exact ⟨rfl, hbw⟩
theorem vals_i : ∀ d, d ≤ 5 → SVi d ∧ PVi d := by
  intro d
  induction d with
  | zero => intro _; exact ⟨sv_zero, pv_step 0 (by omega) sv_zero⟩
  | succ d ih => intro h; have := sv_step d (by omega) (ih (by omega)).2; exact ⟨this, pv_step (d + 1) (by omega) this⟩
end Go.Proofs.Ytfgkkmhafdbicaa.Bd26
