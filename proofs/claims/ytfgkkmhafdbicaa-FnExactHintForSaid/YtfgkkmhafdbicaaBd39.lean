/-
  The hint of the reference. Conditions: each theorem's own.
  The hint of the program. Conditions: each theorem's own.
-/
import Derived.Test.YtfgkkmhafdbicaaBd29
import Derived.Test.YtfgkkmhafdbicaaBd34

set_option linter.unusedVariables false
set_option linter.unusedSimpArgs false
namespace Go.Proofs.Ytfgkkmhafdbicaa.Bd39
open Go.ChangeShapes Go.WideShapes Go.ChangeAt Go.RowKit Base Ints Own Clone RelG PlP Bd1 Bd5 Bd11 RegInv RegF RegG Bd12 Bd14 Bd15 Bd16 Bd22 Bd23 Bd24 Bd25 Bd26 Bd27 Bd29 Bd34 Bd35 Bd38

/-- What HintFor returns: steps, lead, code. -/
def stepsP (v : Vr) (d : Nat) (b : Bd) (x y : Int) : List Stp := (((allP v b x y).1[fgP (plsP v d b x y)]?).getD ([], ([], []))).1
def leadP (v : Vr) (d : Nat) (b : Bd) (x y : Int) : Int := (leadS (plsP v d b x y) (fgP (plsP v d b x y)) (plsP v d b x y).length).1
def hintR (v : Vr) (b : Bd) (x y d : Int) : List Stp × Int × Int :=
  if codeT v (okB v b) (okR v x y) d = 0 then (stepsP v d.toNat b x y, leadP v d.toNat b x y, 0) else ([], 0, codeT v (okB v b) (okR v x y) d)

set_option maxHeartbeats 8000000 in
set_option maxRecDepth 100000 in
theorem hintX_s (v : Vr) (b : Bd) (Ao At : Option Addr) (co ct : Nat) (x y d : Int) (w : World) (ho : RdS w w.heap.size 1 enI Ao b.1) (ht : RdS w w.heap.size 1 enI At b.2) (hA : Ao = none → co = 0) (hT : At = none → ct = 0) :
    Calls Try.prog 15 #[.agg #[.int .i64 v.p, .int .i64 v.c, .int .i64 v.h, .int .i64 v.s], .agg #[.slice Ao b.1.length co, .slice At b.2.length ct], .agg #[.int .i64 x, .int .i64 y], .int .i64 d] w fun e w' => ∃ sv, e = .returned (.tuple #[sv, .int .i64 (hintR v b x y d).2.1, .int .i64 (hintR v b x y d).2.2]) ∧ OwnS w' w.heap.size w'.heap.size 71 4 enSt sv (hintR v b x y d).1 ∧ Below w.heap.size w w' := by
  obtain ⟨i4, hi4, hz0, hz1, hz2⟩ := info_parts infoSt
  obtain ⟨z, hz⟩ : ∃ z, codeT v (okB v b) (okR v x y) d = z := ⟨_, rfl⟩
  have hR0 : hintR v b x y d = if z = 0 then (stepsP v d.toNat b x y, leadP v d.toNat b x y, 0) else ([], 0, z) := by unfold hintR; rw [hz]
  obtain ⟨Rz, hRz⟩ : ∃ r, hintR v b x y d = r := ⟨_, rfl⟩
  rw [hRz] at hR0 ⊢
  have HR := Lib.hid hR0
  clear hR0 hRz
  have C2 := Lib.hid (fun (w9 : World) (hw : Below w.heap.size w w9) => code_s v b Ao At co ct x y d z hz w9 ((ho.below hw (Nat.le_refl _)).more hw.size) ((ht.below hw (Nat.le_refl _)).more hw.size))
  obtain ⟨n1, hn1⟩ : ∃ n, b.1.length = n := ⟨_, rfl⟩
  obtain ⟨n2, hn2⟩ : ∃ n, b.2.length = n := ⟨_, rfl⟩
  have HARG := Lib.hid (⟨hz, ho, ht, hA, hT, hn1, hn2⟩ : codeT v (okB v b) (okR v x y) d = z ∧ RdS w w.heap.size 1 enI Ao b.1 ∧ RdS w w.heap.size 1 enI At b.2 ∧ (Ao = none → co = 0) ∧ (At = none → ct = 0) ∧ b.1.length = n1 ∧ b.2.length = n2)
  rw [hn1, hn2] at C2 ⊢
  clear ho ht hA hT hz hn1 hn2
  go_enter Try.func15, Try.ntmps15
  go_upto_region 1 with (fail)
  refine wp_gen (fun W' => B3 w W' v [.slice Ao n1 co, .slice At n2 ct] x y) ⟨by go_grown, ((RowB.new _ _ _).alloc _).alloc _, RowB.alloc (RowB.new' _ _ _ (by simp)) _, RowB.new' _ _ _ (by simp)⟩ ?_
  intro w1 K
  obtain ⟨q0, q1, q2, q3⟩ := K.rv.c4
  obtain ⟨z0, z1⟩ := K.rb.c2
  obtain ⟨r0, r1⟩ := K.rr.c2
  have hl1 := K.rv.lt
  have hl2 := K.rb.lt
  have hl3 := K.rr.lt
  go_wp2_with fail
  refine (C2.out w1 K.bel).mono ?_
  rintro e w2 ⟨rfl, hb2⟩
  have K := K.below hb2
  clear q0 q1 q2 q3 z0 z1 r0 r1 hl1 hl2 hl3 hb2 C2
  obtain ⟨q0, q1, q2, q3⟩ := K.rv.c4
  obtain ⟨z0, z1⟩ := K.rb.c2
  obtain ⟨r0, r1⟩ := K.rr.c2
  have hl1 := K.rv.lt
  have hl2 := K.rb.lt
  have hl3 := K.rr.lt
  by_cases h0 : z = 0
  · have hLR := HR.out
    rw [if_pos h0] at hLR
    have e0 : (z != 0) = false := by simp [h0]
    obtain ⟨p1, ho, ht, hA, hT, hn1, hn2⟩ := HARG.out
    have hk := codeT_zero (p1.trans h0)
    have hr := okR_iff.1 hk.2.1
    have hb := hk.1
    obtain ⟨dn, hdn⟩ : ∃ n : Nat, d = (n : Int) := ⟨d.toNat, by omega⟩
    have hd1 : dn ≤ 1 := by omega
    have hxx : (1 ≤ x ∧ x ≤ 6) ∧ (1 ≤ y ∧ y ≤ 6) := by omega
    rw [hdn, Int.toNat_natCast] at hLR
    have hpb := pls_bd (d := dn) hb hxx.1.1 hxx.2.1
    have hzl : (allP v b x y).1.length = (plsP v dn b x y).length := by unfold plsP; rw [List.length_map]
    have HPO := (allP_ok (x := x) (y := y) hb hxx.1.1 hxx.2.1).1
    have CA := Lib.hid (fun (w9 : World) (h : Below w.heap.size w w9) => all_s v b hb Ao At co ct x y hxx.1 hxx.2 w9 ((ho.below h (Nat.le_refl _)).more h.size) ((ht.below h (Nat.le_refl _)).more h.size) hA hT)
    have CP := Lib.hid (fun (w9 : World) (h : Below w.heap.size w w9) => (vals_s dn (by omega)).2 v b hb Ao At co ct x y hxx.1 hxx.2 w9 ((ho.below h (Nat.le_refl _)).more h.size) ((ht.below h (Nat.le_refl _)).more h.size) hA hT)
    have hfg := fg_gr (plsP v dn b x y) ((plsP v dn b x y).length - 1)
    unfold stepsP leadP at hLR
    obtain ⟨zs, hzs⟩ : ∃ z, plsP v dn b x y = z := ⟨_, rfl⟩
    rw [hzs] at CP hpb hzl hLR hfg
    obtain ⟨ps, hps⟩ : ∃ ps, (allP v b x y).1 = ps := ⟨_, rfl⟩
    obtain ⟨fb, hfb⟩ : ∃ ps, (allP v b x y).2 = ps := ⟨_, rfl⟩
    rw [hps] at CA hzl HPO hLR
    rw [hfb] at CA
    rw [hn1, hn2] at CA CP
    have hfl : fgP zs < zs.length := by have := hfg.2; have := hpb.2; show fgU zs (zs.length - 1) < _; omega
    have CF := Lib.hid (fun (A : Option Addr) (cp B : Nat) (w9 : World) (hr : RdS w9 B 1 enI A zs) => first_s A cp B zs w9 hr hpb.2)
    obtain ⟨a, ha⟩ : ∃ a, fgP zs = a := ⟨_, rfl⟩
    rw [ha] at hLR hfl CF
    have hNB := fun k hk => leadS_num (zs := zs) (a := a) 1000000 (by omega) hfl (fun i hi => by have := hpb.1 _ (List.mem_of_getElem? (at_get hi)); omega) k hk
    have HZB := Lib.hid (fun (k : Nat) (h : k < zs.length) => hpb.1 _ (List.mem_of_getElem? (at_get h)))
    obtain ⟨q, hq⟩ : ∃ q, ps[a]? = some q := ⟨_, List.getElem?_eq_getElem (by omega)⟩
    obtain ⟨sp, bd⟩ := q
    rw [hq] at hLR
    simp only [Option.getD_some] at hLR
    have hsp : sp.length ≤ 4 := (HPO _ (List.mem_of_getElem? hq)).2
    obtain ⟨Ln, hLn⟩ : ∃ l, zs.length = l := ⟨_, rfl⟩
    have HLn := Lib.hid hLn
    rw [hLn] at hfl CF hzl hLR
    have HNB := Lib.hid hNB
    have hmx := hpb.1
    have HLR := Lib.hid hLR
    have HQ := Lib.hid hq
    have HPL := Lib.hid hzl
    have HSP := Lib.hid hsp
    have HDN := Lib.hid hdn
    have hLb : Ln ≤ 1000000 := by have := all_len hb hxx.1 hxx.2; rw [hps] at this; omega
    rw [← hdn] at CP
    have H0 := Lib.hid h0
    clear HARG HR p1 ho ht hA hT hn1 hn2 hk hr hb hxx hpb hzl HPO hzs hps hfb hLn hLR hdn hfg ha hq hsp hNB hmx h0
    go_wp2_with fail
    refine (CP.out w2 K.bel).mono ?_
    rintro e w3 ⟨vv, rfl, hvo, hb3⟩
    have K := K.below hb3
    obtain ⟨Av, cv, hvv, hvr⟩ := hvo.form enI_len
    rw [HLn.out] at hvv
    subst hvv
    clear q0 q1 q2 q3 z0 z1 r0 r1 hl1 hl2 hl3 hb3 hvo CP
    go_wp2_with fail
    refine (CF.out Av cv w3.heap.size w3 hvr).mono ?_
    rintro e w4 ⟨rfl, hb4⟩
    have K := K.below hb4
    have hvr := (hvr.below hb4 (Nat.le_refl _)).more hb4.size
    clear hb4 CF
    obtain ⟨q0, q1, q2, q3⟩ := K.rv.c4
    obtain ⟨z0, z1⟩ := K.rb.c2
    obtain ⟨r0, r1⟩ := K.rr.c2
    have hl1 := K.rv.lt
    have hl2 := K.rb.lt
    have hl3 := K.rr.lt
    go_wp2_with fail
    refine (CA.out w4 K.bel).mono ?_
    rintro e w5 ⟨pv, rfl, hog, hb5⟩
    have K := K.below hb5
    have hvr := (hvr.below hb5 (Nat.le_refl _)).more hb5.size
    have hgw : w.heap.size ≤ w4.heap.size := by have := hb5.size; have := K.bel.size; omega
    clear q0 q1 q2 q3 z0 z1 r0 r1 hl1 hl2 hl3 hb5 CA
    obtain ⟨Aa, ca, hav, -⟩ := Bd19.OwnG.form enP_len hog
    rw [HPL.out] at hav
    subst hav
    have HA := Lib.hid (hog.sl enP_len (Nat.le_refl _))
    have HVR := Lib.hid hvr
    have HK := Lib.hid K
    clear hog hvr K
    go_wp2_with fail
    go_loopw [16, 17, 18, 19] (fun l f i u wr => ∃ k : Nat, k ≤ Ln ∧ i = .int .i64 (k : Int) ∧ l = .int .i64 (leadS zs a k).1 ∧ f = .bool (leadS zs a k).2 ∧ Below w5.heap.size w5 wr) (fun _ _ i _ _ => Ln - (intOf i).toNat)
    case atStart => exact ⟨0, Nat.zero_le _, by first | rfl | trivial, by first | rfl | trivial, by first | rfl | trivial, Below.refl _ _⟩
    case round =>
      obtain ⟨k, hk, rfl, rfl, rfl, hbk⟩ := hrel
      by_cases hlt : k < Ln
      · obtain ⟨L1, hL1⟩ : ∃ p, leadS zs a k = p := ⟨_, rfl⟩
        obtain ⟨l, f⟩ := L1
        rw [hL1]
        simp only
        have hS : leadS zs a (k + 1) = if k = a then (l, f) else (if f = false ∨ at_ zs a - at_ zs k < l then at_ zs a - at_ zs k else l, true) := by rw [leadS, hL1]
        obtain ⟨b8, o8, rfl, hb8, hc8⟩ := at_rd HVR.out (i := a) (by rw [HLn.out]; exact hfl)
        obtain ⟨b9, o9, heq, hb9, hc9⟩ := at_rd HVR.out (i := k) (by rw [HLn.out]; exact hlt)
        simp only [Option.some.injEq, Addr.mk.injEq, and_true] at heq
        obtain ⟨rfl, rfl⟩ := heq
        have c8 := (Below.cell hbk (p := ⟨b8, o8 + a, none⟩) hb8).trans hc8
        have c9 := (Below.cell hbk (p := ⟨b8, o8 + k, none⟩) hb9).trans hc9
        have ha := HZB.out a (by rw [HLn.out]; exact hfl)
        have hkz := HZB.out k (by rw [HLn.out]; exact hlt)
        obtain ⟨za, hza⟩ : ∃ z, at_ zs a = z := ⟨_, rfl⟩
        obtain ⟨zk, hzk⟩ : ∃ z, at_ zs k = z := ⟨_, rfl⟩
        rw [hza] at hS ha c8
        rw [hzk] at hS hkz c9
        have HS := Lib.hid hS
        have hwx : IntKind.i64.wrap (za - zk) = za - zk := IntWalk.i64_in _ (by omega)
        have hwk : IntKind.i64.wrap ((k : Int) + 1) = (k : Int) + 1 := IntWalk.i64_in _ (by omega)
        have hki : (k : Int) < (Ln : Int) := by omega
        have hai : (a : Int) < (Ln : Int) := by omega
        clear hL1 hS hza hzk hb8 hb9 hc8 hc9 ha hkz
        by_cases hka : k = a
        · have e1 : ((k : Int) == (a : Int)) = true := by simp [hka]
          have HN := Lib.hid (fun _ : Unit => hka)
          clear hka
          go_wp2_with fail
          go_roundw
          case rel => exact ⟨k + 1, by omega, by go_num, by rw [HS.out, if_pos (HN.out ())], by rw [HS.out, if_pos (HN.out ())], hbk⟩
          case measure => simp [intOf]; omega
        · have e1 : ((k : Int) == (a : Int)) = false := by simp; omega
          have HN := Lib.hid (fun _ : Unit => hka)
          clear hka
          cases f
          case false =>
            go_wp2_with fail
            go_quiet (fail)
            go_wp2_with fail
            go_roundw
            case rel => exact ⟨k + 1, by omega, by go_num, by rw [HS.out, if_neg (HN.out ()), if_pos (.inl (by first | rfl | trivial))], by rw [HS.out, if_neg (HN.out ())], below_drewN hbk _⟩
            case measure => simp [intOf]; omega
          case true =>
            by_cases hx : za - zk < l
            · have HX := Lib.hid (fun _ : Unit => hx)
              have hd : decide (za - zk < l) = true := by simp [hx]
              clear hx
              go_wp2_with fail
              go_quiet (fail)
              go_wp2_with fail
              go_roundw
              case rel => exact ⟨k + 1, by omega, by go_num, by rw [HS.out, if_neg (HN.out ()), if_pos (.inr (HX.out ()))], by rw [HS.out, if_neg (HN.out ())], below_drewN hbk _⟩
              case measure => simp [intOf]; omega
            · have HX := Lib.hid (fun _ : Unit => hx)
              have hd : decide (za - zk < l) = false := by simp [hx]
              clear hx
              go_wp2_with fail
              go_quiet (fail)
              go_wp2_with fail
              go_roundw
              case rel => exact ⟨k + 1, by omega, by go_num, by rw [HS.out, if_neg (HN.out ()), if_neg (fun h => h.elim (fun h => by cases h) (fun h2 => absurd h2 (by have := HX.out (); omega)))], by rw [HS.out, if_neg (HN.out ())], below_drewN hbk _⟩
              case measure => simp [intOf]; omega
      · obtain rfl : k = Ln := by omega
        obtain ⟨A7, c7, rs7, e7, hrd7, hls7, -⟩ := (relSl RelP 3 enP).keep HA.out (.below hbk)
        simp only [Value.slice.injEq] at e7
        obtain ⟨rfl, -, rfl⟩ := e7
        obtain ⟨b7, o7, r7, rfl, -, hb7, hr7, hc7⟩ := hrd7.at_ (i := a) (by rw [hls7.1, HPL.out]; exact hfl)
        obtain ⟨q, hq, hR7⟩ := hls7.at_ hr7
        have hqq : q = (sp, bd) := by rw [HQ.out] at hq; exact (Option.some.inj hq).symm
        subst hqq
        obtain ⟨r0', rl, rm⟩ := r7
        have hR0 := hR7.1.sl enSt_len
        simp only at hR0
        obtain ⟨A0, c0', rfl, k0, -⟩ := hR0
        obtain ⟨n0, hn0⟩ : ∃ n, sp.length = n := ⟨_, rfl⟩
        have e0' : wr.cell? ⟨b7, o7 + a * 3, none⟩ = some (.slice A0 n0 c0') := by have := hc7 0 _ rfl; simp only [hn0] at this; exact this
        have HN0 := Lib.hid hn0
        have hn4 : n0 ≤ 4 := by have := HSP.out; omega
        have hai : (a : Int) < (k : Int) := by omega
        have hnk : ¬ ((k : Int) < (k : Int)) := by omega
        have K0 := Lib.hid (k0.rd.below ((Below.refl _ _).alloc (Nat.le_refl _) (.cells #[] 71)) (Nat.le_refl _))
        have hbw := HK.out.bel.trans (hbk.mono HK.out.bel.size)
        obtain ⟨lz, hlz⟩ : ∃ p, (leadS zs a k).1 = p := ⟨_, rfl⟩
        have HG := HLR.out
        rw [hlz] at HG
        have HG := Lib.hid (fun _ : Unit => HG)
        rw [hlz]
        clear hq hR7 hc7 hrd7 hls7 hr7 hn0 k0 hlz HLR
        go_wp2_with (at_builtin; refine wpL_appR rfl _ _ _ rfl wr.heap.size _ 71 i4 (.agg #[.int .i64 0, .int .i64 0, .int .i64 0, .bool false]) 4 32 Try.underlying42 hi4 hz0 hz1 hz2 rfl (by decide) enSt_len _ [] sp (fun x _ => one_St x) rfl ((RowB.new wr 71 []).own (xs := ([] : List Stp)) (en := enSt) enSt_len (Nat.le_refl _) (Nat.lt_succ_self _) (by decide)) A0 n0 c0' _ (by first | rfl | (simp; rfl)) HN0.out.symm K0.out (by unfold maxLen; simp; omega) (by simp; omega) ?c1 ?c2 ?_)
        intro v' w9 hown hg hat
        go_wp2_with fail
        go_ret3
        rw [HG.out ()]
        refine ⟨v', rfl, ?_, ?_⟩
        · exact hown.less hbw.size
        · exact (hbw.alloc hbw.size _).grown hg (by have := hbw.size; simp; omega) (fun g hgg => by simp [Value.ownBlock] at hgg; have := hbw.size; omega)
  · have hLR := HR.out
    rw [if_neg h0] at hLR
    have HG := Lib.hid (fun _ : Unit => hLR)
    have e0 : (z != 0) = true := by simp [h0]
    clear h0 HR hLR
    go_wp2_with fail
    go_ret3
    rw [HG.out ()]
    exact ⟨_, rfl, OwnS.nil_ _ _ _ _ _ _, K.bel⟩
end Go.Proofs.Ytfgkkmhafdbicaa.Bd39

set_option linter.unusedVariables false
set_option linter.unusedSimpArgs false
namespace Go.Proofs.Ytfgkkmhafdbicaa.Bd40
open Go.ChangeShapes Go.WideShapes Go.ChangeAt Go.RowKit Base Ints Own Clone RelG PlP Bd1 Bd5 Bd11 RegInv RegF RegG Bd12 Bd14 Bd15 Bd16 Bd22 Bd23 Bd24 Bd25 Bd26 Bd27 Bd29 Bd34 Bd35 Bd38 Bd39

theorem own_up {α : Type} {w : World} {lo0 lo hi sz : Nat} {e : TypeId} {en : α → List Value} {v : Value} {xs : List α} (h : OwnS w lo0 hi e sz en v xs) (hg : ∀ g, v.ownBlock = some g → lo ≤ g) : OwnS w lo hi e sz en v xs := by
  refine ⟨⟨h.1.1, ?_⟩, h.2⟩
  rcases h.1.2 with h0 | ⟨g, cap, cur, rfl, -, rest⟩
  · exact .inl h0
  · exact .inr ⟨g, cap, cur, rfl, hg g rfl, rest⟩

set_option maxHeartbeats 8000000 in
set_option maxRecDepth 100000 in
theorem hintX_i (v : Vr) (b : Bd) (Ao At : Option Addr) (co ct : Nat) (x y d : Int) (w : World) (ho : RdS w w.heap.size 1 enI Ao b.1) (ht : RdS w w.heap.size 1 enI At b.2) (hA : Ao = none → co = 0) (hT : At = none → ct = 0) :
    Calls Try.prog 16 #[.agg #[.int .i64 v.p, .int .i64 v.c, .int .i64 v.h, .int .i64 v.s], .agg #[.slice Ao b.1.length co, .slice At b.2.length ct], .agg #[.int .i64 x, .int .i64 y], .int .i64 d] w fun e w' => ∃ sv, e = .returned (.tuple #[sv, .int .i64 (hintR v b x y d).2.1, .int .i64 (hintR v b x y d).2.2]) ∧ OwnS w' w.heap.size w'.heap.size 71 4 enSt sv (hintR v b x y d).1 ∧ Below w.heap.size w w' := by
  obtain ⟨c0, h0⟩ : ∃ c, okB v b = c := ⟨_, rfl⟩
  obtain ⟨c1, h1⟩ : ∃ c, (okV v && okR v x y) = c := ⟨_, rfl⟩
  obtain ⟨z, hz⟩ : ∃ z, codeT v (okB v b) (okR v x y) d = z := ⟨_, rfl⟩
  have hz2 : codeT v c0 c1 d = z := by rw [← h0, ← h1, codeT_roll]; exact hz
  have hR0 : hintR v b x y d = if z = 0 then (stepsP v d.toNat b x y, leadP v d.toNat b x y, 0) else ([], 0, z) := by unfold hintR; rw [hz]
  obtain ⟨Rz, hRz⟩ : ∃ r, hintR v b x y d = r := ⟨_, rfl⟩
  rw [hRz] at hR0 ⊢
  have HR := Lib.hid hR0
  clear hR0 hRz
  have C0 := Lib.hid (fun (w9 : World) (h : Below w.heap.size w w9) => Bd3I.isB_i v b Ao At co ct w.heap.size w9 h.size (ho.below h (Nat.le_refl _)) (ht.below h (Nat.le_refl _)) c0 h0)
  have C1 := Lib.hid (fun w => isroll_i v x y c1 h1 w)
  have C2 := Lib.hid (fun w => tutor_i v c0 c1 d z hz2 w)
  obtain ⟨n1, hn1⟩ : ∃ n, b.1.length = n := ⟨_, rfl⟩
  obtain ⟨n2, hn2⟩ : ∃ n, b.2.length = n := ⟨_, rfl⟩
  have HARG := Lib.hid (⟨hz, ho, ht, hA, hT, hn1, hn2⟩ : codeT v (okB v b) (okR v x y) d = z ∧ RdS w w.heap.size 1 enI Ao b.1 ∧ RdS w w.heap.size 1 enI At b.2 ∧ (Ao = none → co = 0) ∧ (At = none → ct = 0) ∧ b.1.length = n1 ∧ b.2.length = n2)
  rw [hn1, hn2] at C0 ⊢
  clear ho ht hA hT h0 h1 hz hz2 hn1 hn2
  go_enter Try.func16, Try.ntmps16
  go_upto_region 1 with (fail)
  refine wp_gen (fun W' => B3 w W' v [.slice Ao n1 co, .slice At n2 ct] x y) ⟨by go_grown, ((RowB.new _ _ _).alloc _).alloc _, RowB.alloc (RowB.new' _ _ _ (by simp)) _, RowB.new' _ _ _ (by simp)⟩ ?_
  intro w1 K
  have HK := Lib.hid K
  clear K
  refine region_rel [some 18, some 19, some 20, some 21, some 22, some 23, some 24, some 25, some 26, some 11] 10 (Pl [some (.agg #[.int .i64 v.p, .int .i64 v.c, .int .i64 v.h, .int .i64 v.s]), some (.agg #[.int .i64 v.p, .int .i64 v.c, .int .i64 v.h, .int .i64 v.s]), some (.agg #[.slice Ao n1 co, .slice At n2 ct]), some (.bool c0), some (.int .i64 d), some (.agg #[.int .i64 v.p, .int .i64 v.c, .int .i64 v.h, .int .i64 v.s]), some (.agg #[.int .i64 x, .int .i64 y]), some (.bool c1), some (.int .i64 z), some (.int .i64 z)]) (fun L vals w' => Below w1.heap.size w1 w') (by kernel_rfl) (by kernel_rfl) (by kernel_rfl) (by kernel_rfl) (by kernel_rfl) (by kernel_rfl) (by kernel_rfl) ?g0_1 ?gst_1 ?gfin_1
  case g0_1 => exact (Below.refl _ _).drew
  case gst_1 =>
    refine RelFrom.run rfl (fun L vals A w9 hno hdl hcl hu hp h0 F K hK => ?_) ?_
    · have e4 : A.tmps[4]?.getD undef = .pointer (some ⟨w.heap.size, 0, none⟩) := h0 4 (fun j _ hj => absurd (List.mem_of_getElem? hj) (by decide))
      clear hu h0 hp
      have KK := HK.out.below F
      have rq := KK.rv.c4
      have q0 := rq.1
      have q1 := rq.2.1
      have q2 := rq.2.2.1
      have q3 := rq.2.2.2
      have rz := KK.rb.c2
      have z0 := rz.1
      have z1 := rz.2
      have rr := KK.rr.c2
      have r0 := rr.1
      have r1 := rr.2
      clear KK rq rz rr
      go_simp
      exact hK.out _ w9 (Pl.fix rfl) (F)
    refine RelFrom.run rfl (fun L vals A w9 hno hdl hcl hu hp h0 F K hK => ?_) ?_
    · have e4 : A.tmps[4]?.getD undef = .pointer (some ⟨w.heap.size, 0, none⟩) := h0 4 (fun j _ hj => absurd (List.mem_of_getElem? hj) (by decide))
      clear hu h0 hp
      have KK := HK.out.below F
      have rq := KK.rv.c4
      have q0 := rq.1
      have q1 := rq.2.1
      have q2 := rq.2.2.1
      have q3 := rq.2.2.2
      have rz := KK.rb.c2
      have z0 := rz.1
      have z1 := rz.2
      have rr := KK.rr.c2
      have r0 := rr.1
      have r1 := rr.2
      clear KK rq rz rr
      go_simp
      exact hK.out _ w9 (Pl.fix rfl) (F)
    refine RelFrom.run rfl (fun L vals A w9 hno hdl hcl hu hp h0 F K hK => ?_) ?_
    · have e5 : A.tmps[5]?.getD undef = .pointer (some ⟨w.heap.size + 1, 0, none⟩) := h0 5 (fun j _ hj => absurd (List.mem_of_getElem? hj) (by decide))
      clear hu h0 hp
      have KK := HK.out.below F
      have rq := KK.rv.c4
      have q0 := rq.1
      have q1 := rq.2.1
      have q2 := rq.2.2.1
      have q3 := rq.2.2.2
      have rz := KK.rb.c2
      have z0 := rz.1
      have z1 := rz.2
      have rr := KK.rr.c2
      have r0 := rr.1
      have r1 := rr.2
      clear KK rq rz rr
      go_simp
      exact hK.out _ w9 (Pl.fix rfl) (F)
    refine RelFrom.run rfl (fun L vals A w9 hno hdl hcl hu hp h0 F K hK => ?_) ?_
    · have e19 : A.tmps[19]?.getD undef = .agg #[.int .i64 v.p, .int .i64 v.c, .int .i64 v.h, .int .i64 v.s] := (hu 1 19 (by kernel_rfl) rfl).trans (hp 1 (by kernel_rfl) _ rfl)
      have e20 : A.tmps[20]?.getD undef = .agg #[.slice Ao n1 co, .slice At n2 ct] := (hu 2 20 (by kernel_rfl) rfl).trans (hp 2 (by kernel_rfl) _ rfl)
      clear hu h0 hp
      go_simp
      refine (C0.out w9 (HK.out.below F).bel).mono ?_
      rintro e w6 ⟨rfl, hb6⟩
      exact hK.out _ w6 (Pl.fix rfl) (F.trans (hb6.mono F.size))
    refine RelFrom.run rfl (fun L vals A w9 hno hdl hcl hu hp h0 F K hK => ?_) ?_
    · have e3 : A.tmps[3]?.getD undef = .int .i64 d := h0 3 (fun j _ hj => absurd (List.mem_of_getElem? hj) (by decide))
      clear hu h0 hp
      have KK := HK.out.below F
      have rq := KK.rv.c4
      have q0 := rq.1
      have q1 := rq.2.1
      have q2 := rq.2.2.1
      have q3 := rq.2.2.2
      have rz := KK.rb.c2
      have z0 := rz.1
      have z1 := rz.2
      have rr := KK.rr.c2
      have r0 := rr.1
      have r1 := rr.2
      clear KK rq rz rr
      go_simp
      exact hK.out _ w9 (Pl.fix rfl) (F)
    refine RelFrom.run rfl (fun L vals A w9 hno hdl hcl hu hp h0 F K hK => ?_) ?_
    · have e4 : A.tmps[4]?.getD undef = .pointer (some ⟨w.heap.size, 0, none⟩) := h0 4 (fun j _ hj => absurd (List.mem_of_getElem? hj) (by decide))
      clear hu h0 hp
      have KK := HK.out.below F
      have rq := KK.rv.c4
      have q0 := rq.1
      have q1 := rq.2.1
      have q2 := rq.2.2.1
      have q3 := rq.2.2.2
      have rz := KK.rb.c2
      have z0 := rz.1
      have z1 := rz.2
      have rr := KK.rr.c2
      have r0 := rr.1
      have r1 := rr.2
      clear KK rq rz rr
      go_simp
      exact hK.out _ w9 (Pl.fix rfl) (F)
    refine RelFrom.run rfl (fun L vals A w9 hno hdl hcl hu hp h0 F K hK => ?_) ?_
    · have e6 : A.tmps[6]?.getD undef = .pointer (some ⟨w.heap.size + 2, 0, none⟩) := h0 6 (fun j _ hj => absurd (List.mem_of_getElem? hj) (by decide))
      clear hu h0 hp
      have KK := HK.out.below F
      have rq := KK.rv.c4
      have q0 := rq.1
      have q1 := rq.2.1
      have q2 := rq.2.2.1
      have q3 := rq.2.2.2
      have rz := KK.rb.c2
      have z0 := rz.1
      have z1 := rz.2
      have rr := KK.rr.c2
      have r0 := rr.1
      have r1 := rr.2
      clear KK rq rz rr
      go_simp
      exact hK.out _ w9 (Pl.fix rfl) (F)
    refine RelFrom.run rfl (fun L vals A w9 hno hdl hcl hu hp h0 F K hK => ?_) ?_
    · have e23 : A.tmps[23]?.getD undef = .agg #[.int .i64 v.p, .int .i64 v.c, .int .i64 v.h, .int .i64 v.s] := (hu 5 23 (by kernel_rfl) rfl).trans (hp 5 (by kernel_rfl) _ rfl)
      have e24 : A.tmps[24]?.getD undef = .agg #[.int .i64 x, .int .i64 y] := (hu 6 24 (by kernel_rfl) rfl).trans (hp 6 (by kernel_rfl) _ rfl)
      clear hu h0 hp
      go_simp
      refine (C1.out w9).mono ?_
      rintro e w6 ⟨rfl, hb6⟩
      exact hK.out _ w6 (Pl.fix rfl) (F.trans (hb6.mono F.size))
    refine RelFrom.run rfl (fun L vals A w9 hno hdl hcl hu hp h0 F K hK => ?_) ?_
    · have e18 : A.tmps[18]?.getD undef = .agg #[.int .i64 v.p, .int .i64 v.c, .int .i64 v.h, .int .i64 v.s] := (hu 0 18 (by kernel_rfl) rfl).trans (hp 0 (by kernel_rfl) _ rfl)
      have e21 : A.tmps[21]?.getD undef = .bool c0 := (hu 3 21 (by kernel_rfl) rfl).trans (hp 3 (by kernel_rfl) _ rfl)
      have e22 : A.tmps[22]?.getD undef = .int .i64 d := (hu 4 22 (by kernel_rfl) rfl).trans (hp 4 (by kernel_rfl) _ rfl)
      have e25 : A.tmps[25]?.getD undef = .bool c1 := (hu 7 25 (by kernel_rfl) rfl).trans (hp 7 (by kernel_rfl) _ rfl)
      clear hu h0 hp
      go_simp
      refine (C2.out w9).mono ?_
      rintro e w6 ⟨rfl, hb6⟩
      exact hK.out _ w6 (Pl.fix rfl) (F.trans (hb6.mono F.size))
    refine RelFrom.run rfl (fun L vals A w9 hno hdl hcl hu hp h0 F K hK => ?_) ?_
    · have e26 : A.tmps[26]?.getD undef = .int .i64 z := (hu 8 26 (by kernel_rfl) rfl).trans (hp 8 (by kernel_rfl) _ rfl)
      clear hu h0 hp
      have KK := HK.out.below F
      have rq := KK.rv.c4
      have q0 := rq.1
      have q1 := rq.2.1
      have q2 := rq.2.2.1
      have q3 := rq.2.2.2
      have rz := KK.rb.c2
      have z0 := rz.1
      have z1 := rz.2
      have rr := KK.rr.c2
      have r0 := rr.1
      have r1 := rr.2
      clear KK rq rz rr
      go_simp
      exact hK.out _ w9 (Pl.fix rfl) (F)
    exact RelFrom.nil (by decide)
  case gfin_1 =>
    intro vals w9 hp F
    simp only [Fr, Act.put, List.setIfInBounds_toArray, List.set_cons_zero, List.set_cons_succ, Nat.reduceAdd]
    have h9 : vals 9 = .int .i64 z := hp 9 (by decide) _ rfl
    have K := HK.out.below F
    rw [h9]
    clear F hp h9 HK
    obtain ⟨q0, q1, q2, q3⟩ := K.rv.c4
    obtain ⟨z0, z1⟩ := K.rb.c2
    obtain ⟨r0, r1⟩ := K.rr.c2
    have hl1 := K.rv.lt
    have hl2 := K.rb.lt
    have hl3 := K.rr.lt
    by_cases h0 : z = 0
    · have hLR := HR.out
      rw [if_pos h0] at hLR
      have e0 : (z != 0) = false := by simp [h0]
      obtain ⟨p1, ho, ht, hA, hT, hn1, hn2⟩ := HARG.out
      have hk := codeT_zero (p1.trans h0)
      have hr := okR_iff.1 hk.2.1
      have hb := hk.1
      obtain ⟨dn, hdn⟩ : ∃ n : Nat, d = (n : Int) := ⟨d.toNat, by omega⟩
      have hd1 : dn ≤ 1 := by omega
      have hxx : (1 ≤ x ∧ x ≤ 6) ∧ (1 ≤ y ∧ y ≤ 6) := by omega
      rw [hdn, Int.toNat_natCast] at hLR
      have hpb := pls_bd (d := dn) hb hxx.1.1 hxx.2.1
      have hzl : (allP v b x y).1.length = (plsP v dn b x y).length := by unfold plsP; rw [List.length_map]
      have HPO := (allP_ok (x := x) (y := y) hb hxx.1.1 hxx.2.1).1
      have CA := Lib.hid (fun (w9 : World) (h : Below w.heap.size w w9) => allSm_i v b hb hk.2.2.2.1 Ao At co ct x y hxx.1 hxx.2 w9 ((ho.below h (Nat.le_refl _)).more h.size) ((ht.below h (Nat.le_refl _)).more h.size) hA hT)
      have CP := Lib.hid (fun (w9 : World) (h : Below w.heap.size w w9) => (vals_i dn (by omega)).2 v b hb hk.2.2.2.1 Ao At co ct x y hxx.1 hxx.2 w9 ((ho.below h (Nat.le_refl _)).more h.size) ((ht.below h (Nat.le_refl _)).more h.size) hA hT)
      have hfg := fg_gr (plsP v dn b x y) ((plsP v dn b x y).length - 1)
      unfold stepsP leadP at hLR
      obtain ⟨zs, hzs⟩ : ∃ z, plsP v dn b x y = z := ⟨_, rfl⟩
      rw [hzs] at CP hpb hzl hLR hfg
      obtain ⟨ps, hps⟩ : ∃ ps, (allP v b x y).1 = ps := ⟨_, rfl⟩
      rw [hps] at CA hzl HPO hLR
      rw [hn1, hn2] at CA CP
      have hfl : fgP zs < zs.length := by have := hfg.2; have := hpb.2; show fgU zs (zs.length - 1) < _; omega
      have hpl0 := hpb.2
      have CF := Lib.hid (fun (A : Option Addr) (cp B : Nat) (w9 : World) (hr : RdS w9 B 1 enI A zs) => first_i A cp B zs w9 hr hpl0)
      obtain ⟨a, ha⟩ : ∃ a, fgP zs = a := ⟨_, rfl⟩
      rw [ha] at hLR hfl CF
      have hle := lead_eq hfl
      rw [hle] at hLR
      obtain ⟨q, hq⟩ : ∃ q, ps[a]? = some q := ⟨_, List.getElem?_eq_getElem (by omega)⟩
      obtain ⟨sp, bd⟩ := q
      rw [hq] at hLR
      simp only [Option.getD_some] at hLR
      have hsp : sp.length ≤ 4 := (HPO _ (List.mem_of_getElem? hq)).2
      have hLb : zs.length ≤ 1000000 := by have := all_len hb hxx.1 hxx.2; rw [hps] at this; omega
      have CC := Lib.hid (fun (A : Option Addr) (cp : Nat) (w9 : World) (hr : RdS w9 w9.heap.size 1 enI A zs) (hA : A = none → cp = 0) => clone A cp w9.heap.size zs w9 (Nat.le_refl _) hr hA (by omega))
      have CD := Lib.hid (fun (lo g cap : Nat) (w9 : World) (h : OwnS w9 lo w9.heap.size 2 1 enI (.slice (some ⟨g, 0, none⟩) zs.length cap) zs) => del lo g zs.length cap a zs w9 h rfl hfl)
      have hgl := gone_len hfl
      have hMB : ∀ u ∈ gone zs a, 0 ≤ u ∧ u ≤ 1000000 := by
        intro u hu
        unfold gone at hu
        rcases List.mem_append.1 hu with h | h
        · exact hpb.1 u (List.mem_of_mem_take h)
        · exact hpb.1 u (List.mem_of_mem_drop h)
      have hzb := hpb.1 _ (List.mem_of_getElem? (at_get hfl))
      obtain ⟨ys, hys⟩ : ∃ l, gone zs a = l := ⟨_, rfl⟩
      rw [hys] at hLR CD hgl hMB
      obtain ⟨Ln, hLn⟩ : ∃ l, zs.length = l := ⟨_, rfl⟩
      have HLn := Lib.hid hLn
      rw [hLn] at hfl CF hzl hLR CC CD hgl hLb
      obtain ⟨m, hm⟩ : ∃ m, Ln - 1 = m := ⟨_, rfl⟩
      rw [hm] at CD hgl
      have HLR := Lib.hid hLR
      have HQ := Lib.hid hq
      have HPL := Lib.hid hzl
      have HSP := Lib.hid hsp
      have HMB := Lib.hid hMB
      have HGL := Lib.hid hgl
      have HZB := Lib.hid hzb
      have HMm := Lib.hid (fun _ : Unit => hm)
      rw [← hdn] at CP
      clear HARG HR p1 ho ht hA hT hn1 hn2 hk hr hb hxx hpb hzl HPO hzs hps hLn hLR hdn hfg ha hq hsp h0 hle hys hgl hMB hpl0 hm hzb
      go_wp2_with fail
      refine (CA.out w9 K.bel).mono ?_
      rintro e w3 ⟨pv, rfl, hog, hb3⟩
      have K := K.below hb3
      have hgw : w.heap.size ≤ w9.heap.size := by have := hb3.size; have := K.bel.size; omega
      obtain ⟨Aa, ca, hav, -⟩ := Bd19.OwnG.form enP_len hog
      rw [HPL.out] at hav
      subst hav
      have HA := hog.sl enP_len (Nat.le_refl _)
      clear q0 q1 q2 q3 z0 z1 r0 r1 hl1 hl2 hl3 hb3 hog CA
      obtain ⟨q0, q1, q2, q3⟩ := K.rv.c4
      obtain ⟨z0, z1⟩ := K.rb.c2
      obtain ⟨r0, r1⟩ := K.rr.c2
      have hl1 := K.rv.lt
      have hl2 := K.rb.lt
      have hl3 := K.rr.lt
      go_wp2_with fail
      refine (CP.out w3 K.bel).mono ?_
      rintro e w4 ⟨vv, rfl, hvo, hb4⟩
      have K := K.below hb4
      have HA := (relSl RelP 3 enP).keep HA (.below hb4)
      obtain ⟨Av, cv, hvv, hvr⟩ := hvo.form enI_len
      rw [HLn.out] at hvv
      subst hvv
      clear q0 q1 q2 q3 z0 z1 r0 r1 hl1 hl2 hl3 hb4 hvo CP
      go_wp2_with fail
      refine (CF.out Av cv _ w4 hvr).mono ?_
      rintro e w5 ⟨rfl, rfl⟩
      clear CF
      obtain ⟨b8, o8, hAv, hb8, hc8⟩ := at_rd hvr (i := a) (by rw [HLn.out]; exact hfl)
      have hA0 : Av = none → cv = 0 := fun h => by rw [h] at hAv; cases hAv
      have hwa : IntKind.i64.wrap ((a : Int) + 1) = (a : Int) + 1 := IntWalk.i64_in _ (by omega)
      have HB8 := Lib.hid hb8
      have HC8 := Lib.hid hc8
      subst hAv
      go_wp2_with fail
      refine (CC.out _ cv w4 hvr hA0).mono ?_
      rintro e w6 ⟨⟨u, rfl, hcu⟩, hb6⟩
      rcases hcu.cases_ with ⟨-, hnil⟩ | ⟨g, cap, rest, rfl, hlo, hhi, -⟩
      · exfalso
        have h5 := HLn.out
        rw [hnil] at h5
        simp at h5
        omega
      rw [HLn.out] at hcu ⊢
      have CD := Lib.hid (CD.out w4.heap.size g cap w6 hcu)
      clear hcu hlo hhi hA0 hb8 hc8 CC
      go_wp2_with fail
      refine CD.out.mono ?_
      rintro e w7 ⟨rfl, hrd, hb7⟩
      have hb67 := hb6.trans hb7
      have K := K.below hb67
      have HA := (relSl RelP 3 enP).keep HA (.below hb67)
      have c8 := (Below.cell hb67 (p := ⟨b8, o8 + a, none⟩) HB8.out).trans HC8.out
      obtain ⟨A7, c7, rs7, e7, hrd7, hls7, -⟩ := HA
      simp only [Value.slice.injEq] at e7
      obtain ⟨rfl, -, rfl⟩ := e7
      obtain ⟨b7, o7, r7, rfl, -, hb7', hr7, hc7⟩ := hrd7.at_ (i := a) (by rw [hls7.1, HPL.out]; exact hfl)
      obtain ⟨q, hq, hR7⟩ := hls7.at_ hr7
      have hqq : q = (sp, bd) := by rw [HQ.out] at hq; exact (Option.some.inj hq).symm
      subst hqq
      obtain ⟨r0', rl, rm⟩ := r7
      have hR0 := hR7.1.sl enSt_len
      have hOS : OwnS w7 w.heap.size w7.heap.size 71 4 enSt r0' sp := own_up hR7.1.1 (fun g hg => by have h7 := hR7.1.2 g hg; exact Nat.le_trans hgw h7)
      simp only at hR0
      obtain ⟨A0, c0', rfl, k0, -⟩ := hR0
      obtain ⟨n0, hn0⟩ : ∃ n, sp.length = n := ⟨_, rfl⟩
      have e0' : w7.cell? ⟨b7, o7 + a * 3, none⟩ = some (.slice A0 n0 c0') := by have := hc7 0 _ rfl; simp only [hn0] at this; exact this
      rw [hn0] at hOS
      have HOS := Lib.hid hOS
      have HBEL := Lib.hid K.bel
      have hai : (a : Int) < (Ln : Int) := by omega
      clear hq hR7 hc7 hrd7 hls7 hr7 hn0 k0 hb7 hb67 hb6 hOS hvr K CD
      by_cases hm0 : m = 0
      · have e8 : ((m : Int) == 0) = true := by simp [hm0]
        have hLR := HLR.out
        rw [if_pos (by have := HMm.out (); omega)] at hLR
        have HG := Lib.hid (fun _ : Unit => hLR)
        clear hLR HLR hm0
        go_wp2_with fail
        go_ret3
        rw [HG.out ()]
        exact ⟨_, rfl, HOS.out, HBEL.out⟩
      · have e8 : ((m : Int) == 0) = false := by simp; omega
        have hLR := HLR.out
        rw [if_neg (by have := HMm.out (); omega)] at hLR
        have hgb := gr_bd HMB.out (ys.length - 1) (by rw [HGL.out]; omega)
        have hz8 := HZB.out
        obtain ⟨za, hza⟩ : ∃ z, at_ zs a = z := ⟨_, rfl⟩
        have hgb : 0 ≤ grt ys ∧ grt ys ≤ 1000000 := hgb
        rw [hza] at hLR hz8 c8
        have CM := Lib.hid (fun (k : Nat) => Calls.quiet_of_same ((max_i _ cap _ ys (w7.drewN k) hrd (by rw [HGL.out]; omega)).mono fun _ _ h => ⟨h.1, h.2.symm⟩))
        rw [HGL.out] at CM
        obtain ⟨G, hG⟩ : ∃ g, grt ys = g := ⟨_, rfl⟩
        rw [hG] at CM hLR hgb
        have hwx : IntKind.i64.wrap (za - G) = za - G := IntWalk.i64_in _ (by omega)
        have HG := Lib.hid (fun _ : Unit => hLR)
        clear hLR HLR hm0 hrd hgb hz8 hza hG
        go_wp2_with fail
        go_quiet ((go_at_call 42; exact CM.out _))
        go_wp2_with fail
        go_ret3
        rw [HG.out ()]
        exact ⟨_, rfl, HOS.out.drewN _, below_drewN HBEL.out _⟩
    · have hLR := HR.out
      rw [if_neg h0] at hLR
      have HG := Lib.hid (fun _ : Unit => hLR)
      have e0 : (z != 0) = true := by simp [h0]
      clear h0 HR hLR
      go_wp2_with fail
      go_ret3
      rw [HG.out ()]
      exact ⟨_, rfl, OwnS.nil_ _ _ _ _ _ _, K.bel⟩
end Go.Proofs.Ytfgkkmhafdbicaa.Bd40
