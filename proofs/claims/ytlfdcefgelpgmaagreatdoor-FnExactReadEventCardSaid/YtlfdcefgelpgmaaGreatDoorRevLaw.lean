/-
  The law on ReadEvent. Conditions: none beyond the given row's.
-/
import Derived.Test.YtlfdcefgelpgmaaGreatDoorTsL
set_option linter.unusedVariables false
set_option linter.unusedSimpArgs false
namespace Go.Proofs.YtlfdcefgelpgmaaGreatDoor.RevLaw
open Go.ChangeShapes Go.WideShapes Go.ChangeAt Go.RowKit Base Ints Own JoinN PlP TxP Num Bd1 Bd5 RegF RegG TxI TsI Bd36

theorem bs_back (s : ByteArray) : bs s.data.toList = s := by cases s; rfl
theorem short (v : Vr) (t : By) {e : Ev} (h : rdEv v t = some e) : e.ss.length ≤ 4 := by
  unfold rdEv at h
  split at h
  · rename_i hv
    obtain ⟨h1, h2⟩ := (rdE_iff hv).1 h
    have h3 : evnT v e ≠ [] := by rw [h1]; exact h2
    rcases ev_cases hv h3 with ⟨h4, _⟩ | ⟨_, h4, _⟩ | ⟨h4, _⟩
    · rw [h4]; simp
    · unfold trnT at h4
      split at h4
      · rename_i h5; exact ((steps_ne_nil hv).1 h5.2).1
      · exact absurd rfl h4
    · rw [h4]; simp
  · cases h
theorem row_grown {w w' : World} {row : Option Nat} {g : Nat} {e : TypeId} {cs : List Value} (r : RowB w g e cs) (hg : w.grownBy w' row) (hr : ∀ k, row = some k → k ≠ g) : RowB w' g e cs :=
  (hg.block g r.lt (fun e => hr _ e.symm rfl)).trans r
/-- The law's box of the variant. -/
structure Lw (w wr : World) (v : Vr) : Prop where
  bel : Below w.heap.size w wr
  rv : RowB wr w.heap.size 35 [.int .i64 v.p, .int .i64 v.c, .int .i64 v.h, .int .i64 v.s]
theorem Lw.below {w wr w' : World} {v : Vr} (k : Lw w wr v) (hb : Below wr.heap.size wr w') : Lw w w' v :=
  ⟨k.bel.trans (hb.mono k.bel.size), k.rv.below hb k.rv.lt⟩
theorem Lw.grown {w wr w' : World} {v : Vr} {row : Option Nat} (k : Lw w wr v) (hg : wr.grownBy w' row) (hr : ∀ g, row = some g → w.heap.size < g) : Lw w w' v :=
  have hb : Below (w.heap.size + 1) wr w' := ⟨hg.os, hg.tape, hg.output, hg.size, fun i hi => hg.block i (by have := k.rv.lt; omega) (fun e => by have := hr _ e.symm; omega)⟩
  ⟨k.bel.trans (hb.mono (by omega)), (hb.block _ (by omega)).trans k.rv⟩
set_option maxHeartbeats 8000000 in
set_option maxRecDepth 100000 in
theorem walk (p c h s : Int) (t : ByteArray) (w : World) (_ : (Lit.int .i64 p).wf = true) (_ : (Lit.int .i64 c).wf = true) (_ : (Lit.int .i64 h).wf = true) (_ : (Lit.int .i64 s).wf = true) (_ : t.size ≤ maxLen) (E : Env w) :
    Calls Tryz.prog 4 #[.agg #[.int .i64 p, .int .i64 c, .int .i64 h, .int .i64 s], .string t] w fun e w' => e = .returned (.bool true) ∧ Below w.heap.size w w' := by
  obtain ⟨v, hv⟩ : ∃ v : Vr, v = ⟨p, c, h, s⟩ := ⟨_, rfl⟩
  obtain ⟨rfl, rfl, rfl, rfl⟩ : p = v.p ∧ c = v.c ∧ h = v.h ∧ s = v.s := by rw [hv]; exact ⟨rfl, rfl, rfl, rfl⟩
  clear hv
  by_cases hsz : t.size ≤ 1048576
  rotate_left
  · have hd : decide ((1048576 : Int) < (t.size : Int)) = true := decide_eq_true (by omega)
    clear hsz E
    go_enter Tryz.func4, Tryz.ntmps4
    go_wp2_with fail
    go_ret
    exact ⟨rfl, by go_grown⟩
  have hd : decide ((1048576 : Int) < (t.size : Int)) = false := decide_eq_false (by omega)
  obtain ⟨tl, htl⟩ : ∃ tl, bs tl = t := ⟨t.data.toList, bs_back t⟩
  have hl : tl.length ≤ 4194304 := by rw [← htl, bs_size] at hsz; omega
  have CS := Lib.hid (fun (w9 : World) => revent_s v tl hl w9)
  have CI := Lib.hid (fun (w9 : World) (h9 : Below w.heap.size w w9) => revent_i v tl hl w9 (E.below h9))
  have HSH := Lib.hid (fun e (h : rdEv v tl = some e) => short v tl h)
  obtain ⟨O, hO⟩ : ∃ o, rdEv v tl = o := ⟨_, rfl⟩
  rw [hO] at CS CI HSH
  rw [htl] at CS CI
  clear hO hl hsz htl E
  go_enter Tryz.func4, Tryz.ntmps4
  go_upto_region 3 with (fail)
  refine wp_gen (fun W' => Lw w W' v) ⟨by go_grown, RowB.new _ _ _⟩ ?_
  intro w1 K
  obtain ⟨q0, q1, q2, q3⟩ := K.rv.c4
  have hlv := K.rv.lt
  go_wp2_with fail
  refine (toV' v _).mono ?_
  rintro e w2 ⟨rfl, hb⟩
  have K := K.below hb

  clear q0 q1 q2 q3 hlv hb
  go_wp2_with fail
  refine (CS.out _).mono ?_
  rintro e w3 ⟨k, a, b, sv, ss, r, ok, rfl, hos, hb, hres⟩
  have K := K.below hb
  have hL23 : w2.heap.size ≤ w3.heap.size := hb.size
  obtain ⟨A, cp, hsv, _⟩ := hos.form enSt_len
  have hn4 : ss.length ≤ 4 := by
    cases ok with
    | true => exact HSH.out _ hres
    | false => rw [hres.2.2.2.2.1]; simp
  obtain ⟨n, hn⟩ : ∃ n, ss.length = n := ⟨_, rfl⟩
  rw [hn] at hsv hn4
  subst hsv
  have HN := Lib.hid hn
  have HRES := Lib.hid hres
  have HOA := Lib.hid hos
  clear hn hres hos hb HSH
  have eok : (ok != ok) = false := by simp
  go_upto_region 4 with (fail)
  refine wp_gen (fun W' => Lw w W' v ∧ RowB W' w3.heap.size 28 [.int .i64 k, .int .i64 a, .int .i64 b, .slice A n cp, .int .i64 r] ∧ Hid (OwnS W' w2.heap.size w3.heap.size 91 4 enSt (.slice A n cp) ss)) ⟨K.below ((Below.refl _ _).alloc (Nat.le_refl _) _), RowB.new _ _ _, Lib.hid (HOA.out.alloc _)⟩ ?_
  clear K HOA
  rintro w4 ⟨K, ra, HOA⟩
  obtain ⟨ga, hga⟩ : ∃ g, w3.heap.size = g := ⟨_, rfl⟩
  rw [hga] at ra HOA hL23 ⊢
  have hL4 := ra.lt
  clear hga
  obtain ⟨q0, q1, q2, q3⟩ := K.rv.c4
  have hlv := K.rv.lt
  go_wp2_with fail
  refine (toV' v _).mono ?_
  rintro e w5 ⟨rfl, hb⟩
  have K := K.below hb
  have ra := ra.below hb ra.lt
  have HOA := Lib.hid (HOA.out.below hb (Nat.le_of_lt hL4))
  have hL5 : ga < w5.heap.size := ra.lt
  have hW5 : w.heap.size < w5.heap.size := K.rv.lt
  clear q0 q1 q2 q3 hlv hb
  go_wp2_with fail
  refine (CI.out _ K.bel).mono ?_
  rintro e w6 ⟨k2, a2, b2, sv, ss2, r2, ok2, rfl, hos, hb, hres⟩
  obtain ⟨rfl, rfl, rfl, rfl, rfl, rfl⟩ := ev_same HRES.out hres
  have K := K.below hb
  have ra := ra.below hb ra.lt
  have HOA := Lib.hid (HOA.out.below hb (Nat.le_of_lt hL5))
  have hL6 : w5.heap.size ≤ w6.heap.size := hb.size
  obtain ⟨A2, c2, hsv, _⟩ := hos.form enSt_len
  rw [HN.out] at hsv
  subst hsv
  have HOB := Lib.hid hos
  clear hres hos hb
  go_upto_region 5 with (fail)
  refine wp_gen (fun W' => Lw w W' v ∧ RowB W' ga 28 [.int .i64 k, .int .i64 a, .int .i64 b, .slice A n cp, .int .i64 r] ∧ RowB W' w6.heap.size 28 [.int .i64 k, .int .i64 a, .int .i64 b, .slice A2 n c2, .int .i64 r] ∧ Hid (OwnS W' w2.heap.size ga 91 4 enSt (.slice A n cp) ss) ∧ Hid (OwnS W' w5.heap.size w6.heap.size 91 4 enSt (.slice A2 n c2) ss)) ⟨K.below ((Below.refl _ _).alloc (Nat.le_refl _) _), ra.alloc _, RowB.new _ _ _, Lib.hid (HOA.out.alloc _), Lib.hid (HOB.out.alloc _)⟩ ?_
  clear K HOA HOB ra
  rintro w7 ⟨K, ra, rb, HOA, HOB⟩
  obtain ⟨gb, hgb⟩ : ∃ g, w6.heap.size = g := ⟨_, rfl⟩
  rw [hgb] at rb HOB hL6 ⊢
  have hL7 := rb.lt
  clear hgb
  obtain ⟨x0, x1, x2, x3, x4⟩ := ra.c5
  obtain ⟨y0, y1, y2, y3, y4⟩ := rb.c5
  have hla := ra.lt
  go_wp2_with fail
  refine (eqE k a b r A2 A c2 cp gb ga n ss _ HN.out (Nat.le_of_lt hL7) (Nat.le_of_lt hla) (HOB.out.rd enSt_len) (HOA.out.rd enSt_len)).mono ?_
  rintro e w8 ⟨rfl, hb⟩
  have K := K.below hb
  have ra := ra.below hb ra.lt
  have rb := rb.below hb rb.lt
  have HOA := Lib.hid (HOA.out.below hb (Nat.le_of_lt hla))
  have HOB := Lib.hid (HOB.out.below hb (Nat.le_of_lt hL7))
  have hL8 : gb < w8.heap.size := rb.lt
  clear x0 x1 x2 x3 x4 y0 y1 y2 y3 y4 hb hla hL7
  obtain ⟨x0, x1, x2, x3, x4⟩ := ra.c5
  obtain ⟨y0, y1, y2, y3, y4⟩ := rb.c5
  have hla := ra.lt
  go_wp2_with fail
  refine (markE k a b r A2 n c2 1 w5.heap.size gb ss _ HN.out (by omega) (by decide) (Nat.le_of_lt hL8) HOB.out).mono ?_
  rintro e w9 ⟨rfl, hg, om⟩
  have hrow : ∀ g, (Value.slice A2 n c2).ownBlock = some g → w5.heap.size ≤ g ∧ g < gb := fun g h => HOB.out.block g h
  have K := K.grown hg (fun g h => by have := hrow g h; omega)
  have ra := row_grown ra hg (fun g h => by have := hrow g h; omega)
  have rb := row_grown rb hg (fun g h => by have := hrow g h; omega)
  have HOA := Lib.hid (HOA.out.grown hg (fun g h => by have := hrow g h; omega))
  have HOB := Lib.hid om
  obtain ⟨mk, hmk⟩ : ∃ z : Int, ((1 + n * 4 : Nat) : Int) = z := ⟨_, rfl⟩
  rw [hmk]
  have hm0 : ¬ mk < 0 := by omega
  have hmm : (mk != mk) = false := by simp
  have HMK := Lib.hid hmk
  clear x0 x1 x2 x3 x4 y0 y1 y2 y3 y4 hg om hrow hmk hla
  have hL9 : gb < w9.heap.size := rb.lt
  obtain ⟨y0, y1, y2, y3, y4⟩ := rb.c5
  go_wp2_with fail
  refine (heldE k a b r A2 n c2 1 gb _ (by omega) (by decide) (Nat.le_of_lt hL9) (HOB.out.rd enSt_len)).mono ?_
  rw [HMK.out]
  rintro e w10 ⟨rfl, hb⟩
  have K := K.below hb
  have ra := ra.below hb ra.lt
  have rb := rb.below hb rb.lt
  have HOA := Lib.hid (HOA.out.below hb (by omega))
  have HOB := Lib.hid (HOB.out.below hb (Nat.le_of_lt hL9))
  have hLa : gb < w10.heap.size := rb.lt
  clear y0 y1 y2 y3 y4 hb
  obtain ⟨q0, q1, q2, q3⟩ := K.rv.c4
  have hlv := K.rv.lt
  go_wp2_with fail
  refine (toV' v _).mono ?_
  rintro e w11 ⟨rfl, hb⟩
  have K := K.below hb
  have ra := ra.below hb ra.lt
  have rb := rb.below hb rb.lt
  have HOA := Lib.hid (HOA.out.below hb (by omega))
  have HOB := Lib.hid (HOB.out.below hb (Nat.le_of_lt hLa))
  have hLb : gb < w11.heap.size := rb.lt
  clear q0 q1 q2 q3 hlv hb
  go_wp2_with fail
  refine (CI.out _ K.bel).mono ?_
  rintro e w12 ⟨k2, a2, b2, sv, ss2, r2, ok2, rfl, hos, hb, hres⟩
  obtain ⟨rfl, rfl, rfl, rfl, rfl, rfl⟩ := ev_same HRES.out hres
  have K := K.below hb
  have ra := ra.below hb ra.lt
  have rb := rb.below hb rb.lt
  have HOA := Lib.hid (HOA.out.below hb (by omega))
  have HOB := Lib.hid (HOB.out.below hb (Nat.le_of_lt hLb))
  have hLc : gb < w12.heap.size := rb.lt
  obtain ⟨A3, c3, hsv, _⟩ := hos.form enSt_len
  rw [HN.out] at hsv
  subst hsv
  have HOC := Lib.hid hos
  clear hres hos hb
  go_upto_region 16 with (fail)
  refine wp_gen (fun W' => Lw w W' v ∧ RowB W' ga 28 [.int .i64 k, .int .i64 a, .int .i64 b, .slice A n cp, .int .i64 r] ∧ RowB W' gb 28 [.int .i64 k, .int .i64 a, .int .i64 b, .slice A2 n c2, .int .i64 r] ∧ RowB W' w12.heap.size 28 [.int .i64 k, .int .i64 a, .int .i64 b, .slice A3 n c3, .int .i64 r] ∧ Hid (OwnS W' w2.heap.size ga 91 4 enSt (.slice A n cp) ss) ∧ Hid (OwnS W' w5.heap.size gb 91 4 enSt (.slice A2 n c2) (markL 1 n)) ∧ Hid (OwnS W' w11.heap.size w12.heap.size 91 4 enSt (.slice A3 n c3) ss)) ⟨K.below ((Below.refl _ _).alloc (Nat.le_refl _) _), ra.alloc _, rb.alloc _, RowB.new _ _ _, Lib.hid (HOA.out.alloc _), Lib.hid (HOB.out.alloc _), Lib.hid (HOC.out.alloc _)⟩ ?_
  clear K HOA HOB HOC ra rb
  rintro w13 ⟨K, ra, rb, rc, HOA, HOB, HOC⟩
  obtain ⟨gc, hgc⟩ : ∃ g, w12.heap.size = g := ⟨_, rfl⟩
  rw [hgc] at rc HOC hLc ⊢
  have hLd := rc.lt
  clear hgc
  obtain ⟨x0, x1, x2, x3, x4⟩ := ra.c5
  obtain ⟨y0, y1, y2, y3, y4⟩ := rc.c5
  have hla := ra.lt
  have hlb := rb.lt
  go_wp2_with fail
  refine (eqE k a b r A3 A c3 cp gc ga n ss _ HN.out (Nat.le_of_lt hLd) (Nat.le_of_lt hla) (HOC.out.rd enSt_len) (HOA.out.rd enSt_len)).mono ?_
  rintro e w14 ⟨rfl, hb⟩
  have K := K.below hb
  have rb := rb.below hb rb.lt
  have HOB := Lib.hid (HOB.out.below hb (Nat.le_of_lt hlb))
  have hle := rb.lt
  clear x0 x1 x2 x3 x4 y0 y1 y2 y3 y4 hb hla hlb HOA HOC
  obtain ⟨y0, y1, y2, y3, y4⟩ := rb.c5
  go_wp2_with fail
  refine (heldE k a b r A2 n c2 1 gb _ (by omega) (by decide) (Nat.le_of_lt hle) (HOB.out.rd enSt_len)).mono ?_
  rw [HMK.out]
  rintro e w15 ⟨rfl, hb⟩
  have K := K.below hb
  clear y0 y1 y2 y3 y4 hb
  go_wp2_with fail
  go_ret
  exact ⟨rfl, K.bel⟩
end Go.Proofs.YtlfdcefgelpgmaaGreatDoor.RevLaw
