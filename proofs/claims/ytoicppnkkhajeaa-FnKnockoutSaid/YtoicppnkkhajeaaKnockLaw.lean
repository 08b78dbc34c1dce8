/-
  The law on knockout: a tournament that is played to its end has one winner, and places that follow from the rounds. Conditions: none beyond the given row's.
-/
import Derived.Test.YtoicppnkkhajeaaKnock
import Derived.Test.YtoicppnkkhajeaaDice
set_option linter.unusedVariables false
namespace Go.Proofs.Ytoicppnkkhajeaa.KnockLaw
open Go.ChangeShapes Go.WideShapes Go.ChangeAt Go.RowKit Base Ints Tourn1 Order Own OrderS Pairs PairsS Bracket TF1 TF2 TF3 TF4 TF5 TF6 TF7 Pairs2 Draw DrawT ConsLaw Brk Knock Dice

theorem rowD {g : Nat} {B : Nat} (h : B ≤ g) : ∀ k, some g = some k → B ≤ k := fun k hk => by simp at hk; omega
theorem rowN {g c : Nat} (h : g ≠ c) : ∀ k, some g = some k → k ≠ c := fun k hk => by simp at hk; omega
/-- The round of a knockout: what is known of the memory. -/
structure Kn (W wr : World) (A : Option Addr) (cp : Nat) (xs : List Int) (g4 g9 : Nat) (s : Int) (row4 : List Value) (An : Option Addr) (cn lo hi : Nat) (Rn : List Int) : Prop where
  ok : okT s Rn = true
  r9 : RowB wr g9 31 [.int .i64 s, .slice An Rn.length cn]
  r4 : RowB wr g4 31 row4
  own : OwnS wr lo hi 2 1 enI (.slice An Rn.length cn) Rn
  hhi : hi ≤ wr.heap.size
  hlo : W.heap.size < lo
  far : g9 < lo ∨ hi ≤ g9
  dice : Dice wr W.heap.size A xs.length cp
  rd : RdS wr W.heap.size 1 enB A xs
  bel : Below W.heap.size W wr
  h4 : W.heap.size < g4
  h9 : g4 < g9
theorem Kn.below {W wr w' : World} {A : Option Addr} {cp : Nat} {xs : List Int} {g4 g9 : Nat} {s : Int} {row4 : List Value} {An : Option Addr} {cn lo hi : Nat} {Rn : List Int} (h : Kn W wr A cp xs g4 g9 s row4 An cn lo hi Rn) (hb : Below wr.heap.size wr w') :
    Kn W w' A cp xs g4 g9 s row4 An cn lo hi Rn :=
  ⟨h.ok, h.r9.below hb h.r9.lt, h.r4.below hb h.r4.lt, h.own.below hb h.hhi, Nat.le_trans h.hhi hb.size, h.hlo, h.far, h.dice.below hb h.dice.lt, h.rd.below hb h.bel.size, h.bel.trans (hb.mono h.bel.size), h.h4, h.h9⟩
theorem Kn.throw {W wr w' : World} {A : Option Addr} {cp : Nat} {xs : List Int} {g4 g9 : Nat} {s : Int} {row4 : List Value} {An : Option Addr} {cn lo hi : Nat} {Rn : List Int} (h : Kn W wr A cp xs g4 g9 s row4 An cn lo hi Rn)
    (hD : Dice w' W.heap.size A xs.length cp) (hg : wr.grownBy w' (some W.heap.size)) : Kn W w' A cp xs g4 g9 s row4 An cn lo hi Rn :=
  have h4 := h.h4
  have h9 := h.h9
  have hlo := h.hlo
  ⟨h.ok, h.r9.grown hg (rowN (by omega)), h.r4.grown hg (rowN (by omega)), h.own.grown hg (fun g hg => by simp at hg; omega), Nat.le_trans h.hhi hg.size, h.hlo, h.far, hD, h.rd.grown hg h.bel.size (rowD (Nat.le_refl _)), h.bel.grown hg h.bel.size (rowD (Nat.le_refl _)), h.h4, h.h9⟩
/-- The next state: the box g9 has been overwritten. -/
theorem Kn.put {W wr w1 w' : World} {A : Option Addr} {cp : Nat} {xs : List Int} {g4 g9 : Nat} {s : Int} {row4 : List Value} {An Am : Option Addr} {cn cm lo hi lo' hi' : Nat} {Rn Rm : List Int} (h : Kn W w1 A cp xs g4 g9 s row4 An cn lo hi Rn)
    (ok : okT s Rm = true) (r9 : RowB w' g9 31 [.int .i64 s, .slice Am Rm.length cm]) (own : OwnS w1 lo' hi' 2 1 enI (.slice Am Rm.length cm) Rm) (hhi : hi' ≤ w1.heap.size) (hlo : g9 < lo')
    (hg : w1.grownBy w' (some g9)) : Kn W w' A cp xs g4 g9 s row4 Am cm lo' hi' Rm :=
  have h4 := h.h4
  have h9 := h.h9
  have hs := h.bel.size
  ⟨ok, r9, h.r4.grown hg (rowN (by omega)), own.grown hg (fun g hg => by simp at hg; omega), Nat.le_trans hhi hg.size, by omega, .inl hlo, h.dice.grown hg (rowN (by omega)), h.rd.grown hg h.bel.size (rowD (by omega)), h.bel.grown hg h.bel.size (rowD (by omega)), h.h4, h.h9⟩
theorem Kn.none {W wr : World} {A : Option Addr} {cp : Nat} {xs : List Int} {g4 g9 : Nat} {s : Int} {row4 : List Value} {An : Option Addr} {cn lo hi : Nat} {Rn : List Int} (h : Kn W wr A cp xs g4 g9 s row4 An cn lo hi Rn) : An = none → cn = 0 := fun e => own_none h.own e

def todo (N g9 : Nat) (wr : World) : Nat := match wr.cell? ⟨g9, 1, none⟩ with | some (.slice _ n _) => N - n | _ => 0
theorem todo_at {N g9 n c : Nat} {A : Option Addr} {wr : World} (h : wr.cell? ⟨g9, 1, none⟩ = some (.slice A n c)) : todo N g9 wr = N - n := by unfold todo; rw [h]
theorem okT_snoc {s : Int} {Rn : List Int} {r : Int} (h : okT s Rn = true) (hl : (Rn.length : Int) + 1 < s) (hr : r = 0 ∨ r = 1) : okT s (Rn ++ [r]) = true := by
  unfold okT at h ⊢
  simp only [Bool.and_eq_true] at h ⊢
  refine ⟨h.1, ?_, ?_⟩
  · exact decide_eq_true (by simp; omega)
  · rw [List.all_append, h.2.2]
    rcases hr with rfl | rfl <;> rfl

set_option maxHeartbeats 16000000 in
set_option maxRecDepth 100000 in
theorem knockL (A : Option Addr) (cp : Nat) (xs : List Int) (W : World) (hr : RdS W W.heap.size 1 enB A xs) (hw : ∀ x ∈ xs, (Lit.int .u8 x).wf = true) :
    Calls Try.prog 14 #[.slice A xs.length cp] W fun e w' => e = .returned (.bool true) ∧ Below W.heap.size W w' := by
  cases hbig : decide ((4096 : Int) < (xs.length : Int))
  case true =>
    have HB := Lib.hid hbig; clear hbig
    go_enter Try.func14, Try.ntmps14
    go_wp2_with fail
    refine (bigB _ cp A true HB.out _ hr.1).mono ?_
    rintro e w1 ⟨rfl, rfl⟩
    go_wp2_with fail
    go_ret
    exact ⟨rfl, Below.refl _ _⟩
  have HB := Lib.hid hbig; clear hbig
  go_enter Try.func14, Try.ntmps14
  go_wp2_with fail
  refine (bigB _ cp A false HB.out _ hr.1).mono ?_
  rintro e w1 ⟨rfl, rfl⟩
  go_wp2_with fail
  refine (roll_ _ A cp xs _ _ (Nat.le_refl _) hr).mono ?_
  rintro e w2 ⟨rfl, hD, hb2⟩
  have hl2 := hD.lt
  go_wp2_with fail
  refine (drawP A cp xs _ ((hr.below hb2 (Nat.le_refl _)).more hb2.size) hw).mono ?_
  rintro e w3 ⟨⟨s, Av, cv, R, rfl, o, hs0, hs1, hR⟩, hb3⟩
  have h64 : I64 s := ⟨by omega, by omega⟩
  have hD := hD.below hb3 hl2
  have hrc := (hr.below hb2 (Nat.le_refl _)).below hb3 hb2.size
  have q3 := hb2.trans (hb3.mono hb2.size)
  have z3 := hb3.size
  clear hb3 hb2
  have hrd := o.rd enI_len
  have ec : (tC s R != tC s R) = false := by simp
  go_wp2_with fail
  refine (pl_impl s Av cv w3.heap.size R _ (by go_size) (hrd.below ((Below.refl _ _).alloc (Nat.le_refl _) _) (Nat.le_refl _)) h64).mono ?_
  rintro e w4 ⟨⟨v4, rfl, o4⟩, hb4⟩
  rw [World.size_alloc] at hb4 o4
  have rb := (RowB.new _ _ _).below hb4 (Nat.lt_succ_self _)
  have t4 : Below w3.heap.size w3 w4 := ((Below.refl _ _).alloc (Nat.le_refl _) _).trans (hb4.mono (Nat.le_succ _))
  have q4 := q3.trans (t4.mono q3.size)
  have hrd := hrd.below t4 (Nat.le_refl _)
  have hrc := hrc.below t4 q3.size
  have hD := hD.below t4 (by omega)
  have o := o.below t4 (Nat.le_refl _)
  have z4 := rb.lt
  obtain ⟨A4, c4, rfl, _⟩ := o4.form enI_len
  clear hb4 t4
  obtain ⟨p0, p1⟩ := rb.c2
  go_wp2_with fail
  clear p0 p1
  refine (pl_spec s Av cv w3.heap.size R _ (by omega) hrd h64).mono ?_
  rintro e w5 ⟨⟨v5, rfl, o5⟩, hb5⟩
  have rb := rb.below hb5 z4
  have q5 := q4.trans (hb5.mono q4.size)
  have hrd := hrd.below hb5 (by omega)
  have hrc := hrc.below hb5 q4.size
  have hD := hD.below hb5 (by omega)
  have o := o.below hb5 (by omega)
  have o4 := o4.below hb5 (Nat.le_refl _)
  have z5 := hb5.size
  obtain ⟨A5, c5, rfl, _⟩ := o5.form enI_len
  clear hb5 q4
  go_wp2_with fail
  refine (likeI _ _ A4 A5 c4 c5 (plL s R) _ (o4.rd enI_len) (o5.rd enI_len)).mono ?_
  rintro e w6 ⟨rfl, hb6⟩
  have rb := rb.below hb6 (by omega)
  have q6 := q5.trans (hb6.mono q5.size)
  have hrc := hrc.below hb6 q5.size
  have hD := hD.below hb6 (by omega)
  have o := o.below hb6 (by omega)
  have z6 := hb6.size
  clear hb6 q5 o4 o5 hrd
  cases hok : okT s R
  case false =>
    have hT : tC s R = 1 := by simp [tC, hok]
    rw [hT]
    clear hT hok ec
    go_wp2_with fail
    go_ret
    exact ⟨rfl, q6⟩
  have hT : tC s R = 0 := by simp [tC, hok]
  have hsz := (okT_parts hok).1
  obtain ⟨h2, h32, _, _⟩ := seeds_facts hsz
  rw [hT]
  obtain ⟨N, rfl⟩ : ∃ N : Nat, s = (N : Int) := ⟨s.toNat, by omega⟩
  have K0 : Kn W w6 A cp xs w3.heap.size w6.heap.size (N : Int) [.int .i64 (N : Int), .slice Av R.length cv] Av cv (w2.heap.size) w3.heap.size R → True := fun _ => trivial
  obtain ⟨p0, p1⟩ := rb.c2
  have hl4 := rb.lt
  have HZ := Lib.hid hsz
  clear ec hT hsz K0
  go_wp2_with fail
  go_loopw [15] (fun i wr => ∃ (Rn : List Int) (An : Option Addr) (cn lo hi : Nat), Kn W wr A cp xs w3.heap.size w6.heap.size (N : Int) [.int .i64 (N : Int), .slice Av R.length cv] An cn lo hi Rn) (fun i wr => todo N w6.heap.size wr)
  case atStart => exact ⟨R, Av, cv, w2.heap.size, w3.heap.size, hok, RowB.new _ _ _, rb.alloc _, o.alloc _, by go_size, by omega, .inr (by omega), hD.below ((Below.refl _ _).alloc (Nat.le_refl _) _) (by omega), hrc.below ((Below.refl _ _).alloc (Nat.le_refl _) _) q6.size, q6.trans ((Below.refl _ _).alloc q6.size _), by omega, by omega⟩
  case round =>
    obtain ⟨Rn, An, cn, lo, hi, K⟩ := hrel
    have okn := Lib.hid K.ok
    have hln := (okT_parts K.ok).2.1
    clear p0 p1 rb hD hrc o q6 hok
    obtain ⟨p0, p1⟩ := K.r9.c2
    obtain ⟨u0, u1⟩ := K.r4.c2
    by_cases hlt : Rn.length + 1 < N
    · have HT := Lib.hid (todo_at (N := N) p1)
      have hg : (Rn.length : Int) < (N : Int) - 1 := by omega
      have hC : poC (N : Int) Rn (Rn.length : Int) = 0 := by unfold poC; rw [if_pos okn.out, if_pos (decide_eq_true (by omega))]
      have hA : poA (N : Int) Rn (Rn.length : Int) = en (N : Int) Rn (2 * Rn.length) := by unfold poA; rw [if_pos hC]; rfl
      have hBv : poB (N : Int) Rn (Rn.length : Int) = en (N : Int) Rn (2 * Rn.length + 1) := by unfold poB; rw [if_pos hC]; rfl
      have hAR : Hid (∀ y : Int, y = en (N : Int) Rn (2 * Rn.length) ∨ y = en (N : Int) Rn (2 * Rn.length + 1) → arC (N : Int) Rn y = 0 ∧ arS (N : Int) Rn y = (N : Int) ∧ ∃ r : Int, (r = 0 ∨ r = 1) ∧ arL (N : Int) Rn y = Rn ++ [r]) := by
        intro y hy
        have hc : arC (N : Int) Rn y = 0 := by
          unfold arC
          rw [if_pos okn.out, if_neg (by omega)]
          rcases hy with hy | hy
          · rw [if_pos hy]
          · rw [if_pos hy]; split <;> rfl
        refine ⟨hc, by unfold arS; rw [if_pos hc], _, ?_, by unfold arL; rw [if_pos hc]⟩
        split
        · exact .inr rfl
        · exact .inl rfl
      have h64' : I64 (N : Int) := ⟨by omega, by omega⟩
      go_wp2_with fail
      clear p0 p1 u0 u1
      refine (po_impl (N : Int) An cn hi Rn (Rn.length : Int) _ K.hhi (K.own.rd enI_len) h64').mono ?_
      rw [hC, hA, hBv]
      clear hC hA hBv
      generalize en (N : Int) Rn (2 * Rn.length) = a at *
      generalize en (N : Int) Rn (2 * Rn.length + 1) = b at *
      rintro e w7 ⟨rfl, hb7⟩
      have K := K.below hb7
      clear hb7
      go_wp2_with fail
      refine (below2 W.heap.size W.heap.size A xs.length cp xs _ K.dice rfl K.rd (Nat.le_refl _)).mono ?_
      rintro e w8 ⟨⟨x, rfl⟩, hD8, hg8, -⟩
      have K := K.throw hD8 hg8
      have l98 := K.r9.lt
      clear hD8 hg8
      obtain ⟨p0, p1⟩ := K.r9.c2
      cases hx : (x == 1)
      case' false => obtain ⟨c1, c2, r, hr01, c3⟩ := hAR.out a (.inl rfl)
      case' true => obtain ⟨c1, c2, r, hr01, c3⟩ := hAR.out b (.inr rfl)
      all_goals
        go_wp2_with fail
        clear p0 p1
        refine (ar_impl (N : Int) An cn hi Rn _ _ K.hhi (K.own.rd enI_len) h64' K.none).mono ?_
        rw [c1, c2, c3]
        clear c1 c2 c3
        rintro e w9 ⟨⟨v9, rfl, o9⟩, hb9⟩
        have K := K.below hb9
        clear hb9 hx
        obtain ⟨A9, c9, rfl, _⟩ := o9.form enI_len
        have hL : (Rn ++ [r]).length = Rn.length + 1 := by simp
        have HL := Lib.hid hL
        rw [hL] at o9
        rw [hL]
        clear hL
        obtain ⟨p0, p1⟩ := K.r9.c2
        have hf := K.r9.frozen
        have hl9 := K.r9.lt
        have e1 : (((Rn.length + 1 : Nat) : Int) != (Rn.length : Int) + 1) = false := by simp
        go_wp2_with fail
        go_roundw
        case rel => exact ⟨Rn ++ [r], A9, c9, w8.heap.size, w9.heap.size, (Kn.put (wr := w9) K (okT_snoc okn.out (by omega) hr01) (by rw [HL.out]; exact (K.r9.set 0 _).set 1 _) (by rw [HL.out]; exact o9) (Nat.le_refl _) l98 (grownBy_trans (grownBy_setCell _ _ _ _) (grownBy_setCell _ _ _ _))).below ((Below.refl _ _).alloc (Nat.le_refl _) _)⟩
        case measure =>
          have := todo_at (N := N) (RowB.c2 (RowB.alloc (RowB.set (RowB.set K.r9 0 (.int .i64 (N : Int))) 1 (.slice A9 (Rn.length + 1) c9)) (.cells #[.int .i64 (N : Int), .slice A9 (Rn.length + 1) c9] 31))).2
          rw [HT.out, this]; omega
    · have hRN : Rn.length + 1 = (N : Int).toNat := by omega
      obtain ⟨M, hM⟩ : ∃ M, M + 2 = N := ⟨N - 2, by omega⟩
      have hd : decide ((Rn.length : Int) < (N : Int) - 1) = false := decide_eq_false (by omega)
      have h64' : I64 (N : Int) := ⟨by omega, by omega⟩
      have hT : tC (N : Int) Rn = 0 := by simp [tC, okn.out]
      go_wp2_with fail
      clear p0 p1 u0 u1
      refine (pl_impl (N : Int) An cn hi Rn _ K.hhi (K.own.rd enI_len) h64').mono ?_
      rw [hT]
      rintro e w7 ⟨⟨v7, rfl, o7⟩, hb7⟩
      have K := K.below hb7
      clear hb7
      obtain ⟨A7, c7, rfl, _⟩ := o7.form enI_len
      obtain ⟨p0, p1⟩ := K.r9.c2
      go_wp2_with fail
      clear p0 p1
      refine (wn_impl (N : Int) An cn hi Rn _ K.hhi (K.own.rd enI_len) h64').mono ?_
      rw [hT]
      rintro e w8 ⟨⟨v8, rfl, o8⟩, hb8⟩
      have K := K.below hb8
      have o7 := o7.below hb8 (Nat.le_refl _)
      have z8 := hb8.size
      clear hb8 hT
      obtain ⟨A8, c8, rfl, _⟩ := o8.form enI_len
      have HPL := Lib.hid (fun (i : Nat) (hi : i < N) => places_ok Rn HZ.out hRN (i := i) (by omega))
      have HPY := Lib.hid (fun (i : Nat) (hi : i < N) => plays Rn HZ.out (i := i) (by omega) okn.out)
      have hw2 := wi_sign Rn HZ.out (k := M) (by omega)
      have hw3 := hw2.2.2.1 (by omega)
      have hw4 := hw2.2.1
      have hP : plL (N : Int) Rn = plA (N : Int) Rn ((N : Int).toNat - 1) := by unfold plL; rw [if_pos okn.out]; congr 1; omega
      have hX : (wnL (N : Int) Rn)[M]? = some (wi (N : Int) Rn M) := by unfold wnL; rw [if_pos okn.out, seg_at _ _ _ _ (by omega), Nat.zero_add]
      have hXL : (wnL (N : Int) Rn).length = M + 1 := by unfold wnL; rw [if_pos okn.out, seg_len]; omega
      have hPL : (plL (N : Int) Rn).length = N := by rw [hP, plA_len]; omega
      rw [← hP] at HPL
      rw [show (N : Int).toNat - 2 = M from by omega] at HPL
      have rP := o7.rd enI_len
      have rX := o8.rd enI_len
      rw [hXL, hPL]
      generalize plL (N : Int) Rn = P at *
      generalize wnL (N : Int) Rn = X at *
      generalize wi (N : Int) Rn M = z at *
      obtain ⟨bx, ox, zx, rfl, hbx, hzx, hcx⟩ := rdI_at rX (i := M) (by omega)
      rw [hX] at hzx
      obtain rfl : z = zx := by simpa using hzx
      obtain ⟨u0, u1⟩ := K.r4.c2
      have e1 : ((N : Int) != (N : Int)) = false := by simp
      have e2 : ((M : Int) + 1 != (N : Int) - 1) = false := by simp; omega
      have e3 : IntKind.i64.wrap ((N : Int) - 2) = (M : Int) := by rw [IntWalk.i64_in _ (by omega)]; omega
      have HPP := Lib.hid hPL
      clear hzx hX hXL hP hw2 hPL o7 o8
      go_wp2_with fail
      go_loopw [20, 21] (fun c i wr => ∃ k : Nat, k ≤ N ∧ i = .int .i64 k ∧ c = .int .i64 (if z < (k : Int) then 1 else 0) ∧ Below w8.heap.size w8 wr) (fun _ i _ => N - (intOf i).toNat)
      case atStart => exact ⟨0, Nat.zero_le _, rfl, by rw [if_neg (by omega)], Below.refl _ _⟩
      case round =>
        obtain ⟨k, hk, rfl, rfl, hb⟩ := hrel
        have K := K.below hb
        have hzb := hb.size
        obtain ⟨u0, u1⟩ := K.r4.c2
        obtain ⟨p0, p1⟩ := K.r9.c2
        have hcx := (hb.cell (p := ⟨bx, ox + M, none⟩) hbx).trans hcx
        by_cases hkN : k < N
        · obtain ⟨v, hv, hv1, hvz⟩ := HPL.out k hkN
          obtain ⟨bp, op, v', rfl, hbp, hv', hcp⟩ := rdI_at (rP.below hb (by omega)) (i := k) (by rw [HPP.out]; exact hkN)
          rw [hv] at hv'
          obtain rfl : v = v' := by simpa using hv'
          have hdv : decide (v < 1) = false := decide_eq_false (by omega)
          have hme := HPY.out k hkN
          have hmc : meC (N : Int) Rn (k : Int) = 0 := by unfold meC; rw [if_pos okn.out, if_pos (decide_eq_true (by omega))]
          clear hv hv'
          by_cases hv2 : v = 1
          · have hzk := hvz.1 hv2
            subst hv2 hzk
            have e5 : ((k : Int) != (k : Int)) = false := by simp
            have hc0 : (if (k : Int) < (k : Int) then (1 : Int) else 0) = 0 := if_neg (by omega)
            rw [hc0]
            clear hvz hdv
            go_wp2_with fail
            clear u0 u1 p0 p1
            refine (me_impl (N : Int) An cn hi Rn (k : Int) _ K.hhi (K.own.rd enI_len) h64').mono ?_
            rw [hmc]
            rintro e w9 ⟨⟨v9, rfl, o9⟩, hb9⟩
            obtain ⟨A9, c9, rfl, _⟩ := o9.form enI_len
            generalize (meL (N : Int) Rn (k : Int)).length = L at *
            have e6 : ((L : Int) == 0) = false := by simp; omega
            have hb' := hb.trans (hb9.mono hzb)
            have K := K.below hb9
            obtain ⟨u0, u1⟩ := K.r4.c2
            go_wp2_with fail
            go_roundw
            case rel => exact ⟨k + 1, by omega, by go_num, by rw [if_pos (by omega)], hb'⟩
            case measure => simp [intOf]; omega
          · have hzk : z ≠ (k : Int) := fun e => hv2 (hvz.2 e)
            have hv3 : (v == 1) = false := by simp [hv2]
            have hc1 : (if z < ((k + 1 : Nat) : Int) then (1 : Int) else 0) = (if z < (k : Int) then 1 else 0) := by
              by_cases hh : z < (k : Int)
              · rw [if_pos hh, if_pos (by omega)]
              · rw [if_neg hh, if_neg (by omega)]
            generalize (if z < (k : Int) then (1 : Int) else 0) = q at *
            have HC := Lib.hid hc1
            clear hvz hv2 hc1
            go_wp2_with fail
            clear u0 u1 p0 p1
            refine (me_impl (N : Int) An cn hi Rn (k : Int) _ K.hhi (K.own.rd enI_len) h64').mono ?_
            rw [hmc]
            rintro e w9 ⟨⟨v9, rfl, o9⟩, hb9⟩
            obtain ⟨A9, c9, rfl, _⟩ := o9.form enI_len
            generalize (meL (N : Int) Rn (k : Int)).length = L at *
            have e6 : ((L : Int) == 0) = false := by simp; omega
            have hb' := hb.trans (hb9.mono hzb)
            have K := K.below hb9
            obtain ⟨u0, u1⟩ := K.r4.c2
            go_wp2_with fail
            go_roundw
            case rel => exact ⟨k + 1, by omega, by go_num, by rw [HC.out], hb'⟩
            case measure => simp [intOf]; omega
        · obtain rfl : k = N := by omega
          have hc1 : (if z < (k : Int) then (1 : Int) else 0) = 1 := if_pos (by omega)
          rw [hc1]
          go_wp2_with fail
          go_ret
          exact ⟨rfl, K.bel⟩
end Go.Proofs.Ytoicppnkkhajeaa.KnockLaw
