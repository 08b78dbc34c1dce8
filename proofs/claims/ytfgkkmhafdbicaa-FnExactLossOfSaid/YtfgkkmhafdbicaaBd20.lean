/-
  The kept sequences of each order of a roll, and the number of dice that are used: of the program. Conditions: each theorem's own.
-/
import Derived.Test.YtfgkkmhafdbicaaBd19
set_option linter.unusedVariables false
set_option linter.unusedSimpArgs false
namespace Go.Proofs.Ytfgkkmhafdbicaa.Bd20
open Go.ChangeShapes Go.WideShapes Go.ChangeAt Go.RowKit Base Ints Own Clone RelG PlP Bd1 Bd4 Bd5 Bd6 Bd7 Bd7S Bd8 Bd9 Bd11 RegInv RegF RegG Bd16 Bd17 Bd19

abbrev RelR : Rel Value (List (List Pl)) := relSl RelQ 1 en1
theorem infoS : (Try.prog.info? 88).map (fun i => (i.zero, i.size, i.bytes)) = some (some (.slice none 0 0), 1, 24) := by kernel_rfl
theorem ord_dice {x y : Int} (hx : 1 ≤ x ∧ x ≤ 6) (hy : 1 ≤ y ∧ y ≤ 6) : (∀ o ∈ ordP x y, (∀ d ∈ o, 1 ≤ d ∧ d ≤ 6) ∧ o.length ≤ 4) ∧ (ordP x y).length ≤ 2 := by
  unfold ordP
  split
  · exact ⟨fun o ho => by simp at ho; subst ho; exact ⟨by intro d hd; simp at hd; omega, by simp⟩, by simp⟩
  · exact ⟨fun o ho => by simp at ho; rcases ho with rfl | rfl <;> exact ⟨by intro d hd; simp at hd; omega, by simp⟩, by simp⟩
def sqM (v : Vr) (b : Bd) (os : List (List Int)) : List (List (List Pl)) := os.map fun o => (rowsP v b o).1
def sqF (v : Vr) (b : Bd) (os : List (List Int)) : Bool := os.all fun o => (rowsP v b o).2
theorem sqM_snoc (v : Vr) (b : Bd) (os : List (List Int)) (o : List Int) : sqM v b (os ++ [o]) = sqM v b os ++ [(rowsP v b o).1] := by unfold sqM; rw [List.map_append]; rfl
theorem sqF_snoc (v : Vr) (b : Bd) (os : List (List Int)) (o : List Int) : sqF v b (os ++ [o]) = (sqF v b os && (rowsP v b o).2) := by unfold sqF; rw [List.all_append]; simp
/-- Orders under way. -/
structure Sr2 (w wr : World) (v : Vr) (cs : List Value) (vl : Value) (R : List (List (List Pl))) (uo : Value) (os : List (List Int)) : Prop where
  bel : Below w.heap.size w wr
  rv : RowB wr w.heap.size 32 [.int .i64 v.p, .int .i64 v.c, .int .i64 v.h, .int .i64 v.s]
  rb : RowB wr (w.heap.size + 1) 34 cs
  og : OwnG RelR wr (w.heap.size + 3) wr.heap.size 88 1 en1 vl R
  or_ : SlG RelI 1 en1 wr (NotIn vl 0) uo os
theorem Sr2.below {w wr w' : World} {v : Vr} {cs : List Value} {vl : Value} {R : List (List (List Pl))} {uo : Value} {os : List (List Int)} (h : Sr2 w wr v cs vl R uo os) (hb : Below wr.heap.size wr w') : Sr2 w w' v cs vl R uo os :=
  ⟨h.bel.trans (hb.mono h.bel.size), h.rv.below hb h.rv.lt, h.rb.below hb h.rb.lt, (h.og.below_ hb).more hb.size, (relSl RelI 1 en1).keep h.or_ (.below hb)⟩

set_option maxHeartbeats 4000000 in
set_option maxRecDepth 100000 in
theorem seqs_i (v : Vr) (b : Bd) (hb : Ok v b) (Ao At : Option Addr) (co ct : Nat) (x y : Int) (hx : 1 ≤ x ∧ x ≤ 6) (hy : 1 ≤ y ∧ y ≤ 6) (w : World) (ho : RdS w w.heap.size 1 enI Ao b.1) (ht : RdS w w.heap.size 1 enI At b.2) (hA : Ao = none → co = 0) (hT : At = none → ct = 0) :
    Calls Try.prog 65 #[.agg #[.int .i64 v.p, .int .i64 v.c, .int .i64 v.h, .int .i64 v.s], .agg #[.slice Ao b.1.length co, .slice At b.2.length ct], .agg #[.int .i64 x, .int .i64 y]] w fun e w' => ∃ vv, e = .returned (.tuple #[vv, .bool (sqF v b (ordP x y))]) ∧ OwnG RelR w' w.heap.size w'.heap.size 88 1 en1 vv (sqM v b (ordP x y)) ∧ Below w.heap.size w w' := by
  obtain ⟨iQ, hiQ, hz0, hz1, hz2⟩ := info_parts infoS
  have CO := Lib.hid (fun (w9 : World) => orders_i x y w9)
  obtain ⟨os, hos⟩ : ∃ os, ordP x y = os := ⟨_, rfl⟩
  have HD := ord_dice hx hy
  rw [hos] at HD CO ⊢
  have HDI := Lib.hid HD.1
  have hos2 := HD.2
  obtain ⟨n1, hn1⟩ : ∃ n, b.1.length = n := ⟨_, rfl⟩
  obtain ⟨n2, hn2⟩ : ∃ n, b.2.length = n := ⟨_, rfl⟩
  have CS := Lib.hid (fun (w9 : World) (h : Below w.heap.size w w9) (o : List Int) (ho_ : o ∈ os) (u : Value) (hu : SlV 1 enI w9 All u o) => seqOf_i v b hb Ao At co ct o (HDI.out o ho_).1 (HDI.out o ho_).2 u w9 ((ho.below h (Nat.le_refl _)).more h.size) ((ht.below h (Nat.le_refl _)).more h.size) hA hT hu)
  rw [hn1, hn2] at CS ⊢
  obtain ⟨N, hN⟩ : ∃ N, os.length = N := ⟨_, rfl⟩
  have HN := Lib.hid hN
  rw [hN] at hos2
  clear hb ho ht hA hT hos HD hn1 hn2 hN hx hy
  go_enter Try.func65, Try.ntmps65
  go_upto_region 1 with (fail)
  refine wp_gen (fun W' => Below w.heap.size w W' ∧ RowB W' w.heap.size 32 [.int .i64 v.p, .int .i64 v.c, .int .i64 v.h, .int .i64 v.s] ∧ RowB W' (w.heap.size + 1) 34 [.slice Ao n1 co, .slice At n2 ct] ∧ RowB W' (w.heap.size + 2) 36 [.int .i64 x, .int .i64 y]) ⟨by go_grown, ((RowB.new _ _ _).alloc _).alloc _, RowB.alloc (RowB.new' _ _ _ (by simp)) _, RowB.new' _ _ _ (by simp)⟩ ?_
  rintro w1 ⟨hb1, rv, rb, rr⟩
  obtain ⟨r0, r1⟩ := rr.c2
  have hl2 := rr.lt
  go_wp2_with fail
  refine (CO.out w1).mono ?_
  rintro e w2 ⟨uo, rfl, hor, hb2⟩
  have K : Sr2 w w2 v [.slice Ao n1 co, .slice At n2 ct] (.slice none 0 0) [] uo os := ⟨hb1.trans (hb2.mono hb1.size), rv.below hb2 rv.lt, rb.below hb2 rb.lt, OwnG.nil_ _ _ _ _ _ _ _, (relSl RelI 1 en1).weak hor (fun x _ _ => ⟨fun h => by simp [Value.ownBlock] at h, Nat.zero_le _⟩)⟩
  obtain ⟨Ar, cr, rs0, huo, -⟩ := hor
  have hs3 : w.heap.size + 3 ≤ w2.heap.size := by have := hb2.size; omega
  rw [HN.out] at huo
  subst huo
  clear r0 r1 hl2 rb rr rv hb1 hb2 CO
  have hl1 := K.rv.lt
  go_wp2_with fail
  go_loopw [8, 9, 17] (fun vl fv i wr => ∃ (k : Nat), k ≤ N ∧ i = .int .i64 (k : Int) ∧ fv = .bool (sqF v b (os.take k)) ∧ Sr2 w wr v [.slice Ao n1 co, .slice At n2 ct] vl (sqM v b (os.take k)) (.slice Ar N cr) os ∧ w.heap.size + 3 ≤ wr.heap.size) (fun _ _ i _ => N - (intOf i).toNat)
  case atStart => exact ⟨0, Nat.zero_le _, by first | rfl | trivial, by first | rfl | trivial, K, hs3⟩
  case round =>
    obtain ⟨k, hk, rfl, rfl, K, hs3⟩ := hrel
    clear hl1
    have hl1 := K.rv.lt
    have hl2 := K.rb.lt
    by_cases hlt : k < N
    · obtain ⟨A5, c5, rs, e5, hrd5, hls5, -⟩ := K.or_
      simp only [Value.slice.injEq] at e5
      obtain ⟨rfl, -, rfl⟩ := e5
      obtain ⟨b5, o5, r, rfl, -, hb5, hr, hc5⟩ := hrd5.at_ (i := k) (by rw [hls5.1, HN.out]; exact hlt)
      obtain ⟨o, ho, hRo⟩ := hls5.at_ hr
      have hc5 : wr.cell? ⟨b5, o5 + k, none⟩ = some r := by have := hc5 0 r rfl; simpa using this
      have HOM := Lib.hid (List.mem_of_getElem? ho)
      have HRO := Lib.hid ((RelI).weak hRo (S' := All) (fun _ _ _ => trivial))
      have HM := Lib.hid (show sqM v b (os.take (k + 1)) = sqM v b (os.take k) ++ [(rowsP v b o).1] from by rw [takeS ho, sqM_snoc])
      have HF := Lib.hid (show sqF v b (os.take (k + 1)) = (sqF v b (os.take k) && (rowsP v b o).2) from by rw [takeS ho, sqF_snoc])
      have hkn : (k : Int) < (N : Int) := by omega
      have hwk : IntKind.i64.wrap ((k : Int) + 1) = (k : Int) + 1 := IntWalk.i64_in _ (by omega)
      obtain ⟨X, hX⟩ : ∃ X, sqM v b (os.take k) = X := ⟨_, rfl⟩
      obtain ⟨f, hf⟩ : ∃ f, sqF v b (os.take k) = f := ⟨_, rfl⟩
      have HXL := Lib.hid (show X.length ≤ 2 from by rw [← hX]; unfold sqM; rw [List.length_map, List.length_take, HN.out]; omega)
      rw [hX] at K HM
      rw [hf] at HF ⊢
      clear hX hf hrd5 hls5 hr ho hRo
      obtain ⟨q0, q1, q2, q3⟩ := K.rv.c4
      obtain ⟨z0, z1⟩ := K.rb.c2
      go_wp2_with fail
      refine (CS.out wr K.bel o HOM.out r HRO.out).mono ?_
      rintro e w5 ⟨nv, rfl, hog, hb5'⟩
      have hblk : ∀ g, u8.ownBlock = some g → w.heap.size + 3 ≤ g ∧ g < wr.heap.size := fun g hg => by obtain ⟨rs9, h9, -⟩ := K.og; exact h9.block g hg
      have HNV : SlG RelQ 1 en1 w5 (NotIn u8 (w.heap.size + 3)) nv (rowsP v b o).1 := (relSl RelQ 1 en1).weak (hog.sl en1_len (Nat.le_refl _)) (fun x (hx : wr.heap.size ≤ x) _ => ⟨fun h => by have := (hblk x h).2; omega, by omega⟩)
      have K := K.below hb5'
      have hs5 := hb5'.size
      obtain ⟨An, cn, hnv, -⟩ := Bd19.OwnG.form en1_len hog
      obtain ⟨M, hM⟩ : ∃ M, (rowsP v b o).1.length = M := ⟨_, rfl⟩
      rw [hM] at hnv
      subst hnv
      obtain ⟨fo, hfo⟩ : ∃ f, (rowsP v b o).2 = f := ⟨_, rfl⟩
      rw [hfo] at HF ⊢
      clear hog hb5' hc5 hb5 hblk q0 q1 q2 q3 z0 z1 hl1 hl2 hM hfo
      obtain ⟨rs9, hrs1, hrs2⟩ := K.og
      have hrl := Lib.hid hrs2.1
      have hrow := Lib.hid hrs1.block
      cases f
      all_goals
        go_wp2_with (at_builtin; refine wpL_one rfl _ _ _ rfl (w.heap.size + 3) _ 88 iQ (.slice none 0 0) 1 24 Try.underlying83 hiQ hz0 hz1 hz2 rfl (by decide) en1_len u8 rs9 (.slice An M cn) (by intro u hu; simp [en1] at hu; subst hu; rfl) rfl (hrs1.alloc _) w5.heap.size 1 88 rfl (RowB.new _ _ _) ?c1 ?c2 ?c3 ?_)
        case c1 => have := hrl.out; have := HXL.out; unfold maxLen; omega
        case c2 => have := hrl.out; have := HXL.out; omega
        case c3 => go_size
        intro g6 c6 w6 ho6 hg6 hat6 hlt6
        have hbA : Below w5.heap.size w5 (w5.alloc (.cells #[.slice An M cn] 88)) := by go_grown
        have hat6 : u8.ownBlock = some g6 ∨ g6 = (w5.alloc (.cells #[.slice An M cn] 88)).heap.size := by simpa using hat6
        have hgW := below_grown (w := w5) hbA hg6
        have og := own_snoc (hrs2.keep (.below hbA)) ((relSl RelQ 1 en1).keep HNV (.below hbA)) ho6 hg6 hat6
        have or2 := app_still (K := relSl RelI 1 en1) (n := rs9.length + 1) (c := c6) hg6 hat6 ((relSl RelI 1 en1).keep K.or_ (.below hbA))
        have hbl := hrow.out
        have K9 : Sr2 w w6 v [.slice Ao n1 co, .slice At n2 ct] (.slice (some ⟨g6, 0, none⟩) (rs9.length + 1) c6) (sqM v b (os.take (k + 1))) (.slice (some ⟨b5, o5, none⟩) N cr) os := by
          rw [HM.out]
          exact ⟨K.bel.grown hgW K.bel.size (fun g hg => by have := (hbl g hg).1; omega), K.rv.grown hgW (fun g hg => by have := (hbl g hg).1; omega), K.rb.grown hgW (fun g hg => by have := (hbl g hg).1; omega), og, or2⟩
        have hs6 : w.heap.size + 3 ≤ w6.heap.size := by have := hgW.size; omega
        clear og or2 hgW hat6 hbA ho6 hg6 hbl K hrs1 hrs2 HNV
        go_wp2_with fail
        go_roundw
        case rel => exact ⟨k + 1, by omega, by go_num, by rw [HF.out]; first | rfl | simp, K9, hs6⟩
        case measure => simp [intOf]; omega
    · obtain rfl : k = N := by omega
      have hnk : ¬ ((k : Int) < (k : Int)) := by omega
      have hall : os.take k = os := List.take_of_length_le (by rw [HN.out]; exact Nat.le_refl _)
      rw [hall] at K ⊢
      clear hall
      go_wp2_with fail
      go_ret2
      exact ⟨_, rfl, K.og.less (by omega), K.bel⟩

set_option maxHeartbeats 1000000 in
theorem used_i (all : List (List (List Pl))) (S0 : Nat → Prop) (u : Value) (w : World) (hu : SlG RelR 1 en1 w S0 u all) (h1 : ∀ R ∈ all, 1 ≤ R.length ∧ R.length ≤ 100) :
    Calls Try.prog 66 #[u] w fun e w' => e = .returned (.int .i64 ((usedR all 0 : Nat) : Int)) ∧ w = w' := by
  obtain ⟨Au, cu, rs, rfl, hrd, hls, -⟩ := hu
  obtain ⟨N, hN⟩ : ∃ N, all.length = N := ⟨_, rfl⟩
  have HN := Lib.hid hN
  have hmx := hrd.len
  rw [hls.1, hN] at hmx
  rw [hN]
  obtain ⟨z, hz⟩ : ∃ z, usedR all 0 = z := ⟨_, rfl⟩
  rw [hz]
  have HZ := Lib.hid hz
  have HRD := Lib.hid hrd
  have HLS := Lib.hid hls
  have H1 := Lib.hid h1
  clear hN hz hrd hls h1
  go_enter Try.func66, Try.ntmps66
  go_wp2_with fail
  go_loopw [3, 8] (fun s i wr => ∃ (k t : Nat), k ≤ N ∧ s = .int .i64 (t : Int) ∧ i = .int .i64 (k : Int) ∧ Hid (w = wr) ∧ Hid (t = usedR (all.take k) 0)) (fun _ i _ => N - (intOf i).toNat)
  case atStart => exact ⟨0, 0, Nat.zero_le _, by first | rfl | trivial, by first | rfl | trivial, Lib.hid (by first | rfl | trivial), Lib.hid rfl⟩
  case round =>
    obtain ⟨k, t, hk, rfl, rfl, hw, ht⟩ := hrel
    by_cases hlt : k < N
    · obtain ⟨b5, o5, r, rfl, -, hb5, hr, hc5⟩ := HRD.out.at_ (i := k) (by rw [HLS.out.1, HN.out]; exact hlt)
      obtain ⟨R, hR, hRR⟩ := HLS.out.at_ hr
      obtain ⟨Ar, cr, rs2, rfl, -⟩ := hRR
      have hc5 : wr.cell? ⟨b5, o5 + k, none⟩ = some (.slice Ar R.length cr) := by rw [← hw.out]; have := hc5 0 _ rfl; simpa using this
      have hRl := H1.out R (List.mem_of_getElem? hR)
      have HT := Lib.hid (show usedR (all.take (k + 1)) 0 = max (usedR (all.take k) 0) (R.length - 1) from by rw [takeS hR]; unfold usedR; rw [List.foldl_append]; rfl)
      obtain ⟨M, hM⟩ : ∃ M, R.length = M := ⟨_, rfl⟩
      rw [hM] at hc5 hRl HT
      have hkn : (k : Int) < (N : Int) := by omega
      have e1 : IntKind.i64.wrap ((k : Int) + 1) = (k : Int) + 1 := IntWalk.i64_in _ (by omega)
      have e2 : IntKind.i64.wrap ((M : Int) - 1) = ((M - 1 : Nat) : Int) := by rw [IntWalk.i64_in _ (by omega)]; omega
      obtain ⟨q, hq⟩ : ∃ q, M - 1 = q := ⟨_, rfl⟩
      rw [hq] at e2 HT
      have HS : Hid ((if t < q then (q : Int) else (t : Int)) = ((max t q : Nat) : Int)) := Lib.hid (by
        split <;> omega)
      have HQ := Lib.hid (show max t q = usedR (all.take (k + 1)) 0 from by rw [HT.out, ht.out])
      clear hr hR hM hq hRl
      go_wp2_with fail
      go_roundw
      case rel => exact ⟨k + 1, max t q, by omega, by rw [HS.out], by go_num, hw, HQ⟩
      case measure => simp [intOf]; omega
    · obtain rfl : k = N := by omega
      have hnk : ¬ ((k : Int) < (k : Int)) := by omega
      obtain rfl : t = z := by rw [ht.out, ← HZ.out, List.take_of_length_le (by rw [HN.out]; exact Nat.le_refl _)]
      go_wp2_with fail
      go_ret
      exact ⟨rfl, hw.out⟩
end Go.Proofs.Ytfgkkmhafdbicaa.Bd20
