/-
  impl.splitNumbers, impl.readEventParts, impl.ReadEvent: what they return. Conditions: each theorem's own.
-/
import Derived.Test.YtlfdcefgelpgmaaGreatDoorTxR
set_option linter.unusedVariables false
set_option linter.unusedSimpArgs false
namespace Go.Proofs.YtlfdcefgelpgmaaGreatDoor.TxI
open Go.ChangeShapes Go.WideShapes Go.ChangeAt Go.RowKit Base Ints Own JoinN PlP TxP Num Bd1 Bd5 RegF RegG

theorem infoI : (Tryz.prog.info? 2).map (fun i => (i.zero, i.size, i.bytes)) = some (some (.int .i64 0), 1, 8) := by kernel_rfl
def decF (x : By) : Option Int := if (rdDec x).2 = true then some (rdDec x).1 else none
set_option maxHeartbeats 4000000 in
set_option maxRecDepth 100000 in
theorem split_i (t : By) (c : UInt8) (hl : t.length ≤ 4194304) (w : World) (E : Env w) :
    Calls Tryz.prog 51 #[.string (bs t), .string (bs [c])] w fun e w' => ∃ sv, e = .returned (.tuple #[sv, .bool (mapO decF (spl c t)).isSome]) ∧ OwnS w' w.heap.size w'.heap.size 2 1 enI sv ((mapO decF (spl c t)).getD []) ∧ Below w.heap.size w w' := by
  obtain ⟨i4, hi4, hz0, hz1, hz2⟩ := info_parts infoI
  obtain ⟨R, hR⟩ : ∃ r, mapO decF (spl c t) = r := ⟨_, rfl⟩
  rw [hR]
  have CS := Lib.hid (fun (w9 : World) (E9 : Env w9) => split_w t c hl w9 E9)
  have HW := Lib.hid (fun x hx => Nat.le_trans (spl_word c t x hx) hl)
  obtain ⟨ws, hws⟩ : ∃ x, spl c t = x := ⟨_, rfl⟩
  obtain ⟨n, hn⟩ : ∃ n, ws.length = n := ⟨_, rfl⟩
  have hnl := spl_len c t
  rw [hws, hn] at hnl
  rw [hws] at CS HW hR
  rw [hn] at CS
  have HM := Lib.hid hR.symm
  have HN := Lib.hid hn
  have hn4 : n ≤ 4194305 := by omega
  clear hR hws hn hnl hl
  go_enter Tryz.func51, Tryz.ntmps51
  go_wp2_with fail
  refine (CS.out _ E).mono ?_
  rintro e w3 ⟨A, cp, rfl, hrw, hb3⟩
  have HRW := Lib.hid hrw
  have HB3 := Lib.hid hb3
  have hwl : w.heap.size ≤ w3.heap.size := hb3.size
  clear hrw hb3
  go_wp2_with fail
  go_loopw [6, 8, 9, 10, 15] (fun vl _ _ _ i wr => ∃ (k : Nat) (X : List Int), k ≤ n ∧ i = .int .i64 (k : Int) ∧ Hid (Below w3.heap.size w3 wr) ∧ Hid (OwnS wr w3.heap.size wr.heap.size 2 1 enI vl X) ∧ Hid (mapO decF (ws.take k) = some X) ∧ X.length = k) (fun _ _ _ _ i _ => n - (intOf i).toNat)
  case atStart => exact ⟨0, [], Nat.zero_le _, rfl, Lib.hid (Below.refl _ _), Lib.hid (OwnS.nil_ _ _ _ _ _ _), Lib.hid rfl, rfl⟩
  case round =>
    obtain ⟨k, X, hk, rfl, hb, ho, hX, hXk⟩ := hrel
    by_cases hlt : k < n
    · obtain ⟨b, off, x, rfl, hbb, hxk, hc⟩ := rdBs_at (HRW.out.below hb.out (Nat.le_refl _)) (by rw [HN.out]; exact hlt)
      have HX := Lib.hid hxk
      have hxm := HW.out x (List.mem_of_getElem? hxk)
      have CX := Lib.hid (fun (w9 : World) (E9 : Env w9) => rdd_w x hxm w9 E9)
      obtain ⟨⟨s, ok⟩, hq⟩ : ∃ q, rdDec x = q := ⟨_, rfl⟩
      rw [hq] at CX
      simp only at CX
      have HQ := Lib.hid hq
      obtain ⟨Av, cv, hvl, _⟩ := ho.out.form enI_len
      rw [hXk] at hvl
      subst hvl
      clear hxk hxm hq
      go_wp2_with fail
      refine (CX.out wr (E.below (HB3.out.trans (hb.out.mono HB3.out.size)))).mono ?_
      rintro e w5 ⟨rfl, hb5⟩
      have hbn := Lib.hid (hb.out.trans (hb5.mono hb.out.size))
      have ho := Lib.hid ((ho.out.below hb5 (Nat.le_refl _)).more hb5.size)
      have hs5 := hb5.size
      have hs3 := hb.out.size
      clear hb hb5 CX hc hbb
      cases ok
      case false =>
        have hno : decF x = none := by unfold decF; rw [HQ.out]; rfl
        have hR : R = none := by rw [HM.out]; exact mapO_none hno _ (List.mem_of_getElem? HX.out)
        subst hR
        clear HM hno
        go_wp2_with fail
        go_ret2
        refine ⟨_, rfl, OwnS.nil_ _ _ _ _ _ _, ?_⟩
        exact HB3.out.trans (hbn.out.mono HB3.out.size)
      have hyes : decF x = some s := by unfold decF; rw [HQ.out]; rfl
      have HN1 : Hid (mapO decF (ws.take (k + 1)) = some (X ++ [s])) := by
        show _ = _
        rw [take_succ ws k x HX.out, mapO_snoc, hX.out]
        simp only [hyes, Option.map_some]
      clear hyes HQ
      go_wp2_with (at_builtin; refine wpL_app rfl _ _ _ rfl w3.heap.size _ 2 i4 (.int .i64 0) 1 8 Tryz.underlying45 hi4 hz0 hz1 hz2 rfl (by decide) enI_len one_I (.slice Av k cv) X [s] rfl (ho.out.alloc _) ⟨w5.heap.size, 0, none⟩ 1 1 (by first | rfl | (simp; rfl) | (simp [go_sem]; done)) rfl (news_new (RowB.new _ _ _)) (by decide) ?c1 ?c2 ?c3 ?_)
      case c1 => unfold maxLen; omega
      case c2 => omega
      case c3 => go_size
      intro k2 c2 w7 ho7 hg7 hat7 hlt7
      have hrow : ∀ g, (Value.slice Av k cv).ownBlock = some g → w3.heap.size ≤ g := fun g hg => (ho.out.block g hg).1
      have hg8 : w5.grownBy w7 (Value.slice Av k cv).ownBlock := below_grown (w := w5) (by go_grown) hg7
      have hbn := Lib.hid (hbn.out.grown hg8 hbn.out.size (fun g hg => hrow g hg))
      have hoN := Lib.hid ho7
      have hXk2 : (X ++ [s]).length = k + 1 := by rw [List.length_append, hXk]; rfl
      obtain ⟨Y, hY⟩ : ∃ Y, X ++ [s] = Y := ⟨_, rfl⟩
      rw [hY] at HN1 hoN hXk2
      clear hg7 hg8 hat7 ho7 hrow hY
      go_wp2_with fail
      go_roundw
      case rel => exact ⟨k + 1, Y, by omega, by first | rfl | trivial | go_num, hbn, hoN, HN1, hXk2⟩
      case measure => simp [intOf]; omega
    · obtain rfl : k = n := by omega
      have hR : R = some X := by
        rw [HM.out]
        have := hX.out
        rw [List.take_of_length_le (by rw [HN.out]; exact Nat.le_refl _)] at this
        exact this
      subst hR
      clear HM
      go_wp2_with fail
      go_ret2
      exact ⟨_, rfl, ho.out.less hwl, HB3.out.trans (hb.out.mono HB3.out.size)⟩

theorem five {W : World} {g : Nat} {t : TypeId} {a b c d f : Value} (h : RowB W g t [a, b, c, d, f]) (u v x y z : Value) : RowB (((((W.setCell ⟨g, 0, none⟩ u).setCell ⟨g, 1, none⟩ v).setCell ⟨g, 2, none⟩ x).setCell ⟨g, 3, none⟩ y).setCell ⟨g, 4, none⟩ z) g t [u, v, x, y, z] :=
  ((((h.set 0 u).set 1 v).set 2 x).set 3 y).set 4 z
theorem below_five {B : Nat} {w W : World} (h : Below B w W) {g : Nat} (hg : B ≤ g) (u v x y z : Value) : Below B w (((((W.setCell ⟨g, 0, none⟩ u).setCell ⟨g, 1, none⟩ v).setCell ⟨g, 2, none⟩ x).setCell ⟨g, 3, none⟩ y).setCell ⟨g, 4, none⟩ z) :=
  ((((h.setCell (p := ⟨g, 0, none⟩) hg _).setCell (p := ⟨g, 1, none⟩) hg _).setCell (p := ⟨g, 2, none⟩) hg _).setCell (p := ⟨g, 3, none⟩) hg _).setCell (p := ⟨g, 4, none⟩) hg _
theorem own_five {lo hi : Nat} {W : World} {sv : Value} {ss : List Stp} (h : OwnS W lo hi 91 4 enSt sv ss) {g : Nat} (hg : g < lo) (u v x y z : Value) : OwnS (((((W.setCell ⟨g, 0, none⟩ u).setCell ⟨g, 1, none⟩ v).setCell ⟨g, 2, none⟩ x).setCell ⟨g, 3, none⟩ y).setCell ⟨g, 4, none⟩ z) lo hi 91 4 enSt sv ss :=
  ((((h.setCell (p := ⟨g, 0, none⟩) hg _).setCell (p := ⟨g, 1, none⟩) hg _).setCell (p := ⟨g, 2, none⟩) hg _).setCell (p := ⟨g, 3, none⟩) hg _).setCell (p := ⟨g, 4, none⟩) hg _
/-- The event of an opening is stored (operation 7). -/
structure OpF (w : World) (g : Nat) (a b : Int) (rest : List Value) (p7 : Prop) (w' : World) : Prop where
  bel : Below w.heap.size w w'
  row : ∃ c0 c1 c2 c3 c4, RowB w' (w.heap.size + 1) 28 [c0, c1, c2, c3, c4]
  own : RowB w' g 2 ([.int .i64 a, .int .i64 b] ++ rest)
  f7 : p7 → RowB w' (w.heap.size + 1) 28 [.int .i64 1, .int .i64 a, .int .i64 b, .slice none 0 0, .int .i64 0]
theorem OpF.skip {w w' : World} {g : Nat} {a b : Int} {rest : List Value} {L : Nat → Prop} (F : OpF w g a b rest (L 7) w') (k : Nat) (h : 7 ≠ k) : OpF w g a b rest (7 = k ∨ L 7) w' := by rw [or_ne h]; exact F
theorem row_cell2 {w' : World} {g : Nat} {a b : Int} {rest : List Value} (h : RowB w' g 2 ([.int .i64 a, .int .i64 b] ++ rest)) : w'.cell? ⟨g, 0, none⟩ = some (.int .i64 a) ∧ w'.cell? ⟨g, 1, none⟩ = some (.int .i64 b) := ⟨h.cell 0, h.cell 1⟩
theorem OpF.s7 {w w' : World} {g : Nat} {a b : Int} {rest : List Value} {p7 : Prop} (F : OpF w g a b rest p7 w') (hg : w.heap.size + 2 ≤ g) :
    OpF w g a b rest True (((((w'.setCell ⟨w.heap.size + 1, 0, none⟩ (.int .i64 1)).setCell ⟨w.heap.size + 1, 1, none⟩ (.int .i64 a)).setCell ⟨w.heap.size + 1, 2, none⟩ (.int .i64 b)).setCell ⟨w.heap.size + 1, 3, none⟩ (.slice none 0 0)).setCell ⟨w.heap.size + 1, 4, none⟩ (.int .i64 0)) := by
  obtain ⟨c0, c1, c2, c3, c4, hr⟩ := F.row
  have h2 := five hr (.int .i64 1) (.int .i64 a) (.int .i64 b) (.slice none 0 0) (.int .i64 0)
  have hn : g ≠ w.heap.size + 1 := by omega
  exact ⟨below_five F.bel (by omega) _ _ _ _ _, ⟨_, _, _, _, _, h2⟩, ((((F.own.other (p := ⟨w.heap.size + 1, 0, none⟩) hn _).other (p := ⟨w.heap.size + 1, 1, none⟩) hn _).other (p := ⟨w.heap.size + 1, 2, none⟩) hn _).other (p := ⟨w.heap.size + 1, 3, none⟩) hn _).other (p := ⟨w.heap.size + 1, 4, none⟩) hn _, fun _ => h2⟩
/-- What readEventParts returns: the event that the text names, before a look at its text. -/
def PartsR (v : Vr) (t : By) (w : World) (e : Ending) (w' : World) : Prop :=
  ∃ (k a b : Int) (sv : Value) (ss : List Stp) (r : Int) (ok : Bool), e = .returned (.tuple #[.agg #[.int .i64 k, .int .i64 a, .int .i64 b, sv, .int .i64 r], .bool ok]) ∧ OwnS w' w.heap.size w'.heap.size 91 4 enSt sv ss ∧ Below w.heap.size w w' ∧
    (if ok = true then gEI v t = ⟨k, a, b, ss, r⟩ ∧ t ≠ [] else gEI v t = nulE)
theorem gEI_eq {v : Vr} {t l r : By} {one : Bool} (h : Lib.cut t [32] = (l, r, one)) : gEI v t = if l = opW then (match mapO decF (spl 32 r) with
    | some [a, b] => ⟨1, a, b, [], 0⟩
    | _ => nulE) else if l = tuW then (match rdTI v r with
    | some (x, y, ss) => ⟨2, x, y, ss, 0⟩
    | none => nulE) else if l = reW then (if (rdDec r).2 = true then ⟨3, 0, 0, [], (rdDec r).1⟩ else nulE) else nulE := by
  unfold gEI
  simp only [h]
  rfl
theorem cut_nil_w {l r : By} {one : Bool} (h : Lib.cut [] [32] = (l, r, one)) : l = [] := by
  have : Lib.cut ([] : By) [32] = ([], [], false) := rfl
  rw [this] at h
  simp only [Prod.mk.injEq] at h
  exact h.1.symm
set_option maxHeartbeats 4000000 in
set_option maxRecDepth 100000 in
theorem parts_i (v : Vr) (hv : okV v = true) (t : By) (hl : t.length ≤ 4194304) (w : World) (E : Env w) :
    Calls Tryz.prog 28 #[.agg #[.int .i64 v.p, .int .i64 v.c, .int .i64 v.h, .int .i64 v.s], .string (bs t)] w fun e w' => PartsR v t w e w' := by
  obtain ⟨⟨l, r, one⟩, h1⟩ : ∃ z, Lib.cut t [32] = z := ⟨_, rfl⟩
  have hc := cut_len t [32]
  rw [h1] at hc
  simp only at hc
  have hG := gEI_eq (v := v) h1
  have hne : l ≠ [] → t ≠ [] := fun h e => by subst e; exact h (cut_nil_w h1)
  have CC := Lib.hid (fun (w9 : World) (E9 : Env w9) => cut_w t [32] hl w9 E9)
  rw [h1] at CC
  simp only at CC
  have CS := Lib.hid (fun (w9 : World) (E9 : Env w9) => split_i r 32 (by omega) w9 E9)
  have CT := Lib.hid (fun (w9 : World) (E9 : Env w9) => rturn_i v hv r (by omega) w9 E9)
  have CD := Lib.hid (fun (w9 : World) (E9 : Env w9) => rdd_w r (by omega) w9 E9)
  have HG := Lib.hid hG
  have HNE := Lib.hid hne
  clear hG h1 hc hl hv hne
  go_enter Tryz.func28, Tryz.ntmps28
  go_upto_region 1 with (fail)
  refine wp_gen (fun W' => Bve w W' v [.int .i64 0, .int .i64 0, .int .i64 0, .slice none 0 0, .int .i64 0]) ⟨by go_grown, (RowB.new _ _ _).alloc _, RowB.new' _ _ _ (by simp)⟩ ?_
  intro w1 K
  go_wp2_with fail
  refine (CC.out _ (E.below K.bel)).mono ?_
  rintro e w2 ⟨rfl, hb⟩
  have K := K.below hb
  clear hb CC
  have hle := K.re.lt
  have hlo : w.heap.size + 2 ≤ w2.heap.size := hle
  have fre := K.re.frozen
  obtain ⟨y0, y1, y2, y3, y4⟩ := K.re.c5
  by_cases ho : l = opW
  · have HG2 : Hid (gEI v t = match mapO decF (spl 32 r) with
    | some [a, b] => ⟨1, a, b, [], 0⟩
    | _ => nulE) := by show _ = _; rw [HG.out, if_pos ho]
    have hnt : t ≠ [] := HNE.out (by rw [ho]; decide)
    have HNT := Lib.hid hnt
    have e0 : ((bs l).toList == [111, 112, 101, 110, 105, 110, 103]) = true := by rw [ByteArray.toList_eq, bs_data, ho]; rfl
    obtain ⟨O, hO⟩ : ∃ o, mapO decF (spl 32 r) = o := ⟨_, rfl⟩
    rw [hO] at CS HG2
    clear HG HNE hnt ho hO
    go_wp2_with fail
    refine (CS.out _ (E.below K.bel)).mono ?_
    rintro e w3 ⟨sv, rfl, hos, hb⟩
    have K := K.below hb
    clear y0 y1 y2 y3 y4 hle fre hb CS
    have hle := K.re.lt
    have fre := K.re.frozen
    obtain ⟨y0, y1, y2, y3, y4⟩ := K.re.c5
    cases O with
    | none =>
      have hnul : gEI v t = nulE := HG2.out
      have HNUL := Lib.hid hnul
      clear hnul HG2
      go_wp2_with fail
      refine bp_gen (fun W' => Below w.heap.size w W' ∧ RowB W' (w.heap.size + 1) 28 [.int .i64 0, .int .i64 0, .int .i64 0, .slice none 0 0, .int .i64 0]) ⟨below_five K.bel (by omega) _ _ _ _ _, five K.re _ _ _ _ _⟩ ?_
      rintro w8 ⟨hb8, r8⟩
      obtain ⟨z0, z1, z2, z3, z4⟩ := r8.c5
      refine bodyPost_ret (v := .tuple #[.agg #[.int .i64 0, .int .i64 0, .int .i64 0, .slice none 0 0, .int .i64 0], .bool false]) (by simp [results, Tryz.results28, go_sem, z0, z1, z2, z3, z4]) rfl ?_
      exact ⟨0, 0, 0, _, [], 0, false, rfl, OwnS.nil_ _ _ _ _ _ _, hb8, HNUL.out⟩
    | some X =>
      by_cases hx2 : X.length = 2
      case neg =>
        have hos : OwnS w3 w2.heap.size w3.heap.size 2 1 enI sv X := hos
        obtain ⟨A, cp, hsv, hrd⟩ := hos.form enI_len
        have e1 : ((X.length : Int) == 2) = false := by simp; omega
        have hll := hrd.len
        obtain ⟨nx, hnx⟩ : ∃ n, X.length = n := ⟨_, rfl⟩
        rw [hnx] at hsv e1 hll
        subst hsv
        have hnul : gEI v t = nulE := by
          rw [HG2.out]
          match X, hx2 with
          | [], _ => rfl
          | [a], _ => rfl
          | [a, b], h => exact absurd rfl h
          | a :: b :: c :: l, _ => rfl
        have HNUL := Lib.hid hnul
        clear hnul HG2 hos hrd hnx hx2
        go_wp2_with fail
        refine bp_gen (fun W' => Below w.heap.size w W' ∧ RowB W' (w.heap.size + 1) 28 [.int .i64 0, .int .i64 0, .int .i64 0, .slice none 0 0, .int .i64 0]) ⟨below_five K.bel (by omega) _ _ _ _ _, five K.re _ _ _ _ _⟩ ?_
        rintro w8 ⟨hb8, r8⟩
        obtain ⟨z0, z1, z2, z3, z4⟩ := r8.c5
        refine bodyPost_ret (v := .tuple #[.agg #[.int .i64 0, .int .i64 0, .int .i64 0, .slice none 0 0, .int .i64 0], .bool false]) (by simp [results, Tryz.results28, go_sem, z0, z1, z2, z3, z4]) rfl ?_
        exact ⟨0, 0, 0, _, [], 0, false, rfl, OwnS.nil_ _ _ _ _ _ _, hb8, HNUL.out⟩
      obtain ⟨a, b, rfl⟩ := list2 hx2
      have hos : OwnS w3 w2.heap.size w3.heap.size 2 1 enI sv [a, b] := hos
      have hyes : gEI v t = ⟨1, a, b, [], 0⟩ := HG2.out
      have HY := Lib.hid hyes
      rcases hos.cases_ with ⟨_, h⟩ | ⟨g, cap, rest, hsv, hg1, hg2, hrow, hc1, hc2, hc3⟩
      · cases h
      have hsv2 : sv = .slice (some ⟨g, 0, none⟩) 2 cap := hsv
      subst hsv2
      have hgn : w.heap.size + 2 ≤ g := by omega
      have hrow : RowB w3 g 2 ([.int .i64 a, .int .i64 b] ++ rest) := hrow
      have hc0 : 2 ≤ cap := hc1
      have hcm : cap ≤ 9223372036854775807 := by have := hc2; unfold maxLen at this; omega
      have HK := Lib.hid K
      have HRO := Lib.hid hrow
      clear hos hsv hg1 hg2 hrow hc1 hc2 hc3 hyes HG2 hx2 K y0 y1 y2 y3 y4 hle fre e0 hlo
      go_wp2_with fail
      refine region_rel [some 36, some 37, some 38, some 39, some 40, some 41, some 42, none, some 5] 9 (Pl [some (.slice (some ⟨g, 0, none⟩) 2 cap), some (.pointer (some ⟨g, 0, none⟩)), some (.int .i64 a), some (.slice (some ⟨g, 0, none⟩) 2 cap), some (.pointer (some ⟨g, 1, none⟩)), some (.int .i64 b), some (.agg #[.int .i64 1, .int .i64 a, .int .i64 b, .slice none 0 0, .int .i64 0]), none, some (.bool true)]) (fun L vals w' => OpF w g a b rest (L 7) w') (by kernel_rfl) (by kernel_rfl) (by kernel_rfl) (by kernel_rfl) (by kernel_rfl) (by kernel_rfl) (by kernel_rfl) ?g0_1 ?gst_1 ?gfin_1
      case g0_1 => exact ⟨HK.out.bel.drew, ⟨_, _, _, _, _, HK.out.re.drew⟩, HRO.out.drew, fun h => absurd h (by decide)⟩
      case gst_1 =>
        refine RelFrom.run rfl (fun L vals A w9 hno hdl hcl hu hp h0 F K hK => ?_) ?_
        · have e9 : A.tmps[9]?.getD undef = .slice (some ⟨g, 0, none⟩) 2 cap := h0 9 (fun j _ hj => absurd (List.mem_of_getElem? hj) (by decide))
          clear hu h0 hp
          have cc := row_cell2 F.own
          have c0 := cc.1
          have c1 := cc.2
          have hlg := F.own.lt
          go_simp
          exact hK.out _ w9 (Pl.fix rfl) (F.skip 0 (by decide))
        refine RelFrom.run rfl (fun L vals A w9 hno hdl hcl hu hp h0 F K hK => ?_) ?_
        · have e36 : A.tmps[36]?.getD undef = .slice (some ⟨g, 0, none⟩) 2 cap := (hu 0 36 (by kernel_rfl) rfl).trans (hp 0 (by kernel_rfl) _ rfl)
          clear hu h0 hp
          have cc := row_cell2 F.own
          have c0 := cc.1
          have c1 := cc.2
          have hlg := F.own.lt
          go_simp
          exact hK.out _ w9 (Pl.fix rfl) (F.skip 1 (by decide))
        refine RelFrom.run rfl (fun L vals A w9 hno hdl hcl hu hp h0 F K hK => ?_) ?_
        · have e37 : A.tmps[37]?.getD undef = .pointer (some ⟨g, 0, none⟩) := (hu 1 37 (by kernel_rfl) rfl).trans (hp 1 (by kernel_rfl) _ rfl)
          clear hu h0 hp
          have cc := row_cell2 F.own
          have c0 := cc.1
          have c1 := cc.2
          have hlg := F.own.lt
          go_simp
          exact hK.out _ w9 (Pl.fix rfl) (F.skip 2 (by decide))
        refine RelFrom.run rfl (fun L vals A w9 hno hdl hcl hu hp h0 F K hK => ?_) ?_
        · have e9 : A.tmps[9]?.getD undef = .slice (some ⟨g, 0, none⟩) 2 cap := h0 9 (fun j _ hj => absurd (List.mem_of_getElem? hj) (by decide))
          clear hu h0 hp
          have cc := row_cell2 F.own
          have c0 := cc.1
          have c1 := cc.2
          have hlg := F.own.lt
          go_simp
          exact hK.out _ w9 (Pl.fix rfl) (F.skip 3 (by decide))
        refine RelFrom.run rfl (fun L vals A w9 hno hdl hcl hu hp h0 F K hK => ?_) ?_
        · have e39 : A.tmps[39]?.getD undef = .slice (some ⟨g, 0, none⟩) 2 cap := (hu 3 39 (by kernel_rfl) rfl).trans (hp 3 (by kernel_rfl) _ rfl)
          clear hu h0 hp
          have cc := row_cell2 F.own
          have c0 := cc.1
          have c1 := cc.2
          have hlg := F.own.lt
          go_simp
          exact hK.out _ w9 (Pl.fix rfl) (F.skip 4 (by decide))
        refine RelFrom.run rfl (fun L vals A w9 hno hdl hcl hu hp h0 F K hK => ?_) ?_
        · have e40 : A.tmps[40]?.getD undef = .pointer (some ⟨g, 1, none⟩) := (hu 4 40 (by kernel_rfl) rfl).trans (hp 4 (by kernel_rfl) _ rfl)
          clear hu h0 hp
          have cc := row_cell2 F.own
          have c0 := cc.1
          have c1 := cc.2
          have hlg := F.own.lt
          go_simp
          exact hK.out _ w9 (Pl.fix rfl) (F.skip 5 (by decide))
        refine RelFrom.run rfl (fun L vals A w9 hno hdl hcl hu hp h0 F K hK => ?_) ?_
        · have e38 : A.tmps[38]?.getD undef = .int .i64 a := (hu 2 38 (by kernel_rfl) rfl).trans (hp 2 (by kernel_rfl) _ rfl)
          have e41 : A.tmps[41]?.getD undef = .int .i64 b := (hu 5 41 (by kernel_rfl) rfl).trans (hp 5 (by kernel_rfl) _ rfl)
          clear hu h0 hp
          have cc := row_cell2 F.own
          have c0 := cc.1
          have c1 := cc.2
          have hlg := F.own.lt
          go_simp
          exact hK.out _ w9 (Pl.fix rfl) (F.skip 6 (by decide))
        refine RelFrom.run rfl (fun L vals A w9 hno hdl hcl hu hp h0 F K hK => ?_) ?_
        · have e4 : A.tmps[4]?.getD undef = .pointer (some ⟨w.heap.size + 1, 0, none⟩) := h0 4 (fun j _ hj => absurd (List.mem_of_getElem? hj) (by decide))
          have e42 : A.tmps[42]?.getD undef = .agg #[.int .i64 1, .int .i64 a, .int .i64 b, .slice none 0 0, .int .i64 0] := (hu 6 42 (by kernel_rfl) rfl).trans (hp 6 (by kernel_rfl) _ rfl)
          clear hu h0 hp
          refine F.row.elim fun c0 q => ?_
          refine q.elim fun c1 q => ?_
          refine q.elim fun c2 q => ?_
          refine q.elim fun c3 q => ?_
          refine q.elim fun c4 q => ?_
          have fr := q.frozen
          have hl := q.lt
          have zz := q.c5
          have z0 := zz.1
          have z1 := zz.2.1
          have z2 := zz.2.2.1
          have z3 := zz.2.2.2.1
          have z4 := zz.2.2.2.2
          go_simp
          exact hK.out undef _ (Pl.any rfl) (by simpa [upd] using F.s7 hgn)
        refine RelFrom.run rfl (fun L vals A w9 hno hdl hcl hu hp h0 F K hK => ?_) ?_
        · clear hu h0 hp
          have cc := row_cell2 F.own
          have c0 := cc.1
          have c1 := cc.2
          have hlg := F.own.lt
          go_simp
          exact hK.out _ w9 (Pl.fix rfl) (F.skip 8 (by decide))
        exact RelFrom.nil (by decide)
      case gfin_1 =>
        intro vals w9 hp F
        simp only [Fr, Act.put, List.setIfInBounds_toArray, List.set_cons_zero, List.set_cons_succ, Nat.reduceAdd]
        have h5 : vals 8 = .bool true := hp 8 (by decide) _ rfl
        rw [h5]
        have r8 := F.f7 trivial
        have hb8 := F.bel
        clear F hp h5
        go_wp2_with fail
        obtain ⟨z0, z1, z2, z3, z4⟩ := r8.c5
        refine bodyPost_ret (v := .tuple #[.agg #[.int .i64 1, .int .i64 a, .int .i64 b, .slice none 0 0, .int .i64 0], .bool true]) (by simp [results, Tryz.results28, go_sem, z0, z1, z2, z3, z4]) rfl ?_
        exact ⟨1, a, b, _, [], 0, true, rfl, OwnS.nil_ _ _ _ _ _ _, hb8, HY.out, HNT.out⟩
  by_cases htu : l = tuW
  · have HG2 : Hid (gEI v t = match rdTI v r with
    | some (x, y, ss) => ⟨2, x, y, ss, 0⟩
    | none => nulE) := by show _ = _; rw [HG.out, if_neg ho, if_pos htu]
    have hnt : t ≠ [] := HNE.out (by rw [htu]; decide)
    have HNT := Lib.hid hnt
    have e0 : ((bs l).toList == [111, 112, 101, 110, 105, 110, 103]) = false := by rw [ByteArray.toList_eq, bs_data, htu]; rfl
    have e1 : ((bs l).toList == [116, 117, 114, 110]) = true := by rw [ByteArray.toList_eq, bs_data, htu]; rfl
    obtain ⟨O, hO⟩ : ∃ o, rdTI v r = o := ⟨_, rfl⟩
    rw [hO] at CT HG2
    have hlv := K.rv.lt
    obtain ⟨q0, q1, q2, q3⟩ := K.rv.c4
    clear HG HNE hnt ho htu hO
    go_wp2_with fail
    refine (CT.out _ (E.below K.bel)).mono ?_
    rintro e w3 ⟨x, y, sv, c, ss, rfl, hos, hb, hres⟩
    have hs23 := hb.size
    have K := K.below hb
    clear y0 y1 y2 y3 y4 hle fre hb CT q0 q1 q2 q3 hlv
    have HRES := Lib.hid hres
    obtain ⟨A, cp, hsv, _⟩ := hos.form enSt_len
    obtain ⟨n, hn⟩ : ∃ n, ss.length = n := ⟨_, rfl⟩
    rw [hn] at hsv
    subst hsv
    clear hres hn
    go_upto_region 9 with (fail)
    refine wp_gen (fun W' => Below w3.heap.size w3 W' ∧ Bve w W' v [.int .i64 0, .int .i64 0, .int .i64 0, .slice none 0 0, .int .i64 0] ∧ RowB W' w3.heap.size 49 [.int .i64 x, .int .i64 y] ∧ OwnS W' w2.heap.size w3.heap.size 91 4 enSt (.slice A n cp) ss) ⟨(Below.refl _ _).alloc (Nat.le_refl _) _, K.below ((Below.refl _ _).alloc (Nat.le_refl _) _), RowB.new _ _ _, hos.alloc _⟩ ?_
    clear K hos
    rintro w5 ⟨hb5, K, rx, hos⟩
    have hs35 := hb5.size
    have HOS := Lib.hid hos
    obtain ⟨gx, hgx⟩ : ∃ g, w3.heap.size = g := ⟨_, rfl⟩
    have hgl : w.heap.size + 2 ≤ gx := by omega
    rw [hgx] at rx
    (try rw [hgx])
    clear hos hb5
    have hle := K.re.lt
    have fre := K.re.frozen
    obtain ⟨y0, y1, y2, y3, y4⟩ := K.re.c5
    have hlx := rx.lt
    obtain ⟨x0, x1⟩ := rx.c2
    cases O with
    | none =>
      have hc0 : c ≠ 0 := HRES.out
      have d0 : (c == 0) = false := by simp [hc0]
      have hnul : gEI v t = nulE := HG2.out
      have HNUL := Lib.hid hnul
      clear hc0 hnul HG2 HRES hgx
      go_wp2_with fail
      refine bp_gen (fun W' => Below w.heap.size w W' ∧ RowB W' (w.heap.size + 1) 28 [.int .i64 2, .int .i64 x, .int .i64 y, .slice A n cp, .int .i64 0] ∧ w3.heap.size ≤ W'.heap.size ∧ OwnS W' w2.heap.size w3.heap.size 91 4 enSt (.slice A n cp) ss) ⟨below_five K.bel (by omega) _ _ _ _ _, five K.re _ _ _ _ _, by simpa using hs35, own_five HOS.out (by omega) _ _ _ _ _⟩ ?_
      rintro w8 ⟨hb8, r8, hs8, o8⟩
      obtain ⟨z0, z1, z2, z3, z4⟩ := r8.c5
      refine bodyPost_ret (v := .tuple #[.agg #[.int .i64 2, .int .i64 x, .int .i64 y, .slice A n cp, .int .i64 0], .bool false]) (by simp [results, Tryz.results28, go_sem, z0, z1, z2, z3, z4]) rfl ?_
      exact ⟨2, x, y, _, ss, 0, false, rfl, (o8.less (by omega)).more hs8, hb8, HNUL.out⟩
    | some z =>
      obtain ⟨hz, hc0⟩ : z = (x, y, ss) ∧ c = 0 := HRES.out
      have d0 : (c == 0) = true := by simp [hc0]
      have hyes : gEI v t = ⟨2, x, y, ss, 0⟩ := by rw [HG2.out, hz]
      have HY := Lib.hid hyes
      clear hc0 hyes HG2 HRES hgx hz
      go_wp2_with fail
      refine bp_gen (fun W' => Below w.heap.size w W' ∧ RowB W' (w.heap.size + 1) 28 [.int .i64 2, .int .i64 x, .int .i64 y, .slice A n cp, .int .i64 0] ∧ w3.heap.size ≤ W'.heap.size ∧ OwnS W' w2.heap.size w3.heap.size 91 4 enSt (.slice A n cp) ss) ⟨below_five K.bel (by omega) _ _ _ _ _, five K.re _ _ _ _ _, by simpa using hs35, own_five HOS.out (by omega) _ _ _ _ _⟩ ?_
      rintro w8 ⟨hb8, r8, hs8, o8⟩
      obtain ⟨z0, z1, z2, z3, z4⟩ := r8.c5
      refine bodyPost_ret (v := .tuple #[.agg #[.int .i64 2, .int .i64 x, .int .i64 y, .slice A n cp, .int .i64 0], .bool true]) (by simp [results, Tryz.results28, go_sem, z0, z1, z2, z3, z4]) rfl ?_
      exact ⟨2, x, y, _, ss, 0, true, rfl, (o8.less (by omega)).more hs8, hb8, HY.out, HNT.out⟩
  by_cases hre : l = reW
  · have HG2 : Hid (gEI v t = if (rdDec r).2 = true then ⟨3, 0, 0, [], (rdDec r).1⟩ else nulE) := by show _ = _; rw [HG.out, if_neg ho, if_neg htu, if_pos hre]
    have hnt : t ≠ [] := HNE.out (by rw [hre]; decide)
    have HNT := Lib.hid hnt
    have e0 : ((bs l).toList == [111, 112, 101, 110, 105, 110, 103]) = false := by rw [ByteArray.toList_eq, bs_data, hre]; rfl
    have e1 : ((bs l).toList == [116, 117, 114, 110]) = false := by rw [ByteArray.toList_eq, bs_data, hre]; rfl
    have e2 : ((bs l).toList == [114, 101, 115, 105, 103, 110]) = true := by rw [ByteArray.toList_eq, bs_data, hre]; rfl
    obtain ⟨⟨x, o⟩, hO⟩ : ∃ o, rdDec r = o := ⟨_, rfl⟩
    rw [hO] at CD HG2
    simp only at CD HG2
    clear HG HNE hnt ho htu hre hO CS CT
    go_wp2_with fail
    refine (CD.out _ (E.below K.bel)).mono ?_
    rintro e w3 ⟨rfl, hb⟩
    have K := K.below hb
    clear y0 y1 y2 y3 y4 hle fre hb CD
    have hle := K.re.lt
    have fre := K.re.frozen
    obtain ⟨y0, y1, y2, y3, y4⟩ := K.re.c5
    cases o
    case false =>
      have hnul : gEI v t = nulE := HG2.out
      have HNUL := Lib.hid hnul
      clear hnul HG2
      go_wp2_with fail
      refine bp_gen (fun W' => Below w.heap.size w W' ∧ RowB W' (w.heap.size + 1) 28 [.int .i64 3, .int .i64 0, .int .i64 0, .slice none 0 0, .int .i64 x]) ⟨below_five K.bel (by omega) _ _ _ _ _, five K.re _ _ _ _ _⟩ ?_
      rintro w8 ⟨hb8, r8⟩
      obtain ⟨z0, z1, z2, z3, z4⟩ := r8.c5
      refine bodyPost_ret (v := .tuple #[.agg #[.int .i64 3, .int .i64 0, .int .i64 0, .slice none 0 0, .int .i64 x], .bool false]) (by simp [results, Tryz.results28, go_sem, z0, z1, z2, z3, z4]) rfl ?_
      exact ⟨3, 0, 0, _, [], x, false, rfl, OwnS.nil_ _ _ _ _ _ _, hb8, HNUL.out⟩
    have hyes : gEI v t = ⟨3, 0, 0, [], x⟩ := HG2.out
    have HY := Lib.hid hyes
    clear hyes HG2
    go_wp2_with fail
    refine bp_gen (fun W' => Below w.heap.size w W' ∧ RowB W' (w.heap.size + 1) 28 [.int .i64 3, .int .i64 0, .int .i64 0, .slice none 0 0, .int .i64 x]) ⟨below_five K.bel (by omega) _ _ _ _ _, five K.re _ _ _ _ _⟩ ?_
    rintro w8 ⟨hb8, r8⟩
    obtain ⟨z0, z1, z2, z3, z4⟩ := r8.c5
    refine bodyPost_ret (v := .tuple #[.agg #[.int .i64 3, .int .i64 0, .int .i64 0, .slice none 0 0, .int .i64 x], .bool true]) (by simp [results, Tryz.results28, go_sem, z0, z1, z2, z3, z4]) rfl ?_
    exact ⟨3, 0, 0, _, [], x, true, rfl, OwnS.nil_ _ _ _ _ _ _, hb8, HY.out, HNT.out⟩
  have hnul : gEI v t = nulE := by rw [HG.out, if_neg ho, if_neg htu, if_neg hre]
  have HNUL := Lib.hid hnul
  have e0 : ((bs l).toList == [111, 112, 101, 110, 105, 110, 103]) = false := by rw [ByteArray.toList_eq, bs_data]; exact beq_eq_false_iff_ne.2 ho
  have e1 : ((bs l).toList == [116, 117, 114, 110]) = false := by rw [ByteArray.toList_eq, bs_data]; exact beq_eq_false_iff_ne.2 htu
  have e2 : ((bs l).toList == [114, 101, 115, 105, 103, 110]) = false := by rw [ByteArray.toList_eq, bs_data]; exact beq_eq_false_iff_ne.2 hre
  clear HG HNE ho htu hre CS CT CD hnul
  go_wp2_with fail
  refine bp_gen (fun W' => Below w.heap.size w W' ∧ RowB W' (w.heap.size + 1) 28 [.int .i64 0, .int .i64 0, .int .i64 0, .slice none 0 0, .int .i64 0]) ⟨below_five K.bel (by omega) _ _ _ _ _, five K.re _ _ _ _ _⟩ ?_
  rintro w8 ⟨hb8, r8⟩
  obtain ⟨z0, z1, z2, z3, z4⟩ := r8.c5
  refine bodyPost_ret (v := .tuple #[.agg #[.int .i64 0, .int .i64 0, .int .i64 0, .slice none 0 0, .int .i64 0], .bool false]) (by simp [results, Tryz.results28, go_sem, z0, z1, z2, z3, z4]) rfl ?_
  exact ⟨0, 0, 0, _, [], 0, false, rfl, OwnS.nil_ _ _ _ _ _ _, hb8, HNUL.out⟩
end Go.Proofs.YtlfdcefgelpgmaaGreatDoor.TxI
