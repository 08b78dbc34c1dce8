/-
  impl.ReadSteps: what it returns. Conditions: each theorem's own.
-/
import Derived.Test.YtlfdcefgelpgmaaGreatDoorTxJ
import Derived.Test.YtlfdcefgelpgmaaGreatDoorEnS
import Derived.Test.YtlfdcefgelpgmaaGreatDoorRegG
set_option linter.unusedVariables false
set_option linter.unusedSimpArgs false
namespace Go.Proofs.YtlfdcefgelpgmaaGreatDoor.TxI
open Go.ChangeShapes Go.WideShapes Go.ChangeAt Go.RowKit Base Ints Own JoinN PlP TxP Num Bd1 Bd5 RegG

theorem optS_inv {o : Option Stp} {s : Stp} {ok : Bool} (h : optS o = (s, ok)) : if ok = true then o = some s else o = none := by
  cases o with
  | none => simp [optS] at h; obtain ⟨_, rfl⟩ := h; simp
  | some x => simp [optS] at h; obtain ⟨rfl, rfl⟩ := h; simp
theorem spl_word (c : UInt8) : ∀ (l : By), ∀ x ∈ spl c l, x.length ≤ l.length := by
  intro l
  induction l with
  | nil => intro x hx; simp [spl] at hx; subst hx; simp
  | cons y l ih =>
    intro x hx
    unfold spl at hx
    split at hx
    · rcases List.mem_cons.1 hx with rfl | hx
      · simp
      · have := ih x hx; simp; omega
    · split at hx
      · rename_i p ps hs
        rcases List.mem_cons.1 hx with rfl | hx
        · have := ih p (by rw [hs]; exact List.mem_cons_self ..); simp; omega
        · have := ih x (by rw [hs]; exact List.mem_cons_of_mem _ hx); simp; omega
      · simp at hx; subst hx; simp
set_option maxHeartbeats 4000000 in
set_option maxRecDepth 100000 in
theorem rsteps_i (v : Vr) (hv : okV v = true) (t : By) (hl : t.length ≤ 4194304) (w : World) (E : Env w) :
    Calls Tryz.prog 75 #[.agg #[.int .i64 v.p, .int .i64 v.c, .int .i64 v.h, .int .i64 v.s], .string (bs t)] w fun e w' => ∃ sv, e = .returned (.tuple #[sv, .bool (rdSs v t).isSome]) ∧ OwnS w' w.heap.size w'.heap.size 91 4 enSt sv ((rdSs v t).getD []) ∧ Below w.heap.size w w' := by
  obtain ⟨i4, hi4, hz0, hz1, hz2⟩ := info_parts infoSt
  obtain ⟨R, hR⟩ : ∃ r, rdSs v t = r := ⟨_, rfl⟩
  rw [hR]
  have HR := Lib.hid hR
  have CV := Lib.hid (fun w9 => var_i v true hv w9)
  have CS := Lib.hid (fun (w9 : World) (E9 : Env w9) => split_w t 32 hl w9 E9)
  have CR := Lib.hid (fun (x : By) (hx : x.length ≤ 4194304) (w9 : World) (E9 : Env w9) => rstep_i v hv x hx w9 E9)
  have HW := Lib.hid (fun x hx => Nat.le_trans (spl_word 32 t x hx) hl)
  obtain ⟨ws, hws⟩ : ∃ x, spl 32 t = x := ⟨_, rfl⟩
  obtain ⟨n, hn⟩ : ∃ n, ws.length = n := ⟨_, rfl⟩
  have hnl := spl_len 32 t
  rw [hws, hn] at hnl
  rw [hws] at CS HW
  rw [hn] at CS
  have HWS := Lib.hid hws
  have HN := Lib.hid hn
  have HV := Lib.hid hv
  clear hR hv hws hn
  go_enter Tryz.func75, Tryz.ntmps75
  go_upto_region 1 with (fail)
  refine wp_gen (fun W' => Below w.heap.size w W' ∧ RowB W' w.heap.size 25 [.int .i64 v.p, .int .i64 v.c, .int .i64 v.h, .int .i64 v.s]) ⟨by go_grown, RowB.new _ _ _⟩ ?_
  rintro w1 ⟨hb1, rv⟩
  obtain ⟨q0, q1, q2, q3⟩ := rv.c4
  have hlv := rv.lt
  go_wp2_with fail
  refine (CV.out _).mono ?_
  rintro e w2 ⟨rfl, hb⟩
  have hb1 := hb1.trans (hb.mono hb1.size)
  have rv := rv.below hb hlv
  clear q0 q1 q2 q3 hlv hb
  by_cases h45 : t = [45]
  · have hR : R = some [] := by rw [← HR.out]; unfold rdSs; rw [if_pos h45]
    have e1 : ((bs t).toList == [45]) = true := by rw [ByteArray.toList_eq, bs_data, h45]; rfl
    subst hR
    clear h45
    go_wp2_with fail
    go_ret2
    exact ⟨_, rfl, OwnS.nil_ _ _ _ _ _ _, hb1⟩
  have e1 : ((bs t).toList == [45]) = false := by rw [ByteArray.toList_eq, bs_data]; exact beq_eq_false_iff_ne.2 h45
  have hl2 := rv.lt
  go_wp2_with fail
  refine (CS.out _ (E.below hb1)).mono ?_
  rintro e w3 ⟨A, cp, rfl, hrw, hb3⟩
  have hb3' := hb1.trans (hb3.mono hb1.size)
  have rv := rv.below hb3 hl2
  have hwl : w.heap.size + 1 ≤ w3.heap.size := rv.lt
  have HRW := Lib.hid hrw
  clear hrw hb1 hb3 hl2
  by_cases h4 : 4 < n
  · have hR : R = none := by rw [← HR.out]; unfold rdSs; rw [if_neg h45, HWS.out, HN.out, if_pos h4]
    have d4 : decide ((4 : Int) < (n : Int)) = true := decide_eq_true (by omega)
    subst hR
    clear h45 h4
    go_wp2_with fail
    go_ret2
    exact ⟨_, rfl, OwnS.nil_ _ _ _ _ _ _, hb3'⟩
  have HM : Hid (R = mapO (rdI v) ws) := by show _ = _; rw [← HR.out]; unfold rdSs; rw [if_neg h45, HWS.out, HN.out, if_neg h4]
  have d4 : decide ((4 : Int) < (n : Int)) = false := decide_eq_false (by omega)
  have hn4 : n ≤ 4 := by omega
  have HB3 := Lib.hid hb3'
  have RV3 := Lib.hid rv
  clear h45 e1 HR h4 HWS hnl hb3' rv
  go_wp2_with fail
  go_loopw [7, 9, 11, 24] (fun vl _ _ i wr => ∃ (k : Nat) (X : List Stp), k ≤ n ∧ i = .int .i64 (k : Int) ∧ Hid (Below w3.heap.size w3 wr) ∧ Hid (OwnS wr w3.heap.size wr.heap.size 91 4 enSt vl X) ∧ Hid (mapO (rdI v) (ws.take k) = some X) ∧ X.length = k) (fun _ _ _ i _ => n - (intOf i).toNat)
  case atStart => exact ⟨0, [], Nat.zero_le _, rfl, Lib.hid (Below.refl _ _), Lib.hid (OwnS.nil_ _ _ _ _ _ _), Lib.hid rfl, rfl⟩
  case round =>
    obtain ⟨k, X, hk, rfl, hb, ho, hX, hXk⟩ := hrel
    clear d4
    by_cases hlt : k < n
    · obtain ⟨b, off, x, rfl, hbb, hxk, hc⟩ := rdBs_at (HRW.out.below hb.out (Nat.le_refl _)) (by rw [HN.out]; exact hlt)
      have HX := Lib.hid hxk
      have hxm := HW.out x (List.mem_of_getElem? hxk)
      have CX := Lib.hid (fun (w9 : World) (E9 : Env w9) => CR.out x hxm w9 E9)
      obtain ⟨⟨s, ok⟩, hq⟩ : ∃ q, optS (rdI v x) = q := ⟨_, rfl⟩
      rw [hq] at CX
      have HQ := Lib.hid (optS_inv hq)
      obtain ⟨Av, cv, hvl, _⟩ := ho.out.form enSt_len
      rw [hXk] at hvl
      subst hvl
      have rv := RV3.out.below hb.out hwl
      have hlv := rv.lt
      obtain ⟨q0, q1, q2, q3⟩ := rv.c4
      clear hxk hxm hq
      go_wp2_with fail
      refine (CX.out wr (E.below (HB3.out.trans (hb.out.mono HB3.out.size)))).mono ?_
      rintro e w5 ⟨rfl, hb5⟩
      unfold stpV
      have hbn := Lib.hid (hb.out.trans (hb5.mono hb.out.size))
      have ho := Lib.hid ((ho.out.below hb5 (Nat.le_refl _)).more hb5.size)
      have hs5 := hb5.size
      have hs3 := hb.out.size
      clear q0 q1 q2 q3 hlv rv hb hb5 CX hc hbb
      cases ok
      case false =>
        have hno : rdI v x = none := HQ.out
        have hR : R = none := by rw [HM.out]; exact mapO_none hno _ (List.mem_of_getElem? HX.out)
        subst hR
        clear HM hno
        go_wp2_with fail
        go_ret2
        refine ⟨_, rfl, OwnS.nil_ _ _ _ _ _ _, ?_⟩
        exact HB3.out.trans ((hbn.out.alloc hbn.out.size _).mono HB3.out.size)
      have hyes : rdI v x = some s := HQ.out
      have HN1 : Hid (mapO (rdI v) (ws.take (k + 1)) = some (X ++ [s])) := by
        show _ = _
        rw [take_succ ws k x HX.out, mapO_snoc, hX.out]
        simp only [hyes, Option.map_some]
      clear hyes HQ
      go_wp2_with (at_builtin; refine wpL_app rfl _ _ _ rfl w3.heap.size _ 91 i4 (.agg #[.int .i64 0, .int .i64 0, .int .i64 0, .bool false]) 4 32 Tryz.underlying26 hi4 hz0 hz1 hz2 rfl (by decide) enSt_len one_St (.slice Av k cv) X [s] rfl ((ho.out.alloc _).alloc _) ⟨(w5.alloc (.cells #[.int .i64 s.1, .int .i64 s.2.1, .int .i64 s.2.2.1, .bool s.2.2.2] 91)).heap.size, 0, none⟩ 1 1 (by first | rfl | (simp; rfl) | (simp [go_sem]; done)) rfl (news_new (RowB.new _ _ _)) (by decide) ?c1 ?c2 ?c3 ?_)
      case c1 => unfold maxLen; omega
      case c2 => omega
      case c3 => go_size
      intro k2 c2 w7 ho7 hg7 hat7 hlt7
      have hrow : ∀ g, (Value.slice Av k cv).ownBlock = some g → w3.heap.size ≤ g := fun g hg => (ho.out.block g hg).1
      have hg8 : w5.grownBy w7 (Value.slice Av k cv).ownBlock := below_grown (w := w5) (by go_grown) hg7
      have hbn := Lib.hid (hbn.out.grown hg8 hbn.out.size (fun g hg => hrow g hg))
      have hoN := Lib.hid ho7
      have hXk2 : (X ++ [s]).length = k + 1 := by rw [List.length_append, hXk]; rfl
      obtain ⟨Y, hY⟩ : ∃ Y, X ++ [s] = Y := ⟨_, rfl⟩
      rw [hY] at HN1 hoN hXk2
      clear hg7 hg8 hat7 ho7 hrow hY
      go_wp2_with fail
      go_roundw
      case rel => exact ⟨k + 1, Y, by omega, by first | rfl | trivial | go_num, hbn, hoN, HN1, hXk2⟩
      case measure => simp [intOf]; omega
    · obtain rfl : k = n := by omega
      have hR : R = some X := by
        rw [HM.out]
        have := hX.out
        rw [List.take_of_length_le (by rw [HN.out]; exact Nat.le_refl _)] at this
        exact this
      subst hR
      clear HM
      go_wp2_with fail
      go_ret2
      exact ⟨_, rfl, ho.out.less (by omega), HB3.out.trans (hb.out.mono HB3.out.size)⟩
end Go.Proofs.YtlfdcefgelpgmaaGreatDoor.TxI
