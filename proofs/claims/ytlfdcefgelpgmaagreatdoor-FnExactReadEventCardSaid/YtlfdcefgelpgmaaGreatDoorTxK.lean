/-
  impl.StepsText: what it returns. Conditions: each theorem's own.
-/
import Derived.Test.YtlfdcefgelpgmaaGreatDoorTxW
import Derived.Test.YtlfdcefgelpgmaaGreatDoorEnS
import Derived.Test.YtlfdcefgelpgmaaGreatDoorOwn
import Derived.Laws.MakeOwn
set_option linter.unusedVariables false
set_option linter.unusedSimpArgs false
namespace Go.Proofs.YtlfdcefgelpgmaaGreatDoor.TxI
open Go.ChangeShapes Go.WideShapes Go.ChangeAt Go.RowKit Base Ints Own JoinN PlP TxP Num Bd1 Bd5

theorem enBs_len (x : By) : (enBs x).length = 1 := rfl
set_option maxHeartbeats 4000000 in
set_option maxRecDepth 100000 in
theorem steps_i (v : Vr) (A : Option Addr) (cp B : Nat) (ss : List Stp) (R : By) (hR : (if okV v = true then stpsT v ss else []) = R) (w : World) (hB : B ≤ w.heap.size) (hr : RdS w B 4 enSt A ss) (E : Env w) :
    Calls Tryz.prog 43 #[.agg #[.int .i64 v.p, .int .i64 v.c, .int .i64 v.h, .int .i64 v.s], .slice A ss.length cp] w fun e w' => e = .returned (.string (bs R)) ∧ Below w.heap.size w w' := by
  obtain ⟨i0, hi, hz0, hz1, hz2⟩ := info_parts infoT
  have hln := hr.len
  obtain ⟨n, hn⟩ : ∃ n, ss.length = n := ⟨_, rfl⟩
  obtain ⟨ok, hok⟩ : ∃ b, okV v = b := ⟨_, rfl⟩
  have CV := Lib.hid (fun w9 => var_i v ok hok w9)
  rw [hn] at hln ⊢
  have HN := Lib.hid hn
  have HR := Lib.hid hR
  have HO := Lib.hid hok
  clear hR hn hok
  go_enter Tryz.func43, Tryz.ntmps43
  go_upto_region 1 with (fail)
  refine wp_gen (fun W' => Below w.heap.size w W' ∧ RowB W' w.heap.size 25 [.int .i64 v.p, .int .i64 v.c, .int .i64 v.h, .int .i64 v.s]) ⟨by go_grown, RowB.new _ _ _⟩ ?_
  rintro w1 ⟨hb1, rv⟩
  obtain ⟨q0, q1, q2, q3⟩ := rv.c4
  have hlv := rv.lt
  go_wp2_with fail
  refine (CV.out _).mono ?_
  rintro e w2 ⟨rfl, hb⟩
  have hb1 := hb1.trans (hb.mono hb1.size)
  have rv := rv.below hb hlv
  clear q0 q1 q2 q3 hlv hb
  cases ok
  case false =>
    obtain rfl : R = [] := by rw [← HR.out, HO.out]; rfl
    go_wp2_with fail
    go_ret
    exact ⟨rfl, hb1⟩
  have HS : Hid (stpsT v ss = R) := by show _ = _; rw [← HR.out, HO.out]; rfl
  clear HR
  by_cases h4 : 4 < n
  · obtain rfl : R = [] := by rw [← HS.out]; unfold stpsT; rw [if_pos (by rw [HN.out]; exact h4)]
    have d4 : decide ((4 : Int) < (n : Int)) = true := decide_eq_true (by omega)
    clear h4
    go_wp2_with fail
    go_ret
    exact ⟨rfl, hb1⟩
  have d4 : decide ((4 : Int) < (n : Int)) = false := decide_eq_false (by omega)
  by_cases h0 : n = 0
  · obtain rfl : R = [45] := by rw [← HS.out]; unfold stpsT; rw [if_neg (by rw [HN.out]; exact h4), if_pos (by rw [HN.out]; exact h0)]
    have d0 : ((n : Int) == 0) = true := by simp [h0]
    clear h0 h4
    go_wp2_with fail
    go_ret
    exact ⟨rfl, hb1⟩
  have d0 : ((n : Int) == 0) = false := by simp [h0]
  have HT : Hid (R = if allPl v ss = true then Lib.join (ss.map (stpT v)) [32] else []) := by show _ = _; rw [← HS.out]; unfold stpsT; rw [if_neg (by rw [HN.out]; exact h4), if_neg (by rw [HN.out]; exact h0)]
  have hl2 := rv.lt
  clear HS
  go_wp2_with (at_make; refine wpList_make_full _ rfl _ _ _ rfl w2.heap.size 9 i0 _ 1 Tryz.underlying92 hi hz0 hz1 _ _ _ _ n rfl rfl rfl rfl ?c1 ?c2 (Nat.le_refl _) ?_)
  case c1 => rw [hz2]; omega
  case c2 => unfold maxLen; omega
  intro w3 hown hgrow
  have hrow := Lib.hid (RowB.of_own hown)
  have hb3 : Below w2.heap.size w2 w3 := (Below.refl _ _).grown hgrow (Nat.le_refl _) (by simp)
  have hbel := hb1.trans (hb3.mono hb1.size)
  have rv := rv.below hb3 hl2
  obtain ⟨G, hG⟩ : ∃ g, w2.heap.size = g := ⟨_, rfl⟩
  have hgl : w.heap.size + 1 ≤ G := by rw [← hG]; exact hl2
  rw [hG] at hrow ⊢
  have hn4 : n ≤ 4 := by omega
  have hn0 : 0 < n := by omega
  clear hown hgrow hb1 hb3 hl2 hG d4 d0 h4 h0 hi hz0 hz1 hz2
  go_wp2_with fail
  go_loopw [6, 24] (fun _ i wr => ∃ k : Nat, k ≤ n ∧ i = .int .i64 (k : Int) ∧ Below w.heap.size w wr ∧ RowB wr w.heap.size 25 [.int .i64 v.p, .int .i64 v.c, .int .i64 v.h, .int .i64 v.s] ∧ Hid (RowB wr G 9 (((ss.take k).map (stpT v)).flatMap enBs ++ List.replicate (n - k) (.string ⟨#[]⟩))) ∧ Hid (∀ s ∈ ss.take k, plainB v s = true)) (fun _ i _ => n - (intOf i).toNat)
  case atStart => exact ⟨0, Nat.zero_le _, rfl, hbel, rv, by simpa [made_rep] using hrow, Lib.hid (fun s hs => by simp at hs)⟩
  case round =>
    obtain ⟨k, hk, rfl, hbe, rv, hR, hpl⟩ := hrel
    clear hbel hrow
    have hl := hR.out.lt
    have hlv := rv.lt
    obtain ⟨q0, q1, q2, q3⟩ := rv.c4
    by_cases hlt : k < n
    · obtain ⟨b, off, f, t, d, h, rfl, hb, hxk, x0, x1, x2, x3⟩ := rdStp_at (hr.below hbe hB) (by rw [HN.out]; exact hlt)
      have HX := Lib.hid hxk
      have hbw : b < wr.heap.size := by have := hbe.size; omega
      clear hxk
      go_upto_region 9 with (fail)
      refine wp_gen (fun W' => Below wr.heap.size wr W' ∧ RowB W' wr.heap.size 91 [.int .i64 f, .int .i64 t, .int .i64 d, .bool h]) ⟨(Below.refl _ _).alloc (Nat.le_refl _) _, RowB.new _ _ _⟩ ?_
      rintro w4 ⟨hb4, rs⟩
      obtain ⟨gs, hgs⟩ : ∃ g, wr.heap.size = g := ⟨_, rfl⟩
      have hbe4 := hbe.trans (hb4.mono hbe.size)
      have rv := rv.below hb4 hlv
      have hR := Lib.hid (hR.out.below hb4 hl)
      rw [hgs] at rs ⊢
      clear q0 q1 q2 q3 x0 x1 x2 x3 hb hbw hl hlv hb4 hgs hbe
      have hl := hR.out.lt
      have hlv := rv.lt
      have hls := rs.lt
      obtain ⟨q0, q1, q2, q3⟩ := rv.c4
      obtain ⟨x0, x1, x2, x3⟩ := rs.c4
      obtain ⟨pb, hpb⟩ : ∃ b, plainB v (f, t, d, h) = b := ⟨_, rfl⟩
      have CP := Lib.hid (fun w9 => plain_i v HO.out (f, t, d, h) pb hpb w9)
      simp only at CP
      have HPB := Lib.hid hpb
      clear hpb
      go_wp2_with fail
      refine (CP.out _).mono ?_
      rintro e w5 ⟨rfl, hb5⟩
      have hbe5 := hbe4.trans (hb5.mono hbe4.size)
      have rv := rv.below hb5 hlv
      have rs := rs.below hb5 hls
      have hR := Lib.hid (hR.out.below hb5 hl)
      clear q0 q1 q2 q3 x0 x1 x2 x3 hl hlv hls hb5 hbe4 CP
      have hl := hR.out.lt
      have hlv := rv.lt
      have hls := rs.lt
      obtain ⟨q0, q1, q2, q3⟩ := rv.c4
      obtain ⟨x0, x1, x2, x3⟩ := rs.c4
      cases pb
      case false =>
        have hRn : R = [] := by
          rw [HT.out, if_neg]
          intro ha
          have := List.all_eq_true.1 ha _ (List.mem_of_getElem? HX.out)
          rw [HPB.out] at this
          simp at this
        subst hRn
        clear HT
        go_wp2_with fail
        go_ret
        exact ⟨rfl, hbe5⟩
      have CT := Lib.hid (fun (w9 : World) (E9 : Env w9) => step_i v HO.out (f, t, d, h) HPB.out w9 E9.tab)
      obtain ⟨tx, htx⟩ : ∃ x, stpT v (f, t, d, h) = x := ⟨_, rfl⟩
      rw [htx] at CT
      simp only at CT
      have HTX := Lib.hid htx
      clear htx
      go_wp2_with fail
      refine (CT.out _ (E.below hbe5)).mono ?_
      rintro e w6 ⟨rfl, hb6⟩
      have hbe6 := hbe5.trans (hb6.mono hbe5.size)
      have rv := rv.below hb6 hlv
      have hR2 := Lib.hid (hR.out.below hb6 hl)
      clear q0 q1 q2 q3 x0 x1 x2 x3 hl hlv hls hb6 hbe5 CT rs hR
      have hl2 := hR2.out.lt
      have hf2 := hR2.out.frozen
      have hgw : w.heap.size ≠ G := by omega
      obtain ⟨z, hz⟩ : ∃ z, w6.cell? ⟨G, k, none⟩ = some z := by
        rw [hR2.out.cell]
        refine ⟨_, List.getElem?_eq_getElem ?_⟩
        rw [List.length_append, flatMap_len enBs_len, List.length_map, List.length_take, List.length_replicate, HN.out]
        omega
      have HF : Hid (RowB (w6.setCell ⟨G, k, none⟩ (.string (bs tx))) G 9 (((ss.take (k + 1)).map (stpT v)).flatMap enBs ++ List.replicate (n - (k + 1)) (.string ⟨#[]⟩))) := by
        have h3 := hR2.out.set k (.string (bs tx))
        obtain ⟨m, hm⟩ : ∃ m, n - k = m + 1 := ⟨n - k - 1, by omega⟩
        have hmk : (ss.map (stpT v))[k]? = some tx := by rw [List.getElem?_map, HX.out, ← HTX.out]; rfl
        rw [hm, List.map_take, fill1 hmk rfl enBs_len] at h3
        rw [show n - (k + 1) = m from by omega, List.map_take]
        exact h3
      have HQ : Hid (∀ s ∈ ss.take (k + 1), plainB v s = true) := by
        show ∀ s ∈ ss.take (k + 1), plainB v s = true
        rw [take_succ ss k _ HX.out]
        intro s hs
        rcases List.mem_append.1 hs with hs | hs
        · exact hpl.out s hs
        · simp at hs; subst hs; exact HPB.out
      have qs := Lib.hid (hbe6.setCell (p := ⟨G, k, none⟩) (by show w.heap.size ≤ G; omega) (.string (bs tx)))
      have qv := Lib.hid (rv.other (p := ⟨G, k, none⟩) hgw (.string (bs tx)))
      clear rv
      go_wp2_with fail
      go_roundw
      case rel => exact ⟨k + 1, by omega, by go_num, qs.out, qv.out, HF, HQ⟩
      case measure => simp [intOf]; omega
    · obtain rfl : k = n := by omega
      have row := hR.out
      rw [Nat.sub_self, List.replicate_zero, List.append_nil, List.take_of_length_le (by rw [HN.out]; exact Nat.le_refl _)] at row
      have hall : allPl v ss = true := by
        unfold allPl
        rw [List.all_eq_true]
        intro s hs
        exact hpl.out s (by rw [List.take_of_length_le (by rw [HN.out]; exact Nat.le_refl _)]; exact hs)
      have hRj : R = Lib.join (ss.map (stpT v)) [32] := by rw [HT.out, if_pos hall]
      have hlen := stpsT_len HO.out (ss := ss)
      have hst : stpsT v ss = Lib.join (ss.map (stpT v)) [32] := by unfold stpsT; rw [if_neg (by rw [HN.out]; omega), if_neg (by rw [HN.out]; omega), if_pos hall]
      rw [hst, ← hRj] at hlen
      have HJ : Hid ((ss.map fun s => bs (stpT v s)).map (·.data.toList) = ss.map (stpT v)) := by show _ = _; rw [List.map_map]; exact List.map_congr_left fun x _ => rfl
      have CJ := Tryz.strings_Join G 0 k (ss.map fun s => bs (stpT v s)) (bs [32]) wr (fun j x hj => by
        rw [List.getElem?_map] at hj
        obtain ⟨y, hy, rfl⟩ := Option.map_eq_some_iff.1 hj
        rw [Nat.zero_add, row.cell]
        have hy2 : (ss.map (stpT v))[j]? = some (stpT v y) := by rw [List.getElem?_map, hy]; rfl
        have := flatMap_at enBs_len (ss.map (stpT v)) j _ hy2 0 _ rfl
        simpa using this) row.lt (by rw [List.length_map, HN.out]; omega) (by rw [List.length_map, HN.out]; exact Nat.le_refl _) (by rw [HJ.out, bs_data, ← hRj]; omega)
      rw [List.length_map, HN.out, HJ.out, bs_data, ← hRj] at CJ
      have CJ := Lib.hid CJ
      clear hR row hall hRj hlen hst HT HJ q0 q1 q2 q3 hl hlv
      go_wp2_with fail
      refine CJ.out.mono ?_
      rintro e w2 ⟨rfl, hb2⟩
      go_wp2_with fail
      go_ret
      exact ⟨rfl, hbe.trans (hb2.mono hbe.size)⟩
end Go.Proofs.YtlfdcefgelpgmaaGreatDoor.TxI
