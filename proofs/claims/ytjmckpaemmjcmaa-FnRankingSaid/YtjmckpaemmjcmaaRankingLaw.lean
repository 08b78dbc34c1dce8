/-
  The law on rankings: the ranking contains every index once, the greatest values first. Conditions: none beyond the given row's.
-/
import Derived.Test.YtjmckpaemmjcmaaRankDraw
import Derived.Test.YtjmckpaemmjcmaaRankJ
import Derived.Test.YtjmckpaemmjcmaaHas
set_option linter.unusedVariables false
namespace Go.Proofs.Ytjmckpaemmjcmaa.RankingLaw
open Go.ChangeShapes Go.WideShapes Go.ChangeAt Go.RowKit Base Base2 Ints Own Draw DrawL Rating RankPlain RankC RankI RankJ RankDraw Has

theorem isR_zero (w : World) : Calls Try.prog 11 #[.agg #[.int .i64 0, .int .i64 0]] w fun r w' => r = .returned (.bool true) ∧ Below w.heap.size w w' := isR_impl 0 0 w
theorem arr_at {l : List Nat} {k v : Nat} (h : l[k]? = some v) : (arr l)[k]? = some ((v : Nat) : Int) := by unfold arr; rw [List.getElem?_map, h]; rfl
theorem arr_length (l : List Nat) : (arr l).length = l.length := by unfold arr; rw [List.length_map]
theorem not_before {R : Nat → Nat → Prop} (hR : ∀ a b, R a b → a ≠ b) {l : List Nat} (hp : l.Pairwise R) {m v : Nat} (hm : l[m]? = some v) : decide (((v : Nat) : Int) ∈ (arr l).take m) = false := by
  refine decide_eq_false fun h => ?_
  unfold arr at h
  rw [← List.map_take, List.mem_map] at h
  obtain ⟨y, hy, he⟩ := h
  obtain ⟨i, hi⟩ := List.getElem?_of_mem hy
  rw [List.getElem?_take] at hi
  split at hi
  · rename_i him
    obtain ⟨hil, rfl⟩ := List.getElem?_eq_some_iff.1 hi
    obtain ⟨hml, rfl⟩ := List.getElem?_eq_some_iff.1 hm
    exact hR _ _ (List.pairwise_iff_getElem.1 hp i m hil hml him) (by omega)
  · cases hi
theorem pw_next {R : Nat → Nat → Prop} {l : List Nat} (hp : l.Pairwise R) {k a b : Nat} (ha : l[k]? = some a) (hb : l[k + 1]? = some b) : R a b := by
  obtain ⟨h1, rfl⟩ := List.getElem?_eq_some_iff.1 ha
  obtain ⟨h2, rfl⟩ := List.getElem?_eq_some_iff.1 hb
  exact List.pairwise_iff_getElem.1 hp k (k + 1) h1 h2 (Nat.lt_succ_self _)

set_option maxHeartbeats 8000000 in
set_option maxRecDepth 100000 in
theorem ranking (Ac : Option Addr) (cpc : Nat) (cs : List Int) (W : World) (hr : RdS W W.heap.size 1 enB Ac cs) (hw : ∀ x ∈ cs, (Lit.int .u8 x).wf = true) :
    Calls Try.prog 7 #[.slice Ac cs.length cpc] W fun e w' => e = .returned (.bool true) ∧ Below W.heap.size W w' := by
  cases hbig : decide ((4096 : Int) < (cs.length : Int))
  case true =>
    have HB := Lib.hid hbig; clear hbig
    go_enter Try.func7, Try.ntmps7
    go_wp2_with fail
    refine (DrawR.bigB _ cpc Ac true HB.out _ hr.1).mono ?_
    rintro e w1 ⟨rfl, rfl⟩
    go_wp2_with fail
    go_ret
    exact ⟨rfl, Below.refl _ _⟩
  have HB := Lib.hid hbig; clear hbig
  go_enter Try.func7, Try.ntmps7
  go_wp2_with fail
  refine (DrawR.bigB _ cpc Ac false HB.out _ hr.1).mono ?_
  rintro e w1 ⟨rfl, rfl⟩
  go_wp2_with fail
  refine (drawRank hr hw).mono ?_
  rintro e w2 ⟨v, ls, rfl, o1, h9, q2⟩
  clear hr hw
  obtain ⟨A1, c1, rfl, _⟩ := o1.form enI2_len
  have z2 := q2.size
  go_wp2_with fail
  refine (rankI w2.heap.size A1 c1 ls _ (Nat.le_refl _) (o1.rd enI2_len)).mono ?_
  rintro e w3 ⟨⟨vo, rfl, oo⟩, hb3⟩
  have o1 := o1.below hb3 (Nat.le_refl _)
  have q3 := q2.trans (hb3.mono q2.size)
  have z3 := hb3.size
  clear hb3 q2
  obtain ⟨Ao, co, rfl, _⟩ := oo.form enI_len
  have r1 := o1.rd enI2_len
  have ro := oo.rd enI_len
  have hco := own_cap oo
  clear o1 oo
  obtain ⟨n, hn⟩ : ∃ n : Nat, ls.length = n := ⟨_, rfl⟩
  by_cases h8 : n ≤ 8
  case neg =>
    have hR : rkL ls = [] := by unfold rkL; rw [if_neg (by omega)]
    have hd : decide ((8 : Int) < (ls.length : Int)) = true := decide_eq_true (by omega)
    rw [hR]
    go_wp2_with fail
    refine (isR_zero _).mono ?_
    rintro e w4 ⟨rfl, hb4⟩
    have q4 := q3.trans (hb4.mono q3.size)
    go_wp2_with fail
    go_ret
    exact ⟨rfl, q4⟩
  have hRk : rkL ls = arr (rank ls n) := by unfold rkL; rw [hn, if_pos h8]
  have HP := Lib.hid (rank_pw ls n)
  have HLt := Lib.hid (rank_lt ls n)
  have hRl : (arr (rank ls n)).length = n := by rw [arr_length, rank_len]
  rw [hRk] at ro hco ⊢
  rw [hRl, hn]
  rw [hRl] at hco
  have HN := Lib.hid hn
  have HRl := Lib.hid hRl
  have HRk2 := Lib.hid (rank_len ls n)
  clear hRk hRl hn h9
  have hd8 : decide ((8 : Int) < (n : Int)) = false := decide_eq_false (by omega)
  obtain ⟨wo, rfl⟩ : ∃ wo : World, wo = w3 := ⟨_, rfl⟩
  go_wp2_with fail
  go_loopw [5] (fun s wq => ∃ m : Nat, m ≤ n ∧ s = .int .i64 (m : Int) ∧ Hid (∃ d, wq = wo.drewN d)) (fun s _ => n - (intOf s).toNat)
  case atStart => exact ⟨0, Nat.zero_le _, rfl, 0, rfl⟩
  case round =>
    obtain ⟨m, hm, rfl, hd⟩ := hrel
    by_cases hmt : m < n
    · obtain ⟨r, hr⟩ : ∃ r, (rank ls n)[m]? = some r := ⟨_, List.getElem?_eq_getElem (by rw [HRk2.out]; exact hmt)⟩
      have hrn := HLt.out r (List.mem_of_getElem? hr)
      obtain ⟨b, off, x, he, _, hx, hc⟩ := rdI_at ro (i := m) (by rw [HRl.out]; exact hmt)
      rw [arr_at hr] at hx
      simp only [Option.some.injEq] at hx
      subst hx
      obtain ⟨b2, off2, p, q, he2, _, hx2, d0, d1⟩ := rdI2_at r1 (i := r) (by rw [HN.out]; exact hrn)
      have hpv : va ls r = p := by unfold va; rw [List.getD_eq_getElem?_getD, hx2]; rfl
      have hqv : ex ls r = q := by unfold ex; rw [List.getD_eq_getElem?_getD, hx2]; rfl
      have HX := Lib.hid (not_before (fun a b h => h.1) HP.out hr)
      have hrt : RdS wr wo.heap.size 1 enI Ao ((arr (rank ls n)).take m) := by obtain ⟨d, rfl⟩ := hd.out; exact rd_take ro m
      have htl : m = ((arr (rank ls n)).take m).length := by rw [List.length_take, HRl.out]; omega
      have HTL := Lib.hid htl
      clear htl
      have y0 : wr.cell? ⟨b, off + m, none⟩ = some (.int .i64 (r : Int)) := by obtain ⟨d, rfl⟩ := hd.out; exact hc
      have y1 : wr.cell? ⟨b2, off2 + r * 2, none⟩ = some (.int .i64 p) := by obtain ⟨d, rfl⟩ := hd.out; exact d0
      have y2 : wr.cell? ⟨b2, off2 + r * 2 + 1, none⟩ = some (.int .i64 q) := by obtain ⟨d, rfl⟩ := hd.out; exact d1
      clear hc d0 d1
      have hmc : m ≤ co := by omega
      have hr0 : decide ((r : Int) < 0) = false := decide_eq_false (by omega)
      have hr1 : decide ((n : Int) ≤ (r : Int)) = false := decide_eq_false (by omega)
      subst he he2
      by_cases m0 : m = 0
      · subst m0
        rw [Nat.add_zero] at y0
        go_wp2_with fail
        go_quiet ((go_at_call 27; exact hasQ _ _ _ _ ((arr (rank ls n)).take 0) r false HX.out HTL.out _ _ hrt))
        go_wp2_with fail
        go_quiet (fail)
        go_wp2_with fail
        go_roundw
        case rel => exact ⟨1, by omega, by go_num, by obtain ⟨d, rfl⟩ := hd.out; exact ⟨_, World.drewN_drewN _ _ _⟩⟩
        case measure => simp [intOf]; omega
      · obtain ⟨k, hkm⟩ : ∃ k, k + 1 = m := ⟨m - 1, by omega⟩
        obtain ⟨s, hs⟩ : ∃ s, (rank ls n)[k]? = some s := ⟨_, List.getElem?_eq_getElem (by rw [HRk2.out]; omega)⟩
        have hsn := HLt.out s (List.mem_of_getElem? hs)
        obtain ⟨hne, hpw⟩ := pw_next HP.out hs (by rw [hkm]; exact hr)
        obtain ⟨b', off', x', he', _, hx', hc'⟩ := rdI_at ro (i := k) (by rw [HRl.out]; omega)
        rw [arr_at hs] at hx'
        simp only [Option.some.injEq] at hx'
        subst hx'
        simp only [Option.some.injEq, Addr.mk.injEq, and_true] at he'
        obtain ⟨rfl, rfl⟩ := he'
        obtain ⟨b2', off2', p', q', he2', _, hx2', d0', d1'⟩ := rdI2_at r1 (i := s) (by rw [HN.out]; exact hsn)
        simp only [Option.some.injEq, Addr.mk.injEq, and_true] at he2'
        obtain ⟨rfl, rfl⟩ := he2'
        have hpv' : va ls s = p' := by unfold va; rw [List.getD_eq_getElem?_getD, hx2']; rfl
        have hqv' : ex ls s = q' := by unfold ex; rw [List.getD_eq_getElem?_getD, hx2']; rfl
        rw [hpv, hpv', hqv, hqv'] at hpw
        have y3 : wr.cell? ⟨b, off + k, none⟩ = some (.int .i64 (s : Int)) := by obtain ⟨d, rfl⟩ := hd.out; exact hc'
        have y4 : wr.cell? ⟨b2, off2 + s * 2, none⟩ = some (.int .i64 p') := by obtain ⟨d, rfl⟩ := hd.out; exact d0'
        have y5 : wr.cell? ⟨b2, off2 + s * 2 + 1, none⟩ = some (.int .i64 q') := by obtain ⟨d, rfl⟩ := hd.out; exact d1'
        have hs1 : decide ((n : Int) ≤ (s : Int)) = false := decide_eq_false (by omega)
        have hpp : decide (p' < p) = false := decide_eq_false (by omega)
        have k0 : decide ((0 : Int) < (m : Int)) = true := decide_eq_true (by omega)
        have k1 : 0 < m := by omega
        have k2 : k < n := by omega
        have ek : IntKind.i64.wrap ((m : Int) - 1) = (k : Int) := by rw [IntWalk.i64_in _ (by omega)]; omega
        clear hkm hx2 hx2' hc' d0' d1' m0 hpv hqv hpv' hqv'
        by_cases heq : p' = p ∧ q' = q
        · obtain ⟨rfl, rfl⟩ := heq
          have hsr : s < r := by omega
          clear hpw hne
          go_wp2_with fail
          go_quiet ((go_at_call 27; exact hasQ _ _ _ _ ((arr (rank ls n)).take m) r false HX.out HTL.out _ _ hrt))
          go_wp2_with fail
          go_quiet (fail)
          go_wp2_with fail
          go_roundw
          case rel => exact ⟨m + 1, by omega, by go_num, by obtain ⟨d, rfl⟩ := hd.out; exact ⟨_, World.drewN_drewN _ _ _⟩⟩
          case measure => simp [intOf]; omega
        · by_cases hp1 : p' = p
          · subst hp1
            have hq1 : ¬ q' = q := fun h => heq ⟨rfl, h⟩
            clear hpw hne heq
            go_wp2_with fail
            go_quiet ((go_at_call 27; exact hasQ _ _ _ _ ((arr (rank ls n)).take m) r false HX.out HTL.out _ _ hrt))
            go_wp2_with fail
            go_quiet (fail)
            go_wp2_with fail
            go_roundw
            case rel => exact ⟨m + 1, by omega, by go_num, by obtain ⟨d, rfl⟩ := hd.out; exact ⟨_, World.drewN_drewN _ _ _⟩⟩
            case measure => simp [intOf]; omega
          · clear hpw hne heq
            go_wp2_with fail
            go_quiet ((go_at_call 27; exact hasQ _ _ _ _ ((arr (rank ls n)).take m) r false HX.out HTL.out _ _ hrt))
            go_wp2_with fail
            go_quiet (fail)
            go_wp2_with fail
            go_roundw
            case rel => exact ⟨m + 1, by omega, by go_num, by obtain ⟨d, rfl⟩ := hd.out; exact ⟨_, World.drewN_drewN _ _ _⟩⟩
            case measure => simp [intOf]; omega
    · obtain rfl : m = n := by omega
      have qE : Below W.heap.size W wr := by obtain ⟨d, rfl⟩ := hd.out; exact below_drewN q3 d
      by_cases m0 : 0 < m
      · have h0 : decide ((0 : Int) < (m : Int)) = true := decide_eq_true (by omega)
        go_wp2_with fail
        go_ret
        exact ⟨rfl, qE⟩
      · have h0 : decide ((0 : Int) < (m : Int)) = false := decide_eq_false (by omega)
        go_wp2_with fail
        refine (isR_zero _).mono ?_
        rintro e w4 ⟨rfl, hb4⟩
        have q4 := qE.trans (hb4.mono qE.size)
        go_wp2_with fail
        go_ret
        exact ⟨rfl, q4⟩
end Go.Proofs.Ytjmckpaemmjcmaa.RankingLaw
