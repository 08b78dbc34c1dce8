/-
  RankRatings of the reference. Conditions: each theorem's own.
-/
import Derived.Test.YtjmckpaemmjcmaaRankJ
import Derived.Test.YtjmckpaemmjcmaaClone
import Derived.Deep.QuietTactic
import Derived.BigQuiet
set_option linter.unusedVariables false
namespace Go.Proofs.Ytjmckpaemmjcmaa.RankS
open Go.ChangeShapes Go.WideShapes Go.ChangeAt Go.RowKit Base Base2 Ints Own RankPlain RankC RankI RankJ

theorem wpS {P : Program} {c : Code} {Q : Exit → Act → World → Prop} {a : Act} {W : World} (R : World → Prop) (h : R W) (k : ∀ W', R W' → c.wp P Q a W') : c.wp P Q a W := k W h

theorem bfS (a b c d : Int) (w : World) : Calls Try.prog 50 #[.agg #[.int .i64 a, .int .i64 b], .agg #[.int .i64 c, .int .i64 d]] w fun e w' => e = .returned (.bool (decide (c < a) || (decide (c = a) && decide (d < b)))) ∧ Below w.heap.size w w' := by
  by_cases h : a = c
  · subst h
    have hv : (decide (a < a) || (decide (a = a) && decide (d < b))) = decide (d < b) := by simp
    rw [hv]
    have e1 : (a != a) = false := by simp
    clear hv
    go_enter Try.func50, Try.ntmps50
    go_wp2
    go_ret
    exact ⟨rfl, by go_grown⟩
  · have hv : (decide (c < a) || (decide (c = a) && decide (d < b))) = decide (c < a) := by simp [show c ≠ a from fun e => h e.symm]
    rw [hv]
    have e1 : (a != c) = true := by simp [h]
    clear hv
    go_enter Try.func50, Try.ntmps50
    go_wp2
    go_ret
    exact ⟨rfl, by go_grown⟩

theorem rd_drop {w : World} {B g : Nat} {xs : List Int} (h : RdS w B 1 enI (some ⟨g, 0, none⟩) xs) (j : Nat) : RdS w B 1 enI (some ⟨g, j, none⟩) (xs.drop j) := by
  refine ⟨by have := h.1; simp; omega, fun hp => ?_⟩
  obtain ⟨b, off, he, hb, hc⟩ := h.2 (by simp at hp; omega)
  simp only [Option.some.injEq, Addr.mk.injEq, and_true] at he
  obtain ⟨rfl, rfl⟩ := he
  refine ⟨_, _, rfl, hb, fun i x hx k u hu => ?_⟩
  rw [List.getElem?_drop] at hx
  have := hc (j + i) x hx k u hu
  rwa [show 0 + (j + i) * 1 + k = j + i * 1 + k from by omega] at this
theorem rd_take {w : World} {B g : Nat} {xs : List Int} (h : RdS w B 1 enI (some ⟨g, 0, none⟩) xs) (j : Nat) : RdS w B 1 enI (some ⟨g, 0, none⟩) (xs.take j) := by
  refine ⟨by have := h.1; simp; omega, fun hp => ?_⟩
  obtain ⟨b, off, he, hb, hc⟩ := h.2 (by simp at hp; omega)
  refine ⟨b, off, he, hb, fun i x hx k u hu => hc i x ?_ k u hu⟩
  rw [List.getElem?_take] at hx
  split at hx
  · exact hx
  · cases hx
theorem rank_at (xs : List (Int × Int)) {i j : Nat} (hp : pos xs i (rank xs i) i = j) : rank xs (i + 1) = (rank xs i).take j ++ i :: (rank xs i).drop j := by
  show insr xs i (rank xs i) = _
  unfold insr
  rw [rank_len, hp]
theorem rank_atF (xs : List (Int × Int)) {i : Nat} (hp : pos xs i (rank xs i) i = i) : rank xs (i + 1) = (rank xs i).take i ++ i :: ([] : List Nat) := by
  rw [rank_at xs hp, List.drop_of_length_le (by rw [rank_len]; exact Nat.le_refl _)]
theorem rd_nil {w : World} {B : Nat} {A : Option Addr} : RdS w B 1 enI A (arr ([] : List Nat)) := ⟨Nat.zero_le _, fun hp => absurd hp (by simp [arr])⟩
theorem rank_at0 (xs : List (Int × Int)) {i : Nat} (hp : pos xs i (rank xs i) i = 0) : rank xs (i + 1) = ([] : List Nat) ++ i :: rank xs i := by
  rw [rank_at xs hp]; rfl
theorem arr_len (l : List Nat) : (arr l).length = l.length := by simp [arr]
theorem arr_drop (l : List Nat) (j : Nat) : (arr l).drop j = arr (l.drop j) := by simp [arr]
theorem arr_take (l : List Nat) (j : Nat) : (arr l).take j = arr (l.take j) := by simp [arr]

set_option maxHeartbeats 4000000 in
set_option maxRecDepth 100000 in
theorem rankS (B : Nat) (A : Option Addr) (c : Nat) (xs : List (Int × Int)) (w : World) (hB : B ≤ w.heap.size) (hr : RdS w B 2 enI2 A xs) :
    Calls Try.prog 28 #[.slice A xs.length c] w fun e w' => (∃ v, e = .returned v ∧ OwnS w' w.heap.size w'.heap.size 2 1 enI v (rkL xs)) ∧ Below w.heap.size w w' := by
  have hml := hr.len
  obtain ⟨i0, hi0, hz0, hz1, hz2⟩ := info_parts Ints.info
  obtain ⟨n, hn⟩ : ∃ n, xs.length = n := ⟨_, rfl⟩
  have HL : Hid (rkL xs = if n ≤ 8 then arr (rank xs n) else []) := by unfold rkL; rw [hn]; rfl
  have HN := Lib.hid hn
  rw [hn] at hml
  rw [hn]
  clear hn
  have HR := Lib.hid (fun (w' : World) (hb : Below w.heap.size w w') => hr.below hb hB)
  clear hr
  by_cases h8 : n ≤ 8
  case neg =>
    have HL : Hid (rkL xs = []) := by rw [HL.out, if_neg h8]; rfl
    have hd : decide ((n : Int) ≤ 8) = false := decide_eq_false (by omega)
    have hlt : (0 : Int) < (n : Int) := by omega
    have O0 : OwnS (w.alloc (.cells #[] 2)) w.heap.size (w.alloc (.cells #[] 2)).heap.size 2 1 enI (.slice (some ⟨w.heap.size, 0, none⟩) 0 0) ([] : List Int) := (RowB.new w 2 []).own (xs := ([] : List Int)) (en := enI) (lo := w.heap.size) (hi := (World.alloc w (.cells #[] 2)).heap.size) enI_len (Nat.le_refl _) (by go_size) (by decide)
    go_enter Try.func28, Try.ntmps28
    have hd : decide ((n : Int) ≤ 8) = false := decide_eq_false (by omega)
    go_wp2_with fail
    go_loopw [3, 4] (fun o s wr => o = .slice (some ⟨w.heap.size, 0, none⟩) 0 0 ∧ s = .int .i64 0 ∧ wr = w.alloc (.cells #[] 2)) (fun _ _ _ => 0)
    case atStart => exact ⟨rfl, rfl, rfl⟩
    case round =>
      obtain ⟨rfl, rfl, rfl⟩ := hrel
      go_wp2_with fail
      go_ret
      refine ⟨⟨_, rfl, ?_⟩, by go_grown⟩
      rw [HL.out]
      exact O0
  have HL : Hid (rkL xs = arr (rank xs n)) := by rw [HL.out, if_pos h8]; rfl
  have h8' : (n : Int) ≤ 8 := by omega
  have O0 : Hid (OwnS (w.alloc (.cells #[] 2)) w.heap.size (w.alloc (.cells #[] 2)).heap.size 2 1 enI (.slice (some ⟨w.heap.size, 0, none⟩) 0 0) (arr (rank xs 0))) := (RowB.new w 2 []).own (xs := ([] : List Int)) (en := enI) (lo := w.heap.size) (hi := (World.alloc w (.cells #[] 2)).heap.size) enI_len (Nat.le_refl _) (by go_size) (by decide)
  go_enter Try.func28, Try.ntmps28
  go_wp2_with fail
  go_loopw [3, 4] (fun o s wr => ∃ i g cap : Nat, i ≤ n ∧ s = .int .i64 (i : Int) ∧ o = .slice (some ⟨g, 0, none⟩) i cap ∧ Below w.heap.size w wr ∧ Hid (OwnS wr w.heap.size wr.heap.size 2 1 enI (.slice (some ⟨g, 0, none⟩) i cap) (arr (rank xs i)))) (fun _ s _ => n - (intOf s).toNat)
  case atStart => exact ⟨0, w.heap.size, 0, Nat.zero_le _, rfl, rfl, by go_grown, O0⟩
  case round =>
    clear O0
    obtain ⟨i, g, cap, hi, rfl, rfl, qb, HO⟩ := hrel
    by_cases hlt : i < n
    · rename World => wo
      have hlr := rank_len xs i
      obtain ⟨rest, hgw, hwg, HRow, hic, hcm, hcl⟩ : ∃ rest : List Value, w.heap.size ≤ g ∧ g < wo.heap.size ∧ Hid (RowB wo g 2 ((arr (rank xs i)).flatMap enI ++ rest)) ∧ i ≤ cap ∧ cap ≤ maxLen ∧ i + rest.length = cap := by
        have hla : (arr (rank xs i)).length = i := by unfold arr; rw [List.length_map, hlr]
        rcases HO.out.cases_ with ⟨he, _⟩ | ⟨g', cap', rest, he, h1, h2, h3, h4, h5, h6⟩
        · cases he
        · rw [hla] at he h4 h6
          simp only [Value.slice.injEq, Option.some.injEq, Addr.mk.injEq, and_true, true_and] at he
          obtain ⟨rfl, rfl⟩ := he
          exact ⟨rest, h1, h2, h3, h4, h5, by omega⟩
      obtain ⟨b, off, rfl, hbB, i0c, i1c⟩ := ent (HR.out wo qb) (i := i) (by rw [HN.out]; exact hlt)
      have hbw : b < wo.heap.size := by have := qb.size; omega
      have hIi : (i : Int) < (n : Int) := by omega
      have hI0 : (0 : Int) ≤ (i : Int) := by omega
      go_wp2_with fail
      go_loopw [5] (fun s wq => ∃ j : Nat, s = .int .i64 (j : Int) ∧ j ≤ i ∧ Below wo.heap.size wo wq ∧ Hid (pos xs i (rank xs i) i = pos xs i (rank xs i) j)) (fun s _ => (intOf s).toNat)
      case atStart => exact ⟨i, rfl, Nat.le_refl _, Below.refl _ _, rfl⟩
      case round =>
        obtain ⟨j, rfl, hj, qq, HP⟩ := hrel
        by_cases hj0 : j = 0
        · subst hj0
          have HPJ : Hid (pos xs i (rank xs i) i = 0) := by rw [HP.out]; rfl
          have hd0 : decide ((0 : Int) < 0) = false := rfl
          go_wp2_with fail
          go_quiet (fail)
          go_upto_region 8 with (fail)
          refine wpS (fun W' => Below wo.heap.size wo W') (below_drewN qq _) ?_
          rintro w5 qq5
          have z5 := qq5.size
          have hrd := (HO.out.rd enI_len).below qq5 (Nat.le_refl _)
          have hd1 := hrd
          have hicI : (i : Int) ≤ (cap : Int) := by omega
          go_wp2_with (at_builtin; refine wpList_append_own _ rfl _ _ _ rfl w5.heap.size 2 i0 (.int .i64 0) 1 8 Try.underlying45 hi0 hz0 hz1 hz2 rfl (by decide) _ 1 [.int .i64 (i : Int)] rfl ((RowB.new w5 2 [.int .i64 (i : Int)]).own (xs := [(i : Int)]) (en := enI) enI_len (Nat.le_refl _) (by go_size) (by unfold maxLen; simp) : OwnS _ w5.heap.size (w5.alloc (.cells #[.int .i64 (i : Int)] 2)).heap.size 2 1 enI _ [(i : Int)]).1 ⟨g, 0, none⟩ i cap ((arr (rank xs i)).flatMap enI) rfl ?clN1 (Clone.news_rd (hd1.below (B' := w5.heap.size) ((Below.refl _ _).alloc (Nat.le_refl _) _) z5)) (Clone.one_Is _) ?c1N1 ?c2N1 ?c3N1 ?_)
          try case clN1 => rw [flatMap_len enI_len, arr_len, hlr]
          try case c1N1 => unfold maxLen; omega
          try case c2N1 => omega
          try case c3N1 => go_size
          intro v1 w6 hown1 hgr1 _
          have ho1 : ∀ k, (Value.slice (some ⟨w5.heap.size, 0, none⟩) 1 1).ownBlock = some k → k = w5.heap.size := fun k hk => by simp [Value.ownBlock] at hk; omega
          have O1 : OwnS w6 w5.heap.size w6.heap.size 2 1 enI v1 (arr (i :: rank xs i)) := by
            have e : 1 + i = (arr (i :: rank xs i)).length := by rw [arr_len, List.length_cons, hlr]; omega
            rw [e] at hown1
            exact ⟨hown1, fun k hk => (hown1.lt k hk).2⟩
          have t6 : Below w5.heap.size w5 w6 := ((Below.refl _ _).alloc (Nat.le_refl _) _).grown hgr1 (by go_size) (fun k hk => by have := ho1 k hk; omega)
          have z6 := t6.size
          have hrd6 := hrd.below t6 z5
          have hd2 := rd_take hrd6 0
          rw [arr_take, List.take_zero] at hd2
          clear hown1 hgr1 hd1 hrd
          go_wp2_with (at_builtin; refine wpList_append_own _ rfl _ _ _ rfl w6.heap.size 2 i0 (.int .i64 0) 1 8 Try.underlying45 hi0 hz0 hz1 hz2 rfl (by decide) _ 0 [] rfl ((RowB.new w6 2 []).own (xs := ([] : List Int)) (en := enI) enI_len (Nat.le_refl _) (by go_size) (by decide) : OwnS _ w6.heap.size (w6.alloc (.cells #[] 2)).heap.size 2 1 enI _ []).1 ⟨g, 0, none⟩ 0 cap ((arr ([] : List Nat)).flatMap enI) rfl ?clN2 (Clone.news_rd (hd2.below (B' := w6.heap.size) ((Below.refl _ _).alloc (Nat.le_refl _) _) (by omega))) (Clone.one_Is _) ?c1N2 ?c2N2 ?c3N2 ?_)
          try case clN2 => rfl
          try case c1N2 => unfold maxLen; omega
          try case c2N2 => omega
          try case c3N2 => go_size
          intro v2 w7 hown2 hgr2 _
          have ho2 : ∀ k, (Value.slice (some ⟨w6.heap.size, 0, none⟩) 0 0).ownBlock = some k → k = w6.heap.size := fun k hk => by simp [Value.ownBlock] at hk; omega
          have O2 : OwnS w7 w6.heap.size w7.heap.size 2 1 enI v2 (arr ([] : List Nat)) := ⟨by simpa [arr] using hown2, fun k hk => (hown2.lt k hk).2⟩
          have t7 : Below w6.heap.size w6 w7 := ((Below.refl _ _).alloc (Nat.le_refl _) _).grown hgr2 (by go_size) (fun k hk => by have := ho2 k hk; omega)
          have z7 := t7.size
          have O1 := O1.below t7 (Nat.le_refl _)
          obtain ⟨A1, c1, rfl, rd1⟩ := O1.form enI_len
          obtain ⟨b1, f1, rfl, _, _⟩ := rd1.2 (by rw [arr_len]; simp)
          clear hown2 hgr2 hd2 hrd6
          go_wp2_with (at_builtin; refine wpList_append_own _ rfl _ _ _ rfl w6.heap.size 2 i0 (.int .i64 0) 1 8 Try.underlying45 hi0 hz0 hz1 hz2 rfl (by decide) _ (arr ([] : List Nat)).length ((arr ([] : List Nat)).flatMap enI) rfl O2.1 ⟨b1, f1, none⟩ (arr (i :: rank xs i)).length c1 ((arr (i :: rank xs i)).flatMap enI) rfl ?clN3 (Clone.news_rd rd1) (Clone.one_Is _) ?c1N3 ?c2N3 ?c3N3 ?_)
          try case clN3 => rw [flatMap_len enI_len]
          try case c1N3 => rw [arr_len, arr_len, List.length_nil, List.length_cons, hlr]; unfold maxLen; omega
          try case c2N3 => rw [arr_len, arr_len, List.length_nil, List.length_cons, hlr]; omega
          try case c3N3 => exact z7
          intro v3 w8 hown3 hgr3 _
          have O3 : OwnS w8 w6.heap.size w8.heap.size 2 1 enI v3 (arr (rank xs (i + 1))) := by
            have e : (arr ([] : List Nat)).length + (arr (i :: rank xs i)).length = (arr (rank xs (i + 1))).length := by rw [rank_at0 xs HPJ.out, arr_len, arr_len, arr_len, List.length_append]
            have e2 : (arr ([] : List Nat)).flatMap enI ++ (arr (i :: rank xs i)).flatMap enI = (arr (rank xs (i + 1))).flatMap enI := by rw [rank_at0 xs HPJ.out, ← List.flatMap_append]; unfold arr; rw [List.map_append]
            rw [e, e2] at hown3
            exact ⟨hown3, fun k hk => (hown3.lt k hk).2⟩
          have q8 : Below w.heap.size w w8 := by
            have h1 := qb.trans (qq5.mono qb.size)
            have h2 := h1.trans (t6.mono h1.size)
            have h3 := h2.trans (t7.mono h2.size)
            exact h3.grown hgr3 h3.size (fun k hk => by have := (O2.block k hk).1; have := h2.size; omega)
          have hl3 : (arr (rank xs (i + 1))).length = i + 1 := by rw [arr_len, rank_len]
          rcases O3.cases_ with ⟨_, hnil⟩ | ⟨g3, cap3, rest3, rfl, h1, h2, h3, h4, h5, h6⟩
          · rw [hnil] at hl3; cases hl3
          have O4 := Lib.hid (O3.less (lo' := w.heap.size) (by have := qb.size; omega))
          rw [hl3] at O4
          rw [hl3]
          clear O1 O2 O3 rd1 hown3 hgr3 h1 h2 h3 h4 h5 h6 t6 t7 qq5
          go_wp2_with fail
          go_roundw
          case rel => exact ⟨i + 1, g3, cap3, by omega, by go_num, rfl, q8, O4⟩
          case measure => simp [intOf]; omega
        · obtain ⟨j', hj'⟩ : ∃ j', j' + 1 = j := ⟨j - 1, by omega⟩
          obtain ⟨y, hy, hyi, hm, hg0⟩ := mid_pre xs (n := n) (show j' < i by omega)
          have hcp : wr.cell? ⟨g, j', none⟩ = some (.int .i64 (y : Int)) := by
            have h1 := HRow.out.cell j'
            rw [List.getElem?_append_left (by rw [flatMap_len enI_len, arr_len, hlr]; omega)] at h1
            have h2 := flatMap_at enI_len (arr (rank xs i)) j' (y : Int) (by unfold arr; rw [List.getElem?_map, hy]; rfl) 0 _ rfl
            rw [Nat.mul_one, Nat.add_zero] at h2
            exact ((qq.cell (p := ⟨g, j', none⟩) hwg).trans h1).trans h2
          obtain ⟨b', off', hA', _, y0c, y1c⟩ := ent (HR.out wo qb) (i := y) (by rw [HN.out]; omega)
          simp only [Option.some.injEq, Addr.mk.injEq, and_true] at hA'
          obtain ⟨rfl, rfl⟩ := hA'
          have d0 := (qq.cell (p := ⟨b, off + i * 2, none⟩) hbw).trans i0c
          have d1 := (qq.cell (p := ⟨b, off + i * 2 + 1, none⟩) hbw).trans i1c
          have d2 := (qq.cell (p := ⟨b, off + y * 2, none⟩) hbw).trans y0c
          have d3 := (qq.cell (p := ⟨b, off + y * 2 + 1, none⟩) hbw).trans y1c
          have hgr : g < wr.heap.size := by have := qq.size; omega
          have hbr : b < wr.heap.size := by have := qq.size; omega
          have hbf0 : (decide (va xs y < va xs i) || (decide (va xs y = va xs i) && decide (ex xs y < ex xs i))) = bef xs i y := rfl
          have HG0 := Lib.hid hg0
          have hposj : pos xs i (rank xs i) j = if bef xs i y = true then pos xs i (rank xs i) j' else j := by rw [← hj']; show (if bef xs i ((rank xs i).getD j' 0) = true then _ else _) = _; rw [HG0.out]
          have HPOS := Lib.hid hposj
          clear hm hg0 hposj
          generalize va xs i = vi at *
          generalize va xs y = vy at *
          generalize ex xs i = xi at *
          generalize ex xs y = xy at *
          have HS : Hid (∀ v : World, Below wr.heap.size wr v → v.cell? ⟨b, off + i * 2, none⟩ = some (.int .i64 vi) ∧ v.cell? ⟨b, off + i * 2 + 1, none⟩ = some (.int .i64 xi) ∧ v.cell? ⟨b, off + y * 2, none⟩ = some (.int .i64 vy) ∧ v.cell? ⟨b, off + y * 2 + 1, none⟩ = some (.int .i64 xy) ∧ v.cell? ⟨g, j', none⟩ = some (.int .i64 (y : Int))) := fun v hb => ⟨(hb.cell (p := ⟨b, off + i * 2, none⟩) hbr).trans d0, (hb.cell (p := ⟨b, off + i * 2 + 1, none⟩) hbr).trans d1, (hb.cell (p := ⟨b, off + y * 2, none⟩) hbr).trans d2, (hb.cell (p := ⟨b, off + y * 2 + 1, none⟩) hbr).trans d3, (hb.cell (p := ⟨g, j', none⟩) hgr).trans hcp⟩
          have hj1 : (0 : Int) < (j : Int) := by omega
          have hj1N : 0 < j := by omega
          have hdj : decide ((0 : Int) < (j : Int)) = true := decide_eq_true hj1
          have hdjN : decide (0 < j) = true := decide_eq_true hj1N
          have e1 : IntKind.i64.wrap ((j : Int) - 1) = (j' : Int) := by rw [IntWalk.i64_in _ (by omega)]; omega
          have hb3 : (0 : Int) ≤ (j' : Int) := by omega
          have hb4 : (j' : Int) < (i : Int) := by omega
          have hy0 : (0 : Int) ≤ (y : Int) := by omega
          have hy1 : (y : Int) < (n : Int) := by omega
          clear hcp d0 d1 d2 d3 i0c i1c y0c y1c
          cases hbf : bef xs i y
          case false =>
            rw [hbf] at hbf0
            have HPJ : Hid (pos xs i (rank xs i) i = j) := by rw [HP.out, HPOS.out, hbf]; rfl
            have HB := Lib.hid hbf0
            clear hbf hbf0
            go_wp2_with fail
            go_region_held3 (fun v => v.cell? ⟨b, off + i * 2, none⟩ = some (.int .i64 vi) ∧ v.cell? ⟨b, off + i * 2 + 1, none⟩ = some (.int .i64 xi) ∧ v.cell? ⟨b, off + y * 2, none⟩ = some (.int .i64 vy) ∧ v.cell? ⟨b, off + y * 2 + 1, none⟩ = some (.int .i64 xy) ∧ v.cell? ⟨g, j', none⟩ = some (.int .i64 (y : Int))) (exact HS.out _ (by go_grown)) (first | (go_at_call 50; refine (bfS _ _ _ _ _).mono ?_; rw [HB.out]; rintro e w2 ⟨rfl, hb2⟩; have t2 : Below wr.heap.size wr w2 := Below.then_ (by go_grown) hb2 (by go_size)) | fail)
            have qq2 := qq.trans (t2.mono qq.size)
            by_cases hcj : cap = j
            · obtain rfl : i = j := by omega
              obtain rfl : i = cap := by omega
              go_upto_region 8 with (fail)
              refine wpS (fun W' => Below wo.heap.size wo W') (qq2) ?_
              rintro w5 qq5
              have z5 := qq5.size
              have hrd := (HO.out.rd enI_len).below qq5 (Nat.le_refl _)
              have hd1 := rd_nil (w := w5) (B := wo.heap.size) (A := some ⟨g, 0, none⟩)
              go_wp2_with (at_builtin; refine wpList_append_own _ rfl _ _ _ rfl w5.heap.size 2 i0 (.int .i64 0) 1 8 Try.underlying45 hi0 hz0 hz1 hz2 rfl (by decide) _ 1 [.int .i64 (i : Int)] rfl ((RowB.new w5 2 [.int .i64 (i : Int)]).own (xs := [(i : Int)]) (en := enI) enI_len (Nat.le_refl _) (by go_size) (by unfold maxLen; simp) : OwnS _ w5.heap.size (w5.alloc (.cells #[.int .i64 (i : Int)] 2)).heap.size 2 1 enI _ [(i : Int)]).1 ⟨g, 0, none⟩ 0 0 ((arr ([] : List Nat)).flatMap enI) rfl ?clN4 (Clone.news_rd (hd1.below (B' := w5.heap.size) ((Below.refl _ _).alloc (Nat.le_refl _) _) z5)) (Clone.one_Is _) ?c1N4 ?c2N4 ?c3N4 ?_)
              try case clN4 => rfl
              try case c1N4 => unfold maxLen; omega
              try case c2N4 => omega
              try case c3N4 => go_size
              intro v1 w6 hown1 hgr1 _
              have ho1 : ∀ k, (Value.slice (some ⟨w5.heap.size, 0, none⟩) 1 1).ownBlock = some k → k = w5.heap.size := fun k hk => by simp [Value.ownBlock] at hk; omega
              have O1 : OwnS w6 w5.heap.size w6.heap.size 2 1 enI v1 (arr (i :: ([] : List Nat))) := ⟨by simpa [arr, enI] using hown1, fun k hk => (hown1.lt k hk).2⟩
              have t6 : Below w5.heap.size w5 w6 := ((Below.refl _ _).alloc (Nat.le_refl _) _).grown hgr1 (by go_size) (fun k hk => by have := ho1 k hk; omega)
              have z6 := t6.size
              have hrd6 := hrd.below t6 z5
              have hd2 := rd_take hrd6 i
              rw [arr_take] at hd2
              clear hown1 hgr1 hd1 hrd
              go_wp2_with (at_builtin; refine wpList_append_own _ rfl _ _ _ rfl w6.heap.size 2 i0 (.int .i64 0) 1 8 Try.underlying45 hi0 hz0 hz1 hz2 rfl (by decide) _ 0 [] rfl ((RowB.new w6 2 []).own (xs := ([] : List Int)) (en := enI) enI_len (Nat.le_refl _) (by go_size) (by decide) : OwnS _ w6.heap.size (w6.alloc (.cells #[] 2)).heap.size 2 1 enI _ []).1 ⟨g, 0, none⟩ i i ((arr ((rank xs i).take i)).flatMap enI) rfl ?clN5 (Clone.news_rd (hd2.below (B' := w6.heap.size) ((Below.refl _ _).alloc (Nat.le_refl _) _) (by omega))) (Clone.one_Is _) ?c1N5 ?c2N5 ?c3N5 ?_)
              try case clN5 => rw [flatMap_len enI_len, arr_len, List.length_take, hlr]; omega
              try case c1N5 => unfold maxLen; omega
              try case c2N5 => omega
              try case c3N5 => go_size
              intro v2 w7 hown2 hgr2 _
              have ho2 : ∀ k, (Value.slice (some ⟨w6.heap.size, 0, none⟩) 0 0).ownBlock = some k → k = w6.heap.size := fun k hk => by simp [Value.ownBlock] at hk; omega
              have O2 : OwnS w7 w6.heap.size w7.heap.size 2 1 enI v2 (arr ((rank xs i).take i)) := by
                have h2 : w7.ownsRow w6.heap.size 2 1 v2 i ((arr ((rank xs i).take i)).flatMap enI) := by simpa using hown2
                have e : (arr ((rank xs i).take i)).length = i := by rw [arr_len, List.length_take, hlr]; omega
                refine ⟨?_, fun k hk => (hown2.lt k hk).2⟩
                rw [e]; exact h2
              have t7 : Below w6.heap.size w6 w7 := ((Below.refl _ _).alloc (Nat.le_refl _) _).grown hgr2 (by go_size) (fun k hk => by have := ho2 k hk; omega)
              have z7 := t7.size
              have O1 := O1.below t7 (Nat.le_refl _)
              obtain ⟨A1, c1, rfl, rd1⟩ := O1.form enI_len
              obtain ⟨b1, f1, rfl, _, _⟩ := rd1.2 (by rw [arr_len]; simp)
              clear hown2 hgr2 hd2 hrd6
              go_wp2_with (at_builtin; refine wpList_append_own _ rfl _ _ _ rfl w6.heap.size 2 i0 (.int .i64 0) 1 8 Try.underlying45 hi0 hz0 hz1 hz2 rfl (by decide) _ (arr ((rank xs i).take i)).length ((arr ((rank xs i).take i)).flatMap enI) rfl O2.1 ⟨b1, f1, none⟩ (arr (i :: ([] : List Nat))).length c1 ((arr (i :: ([] : List Nat))).flatMap enI) rfl ?clN6 (Clone.news_rd rd1) (Clone.one_Is _) ?c1N6 ?c2N6 ?c3N6 ?_)
              try case clN6 => rw [flatMap_len enI_len]
              try case c1N6 => rw [arr_len, arr_len, List.length_take, List.length_cons, List.length_nil, hlr]; unfold maxLen; omega
              try case c2N6 => rw [arr_len, arr_len, List.length_take, List.length_cons, List.length_nil, hlr]; omega
              try case c3N6 => exact z7
              intro v3 w8 hown3 hgr3 _
              have O3 : OwnS w8 w6.heap.size w8.heap.size 2 1 enI v3 (arr (rank xs (i + 1))) := by
                have e : (arr ((rank xs i).take i)).length + (arr (i :: ([] : List Nat))).length = (arr (rank xs (i + 1))).length := by rw [rank_atF xs HPJ.out, arr_len, arr_len, arr_len, List.length_append]
                have e2 : (arr ((rank xs i).take i)).flatMap enI ++ (arr (i :: ([] : List Nat))).flatMap enI = (arr (rank xs (i + 1))).flatMap enI := by rw [rank_atF xs HPJ.out, ← List.flatMap_append]; unfold arr; rw [List.map_append]
                rw [e, e2] at hown3
                exact ⟨hown3, fun k hk => (hown3.lt k hk).2⟩
              have q8 : Below w.heap.size w w8 := by
                have h1 := qb.trans (qq5.mono qb.size)
                have h2 := h1.trans (t6.mono h1.size)
                have h3 := h2.trans (t7.mono h2.size)
                exact h3.grown hgr3 h3.size (fun k hk => by have := (O2.block k hk).1; have := h2.size; omega)
              have hl3 : (arr (rank xs (i + 1))).length = i + 1 := by rw [arr_len, rank_len]
              rcases O3.cases_ with ⟨_, hnil⟩ | ⟨g3, cap3, rest3, rfl, h1, h2, h3, h4, h5, h6⟩
              · rw [hnil] at hl3; cases hl3
              have O4 := Lib.hid (O3.less (lo' := w.heap.size) (by have := qb.size; omega))
              rw [hl3] at O4
              rw [hl3]
              clear O1 O2 O3 rd1 hown3 hgr3 h1 h2 h3 h4 h5 h6 t6 t7 qq5
              go_wp2_with fail
              go_roundw
              case rel => exact ⟨i + 1, g3, cap3, by omega, by go_num, rfl, q8, O4⟩
              case measure => simp [intOf]; omega
            · skip
              go_upto_region 8 with (fail)
              refine wpS (fun W' => Below wo.heap.size wo W') (qq2) ?_
              rintro w5 qq5
              have z5 := qq5.size
              have hrd := (HO.out.rd enI_len).below qq5 (Nat.le_refl _)
              have hd1 := rd_drop hrd j
              rw [arr_drop] at hd1
              have hjI : (j : Int) ≤ (i : Int) := by omega
              have hj0I : (0 : Int) ≤ (j : Int) := by omega
              have hicI : (i : Int) ≤ (cap : Int) := by omega
              have hjcI : (j : Int) ≤ (cap : Int) := by omega
              go_wp2_with (at_builtin; refine wpList_append_own _ rfl _ _ _ rfl w5.heap.size 2 i0 (.int .i64 0) 1 8 Try.underlying45 hi0 hz0 hz1 hz2 rfl (by decide) _ 1 [.int .i64 (i : Int)] rfl ((RowB.new w5 2 [.int .i64 (i : Int)]).own (xs := [(i : Int)]) (en := enI) enI_len (Nat.le_refl _) (by go_size) (by unfold maxLen; simp) : OwnS _ w5.heap.size (w5.alloc (.cells #[.int .i64 (i : Int)] 2)).heap.size 2 1 enI _ [(i : Int)]).1 ⟨g, j, none⟩ (i - j) (cap - j) ((arr ((rank xs i).drop j)).flatMap enI) rfl ?clN7 (Clone.news_rd (hd1.below (B' := w5.heap.size) ((Below.refl _ _).alloc (Nat.le_refl _) _) z5)) (Clone.one_Is _) ?c1N7 ?c2N7 ?c3N7 ?_)
              try case clN7 => rw [flatMap_len enI_len, arr_len, List.length_drop, hlr]
              try case c1N7 => unfold maxLen; omega
              try case c2N7 => omega
              try case c3N7 => go_size
              intro v1 w6 hown1 hgr1 _
              have ho1 : ∀ k, (Value.slice (some ⟨w5.heap.size, 0, none⟩) 1 1).ownBlock = some k → k = w5.heap.size := fun k hk => by simp [Value.ownBlock] at hk; omega
              have O1 : OwnS w6 w5.heap.size w6.heap.size 2 1 enI v1 (arr (i :: (rank xs i).drop j)) := by
                have e : 1 + (i - j) = (arr (i :: (rank xs i).drop j)).length := by rw [arr_len, List.length_cons, List.length_drop, hlr]; omega
                rw [e] at hown1
                exact ⟨hown1, fun k hk => (hown1.lt k hk).2⟩
              have t6 : Below w5.heap.size w5 w6 := ((Below.refl _ _).alloc (Nat.le_refl _) _).grown hgr1 (by go_size) (fun k hk => by have := ho1 k hk; omega)
              have z6 := t6.size
              have hrd6 := hrd.below t6 z5
              have hd2 := rd_take hrd6 j
              rw [arr_take] at hd2
              clear hown1 hgr1 hd1 hrd
              go_wp2_with (at_builtin; refine wpList_append_own _ rfl _ _ _ rfl w6.heap.size 2 i0 (.int .i64 0) 1 8 Try.underlying45 hi0 hz0 hz1 hz2 rfl (by decide) _ 0 [] rfl ((RowB.new w6 2 []).own (xs := ([] : List Int)) (en := enI) enI_len (Nat.le_refl _) (by go_size) (by decide) : OwnS _ w6.heap.size (w6.alloc (.cells #[] 2)).heap.size 2 1 enI _ []).1 ⟨g, 0, none⟩ j cap ((arr ((rank xs i).take j)).flatMap enI) rfl ?clN8 (Clone.news_rd (hd2.below (B' := w6.heap.size) ((Below.refl _ _).alloc (Nat.le_refl _) _) (by omega))) (Clone.one_Is _) ?c1N8 ?c2N8 ?c3N8 ?_)
              try case clN8 => rw [flatMap_len enI_len, arr_len, List.length_take, hlr]; omega
              try case c1N8 => unfold maxLen; omega
              try case c2N8 => omega
              try case c3N8 => go_size
              intro v2 w7 hown2 hgr2 _
              have ho2 : ∀ k, (Value.slice (some ⟨w6.heap.size, 0, none⟩) 0 0).ownBlock = some k → k = w6.heap.size := fun k hk => by simp [Value.ownBlock] at hk; omega
              have O2 : OwnS w7 w6.heap.size w7.heap.size 2 1 enI v2 (arr ((rank xs i).take j)) := by
                have h2 : w7.ownsRow w6.heap.size 2 1 v2 j ((arr ((rank xs i).take j)).flatMap enI) := by simpa using hown2
                have e : (arr ((rank xs i).take j)).length = j := by rw [arr_len, List.length_take, hlr]; omega
                refine ⟨?_, fun k hk => (hown2.lt k hk).2⟩
                rw [e]; exact h2
              have t7 : Below w6.heap.size w6 w7 := ((Below.refl _ _).alloc (Nat.le_refl _) _).grown hgr2 (by go_size) (fun k hk => by have := ho2 k hk; omega)
              have z7 := t7.size
              have O1 := O1.below t7 (Nat.le_refl _)
              obtain ⟨A1, c1, rfl, rd1⟩ := O1.form enI_len
              obtain ⟨b1, f1, rfl, _, _⟩ := rd1.2 (by rw [arr_len]; simp)
              clear hown2 hgr2 hd2 hrd6
              go_wp2_with (at_builtin; refine wpList_append_own _ rfl _ _ _ rfl w6.heap.size 2 i0 (.int .i64 0) 1 8 Try.underlying45 hi0 hz0 hz1 hz2 rfl (by decide) _ (arr ((rank xs i).take j)).length ((arr ((rank xs i).take j)).flatMap enI) rfl O2.1 ⟨b1, f1, none⟩ (arr (i :: (rank xs i).drop j)).length c1 ((arr (i :: (rank xs i).drop j)).flatMap enI) rfl ?clN9 (Clone.news_rd rd1) (Clone.one_Is _) ?c1N9 ?c2N9 ?c3N9 ?_)
              try case clN9 => rw [flatMap_len enI_len]
              try case c1N9 => rw [arr_len, arr_len, List.length_take, List.length_cons, List.length_drop, hlr]; unfold maxLen; omega
              try case c2N9 => rw [arr_len, arr_len, List.length_take, List.length_cons, List.length_drop, hlr]; omega
              try case c3N9 => exact z7
              intro v3 w8 hown3 hgr3 _
              have O3 : OwnS w8 w6.heap.size w8.heap.size 2 1 enI v3 (arr (rank xs (i + 1))) := by
                have e : (arr ((rank xs i).take j)).length + (arr (i :: (rank xs i).drop j)).length = (arr (rank xs (i + 1))).length := by rw [rank_at xs HPJ.out, arr_len, arr_len, arr_len, List.length_append]
                have e2 : (arr ((rank xs i).take j)).flatMap enI ++ (arr (i :: (rank xs i).drop j)).flatMap enI = (arr (rank xs (i + 1))).flatMap enI := by rw [rank_at xs HPJ.out, ← List.flatMap_append]; unfold arr; rw [List.map_append]
                rw [e, e2] at hown3
                exact ⟨hown3, fun k hk => (hown3.lt k hk).2⟩
              have q8 : Below w.heap.size w w8 := by
                have h1 := qb.trans (qq5.mono qb.size)
                have h2 := h1.trans (t6.mono h1.size)
                have h3 := h2.trans (t7.mono h2.size)
                exact h3.grown hgr3 h3.size (fun k hk => by have := (O2.block k hk).1; have := h2.size; omega)
              have hl3 : (arr (rank xs (i + 1))).length = i + 1 := by rw [arr_len, rank_len]
              rcases O3.cases_ with ⟨_, hnil⟩ | ⟨g3, cap3, rest3, rfl, h1, h2, h3, h4, h5, h6⟩
              · rw [hnil] at hl3; cases hl3
              have O4 := Lib.hid (O3.less (lo' := w.heap.size) (by have := qb.size; omega))
              rw [hl3] at O4
              rw [hl3]
              clear O1 O2 O3 rd1 hown3 hgr3 h1 h2 h3 h4 h5 h6 t6 t7 qq5
              go_wp2_with fail
              go_roundw
              case rel => exact ⟨i + 1, g3, cap3, by omega, by go_num, rfl, q8, O4⟩
              case measure => simp [intOf]; omega
          case true =>
            rw [hbf] at hbf0
            have HP2 : Hid (pos xs i (rank xs i) i = pos xs i (rank xs i) j') := by rw [HP.out, HPOS.out, hbf]; rfl
            have HB := Lib.hid hbf0
            clear hbf hbf0
            go_wp2_with fail
            go_region_held3 (fun v => v.cell? ⟨b, off + i * 2, none⟩ = some (.int .i64 vi) ∧ v.cell? ⟨b, off + i * 2 + 1, none⟩ = some (.int .i64 xi) ∧ v.cell? ⟨b, off + y * 2, none⟩ = some (.int .i64 vy) ∧ v.cell? ⟨b, off + y * 2 + 1, none⟩ = some (.int .i64 xy) ∧ v.cell? ⟨g, j', none⟩ = some (.int .i64 (y : Int))) (exact HS.out _ (by go_grown)) (first | (go_at_call 50; refine (bfS _ _ _ _ _).mono ?_; rw [HB.out]; rintro e w2 ⟨rfl, hb2⟩; have t2 : Below wr.heap.size wr w2 := Below.then_ (by go_grown) hb2 (by go_size)) | fail)
            have qq2 := qq.trans (t2.mono qq.size)
            go_wp2_with fail
            go_roundw
            case rel => exact ⟨j', by go_num, by omega, qq2, HP2.out⟩
            case measure => simp [intOf]; omega
    · obtain rfl : i = n := by omega
      have hd : decide ((i : Int) < (i : Int)) = false := by simp
      go_wp2_with fail
      go_ret
      refine ⟨⟨_, rfl, ?_⟩, qb⟩
      rw [HL.out]
      exact HO.out
end Go.Proofs.Ytjmckpaemmjcmaa.RankS
