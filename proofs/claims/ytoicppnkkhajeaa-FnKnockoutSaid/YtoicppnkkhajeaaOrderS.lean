/-
  The contracts of SeedOrder, of the program and of the reference. Conditions: each theorem's own.
-/
import Derived.Test.YtoicppnkkhajeaaOrder
import Derived.Test.YtoicppnkkhajeaaOwn
set_option linter.unusedVariables false
namespace Go.Proofs.Ytoicppnkkhajeaa.OrderS
open Go.ChangeShapes Go.WideShapes Go.ChangeAt Go.RowKit Base Ints Tourn1 Order Own

set_option maxHeartbeats 4000000 in
set_option maxRecDepth 100000 in
theorem seed_impl (size : Int) (w : World) (hs : okSz size = true) :
    Calls Try.prog 16 #[.int .i64 size] w fun e w' => (∃ v, e = .returned v ∧ OwnS w' w.heap.size w'.heap.size 2 1 enI v (seeds size)) ∧ Below w.heap.size w w' := by
  obtain ⟨i0, hi0, hz0, hz1, hz2⟩ := info_parts Ints.info
  obtain ⟨hK, hsz⟩ := last_facts size hs
  have hS := Lib.hid hs; clear hs
  unfold seeds
  generalize last size = K at *
  subst hsz
  have HK := Lib.hid hK
  have hK2 := (ord_facts K hK).2.1
  have hK3 := (ord_facts K hK).2.2.1
  clear hK
  generalize hz : (ordn K).1 = size at *
  have HZ := Lib.hid hz; clear hz
  go_enter Try.func16, Try.ntmps16
  go_wp2_with fail
  refine (isSize size _).mono ?_
  rw [hS.out]
  rintro e w1 ⟨rfl, rfl⟩
  go_wp2_with fail
  go_loopw [3, 4] (fun v n wr => ∃ k : Nat, k ≤ K ∧ n = .int .i64 (ordn k).1 ∧ OwnS wr w.heap.size wr.heap.size 2 1 enI v (ordn k).2 ∧ Below w.heap.size w wr) (fun _ n _ => 64 - (intOf n).toNat)
  case atStart =>
    refine ⟨0, Nat.zero_le _, rfl, ?_, by go_grown⟩
    exact (RowB.new w 2 [Value.int .i64 0, Value.int .i64 1]).own (xs := [0, 1]) enI_len (Nat.le_refl _) (by simp) (by decide)
  case round =>
    obtain ⟨k, hk, rfl, hown, hb⟩ := hrel
    have hF := ord_facts k (by have := HK.out; omega)
    have hF1 := Lib.hid hF.1
    have hF4 := Lib.hid hF.2.2.2
    have hf2 := hF.2.1
    have hf3 := hF.2.2.1
    clear hF
    obtain ⟨A, c, hv, hrd⟩ := hown.form enI_len
    obtain ⟨m, hm2⟩ : ∃ m : Nat, m = (ordn k).2.length := ⟨_, rfl⟩
    rw [← hm2] at hv
    have hnm : (ordn k).1 = (m : Int) := by rw [hF1.out, hm2]
    have HM := Lib.hid hm2
    clear hm2 hF1
    subst hv
    by_cases hlt : k < K
    · have hm : (ordn k).1 < size := by have := ord_lt k K hlt HK.out; rw [HZ.out] at this; exact this
      generalize hn : (ordn k).1 = n at *
      generalize hl : (ordn k).2 = l at *
      have HN := Lib.hid hn; have HL := Lib.hid hl; clear hn hl
      subst hnm
      obtain ⟨wo, hwo⟩ : ∃ wo, wo = wr := ⟨_, rfl⟩
      subst hwo
      go_wp2_with (at_make; refine wpList_make_own _ rfl _ _ _ rfl wo.heap.size 2 i0 (.int .i64 0) 1 Try.underlying22 hi0 hz0 hz1 _ _ _ (2 * m) rfl rfl ?c0 ?c1 ?c2 (Nat.le_refl _) ?_)
      case c0 => omega
      case c1 => rw [hz2]; omega
      case c2 => unfold maxLen; omega
      · intro w2 hown2 hgr2
        have hb2 : Below wo.heap.size wo w2 := Below_app (v := .slice none 0 0) hgr2 (Nat.le_refl _) (by simp [Value.ownBlock])
        have hz2' := hb2.size
        go_wp2_with fail
        go_loopw [5, 22] (fun v i wq => ∃ j : Nat, j ≤ m ∧ i = .int .i64 j ∧ OwnS wq wo.heap.size wq.heap.size 2 1 enI v (nxt m (l.take j)) ∧ Below wo.heap.size wo wq) (fun _ i _ => m - (intOf i).toNat)
        case atStart =>
          refine ⟨0, Nat.zero_le _, rfl, ?_, hb2⟩
          exact ⟨hown2, fun g hg => (hown2.lt g hg).2⟩
        case round =>
          obtain ⟨j, hj, rfl, hown3, hb3⟩ := hrel
          clear hb2 hown2 hgr2 hz2'
          have hz3 := hb3.size
          by_cases hjm : j < m
          · obtain ⟨b, off, x, rfl, hbb, hx, hc⟩ := rdI_at hrd (by rw [← HM.out]; exact hjm)
            have hc := (hb3.cell (p := ⟨b, off + j, none⟩) hbb).trans hc
            have hxm := hF4.out x (List.mem_of_getElem? hx)
            have hx := Lib.hid hx
            go_wp2_with (at_builtin; go_loud (refine wpL_app rfl _ _ _ rfl wo.heap.size wr.heap.size 2 i0 (.int .i64 0) 1 8 Try.underlying22 hi0 hz0 hz1 hz2 rfl (by decide) enI_len one_I _ (nxt m (l.take j)) [x, 2 * (m : Int) - 1 - x] rfl (hown3.alloc _) ⟨wr.heap.size, 0, none⟩ 2 2 rfl rfl (news_new (RowB.new _ _ _)) (by decide) ?c1 ?c2 ?c3 ?_))
            case c1 => rw [nxt_len, List.length_take]; unfold maxLen; omega
            case c2 => rw [nxt_len, List.length_take]; omega
            case c3 => go_size
            intro g cap w4 hown4 hgr4 hat4 hlt4
            have hb4 : Below wo.heap.size wo w4 := (hb3.alloc hz3 _).grown hgr4 (by go_size) (fun g hg => (hown3.block g hg).1)
            rw [← nxt_succ _ _ _ _ hx.out] at hown4
            clear hown3 hgr4 hat4 hc hxm hb3
            go_wp2_with fail
            go_roundw
            case rel => exact ⟨j + 1, by omega, by go_num, hown4, hb4⟩
            case measure => simp [intOf]; omega
          · obtain rfl : j = m := by omega
            go_wp2_with fail
            go_roundw
            case rel =>
              have hNN : (ordn (k + 1)) = ((j : Int) * 2, nxt j l) := by simp only [ordn, HN.out, HL.out]; rw [Int.mul_comm]
              refine ⟨k + 1, by omega, by rw [hNN], ?_, hb.trans (hb3.mono hb.size)⟩
              rw [hNN]
              have := hown3
              rw [List.take_of_length_le (by rw [← HM.out]; exact Nat.le_refl _)] at this
              exact this.less hb.size
            case measure => simp [intOf]; omega
    · obtain rfl : k = K := by omega
      rw [HZ.out]
      rw [HZ.out] at hnm hf2 hf3
      generalize hl : (ordn k).2 = l at *
      have HL := Lib.hid hl; clear hl
      have hm : decide (size < size) = false := decide_eq_false (by omega)
      clear hnm
      go_wp2_with fail
      go_ret
      refine ⟨⟨_, rfl, ?_⟩, hb⟩
      rw [HL.out]
      exact hown
set_option maxHeartbeats 4000000 in
set_option maxRecDepth 100000 in
theorem order_spec (size : Int) (w : World) (hs : okSz size = true) :
    Calls Try.prog 50 #[.int .i64 size] w fun e w' => (∃ v, e = .returned v ∧ OwnS w' w.heap.size w'.heap.size 2 1 enI v (seeds size)) ∧ Below w.heap.size w w' := by
  obtain ⟨i0, hi0, hz0, hz1, hz2⟩ := info_parts Ints.info
  obtain ⟨hK, hsz⟩ := last_facts size hs
  have hS := Lib.hid hs; clear hs
  unfold seeds
  generalize last size = K at *
  subst hsz
  have HK := Lib.hid hK
  have hK2 := (ord_facts K hK).2.1
  have hK3 := (ord_facts K hK).2.2.1
  clear hK
  generalize hz : (ordn K).1 = size at *
  have HZ := Lib.hid hz; clear hz
  go_enter Try.func50, Try.ntmps50
  go_wp2_with fail
  go_loopw [3, 4] (fun v n wr => ∃ k : Nat, k ≤ K ∧ n = .int .i64 (ordn k).1 ∧ OwnS wr w.heap.size wr.heap.size 2 1 enI v (ordn k).2 ∧ Below w.heap.size w wr) (fun _ n _ => 64 - (intOf n).toNat)
  case atStart =>
    refine ⟨0, Nat.zero_le _, rfl, ?_, by go_grown⟩
    exact (RowB.new w 2 [Value.int .i64 0, Value.int .i64 1]).own (xs := [0, 1]) enI_len (Nat.le_refl _) (by simp) (by decide)
  case round =>
    obtain ⟨k, hk, rfl, hown, hb⟩ := hrel
    have hF := ord_facts k (by have := HK.out; omega)
    have hF1 := Lib.hid hF.1
    have hF4 := Lib.hid hF.2.2.2
    have hf2 := hF.2.1
    have hf3 := hF.2.2.1
    clear hF
    obtain ⟨A, c, hv, hrd⟩ := hown.form enI_len
    obtain ⟨m, hm2⟩ : ∃ m : Nat, m = (ordn k).2.length := ⟨_, rfl⟩
    rw [← hm2] at hv
    have hnm : (ordn k).1 = (m : Int) := by rw [hF1.out, hm2]
    have HM := Lib.hid hm2
    clear hm2 hF1
    subst hv
    by_cases hlt : k < K
    · have hm : (ordn k).1 < size := by have := ord_lt k K hlt HK.out; rw [HZ.out] at this; exact this
      generalize hn : (ordn k).1 = n at *
      generalize hl : (ordn k).2 = l at *
      have HN := Lib.hid hn; have HL := Lib.hid hl; clear hn hl
      subst hnm
      obtain ⟨wo, hwo⟩ : ∃ wo, wo = wr := ⟨_, rfl⟩
      subst hwo
      go_wp2_with fail
      have hown2 : OwnS (wo.alloc (.cells #[] 2)) wo.heap.size (wo.alloc (.cells #[] 2)).heap.size 2 1 enI (.slice (some ⟨wo.heap.size, 0, none⟩) 0 0) [] :=
        (RowB.new wo 2 []).own (xs := []) enI_len (Nat.le_refl _) (by simp) (by decide)
      go_loopw [5, 6] (fun v i wq => ∃ j : Nat, j ≤ m ∧ i = .int .i64 j ∧ OwnS wq wo.heap.size wq.heap.size 2 1 enI v (nxt m (l.take j)) ∧ Below wo.heap.size wo wq) (fun _ i _ => m - (intOf i).toNat)
      case atStart =>
        exact ⟨0, Nat.zero_le _, rfl, hown2, by go_grown⟩
      case round =>
        obtain ⟨j, hj, rfl, hown3, hb3⟩ := hrel
        clear hown2
        have hz3 := hb3.size
        by_cases hjm : j < m
        · obtain ⟨b, off, x, rfl, hbb, hx, hc⟩ := rdI_at hrd (by rw [← HM.out]; exact hjm)
          have hc0 := hc
          have hc := (hb3.cell (p := ⟨b, off + j, none⟩) hbb).trans hc
          have hxm := hF4.out x (List.mem_of_getElem? hx)
          have hx := Lib.hid hx
          have e1 : IntKind.i64.wrap (2 * (m : Int)) = 2 * (m : Int) := IntWalk.i64_in _ (by omega)
          have e2 : IntKind.i64.wrap (2 * (m : Int) - 1) = 2 * (m : Int) - 1 := IntWalk.i64_in _ (by omega)
          have e3 : IntKind.i64.wrap (2 * (m : Int) - 1 - x) = 2 * (m : Int) - 1 - x := IntWalk.i64_in _ (by omega)
          go_wp2_with fail
          go_region_held3 (fun w' => w'.cell? ⟨b, off + j, none⟩ = some (.int .i64 x)) (first | exact hc | exact hc4 | go_keep) ((refine step_app rfl _ _ _ rfl wo.heap.size wr.heap.size 2 i0 (.int .i64 0) 1 8 Try.underlying22 hi0 hz0 hz1 hz2 rfl (by decide) enI_len one_I _ (nxt m (l.take j)) [x, 2 * (m : Int) - 1 - x] rfl ((hown3.alloc _).drew) ⟨wr.heap.size, 0, none⟩ 2 2 rfl rfl (news_new (RowB.new _ _ _)) (by decide) (by rw [nxt_len, List.length_take]; unfold maxLen; omega) (by rw [nxt_len, List.length_take]; omega) (by go_size) ?_; intro g cap w4 hown4 hgr4 hat4 hlt4; have hb4 : Below wo.heap.size wo w4 := ((hb3.alloc hz3 _).drew).grown hgr4 (by go_size) (fun g hg => (hown3.block g hg).1); have hc4 := (hb4.cell (p := ⟨b, off + j, none⟩) hbb).trans hc0))
          rw [← nxt_succ _ _ _ _ hx.out] at hown4
          clear hown3 hgr4 hat4 hc hxm hb3 e1 e2 e3
          go_wp2_with fail
          go_roundw
          case rel => exact ⟨j + 1, by omega, by go_num, hown4, hb4⟩
          case measure => simp [intOf]; omega
        · obtain rfl : j = m := by omega
          go_wp2_with fail
          go_roundw
          case rel =>
            have hNN : (ordn (k + 1)) = (2 * (j : Int), nxt j l) := by simp only [ordn, HN.out, HL.out]
            refine ⟨k + 1, by omega, by rw [hNN], ?_, hb.trans (hb3.mono hb.size)⟩
            rw [hNN]
            have := hown3
            rw [List.take_of_length_le (by rw [← HM.out]; exact Nat.le_refl _)] at this
            exact this.less hb.size
          case measure => simp [intOf]; omega
    · obtain rfl : k = K := by omega
      rw [HZ.out]
      rw [HZ.out] at hnm hf2 hf3
      generalize hl : (ordn k).2 = l at *
      have HL := Lib.hid hl; clear hl
      have hm : decide (size < size) = false := decide_eq_false (by omega)
      clear hnm
      go_wp2_with fail
      go_ret
      refine ⟨⟨_, rfl, ?_⟩, hb⟩
      rw [HL.out]
      exact hown

/-- The order of seeds at any size. -/
def sd (size : Int) : List Int := if okSz size then seeds size else []
theorem sd_len (size : Int) : (sd size).length ≤ 32 := by
  unfold sd
  cases h : okSz size
  · simp
  · obtain ⟨h1, h2⟩ := last_facts size h
    have h3 := ord_facts _ h1
    simp only [if_true, seeds]
    omega
theorem szS (n : Int) (b : Bool) (h : okSz n = b) (w : World) : Calls Try.prog 49 #[.int .i64 n] w fun e w' => e = .returned (.bool b) ∧ w = w' := by
  subst h; exact szSpec n w
theorem szI (n : Int) (b : Bool) (h : okSz n = b) (w : World) : Calls Try.prog 51 #[.int .i64 n] w fun e w' => e = .returned (.bool b) ∧ w = w' := by
  subst h; exact isSize n w

theorem sd_spec (size : Int) (w : World) :
    Calls Try.prog 15 #[.int .i64 size] w fun e w' => (∃ v, e = .returned v ∧ OwnS w' w.heap.size w'.heap.size 2 1 enI v (sd size)) ∧ Below w.heap.size w w' := by
  cases h : okSz size
  · have HV := Lib.hid (show sd size = [] by simp [sd, h])
    have H := Lib.hid h; clear h
    go_enter Try.func15, Try.ntmps15
    go_wp2_with (go_at_call 49; refine (szS size false H.out _).mono ?_; rintro e w' ⟨rfl, rfl⟩)
    go_ret
    refine ⟨⟨_, rfl, ?_⟩, by go_grown⟩
    rw [HV.out]
    exact (RowB.new w 2 []).own (xs := []) enI_len (Nat.le_refl _) (by simp) (by decide)
  · have HV := Lib.hid (show sd size = seeds size by simp [sd, h])
    have H := Lib.hid h; clear h
    go_enter Try.func15, Try.ntmps15
    go_wp2_with (go_at_call 49; refine (szS size true H.out _).mono ?_; rintro e w' ⟨rfl, rfl⟩)
    go_wp2_with fail
    refine (order_spec size _ H.out).mono ?_
    rintro e w' ⟨⟨v, rfl, o⟩, hb⟩
    go_wp2
    go_ret
    exact ⟨⟨_, rfl, by rw [HV.out]; exact o⟩, hb⟩

theorem sd_impl (size : Int) (w : World) :
    Calls Try.prog 16 #[.int .i64 size] w fun e w' => (∃ v, e = .returned v ∧ OwnS w' w.heap.size w'.heap.size 2 1 enI v (sd size)) ∧ Below w.heap.size w w' := by
  cases h : okSz size
  · have HV := Lib.hid (show sd size = [] by simp [sd, h])
    have H := Lib.hid h; clear h
    go_enter Try.func16, Try.ntmps16
    go_wp2_with (go_at_call 51; refine (szI size false H.out _).mono ?_; rintro e w' ⟨rfl, rfl⟩)
    go_ret
    exact ⟨⟨_, rfl, by rw [HV.out]; exact OwnS.nil_ _ _ _ _ _ _⟩, Below.refl _ _⟩
  · have HV := Lib.hid (show sd size = seeds size by simp [sd, h])
    refine (seed_impl size w h).mono ?_
    rintro e w' ⟨⟨v, rfl, o⟩, hb⟩
    exact ⟨⟨_, rfl, by rw [HV.out]; exact o⟩, hb⟩
end Go.Proofs.Ytoicppnkkhajeaa.OrderS
