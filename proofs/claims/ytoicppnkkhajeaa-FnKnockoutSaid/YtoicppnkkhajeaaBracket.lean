/-
  The contract of the program's bracket. Conditions: each theorem's own.
-/
import Derived.Test.YtoicppnkkhajeaaPairsS
set_option linter.unusedVariables false
namespace Go.Proofs.Ytoicppnkkhajeaa.Bracket
open Go.ChangeShapes Go.WideShapes Go.ChangeAt Go.RowKit Base Ints Tourn1 Order Own OrderS Pairs PairsS

/-- A match of the program. -/
abbrev M5 := Int × Int × Int × Int × Int
def enM (x : M5) : List Value := [.int .i64 x.1, .int .i64 x.2.1, .int .i64 x.2.2.1, .int .i64 x.2.2.2.1, .int .i64 x.2.2.2.2]
theorem enM_len (x : M5) : (enM x).length = 5 := rfl
theorem one_M (x : M5) : ∀ u ∈ enM x, u.oneCell' = true := by
  intro u hu
  simp only [enM, List.mem_cons, List.not_mem_nil, or_false] at hu
  rcases hu with rfl | rfl | rfl | rfl | rfl <;> rfl
theorem infoM : (Try.prog.info? 57).map (fun i => (i.zero, i.size, i.bytes)) = some (some (.agg #[.int .i64 0, .int .i64 0, .int .i64 0, .int .i64 0, .int .i64 0]), 5, 40) := by kernel_rfl
def bm (size : Int) (R : List Int) (k : Nat) : M5 := (en size R (2 * k), en size R (2 * k + 1), wi size R k, lo size R k, (rd size.toNat k : Int))

theorem wi_0 {size : Int} {R : List Int} {k : Nat} (h : R[k]? = some 0) : wi size R k = en size R (2 * k) ∧ lo size R k = en size R (2 * k + 1) := by
  have hk := (List.getElem?_eq_some_iff.1 h).1
  have hg : R.getD k 0 = 0 := by rw [List.getD_eq_getElem?_getD, h]; rfl
  unfold wi lo
  rw [if_pos hk, if_pos hk, hg]
  exact ⟨rfl, rfl⟩
theorem wi_1 {size : Int} {R : List Int} {k : Nat} (h : R[k]? = some 1) : wi size R k = en size R (2 * k + 1) ∧ lo size R k = en size R (2 * k) := by
  have hk := (List.getElem?_eq_some_iff.1 h).1
  have hg : R.getD k 0 = 1 := by rw [List.getD_eq_getElem?_getD, h]; rfl
  unfold wi lo
  rw [if_pos hk, if_pos hk, hg]
  exact ⟨rfl, rfl⟩
theorem wi_n {size : Int} {R : List Int} {k : Nat} (h : R.length ≤ k) : wi size R k = -1 ∧ lo size R k = -1 := by
  unfold wi lo
  rw [if_neg (by omega), if_neg (by omega)]
  exact ⟨rfl, rfl⟩

/-- A power of two up to 32. -/
def isP (m : Nat) : Prop := ∃ b, b ≤ 5 ∧ m = 2 ^ b
theorem rd_fin2 : ∀ a : Fin 6, ∀ b : Fin 6, ∀ k : Fin 32, 1 ≤ b.val → b.val ≤ a.val → 2 ^ a.val - 2 ^ b.val ≤ k.val → k.val < 2 ^ a.val - 2 ^ (b.val - 1) → rd (2 ^ a.val) k.val = 2 ^ (b.val - 1) := by decide +kernel
theorem round_facts {n m : Nat} (hn : isP n) (hm : isP m) (h1 : 1 < m) (hmn : m ≤ n) : ∃ h, isP h ∧ 1 ≤ h ∧ 2 * h ≤ m ∧ m ≤ 2 * h ∧ ∀ k, n - m ≤ k → k < n - h → rd n k = h := by
  obtain ⟨a, ha, rfl⟩ := hn
  obtain ⟨b, hb, rfl⟩ := hm
  have hb1 : 1 ≤ b := by
    rcases Nat.eq_zero_or_pos b with rfl | h
    · simp at h1
    · exact h
  obtain ⟨c, rfl⟩ : ∃ c, b = c + 1 := ⟨b - 1, by omega⟩
  have hab : c + 1 ≤ a := by
    rcases Nat.lt_or_ge a (c + 1) with h | h
    · have := Nat.pow_lt_pow_right (a := 2) (by decide) h; omega
    · exact h
  have hp : 2 ^ (c + 1) = 2 * 2 ^ c := by rw [Nat.pow_succ]; omega
  refine ⟨2 ^ c, ⟨c, by omega, rfl⟩, Nat.one_le_two_pow, by omega, by omega, fun k hk1 hk2 => ?_⟩
  have h32 : 2 ^ a ≤ 32 := by have := Nat.pow_le_pow_right (n := 2) (by decide) ha; simpa using this
  exact rd_fin2 ⟨a, by omega⟩ ⟨c + 1, by omega⟩ ⟨k, by omega⟩ (by simp) hab hk1 (by simpa using hk2)
theorem isP_of {size : Int} (h : okSz size = true) : isP size.toNat := by
  obtain ⟨a, _, ha, he, _⟩ := okSz_pow h
  exact ⟨a, ha, he⟩

set_option maxHeartbeats 8000000 in
set_option maxRecDepth 100000 in
theorem bracket_impl (n : Nat) (A : Option Addr) (cp B : Nat) (R : List Int) (w : World) (hB : B ≤ w.heap.size) (hr : RdS w B 1 enI A R) (ok : okT (n : Int) R = true) :
    Calls Try.prog 58 #[.agg #[.int .i64 n, .slice A R.length cp]] w fun e w' => (∃ v, e = .returned v ∧ OwnS w' w.heap.size w'.heap.size 57 5 enM v (seg (bm n R) 0 (n - 1))) ∧ Below w.heap.size w w' := by
  obtain ⟨i0, hi0, hz0, hz1, hz2⟩ := info_parts Ints.info
  obtain ⟨i5, hi5, hy0, hy1, hy2⟩ := info_parts infoM
  obtain ⟨hs, hRn, hR⟩ := okT_parts ok
  have hR := Lib.hid hR
  clear ok
  obtain ⟨h2, h32, _, _⟩ := seeds_facts hs
  have hP := Lib.hid (isP_of hs)
  have HE := Lib.hid (seeds_seg R hs)
  have HW := Lib.hid (fun (k : Nat) (hk : k + 1 < n) => en_wi R hs (k := k) hk)
  have C := fun w0 => seed_impl n w0 hs
  clear hs
  simp only [Int.toNat_natCast] at hP HE HW
  obtain ⟨q, hq⟩ : ∃ q, R.length = q := ⟨_, rfl⟩
  rw [hq] at hRn
  have HQ := Lib.hid hq
  rw [hq]
  clear hq
  go_enter Try.func58, Try.ntmps58
  go_wp2_with fail
  refine (C _).mono ?_
  rw [HE.out]
  rintro e w1 ⟨⟨v1, rfl, ho⟩, hb1⟩
  have rb := (RowB.new _ _ _).below hb1 (by simp)
  have hb1' : Below w.heap.size w w1 := Below.then_ (by go_grown) hb1 (by simp)
  simp only [World.size_alloc] at hb1 ho
  have hz1' := hb1.size
  clear C hb1
  go_wp2_with fail
  go_loopw [3, 4] (fun lv ev wr => ∃ m : Nat, 1 ≤ m ∧ m ≤ n ∧ Hid (isP m) ∧ OwnS wr (w.heap.size + 1) wr.heap.size 57 5 enM lv (seg (bm n R) 0 (n - m)) ∧ OwnS wr (w.heap.size + 1) wr.heap.size 2 1 enI ev (seg (en n R) (2 * (n - m)) m) ∧ Apart lv ev ∧ Below (w.heap.size + 1) w1 wr) (fun _ ev _ => match ev with | .slice _ l _ => l | _ => 0)
  case atStart =>
    refine ⟨n, by omega, Nat.le_refl _, hP, ?_, ?_, Apart.nil _, Below.refl _ _⟩
    · rw [Nat.sub_self]; exact OwnS.nil_ _ _ _ _ _ _
    · rw [Nat.sub_self]; exact ho
  case round =>
    obtain ⟨m, hm1, hmn, hPm, hL, hE, hLE, hb⟩ := hrel
    obtain ⟨wo, hwo⟩ : ∃ wo, wo = wr := ⟨_, rfl⟩
    subst hwo
    obtain ⟨Ae, ce, hv, _⟩ := hE.form enI_len
    rw [seg_len] at hv
    subst hv
    clear ho
    by_cases hlt : 1 < m
    · obtain ⟨h, hPh, hh1, hh2, hh3, hrd⟩ := round_facts hP.out hPm.out hlt hmn
      have hPh := Lib.hid hPh
      have HR := Lib.hid hrd
      clear hrd hPm
      have hlt' : (1 : Int) < (m : Int) := by omega
      go_wp2_with fail
      go_loopw [3, 5, 6] (fun lv wv i wr => ∃ j : Nat, j ≤ h ∧ i = .int .i64 (2 * (j : Int)) ∧ OwnS wr (w.heap.size + 1) wr.heap.size 57 5 enM lv (seg (bm n R) 0 (n - m + j)) ∧ OwnS wr (w.heap.size + 1) wr.heap.size 2 1 enI wv (seg (en n R) (2 * n - m) j) ∧
          OwnS wr (w.heap.size + 1) wr.heap.size 2 1 enI (.slice Ae m ce) (seg (en n R) (2 * (n - m)) m) ∧ Apart lv wv ∧ Apart lv (.slice Ae m ce) ∧ Apart wv (.slice Ae m ce) ∧ Below (w.heap.size + 1) w1 wr) (fun _ _ i _ => 64 - (intOf i).toNat)
      case atStart =>
        exact ⟨0, Nat.zero_le _, rfl, hL, OwnS.nil_ _ _ _ _ _ _, hE, (Apart.nil _).symm, hLE, Apart.nil _, hb⟩
      case round =>
        obtain ⟨j, hj, rfl, hL, hV, hE, hLV, hLE, hVE, hb⟩ := hrel
        by_cases hjh : j < h
        · obtain ⟨b, off, y0, rfl, hb0, hy0, hc0⟩ := rdI_at (hE.rd enI_len) (i := 2 * j) (by rw [seg_len]; omega)
          obtain ⟨b', off', y1, he1, _, hy1, hc1⟩ := rdI_at (hE.rd enI_len) (i := 2 * j + 1) (by rw [seg_len]; omega)
          simp only [Option.some.injEq, Addr.mk.injEq, and_true] at he1
          obtain ⟨rfl, rfl⟩ := he1
          rw [seg_at _ _ _ _ (by omega)] at hy0 hy1
          obtain rfl : en n R (2 * (n - m) + 2 * j) = y0 := by simpa using hy0
          obtain rfl : en n R (2 * (n - m) + (2 * j + 1)) = y1 := by simpa using hy1
          clear hy0 hy1
          have hk0 : 2 * (n - m) + 2 * j = 2 * (n - m + j) := by omega
          have hk1 : 2 * (n - m) + (2 * j + 1) = 2 * (n - m + j) + 1 := by omega
          rw [hk0] at hc0
          rw [hk1] at hc1
          clear hk0 hk1
          obtain ⟨k, hk⟩ : ∃ k, k = n - m + j := ⟨_, rfl⟩
          rw [← hk] at hc0 hc1 hL
          have HK := Lib.hid hk
          have hk1 : k < n := by omega
          have hk2 : n - m ≤ k := by omega
          have hk3 : k < n - h := by omega
          clear hk
          generalize ha0 : en n R (2 * k) = a0 at *
          generalize ha1 : en n R (2 * k + 1) = a1 at *
          have HA0 := Lib.hid ha0
          have HA1 := Lib.hid ha1
          clear ha0 ha1
          obtain ⟨Al, cl, hv, _⟩ := hL.form enM_len
          rw [seg_len] at hv
          subst hv
          have x0 : (0 : Int) ≤ 2 * (j : Int) := by omega
          have x1 : 2 * (j : Int) < (m : Int) := by omega
          have x2 : (0 : Int) ≤ 2 * (j : Int) + 1 := by omega
          have x3 : 2 * (j : Int) + 1 < (m : Int) := by omega
          have x4 : IntKind.i64.wrap (2 * (j : Int) + 1) = 2 * (j : Int) + 1 := IntWalk.i64_in _ (by omega)
          have x5 : (2 * (j : Int)).toNat = 2 * j := by omega
          have x7 : IntKind.i64.wrap ((m : Int) / 2) = (h : Int) := by rw [IntWalk.i64_in _ (by omega)]; omega
          have x6 : (2 * (j : Int) + 1).toNat = 2 * j + 1 := by omega
          go_wp2_with fail
          go_region_held3 (fun w' => w'.cell? ⟨b, off + 2 * j, none⟩ = some (.int .i64 a0) ∧ w'.cell? ⟨b, off + (2 * j + 1), none⟩ = some (.int .i64 a1)) (first | exact ⟨hc0, hc1⟩ | go_keep) (fail)
          have rb' := rb.below hb (Nat.lt_succ_self _)
          obtain ⟨p0, p1⟩ := rb'.c2
          have hwlt := rb'.lt
          have hbz := hb.size
          clear x0 x1 x2 x3 x4 x5 x6 x7
          by_cases hkq : k < q
          · obtain ⟨bR, offR, x, rfl, hbR, hx, hcR⟩ := rdI_at (hr.below (hb1'.trans (hb.mono (Nat.le_succ _))) hB) (by rw [HQ.out]; exact hkq)
            have hbR' : bR < wr.heap.size := by omega
            rcases hR.out x (List.mem_of_getElem? hx) with rfl | rfl
            · have hw : Hid (wi n R k = a0 ∧ lo n R k = a1) := Lib.hid (by have := wi_0 (size := n) hx; rw [HA0.out, HA1.out] at this; exact this)
              clear hx
              go_wp2_with (at_builtin; refine wpL_app rfl _ _ _ rfl (w.heap.size + 1) wr.heap.size 57 i5 (.agg #[.int .i64 0, .int .i64 0, .int .i64 0, .int .i64 0, .int .i64 0]) 5 40 Try.underlying58 hi5 hy0 hy1 hy2 rfl (by decide) enM_len one_M _ (seg (bm n R) 0 k) [(a0, a1, a0, a1, (h : Int))] rfl (((hL.alloc _).alloc _).drew) ⟨wr.heap.size + 1, 0, none⟩ 1 1 rfl rfl (news_new (RowB.drew (RowB.new' (wr.alloc _) _ _ (by simp)))) (by decide) ?c1 ?c2 ?c3 ?_)
              case c1 => rw [seg_len]; unfold maxLen; omega
              case c2 => rw [seg_len]; omega
              case c3 => go_size
              intro g4 cap4 w4 hL4 hgr4 hat4 hlt4
              have r4 : RowB w4 wr.heap.size 57 _ := (((RowB.new wr _ _).alloc _).drew).grown hgr4 (fun g hg => by have := (hL.block g hg).2; omega)
              have hV4 := OwnS.far (((hV.alloc _).alloc _).drew) hgr4 hLV
              have hE4 := OwnS.far (((hE.alloc _).alloc _).drew) hgr4 hLE
              have hLV4 : Apart (.slice (some ⟨g4, 0, none⟩) ((seg (bm n R) 0 k).length + 1) cap4) _ := hLV.app (fun g hg => Nat.lt_of_lt_of_le (hV.block g hg).2 (by go_size)) hat4
              have hLE4 : Apart (.slice (some ⟨g4, 0, none⟩) ((seg (bm n R) 0 k).length + 1) cap4) _ := hLE.app (fun g hg => Nat.lt_of_lt_of_le (hE.block g hg).2 (by go_size)) hat4
              have hb4 : Below (w.heap.size + 1) w1 w4 := (((hb.alloc (by omega) _).alloc (by go_size) _).drew).grown hgr4 (by go_size) (fun g hg => (hL.block g hg).1)
              have hz4 : wr.heap.size + 2 ≤ w4.heap.size := by have := hgr4.size; simpa using this
              obtain ⟨d0, d1, d2, d3, d4⟩ := r4.c5
              clear hL hE hV hLV hLE hb hgr4 hat4 r4 p0 p1
              go_wp2_with (at_builtin; refine wpL_app rfl _ _ _ rfl (w.heap.size + 1) wr.heap.size 2 i0 (.int .i64 0) 1 8 Try.underlying22 hi0 hz0 hz1 hz2 rfl (by decide) enI_len one_I _ (seg (en n R) (2 * n - m) j) [a0] rfl (hV4.alloc _) ⟨w4.heap.size, 0, none⟩ 1 1 rfl rfl (news_new (RowB.new _ _ _)) (by decide) ?c1 ?c2 ?c3 ?_)
              case c1 => rw [seg_len]; unfold maxLen; omega
              case c2 => rw [seg_len]; omega
              case c3 => go_size
              intro g5 cap5 w5 hV5 hgr5 hat5 hlt5
              have hz5 : w4.heap.size + 1 ≤ w5.heap.size := by have := hgr5.size; simpa using this
              have hL5 := (OwnS.far (hL4.alloc _) hgr5 hLV4.symm).more (hi' := w5.heap.size) (by omega)
              have hE5 := (OwnS.far (hE4.alloc _) hgr5 hVE).more (hi' := w5.heap.size) (by omega)
              have hLV5 : Apart _ (.slice (some ⟨g5, 0, none⟩) ((seg (en n R) (2 * n - m) j).length + 1) cap5) := (hLV4.symm.app (fun g hg => Nat.lt_of_lt_of_le (hL4.block g hg).2 (by go_size)) hat5).symm
              have hVE5 : Apart (.slice (some ⟨g5, 0, none⟩) ((seg (en n R) (2 * n - m) j).length + 1) cap5) _ := hVE.app (fun g hg => Nat.lt_of_lt_of_le (hE4.block g hg).2 (by go_size)) hat5
              have hb5 : Below (w.heap.size + 1) w1 w5 := (hb4.alloc (by omega) _).grown hgr5 (by go_size) (fun g hg => (hV4.block g hg).1)
              have eL : seg (bm n R) 0 k ++ [(a0, a1, a0, a1, (h : Int))] = seg (bm n R) 0 (n - m + (j + 1)) := by
                rw [show n - m + (j + 1) = k + 1 from by have := HK.out; omega, seg_succ, Nat.zero_add]
                simp only [bm, HA0.out, HA1.out, hw.out.1, hw.out.2, Int.toNat_natCast, HR.out k hk2 hk3]
              have eV : seg (en n R) (2 * n - m) j ++ [a0] = seg (en n R) (2 * n - m) (j + 1) := by
                rw [seg_succ, show 2 * n - m + j = n + k from by have := HK.out; omega, HW.out k (by omega), hw.out.1]
              rw [eL] at hL5
              rw [eV] at hV5
              clear hL4 hE4 hV4 hgr5 hat5 hb4 hLV4 hVE d0 d1 d2 d3 d4 eL eV
              go_wp2_with fail
              go_roundw
              case rel => exact ⟨j + 1, by omega, by go_num, hL5, hV5, hE5, hLV5, hLE4, hVE5, hb5⟩
              case measure => simp [intOf]; omega
            · have hw : Hid (wi n R k = a1 ∧ lo n R k = a0) := Lib.hid (by have := wi_1 (size := n) hx; rw [HA0.out, HA1.out] at this; exact this)
              clear hx
              go_wp2_with (at_builtin; refine wpL_app rfl _ _ _ rfl (w.heap.size + 1) wr.heap.size 57 i5 (.agg #[.int .i64 0, .int .i64 0, .int .i64 0, .int .i64 0, .int .i64 0]) 5 40 Try.underlying58 hi5 hy0 hy1 hy2 rfl (by decide) enM_len one_M _ (seg (bm n R) 0 k) [(a0, a1, a1, a0, (h : Int))] rfl (((hL.alloc _).alloc _).drew) ⟨wr.heap.size + 1, 0, none⟩ 1 1 rfl rfl (news_new (RowB.drew (RowB.new' (wr.alloc _) _ _ (by simp)))) (by decide) ?c1 ?c2 ?c3 ?_)
              case c1 => rw [seg_len]; unfold maxLen; omega
              case c2 => rw [seg_len]; omega
              case c3 => go_size
              intro g4 cap4 w4 hL4 hgr4 hat4 hlt4
              have r4 : RowB w4 wr.heap.size 57 _ := (((RowB.new wr _ _).alloc _).drew).grown hgr4 (fun g hg => by have := (hL.block g hg).2; omega)
              have hV4 := OwnS.far (((hV.alloc _).alloc _).drew) hgr4 hLV
              have hE4 := OwnS.far (((hE.alloc _).alloc _).drew) hgr4 hLE
              have hLV4 : Apart (.slice (some ⟨g4, 0, none⟩) ((seg (bm n R) 0 k).length + 1) cap4) _ := hLV.app (fun g hg => Nat.lt_of_lt_of_le (hV.block g hg).2 (by go_size)) hat4
              have hLE4 : Apart (.slice (some ⟨g4, 0, none⟩) ((seg (bm n R) 0 k).length + 1) cap4) _ := hLE.app (fun g hg => Nat.lt_of_lt_of_le (hE.block g hg).2 (by go_size)) hat4
              have hb4 : Below (w.heap.size + 1) w1 w4 := (((hb.alloc (by omega) _).alloc (by go_size) _).drew).grown hgr4 (by go_size) (fun g hg => (hL.block g hg).1)
              have hz4 : wr.heap.size + 2 ≤ w4.heap.size := by have := hgr4.size; simpa using this
              obtain ⟨d0, d1, d2, d3, d4⟩ := r4.c5
              clear hL hE hV hLV hLE hb hgr4 hat4 r4 p0 p1
              go_wp2_with (at_builtin; refine wpL_app rfl _ _ _ rfl (w.heap.size + 1) wr.heap.size 2 i0 (.int .i64 0) 1 8 Try.underlying22 hi0 hz0 hz1 hz2 rfl (by decide) enI_len one_I _ (seg (en n R) (2 * n - m) j) [a1] rfl (hV4.alloc _) ⟨w4.heap.size, 0, none⟩ 1 1 rfl rfl (news_new (RowB.new _ _ _)) (by decide) ?c1 ?c2 ?c3 ?_)
              case c1 => rw [seg_len]; unfold maxLen; omega
              case c2 => rw [seg_len]; omega
              case c3 => go_size
              intro g5 cap5 w5 hV5 hgr5 hat5 hlt5
              have hz5 : w4.heap.size + 1 ≤ w5.heap.size := by have := hgr5.size; simpa using this
              have hL5 := (OwnS.far (hL4.alloc _) hgr5 hLV4.symm).more (hi' := w5.heap.size) (by omega)
              have hE5 := (OwnS.far (hE4.alloc _) hgr5 hVE).more (hi' := w5.heap.size) (by omega)
              have hLV5 : Apart _ (.slice (some ⟨g5, 0, none⟩) ((seg (en n R) (2 * n - m) j).length + 1) cap5) := (hLV4.symm.app (fun g hg => Nat.lt_of_lt_of_le (hL4.block g hg).2 (by go_size)) hat5).symm
              have hVE5 : Apart (.slice (some ⟨g5, 0, none⟩) ((seg (en n R) (2 * n - m) j).length + 1) cap5) _ := hVE.app (fun g hg => Nat.lt_of_lt_of_le (hE4.block g hg).2 (by go_size)) hat5
              have hb5 : Below (w.heap.size + 1) w1 w5 := (hb4.alloc (by omega) _).grown hgr5 (by go_size) (fun g hg => (hV4.block g hg).1)
              have eL : seg (bm n R) 0 k ++ [(a0, a1, a1, a0, (h : Int))] = seg (bm n R) 0 (n - m + (j + 1)) := by
                rw [show n - m + (j + 1) = k + 1 from by have := HK.out; omega, seg_succ, Nat.zero_add]
                simp only [bm, HA0.out, HA1.out, hw.out.1, hw.out.2, Int.toNat_natCast, HR.out k hk2 hk3]
              have eV : seg (en n R) (2 * n - m) j ++ [a1] = seg (en n R) (2 * n - m) (j + 1) := by
                rw [seg_succ, show 2 * n - m + j = n + k from by have := HK.out; omega, HW.out k (by omega), hw.out.1]
              rw [eL] at hL5
              rw [eV] at hV5
              clear hL4 hE4 hV4 hgr5 hat5 hb4 hLV4 hVE d0 d1 d2 d3 d4 eL eV
              go_wp2_with fail
              go_roundw
              case rel => exact ⟨j + 1, by omega, by go_num, hL5, hV5, hE5, hLV5, hLE4, hVE5, hb5⟩
              case measure => simp [intOf]; omega
          · have hw : Hid (wi n R k = -1 ∧ lo n R k = -1) := Lib.hid (wi_n (by rw [HQ.out]; omega))
            have hd : decide ((k : Int) < (q : Int)) = false := decide_eq_false (by omega)
            go_wp2_with (at_builtin; refine wpL_app rfl _ _ _ rfl (w.heap.size + 1) wr.heap.size 57 i5 (.agg #[.int .i64 0, .int .i64 0, .int .i64 0, .int .i64 0, .int .i64 0]) 5 40 Try.underlying58 hi5 hy0 hy1 hy2 rfl (by decide) enM_len one_M _ (seg (bm n R) 0 k) [(a0, a1, (-1 : Int), (-1 : Int), (h : Int))] rfl (((hL.alloc _).alloc _).drew) ⟨wr.heap.size + 1, 0, none⟩ 1 1 rfl rfl (news_new (RowB.drew (RowB.new' (wr.alloc _) _ _ (by simp)))) (by decide) ?c1 ?c2 ?c3 ?_)
            case c1 => rw [seg_len]; unfold maxLen; omega
            case c2 => rw [seg_len]; omega
            case c3 => go_size
            intro g4 cap4 w4 hL4 hgr4 hat4 hlt4
            have r4 : RowB w4 wr.heap.size 57 _ := (((RowB.new wr _ _).alloc _).drew).grown hgr4 (fun g hg => by have := (hL.block g hg).2; omega)
            have hV4 := OwnS.far (((hV.alloc _).alloc _).drew) hgr4 hLV
            have hE4 := OwnS.far (((hE.alloc _).alloc _).drew) hgr4 hLE
            have hLV4 : Apart (.slice (some ⟨g4, 0, none⟩) ((seg (bm n R) 0 k).length + 1) cap4) _ := hLV.app (fun g hg => Nat.lt_of_lt_of_le (hV.block g hg).2 (by go_size)) hat4
            have hLE4 : Apart (.slice (some ⟨g4, 0, none⟩) ((seg (bm n R) 0 k).length + 1) cap4) _ := hLE.app (fun g hg => Nat.lt_of_lt_of_le (hE.block g hg).2 (by go_size)) hat4
            have hb4 : Below (w.heap.size + 1) w1 w4 := (((hb.alloc (by omega) _).alloc (by go_size) _).drew).grown hgr4 (by go_size) (fun g hg => (hL.block g hg).1)
            have hz4 : wr.heap.size + 2 ≤ w4.heap.size := by have := hgr4.size; simpa using this
            obtain ⟨d0, d1, d2, d3, d4⟩ := r4.c5
            clear hL hE hV hLV hLE hb hgr4 hat4 r4 p0 p1
            go_wp2_with (at_builtin; refine wpL_app rfl _ _ _ rfl (w.heap.size + 1) wr.heap.size 2 i0 (.int .i64 0) 1 8 Try.underlying22 hi0 hz0 hz1 hz2 rfl (by decide) enI_len one_I _ (seg (en n R) (2 * n - m) j) [(-1 : Int)] rfl (hV4.alloc _) ⟨w4.heap.size, 0, none⟩ 1 1 rfl rfl (news_new (RowB.new _ _ _)) (by decide) ?c1 ?c2 ?c3 ?_)
            case c1 => rw [seg_len]; unfold maxLen; omega
            case c2 => rw [seg_len]; omega
            case c3 => go_size
            intro g5 cap5 w5 hV5 hgr5 hat5 hlt5
            have hz5 : w4.heap.size + 1 ≤ w5.heap.size := by have := hgr5.size; simpa using this
            have hL5 := (OwnS.far (hL4.alloc _) hgr5 hLV4.symm).more (hi' := w5.heap.size) (by omega)
            have hE5 := (OwnS.far (hE4.alloc _) hgr5 hVE).more (hi' := w5.heap.size) (by omega)
            have hLV5 : Apart _ (.slice (some ⟨g5, 0, none⟩) ((seg (en n R) (2 * n - m) j).length + 1) cap5) := (hLV4.symm.app (fun g hg => Nat.lt_of_lt_of_le (hL4.block g hg).2 (by go_size)) hat5).symm
            have hVE5 : Apart (.slice (some ⟨g5, 0, none⟩) ((seg (en n R) (2 * n - m) j).length + 1) cap5) _ := hVE.app (fun g hg => Nat.lt_of_lt_of_le (hE4.block g hg).2 (by go_size)) hat5
            have hb5 : Below (w.heap.size + 1) w1 w5 := (hb4.alloc (by omega) _).grown hgr5 (by go_size) (fun g hg => (hV4.block g hg).1)
            have eL : seg (bm n R) 0 k ++ [(a0, a1, (-1 : Int), (-1 : Int), (h : Int))] = seg (bm n R) 0 (n - m + (j + 1)) := by
              rw [show n - m + (j + 1) = k + 1 from by have := HK.out; omega, seg_succ, Nat.zero_add]
              simp only [bm, HA0.out, HA1.out, hw.out.1, hw.out.2, Int.toNat_natCast, HR.out k hk2 hk3]
            have eV : seg (en n R) (2 * n - m) j ++ [(-1 : Int)] = seg (en n R) (2 * n - m) (j + 1) := by
              rw [seg_succ, show 2 * n - m + j = n + k from by have := HK.out; omega, HW.out k (by omega), hw.out.1]
            rw [eL] at hL5
            rw [eV] at hV5
            clear hL4 hE4 hV4 hgr5 hat5 hb4 hLV4 hVE d0 d1 d2 d3 d4 eL eV
            go_wp2_with fail
            go_roundw
            case rel => exact ⟨j + 1, by omega, by go_num, hL5, hV5, hE5, hLV5, hLE4, hVE5, hb5⟩
            case measure => simp [intOf]; omega
        · obtain rfl : j = h := by omega
          have hd : decide (2 * (j : Int) < (m : Int)) = false := decide_eq_false (by omega)
          obtain ⟨Av, cv, hv, _⟩ := hV.form enI_len
          rw [seg_len] at hv
          subst hv
          go_wp2_with fail
          go_roundw
          case rel =>
            rw [show n - m + j = n - j from by omega] at hL
            rw [show 2 * n - m = 2 * (n - j) from by omega] at hV
            exact ⟨j, hh1, by omega, hPh, hL, hV, hLV, hb⟩
          case measure => simp only []; omega
    · obtain rfl : m = 1 := by omega
      go_wp2_with fail
      go_ret
      refine ⟨⟨_, rfl, ?_⟩, hb1'.trans (hb.mono (Nat.le_succ _))⟩
      exact hL.less (Nat.le_succ _)

end Go.Proofs.Ytoicppnkkhajeaa.Bracket
