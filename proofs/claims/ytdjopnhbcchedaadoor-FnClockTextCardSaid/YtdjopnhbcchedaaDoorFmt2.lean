/-
  FormatClock of the program and of the reference: digits, padding, the whole. Conditions: each theorem's own.
-/
import Derived.Test.YtdjopnhbcchedaaDoorFmt
set_option linter.unusedVariables false
namespace Go.Proofs.YtdjopnhbcchedaaDoor.Fmt
open Go.ChangeShapes Go.WideShapes Go.ChangeAt Go.RowKit Go.Sort Base Base2 Ints RegInv

theorem grow_bel (w : World) (k : Nat) (os : Array Obj) : Below w.heap.size w (grow (w.drewN k) os) :=
  ⟨rfl, rfl, rfl, by simp [grow], fun i hi => by
    show (w.heap ++ os)[i]? = w.heap[i]?
    exact Array.getElem?_append_left hi⟩
def tabN : String := "internal/strconv.uint64pow10"
def TabOk (w : World) : Prop := Lib.TabIs Tryd.prog w "internal/strconv.uint64pow10" .u64 Lib.pow10Tab
theorem tab_glob : ∃ g, Tryd.prog.globalNamed "internal/strconv.uint64pow10" = some g := by
  have h : (Tryd.prog.globalNamed "internal/strconv.uint64pow10").isSome = true := by kernel_rfl
  exact Option.isSome_iff_exists.1 h
theorem TabOk.below {w w' : World} (h : TabOk w) (hb : Below w.heap.size w w') : TabOk w' := by
  obtain ⟨g, hg⟩ := tab_glob
  unfold TabOk Lib.TabIs at h ⊢
  rw [← h]
  unfold World.var? at h ⊢
  rw [hg] at h ⊢
  have hl : g < w.heap.size := by
    rcases Nat.lt_or_ge g w.heap.size with h1 | h1
    · exact h1
    · replace h : (match w.heap[g]? with | some (.cells cs _ _) => some cs | _ => none) = _ := h
      rw [Array.getElem?_eq_none h1] at h
      cases h
  show (match w'.heap[g]? with | some (.cells cs _ _) => some cs | _ => none) = (match w.heap[g]? with | some (.cells cs _ _) => some cs | _ => none)
  rw [hb.block g hl]

/-- The last i digits of x. -/
def ds (x : Nat) : Nat → List UInt8
  | 0 => []
  | i + 1 => UInt8.ofNat (48 + x / 10 ^ i % 10) :: ds x i
theorem ds_len (x : Nat) : ∀ i, (ds x i).length = i
  | 0 => rfl
  | i + 1 => by simp [ds, ds_len x i]

set_option maxHeartbeats 1000000 in
set_option maxRecDepth 100000 in
theorem digits (x k : Nat) (hx : x < 1000000000000000000) (hk : k ≤ 3) (w : World) :
    Calls Tryd.prog 14 #[.int .i64 (x : Int), .int .i64 (k : Int)] w fun e w' => e = .returned (.string ⟨(ds x k).toArray⟩) ∧ Below w.heap.size w w' := by
  go_enter Tryd.func14, Tryd.ntmps14
  go_wp2_with fail
  go_loopw [0, 5, 6] (fun y t i wr => ∃ (j : Nat) (yn : Nat) (tb : ByteArray), j ≤ k ∧ i = .int .i64 (j : Int) ∧ y = .int .i64 (yn : Int) ∧ t = .string tb ∧ Hid (yn = x / 10 ^ j) ∧ Hid (tb = ⟨(ds x j).toArray⟩) ∧ yn ≤ x ∧ Below w.heap.size w wr) (fun _ _ i _ => k - (intOf i).toNat)
  case atStart => exact ⟨0, x, _, Nat.zero_le _, rfl, rfl, rfl, by show _ = _; simp, rfl, Nat.le_refl _, Below.refl _ _⟩
  case round =>
    obtain ⟨j, yn, tb, hj, rfl, rfl, rfl, hy, ht, hyx, hb⟩ := hrel
    by_cases h1 : j < k
    · have EM : ((yn : Int)).tmod 10 = ((yn % 10 : Nat) : Int) := tmod_nat yn 10
      have hm : yn % 10 < 10 := Nat.mod_lt _ (by decide)
      have e1 : (48 : Int) + (((yn : Int)).tmod 10) = ((48 + yn % 10 : Nat) : Int) := by rw [EM]; omega
      obtain ⟨c, hc⟩ : ∃ c, 48 + yn % 10 = c := ⟨_, rfl⟩
      have hc2 : c < 256 := by omega
      obtain ⟨t, ht1⟩ : ∃ t : ByteArray, t = ⟨#[UInt8.ofNat c]⟩ := ⟨_, rfl⟩
      have qc := conv1 (wr.alloc (.cells #[.int .u8 (c : Int)] 5)) wr.heap.size c t ht1 hc2 (RowB.new _ _ _)
      have HT2 : Hid (t ++ tb = ⟨(ds x (j + 1)).toArray⟩) := by
        show _ = _
        rw [ht1, ht.out, ← hc, hy.out]
        exact app_str [_] (ds x j)
      have hsz : ¬ 9223372036854775807 < t.size + tb.size := by
        have a1 : t.size = 1 := by rw [ht1]; rfl
        have a2 : tb.size = j := by rw [ht.out]; simp [ByteArray.size, ds_len]
        omega
      have HY2 : Hid (yn / 10 = x / 10 ^ (j + 1)) := by show _ = _; rw [hy.out, Nat.div_div_eq_div_mul, Nat.pow_succ]
      have em2 : (48 : Int) + ((yn : Int) % 10) = (c : Int) := by omega
      rw [hc] at e1
      clear ht1 hc hm EM
      go_wp2_with fail
      go_roundw
      case rel => exact ⟨j + 1, yn / 10, t ++ tb, by omega, by go_num, congrArg _ (by omega), rfl, HY2, HT2, by omega, hb.alloc hb.size _⟩
      case measure => simp [intOf]; omega
    · obtain rfl : j = k := by omega
      have hd : decide ((j : Int) < (j : Int)) = false := decide_eq_false (by omega)
      have HT3 := ht.out
      subst HT3
      go_wp2_with fail
      go_ret
      exact ⟨rfl, hb⟩

theorem itoa_nat (n : Nat) : Lib.itoa (n : Int) = Lib.decDigits n := by unfold Lib.itoa; rw [if_neg (by omega), Int.toNat_natCast]
set_option maxHeartbeats 1000000 in
set_option maxRecDepth 100000 in
theorem decimal (n : Nat) (hn : n < 1000000000000000000) (w : World) (ht : TabOk w) :
    Calls Tryd.prog 16 #[.int .i64 (n : Int)] w fun e w' => e = .returned (.string ⟨(Lib.decDigits n).toArray⟩) ∧ Below w.heap.size w w' := by
  go_enter Tryd.func16, Tryd.ntmps16
  go_wp2_with fail
  refine (Tryd.strconv_FormatInt_10 (n : Int) (by omega) (by omega) _ ht).mono ?_
  rintro e w1 ⟨rfl, k, os, rfl⟩
  rw [itoa_nat]
  go_wp2_with fail
  go_ret
  exact ⟨rfl, grow_bel _ _ _⟩

theorem pad_ds {x k : Nat} (h : (k = 2 ∧ x < 100) ∨ (k = 3 ∧ x < 1000)) : (Lib.decDigits x).length ≤ k ∧ 1 ≤ (Lib.decDigits x).length ∧ Lib.repeatL [48] (k - (Lib.decDigits x).length) ++ Lib.decDigits x = ds x k := by
  by_cases h1 : x < 10
  · rw [Lib.decDigits_one h1]
    rcases h with ⟨rfl, h⟩ | ⟨rfl, h⟩
    · refine ⟨by simp, by simp, ?_⟩
      have e1 : x / 10 ^ 1 % 10 = 0 := by omega
      have e0 : x / 10 ^ 0 % 10 = x := by omega
      simp only [ds, e1, e0]
      rfl
    · refine ⟨by simp, by simp, ?_⟩
      have e2 : x / 10 ^ 2 % 10 = 0 := by omega
      have e1 : x / 10 ^ 1 % 10 = 0 := by omega
      have e0 : x / 10 ^ 0 % 10 = x := by omega
      simp only [ds, e2, e1, e0]
      rfl
  · by_cases h2 : x < 100
    · rw [Lib.decDigits_two h1 h2]
      rcases h with ⟨rfl, h⟩ | ⟨rfl, h⟩
      · refine ⟨by simp, by simp, ?_⟩
        have e1 : x / 10 ^ 1 % 10 = x / 10 := by omega
        have e0 : x / 10 ^ 0 % 10 = x % 10 := by omega
        simp only [ds, e1, e0]
        rfl
      · refine ⟨by simp, by simp, ?_⟩
        have e2 : x / 10 ^ 2 % 10 = 0 := by omega
        have e1 : x / 10 ^ 1 % 10 = x / 10 := by omega
        have e0 : x / 10 ^ 0 % 10 = x % 10 := by omega
        simp only [ds, e2, e1, e0]
        rfl
    · obtain ⟨rfl, h⟩ : k = 3 ∧ x < 1000 := by omega
      have hd : Lib.decDigits x = [UInt8.ofNat (48 + x / 10 / 10), UInt8.ofNat (48 + x / 10 % 10), UInt8.ofNat (48 + x % 10)] := by
        rw [Lib.decDigits, dif_neg h1, Lib.decDigits_two (by omega) (by omega)]
        rfl
      rw [hd]
      refine ⟨by simp, by simp, ?_⟩
      have e2 : x / 10 ^ 2 % 10 = x / 10 / 10 := by omega
      have e1 : x / 10 ^ 1 % 10 = x / 10 % 10 := by omega
      have e0 : x / 10 ^ 0 % 10 = x % 10 := by omega
      simp only [ds, e2, e1, e0]
      rfl
set_option maxHeartbeats 1000000 in
set_option maxRecDepth 100000 in
theorem padded (x k : Nat) (h : (k = 2 ∧ x < 100) ∨ (k = 3 ∧ x < 1000)) (w : World) (ht : TabOk w) :
    Calls Tryd.prog 17 #[.int .i64 (x : Int), .int .i64 (k : Int)] w fun e w' => e = .returned (.string ⟨(ds x k).toArray⟩) ∧ Below w.heap.size w w' := by
  obtain ⟨h1, h2, h3⟩ := pad_ds h
  have hk3 : k ≤ 3 := by omega
  obtain ⟨s, hs⟩ : ∃ s : ByteArray, s = ⟨(Lib.decDigits x).toArray⟩ := ⟨_, rfl⟩
  have hss : s.size = (Lib.decDigits x).length := by rw [hs]; simp [ByteArray.size]
  rw [← h3, ← app_str, ← hs, ← hss]
  rw [← hss] at h1 h2
  obtain ⟨m, hm⟩ : ∃ m, k - s.size = m := ⟨_, rfl⟩
  rw [hm]
  have HI : Hid (Lib.itoa (x : Int) = Lib.decDigits x) := itoa_nat x
  have HS := Lib.hid hs
  go_enter Tryd.func17, Tryd.ntmps17
  go_wp2_with fail
  refine (Tryd.strconv_FormatInt_10 (x : Int) (by omega) (by omega) _ ht).mono ?_
  rintro e w1 ⟨rfl, kk, os, rfl⟩
  have hb := grow_bel w kk os
  rw [HI.out, ← HS.out]
  generalize grow (w.drewN kk) os = w1 at *
  have e2 : ((k : Int) - (s.size : Int)) = (m : Int) := by omega
  have e3 : (if (0 : Int) < (m : Int) then (m : Int) else 0) = (m : Int) := by split <;> omega
  have hmle : m ≤ 3 := by omega
  have HR : Hid ((Lib.repeatL [48] m).length = m) := by show _ = _; rw [Lib.repeatL_length]; simp
  clear hs hss h3 hm
  go_wp2_with fail
  refine (Tryd.strings_Repeat ⟨#[48]⟩ m _ (by omega) (by show 1 * m ≤ _; omega)).mono ?_
  rintro e w2 ⟨rfl, hb2⟩
  rw [show (⟨#[48]⟩ : ByteArray).data.toList = [48] from rfl]
  obtain ⟨r, hr⟩ : ∃ r : ByteArray, r = ⟨(Lib.repeatL [48] m).toArray⟩ := ⟨_, rfl⟩
  have hrs : r.size = m := by rw [hr]; simp only [ByteArray.size, List.size_toArray]; exact HR.out
  have HR2 := Lib.hid hr
  rw [← hr]
  have hsz : ¬ 9223372036854775807 < r.size + s.size := by omega
  clear hr
  go_wp2_with fail
  go_ret
  exact ⟨by rw [HR2.out]; rfl, hb.trans (hb2.mono hb.size)⟩

theorem isT_i (t : Int) (b : Bool) (hb : decide (0 ≤ t ∧ t ≤ 100000000) = b) (w : World) : Calls Tryd.prog 15 #[.int .i64 t] w fun e w' => e = .returned (.bool b) ∧ Below w.heap.size w w' := by
  subst hb
  by_cases h1 : 0 ≤ t
  · by_cases h2 : t ≤ 100000000
    · rw [decide_eq_true (show 0 ≤ t ∧ t ≤ 100000000 from ⟨h1, h2⟩)]
      go_enter Tryd.func15, Tryd.ntmps15
      go_wp2
      go_ret
      exact ⟨rfl, by go_grown⟩
    · rw [decide_eq_false (show ¬ (0 ≤ t ∧ t ≤ 100000000) from fun h => h2 h.2)]
      go_enter Tryd.func15, Tryd.ntmps15
      go_wp2
      go_ret
      exact ⟨rfl, by go_grown⟩
  · rw [decide_eq_false (show ¬ (0 ≤ t ∧ t ≤ 100000000) from fun h => h1 h.1)]
    go_enter Tryd.func15, Tryd.ntmps15
    go_wp2
    go_ret
    exact ⟨rfl, by go_grown⟩
theorem isT_s (t : Int) (b : Bool) (hb : decide (0 ≤ t ∧ t ≤ 100000000) = b) (w : World) : Calls Tryd.prog 12 #[.int .i64 t] w fun e w' => e = .returned (.bool b) ∧ Below w.heap.size w w' := by
  subst hb
  by_cases h1 : 0 ≤ t
  · by_cases h2 : t ≤ 100000000
    · rw [decide_eq_true (show 0 ≤ t ∧ t ≤ 100000000 from ⟨h1, h2⟩)]
      go_enter Tryd.func12, Tryd.ntmps12
      go_wp2
      go_ret
      exact ⟨rfl, by go_grown⟩
    · rw [decide_eq_false (show ¬ (0 ≤ t ∧ t ≤ 100000000) from fun h => h2 h.2)]
      go_enter Tryd.func12, Tryd.ntmps12
      go_wp2
      go_ret
      exact ⟨rfl, by go_grown⟩
  · rw [decide_eq_false (show ¬ (0 ≤ t ∧ t ≤ 100000000) from fun h => h1 h.1)]
    go_enter Tryd.func12, Tryd.ntmps12
    go_wp2
    go_ret
    exact ⟨rfl, by go_grown⟩

/-- The text of a time. -/
def fmtL (t : Nat) : List UInt8 := Lib.decDigits (t / 60000) ++ [58] ++ ds (t / 1000 % 60) 2 ++ [46] ++ ds (t % 1000) 3
def fmtT (t : Int) : ByteArray := if 0 ≤ t ∧ t ≤ 100000000 then ⟨(fmtL t.toNat).toArray⟩ else ⟨#[]⟩
theorem ds_mod (t : Nat) : ds t 3 = ds (t % 1000) 3 := by
  have e2 : t % 1000 / 10 ^ 2 % 10 = t / 10 ^ 2 % 10 := by omega
  have e1 : t % 1000 / 10 ^ 1 % 10 = t / 10 ^ 1 % 10 := by omega
  have e0 : t % 1000 / 10 ^ 0 % 10 = t / 10 ^ 0 % 10 := by omega
  simp only [ds, e2, e1, e0]
theorem cat5 (a b c d e : List UInt8) : (((((⟨a.toArray⟩ : ByteArray) ++ ⟨b.toArray⟩) ++ ⟨c.toArray⟩) ++ ⟨d.toArray⟩) ++ ⟨e.toArray⟩) = ⟨(a ++ b ++ c ++ d ++ e).toArray⟩ := by rw [app_str, app_str, app_str, app_str]
theorem size_app (a b : ByteArray) : (a ++ b).size = a.size + b.size := ByteArray.size_append

set_option maxHeartbeats 2000000 in
set_option maxRecDepth 100000 in
theorem fmt_i (t : Int) (w : World) (ht : TabOk w) :
    Calls Tryd.prog 7 #[.int .i64 t] w fun e w' => e = .returned (.string (fmtT t)) ∧ Below w.heap.size w w' := by
  unfold fmtT
  by_cases h : 0 ≤ t ∧ t ≤ 100000000
  case neg =>
    rw [if_neg h]
    go_enter Tryd.func7, Tryd.ntmps7
    go_wp2_with fail
    refine (isT_i t false (decide_eq_false h) _).mono ?_
    rintro e w1 ⟨rfl, hb⟩
    go_wp2_with fail
    go_ret
    exact ⟨rfl, hb⟩
  rw [if_pos h]
  obtain ⟨n, rfl⟩ : ∃ n : Nat, t = n := ⟨t.toNat, by omega⟩
  have hn : n ≤ 100000000 := by omega
  rw [Int.toNat_natCast]
  unfold fmtL
  rw [← cat5]
  have HL := Lib.hid (dd_len (n / 60000))
  obtain ⟨a, ha⟩ : ∃ a, n / 60000 = a := ⟨_, rfl⟩
  obtain ⟨b, hb⟩ : ∃ b, n / 1000 = b := ⟨_, rfl⟩
  obtain ⟨c, hc⟩ : ∃ c, b % 60 = c := ⟨_, rfl⟩
  obtain ⟨d, hd⟩ : ∃ d, n % 1000 = d := ⟨_, rfl⟩
  have ea : ((n : Int) / 60000) = (a : Int) := by omega
  have eb : ((n : Int) / 1000) = (b : Int) := by omega
  have ec : ((b : Int) % 60) = (c : Int) := by omega
  have ed : ((n : Int) % 1000) = (d : Int) := by omega
  have fa : Int.tdiv (n : Int) 60000 = (a : Int) := by rw [Int.tdiv_eq_ediv_of_nonneg (by omega)]; exact ea
  have fb : Int.tdiv (n : Int) 1000 = (b : Int) := by rw [Int.tdiv_eq_ediv_of_nonneg (by omega)]; exact eb
  have fc : (b : Int).tmod 60 = (c : Int) := by rw [Int.tmod_eq_emod_of_nonneg (by omega)]; exact ec
  have fd : (n : Int).tmod 1000 = (d : Int) := by rw [Int.tmod_eq_emod_of_nonneg (by omega)]; exact ed
  have la : a < 1000000000000000000 := by omega
  have lb : b ≤ 100000000 := by omega
  have lc : c < 60 := by omega
  have ld : d < 1000 := by omega
  have HD := Lib.hid (ds_mod n)
  rw [ha] at HL ⊢
  rw [hb, hc, hd]
  rw [hd] at HD
  obtain ⟨sa, hsa⟩ : ∃ s : ByteArray, s = ⟨(Lib.decDigits a).toArray⟩ := ⟨_, rfl⟩
  obtain ⟨sb, hsb⟩ : ∃ s : ByteArray, s = ⟨(ds c 2).toArray⟩ := ⟨_, rfl⟩
  obtain ⟨sc, hsc⟩ : ∃ s : ByteArray, s = ⟨(ds d 3).toArray⟩ := ⟨_, rfl⟩
  have za : sa.size ≤ a + 1 := by rw [hsa]; simp only [ByteArray.size, List.size_toArray]; exact HL.out
  have zb : sb.size = 2 := by rw [hsb]; simp only [ByteArray.size, List.size_toArray]; exact ds_len c 2
  have zc : sc.size = 3 := by rw [hsc]; simp only [ByteArray.size, List.size_toArray]; exact ds_len d 3
  have HSA := Lib.hid hsa
  have HSB := Lib.hid hsb
  have HSC := Lib.hid hsc
  rw [← hsa, ← hsb, ← hsc]
  have g1 : ¬ 9223372036854775807 < sa.size + 1 := by omega
  have g2 : ¬ 9223372036854775807 < sa.size + 1 + 2 := by omega
  have g3 : ¬ 9223372036854775807 < sa.size + 1 + 2 + 1 := by omega
  have g4 : ¬ 9223372036854775807 < sa.size + 1 + 2 + 1 + 3 := by omega
  clear ha hb hc hd hsa hsb hsc
  go_enter Tryd.func7, Tryd.ntmps7
  go_wp2_with fail
  refine (isT_i (n : Int) true (decide_eq_true h) _).mono ?_
  rintro e w1 ⟨rfl, hb1⟩
  go_wp2_with fail
  refine (decimal a la _ (ht.below hb1)).mono ?_
  rintro e w2 ⟨rfl, hb2⟩
  rw [← HSA.out]
  have hb1 := hb1.trans (hb2.mono hb1.size)
  go_wp2_with fail
  refine (padded c 2 (.inl ⟨rfl, by omega⟩) _ (ht.below hb1)).mono ?_
  rintro e w3 ⟨rfl, hb3⟩
  rw [← HSB.out]
  have hb1 := hb1.trans (hb3.mono hb1.size)
  go_wp2_with fail
  refine (padded d 3 (.inr ⟨rfl, ld⟩) _ (ht.below hb1)).mono ?_
  rintro e w4 ⟨rfl, hb4⟩
  rw [← HSC.out]
  have hb1 := hb1.trans (hb4.mono hb1.size)
  go_wp2_with fail
  go_ret
  exact ⟨rfl, hb1⟩
set_option maxHeartbeats 2000000 in
set_option maxRecDepth 100000 in
theorem fmt_s (t : Int) (w : World) :
    Calls Tryd.prog 6 #[.int .i64 t] w fun e w' => e = .returned (.string (fmtT t)) ∧ Below w.heap.size w w' := by
  unfold fmtT
  by_cases h : 0 ≤ t ∧ t ≤ 100000000
  case neg =>
    rw [if_neg h]
    go_enter Tryd.func6, Tryd.ntmps6
    go_wp2_with fail
    refine (isT_s t false (decide_eq_false h) _).mono ?_
    rintro e w1 ⟨rfl, hb⟩
    go_wp2_with fail
    go_ret
    exact ⟨rfl, hb⟩
  rw [if_pos h]
  obtain ⟨n, rfl⟩ : ∃ n : Nat, t = n := ⟨t.toNat, by omega⟩
  have hn : n ≤ 100000000 := by omega
  rw [Int.toNat_natCast]
  unfold fmtL
  rw [← cat5]
  have HL := Lib.hid (dd_len (n / 60000))
  obtain ⟨a, ha⟩ : ∃ a, n / 60000 = a := ⟨_, rfl⟩
  obtain ⟨b, hb⟩ : ∃ b, n / 1000 = b := ⟨_, rfl⟩
  obtain ⟨c, hc⟩ : ∃ c, b % 60 = c := ⟨_, rfl⟩
  obtain ⟨d, hd⟩ : ∃ d, n % 1000 = d := ⟨_, rfl⟩
  have ea : ((n : Int) / 60000) = (a : Int) := by omega
  have eb : ((n : Int) / 1000) = (b : Int) := by omega
  have ec : ((b : Int) % 60) = (c : Int) := by omega
  have ed : ((n : Int) % 1000) = (d : Int) := by omega
  have fa : Int.tdiv (n : Int) 60000 = (a : Int) := by rw [Int.tdiv_eq_ediv_of_nonneg (by omega)]; exact ea
  have fb : Int.tdiv (n : Int) 1000 = (b : Int) := by rw [Int.tdiv_eq_ediv_of_nonneg (by omega)]; exact eb
  have fc : (b : Int).tmod 60 = (c : Int) := by rw [Int.tmod_eq_emod_of_nonneg (by omega)]; exact ec
  have fd : (n : Int).tmod 1000 = (d : Int) := by rw [Int.tmod_eq_emod_of_nonneg (by omega)]; exact ed
  have la : a < 1000000000000000000 := by omega
  have lb : b ≤ 100000000 := by omega
  have lc : c < 60 := by omega
  have ld : d < 1000 := by omega
  have HD := Lib.hid (ds_mod n)
  rw [ha] at HL ⊢
  rw [hb, hc, hd]
  rw [hd] at HD
  obtain ⟨sa, hsa⟩ : ∃ s : ByteArray, s = ⟨(Lib.decDigits a).toArray⟩ := ⟨_, rfl⟩
  obtain ⟨sb, hsb⟩ : ∃ s : ByteArray, s = ⟨(ds c 2).toArray⟩ := ⟨_, rfl⟩
  obtain ⟨sc, hsc⟩ : ∃ s : ByteArray, s = ⟨(ds d 3).toArray⟩ := ⟨_, rfl⟩
  have za : sa.size ≤ a + 1 := by rw [hsa]; simp only [ByteArray.size, List.size_toArray]; exact HL.out
  have zb : sb.size = 2 := by rw [hsb]; simp only [ByteArray.size, List.size_toArray]; exact ds_len c 2
  have zc : sc.size = 3 := by rw [hsc]; simp only [ByteArray.size, List.size_toArray]; exact ds_len d 3
  have HSA := Lib.hid hsa
  have HSB := Lib.hid hsb
  have HSC := Lib.hid hsc
  rw [← hsa, ← hsb, ← hsc]
  have g1 : ¬ 9223372036854775807 < sa.size + 1 := by omega
  have g2 : ¬ 9223372036854775807 < sa.size + 1 + 2 := by omega
  have g3 : ¬ 9223372036854775807 < sa.size + 1 + 2 + 1 := by omega
  have g4 : ¬ 9223372036854775807 < sa.size + 1 + 2 + 1 + 3 := by omega
  clear ha hb hc hd hsa hsb hsc
  go_enter Tryd.func6, Tryd.ntmps6
  go_wp2_with fail
  refine (isT_s (n : Int) true (decide_eq_true h) _).mono ?_
  rintro e w1 ⟨rfl, hb1⟩
  go_wp2_with fail
  refine (num a la _).mono ?_
  rintro e w2 ⟨rfl, hb2⟩
  rw [← HSA.out]
  have hb1 := hb1.trans (hb2.mono hb1.size)
  go_wp2_with fail
  refine (digits c 2 (by omega) (by decide) _).mono ?_
  rintro e w3 ⟨rfl, hb3⟩
  rw [← HSB.out]
  have hb1 := hb1.trans (hb3.mono hb1.size)
  go_wp2_with fail
  refine (digits n 3 (by omega) (by decide) _).mono ?_
  rintro e w4 ⟨rfl, hb4⟩
  rw [HD.out, ← HSC.out]
  have hb1 := hb1.trans (hb4.mono hb1.size)
  go_wp2_with fail
  go_ret
  exact ⟨rfl, hb1⟩

set_option maxHeartbeats 1000000 in
set_option maxRecDepth 100000 in
theorem formatLaw (t : Int) (W : World) (hw : (Lit.int .i64 t).wf = true) (ht : TabOk W) :
    Calls Tryd.prog 3 #[.int .i64 t] W fun e w' => e = .returned (.bool true) ∧ Below W.heap.size W w' := by
  go_enter Tryd.func3, Tryd.ntmps3
  go_wp2_with fail
  refine (fmt_s t _).mono ?_
  rintro e w1 ⟨rfl, hb1⟩
  go_wp2_with fail
  refine (fmt_i t _ (ht.below hb1)).mono ?_
  rintro e w2 ⟨rfl, hb2⟩
  have hb1 := hb1.trans (hb2.mono hb1.size)
  go_wp2_with fail
  go_ret
  exact ⟨rfl, hb1⟩
end Go.Proofs.YtdjopnhbcchedaaDoor.Fmt
