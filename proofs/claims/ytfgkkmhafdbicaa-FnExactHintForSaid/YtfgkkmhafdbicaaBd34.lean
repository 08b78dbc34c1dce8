/-
  The first greatest of the reference; the greatest of a list (slices.Max). Conditions: each theorem's own.
  slices.Delete of one element out of a slice of the call's own. Conditions: each theorem's own.
  The lead of the best play over the others: the reference's loop and the greatest of the rest. Plain. Conditions: each theorem's own.
-/
import Derived.Test.YtfgkkmhafdbicaaBd12
import Derived.Deep.RegionLaw
import Derived.Lib.SliceRun
import Derived.Lib.LazyBuf

set_option linter.unusedVariables false
set_option linter.unusedSimpArgs false
namespace Go.Proofs.Ytfgkkmhafdbicaa.Bd34
open Go.ChangeShapes Go.WideShapes Go.ChangeAt Go.RowKit Base Ints Own PlP Bd1 Bd12

set_option maxHeartbeats 1000000 in
theorem max_i (A : Option Addr) (cp B : Nat) (xs : List Int) (w : World) (hr : RdS w B 1 enI A xs) (hl : 0 < xs.length) :
    Calls Try.prog 42 #[.slice A xs.length cp] w fun e w' => e = .returned (.int .i64 (grt xs)) ∧ w = w' := by
  have hmx := hr.len
  obtain ⟨n, hn⟩ : ∃ n, xs.length = n := ⟨_, rfl⟩
  obtain ⟨z, hz⟩ : ∃ z, grt xs = z := ⟨_, rfl⟩
  have HN := Lib.hid hn
  have HZ : Hid (grU xs (n - 1) = z) := Lib.hid (by rw [← hn, ← hz]; rfl)
  rw [hn] at hl hmx
  rw [hn, hz]
  clear hn hz
  obtain ⟨bk, off, rfl, hbk, hc0⟩ := at_rd hr (i := 0) (by rw [HN.out]; exact hl)
  simp only [Nat.add_zero] at hc0
  have hl0 : ¬ (n : Int) < 1 := by omega
  go_enter Try.func42, Try.ntmps42
  go_wp2_with fail
  go_loopw [3, 4] (fun s i wr => ∃ (k : Nat) (t : Int), k ≤ n ∧ 1 ≤ k ∧ s = .int .i64 t ∧ i = .int .i64 (k : Int) ∧ Hid (w = wr) ∧ Hid (t = grU xs (k - 1))) (fun _ i _ => n - (intOf i).toNat)
  case atStart => exact ⟨1, at_ xs 0, by omega, by omega, by first | rfl | trivial, by first | rfl | trivial, Lib.hid (by first | rfl | trivial), Lib.hid rfl⟩
  case round =>
    obtain ⟨k, t, hk, hk1, rfl, rfl, hw, ht⟩ := hrel
    by_cases hlt : k < n
    · obtain ⟨bk', off', hA, -, hc⟩ := at_rd hr (i := k) (by rw [HN.out]; exact hlt)
      simp only [Option.some.injEq, Addr.mk.injEq, and_true] at hA
      obtain ⟨rfl, rfl⟩ := hA
      rw [hw.out] at hc
      have hkn : (k : Int) < (n : Int) := by omega
      have e1 : IntKind.i64.wrap ((k : Int) + 1) = (k : Int) + 1 := IntWalk.i64_in _ (by omega)
      have HS : Hid ((if t < at_ xs k then at_ xs k else t) = grU xs (k + 1 - 1)) := Lib.hid (by
        obtain ⟨j, rfl⟩ : ∃ j, k = j + 1 := ⟨k - 1, by omega⟩
        have h0 := ht.out
        simp only [Nat.add_sub_cancel] at h0 ⊢
        simp only [grU]
        rw [← h0]
        split <;> omega)
      obtain ⟨m, hm⟩ : ∃ m, (if t < at_ xs k then at_ xs k else t) = m := ⟨_, rfl⟩
      rw [hm] at HS
      go_wp2_with fail
      go_roundw
      case rel => exact ⟨k + 1, _, by omega, by omega, rfl, by go_num, hw, HS⟩
      case measure => simp [intOf]; omega
    · obtain rfl : n = k := by omega
      obtain rfl : t = z := by rw [ht.out, HZ.out]
      go_wp2_with fail
      go_ret
      exact ⟨rfl, hw.out⟩

set_option maxHeartbeats 1000000 in
theorem first_s (A : Option Addr) (cp B : Nat) (xs : List Int) (w : World) (hr : RdS w B 1 enI A xs) (hl : 0 < xs.length) :
    Calls Try.prog 36 #[.slice A xs.length cp] w fun e w' => e = .returned (.int .i64 (fgP xs : Nat)) ∧ Below w.heap.size w w' := by
  have hmx := hr.len
  obtain ⟨n, hn⟩ : ∃ n, xs.length = n := ⟨_, rfl⟩
  obtain ⟨z, hz⟩ : ∃ z, fgP xs = z := ⟨_, rfl⟩
  have HN := Lib.hid hn
  have HZ : Hid (fgU xs (n - 1) = z) := Lib.hid (by rw [← hn, ← hz]; rfl)
  rw [hn] at hl hmx
  rw [hn, hz]
  clear hn hz
  go_enter Try.func36, Try.ntmps36
  go_wp2_with fail
  go_loopw [3, 4] (fun s i wr => ∃ (k t : Nat), k ≤ n ∧ 1 ≤ k ∧ t < n ∧ s = .int .i64 (t : Int) ∧ i = .int .i64 (k : Int) ∧ Hid (Below w.heap.size w wr) ∧ RdS wr B 1 enI A xs ∧ Hid (t = fgU xs (k - 1))) (fun _ i _ => n - (intOf i).toNat)
  case atStart => exact ⟨1, 0, by omega, by omega, hl, by first | rfl | trivial, by first | rfl | trivial, Lib.hid (Below.refl _ _), hr, Lib.hid rfl⟩
  case round =>
    obtain ⟨k, t, hk, hk1, htn, rfl, rfl, hw, hq, ht⟩ := hrel
    by_cases hlt : k < n
    · obtain ⟨bk, off, rfl, hbk, hc⟩ := at_rd hq (i := k) (by rw [HN.out]; exact hlt)
      obtain ⟨bk', off', hA, -, hc2⟩ := at_rd hq (i := t) (by rw [HN.out]; exact htn)
      simp only [Option.some.injEq, Addr.mk.injEq, and_true] at hA
      obtain ⟨rfl, rfl⟩ := hA
      have hkn : (k : Int) < (n : Int) := by omega
      have htn2 : (t : Int) < (n : Int) := by omega
      have e1 : IntKind.i64.wrap ((k : Int) + 1) = (k : Int) + 1 := IntWalk.i64_in _ (by omega)
      by_cases hv : at_ xs t < at_ xs k
      · have HS : Hid (k = fgU xs (k + 1 - 1)) := Lib.hid (by
          obtain ⟨j, rfl⟩ : ∃ j, k = j + 1 := ⟨k - 1, by omega⟩
          have h0 := ht.out; simp only [Nat.add_sub_cancel] at h0 ⊢; simp only [fgU]; rw [← h0, if_pos hv])
        have hd : decide (at_ xs t < at_ xs k) = true := by simp [hv]
        go_wp2_with fail
        go_quiet (fail)
        go_wp2_with fail
        go_roundw
        case rel => exact ⟨k + 1, k, by omega, by omega, hlt, by first | rfl | go_num, by go_num, Lib.hid (below_drewN hw.out _), hq, HS⟩
        case measure => simp [intOf]; omega
      · have HS : Hid (t = fgU xs (k + 1 - 1)) := Lib.hid (by
          obtain ⟨j, rfl⟩ : ∃ j, k = j + 1 := ⟨k - 1, by omega⟩
          have h0 := ht.out; simp only [Nat.add_sub_cancel] at h0 ⊢; simp only [fgU]; rw [← h0, if_neg hv])
        have hd : decide (at_ xs t < at_ xs k) = false := by simp [hv]
        go_wp2_with fail
        go_quiet (fail)
        go_wp2_with fail
        go_roundw
        case rel => exact ⟨k + 1, t, by omega, by omega, htn, rfl, by go_num, Lib.hid (below_drewN hw.out _), hq, HS⟩
        case measure => simp [intOf]; omega
    · obtain rfl : n = k := by omega
      obtain rfl : t = z := by rw [ht.out, HZ.out]
      go_wp2_with fail
      go_ret
      exact ⟨rfl, hw.out⟩
end Go.Proofs.Ytfgkkmhafdbicaa.Bd34

set_option linter.unusedVariables false
set_option linter.unusedSimpArgs false
namespace Go.Proofs.Ytfgkkmhafdbicaa.Bd35
open Go.ChangeShapes Go.WideShapes Go.ChangeAt Go.RowKit Base Ints Own

def gone (xs : List Int) (i : Nat) : List Int := xs.take i ++ xs.drop (i + 1)
theorem gone_len {xs : List Int} {i : Nat} (hi : i < xs.length) : (gone xs i).length = xs.length - 1 := by simp [gone]; omega
theorem gone_get {xs : List Int} {i j : Nat} (hi : i < xs.length) (hj : j < xs.length - 1) : (gone xs i)[j]? = if j < i then xs[j]? else xs[j + 1]? := by
  unfold gone
  split
  · next h => rw [List.getElem?_append_left (by simp; omega), List.getElem?_take_of_lt h]
  · next h =>
    rw [List.getElem?_append_right (by simp; omega), List.getElem?_drop, List.length_take, show i + 1 + (j - min i xs.length) = j + 1 by omega]

set_option maxHeartbeats 4000000 in
set_option maxRecDepth 1000000 in
theorem del_walk (g cap i : Nat) (xs : List Int) (w : World) (hi : i < xs.length) (hl : xs.length ≤ cap) (hm : cap ≤ 9223372036854775807)
    (hc : ∀ j x, xs[j]? = some x → w.cell? ⟨g, j, none⟩ = some (.int .i64 x)) (hf : ∀ j, j < xs.length → w.frozen? ⟨g, j, none⟩ = false) :
    Calls Try.prog 40 #[.slice (some ⟨g, 0, none⟩) xs.length cap, .int .i64 (i : Int), .int .i64 ((i : Int) + 1)] w fun e w' => e = .returned (.slice (some ⟨g, 0, none⟩) (xs.length - 1) cap) ∧
      w' = (w.drew.setCells g i ((xs.drop (i + 1)).map (Value.int .i64))).setCells g (xs.length - 1) [.int .i64 0] := by
  obtain ⟨i0, hi0, hz0, hz1, hz2⟩ := info_parts Ints.info
  obtain ⟨news, hnews⟩ : ∃ news, (xs.drop (i + 1)).map (Value.int .i64) = news := ⟨_, rfl⟩
  obtain ⟨n, hn⟩ : ∃ n, xs.length = n := ⟨_, rfl⟩
  have hlen : news.length = n - (i + 1) := by rw [← hnews, ← hn]; simp
  have hget : ∀ j, j < n → ∃ x, w.cell? ⟨g, j, none⟩ = some (.int .i64 x) := fun j hj => ⟨xs[j]'(by omega), hc j _ (List.getElem?_eq_getElem (by omega))⟩
  obtain ⟨A, hA, hsrc⟩ : ∃ A : Addr, (if cap = i + 1 then some (⟨g, 0, none⟩ : Addr) else some ⟨g, i + 1, none⟩) = some A ∧ Hid (∀ t u, news[t]? = some u → w.drew.cell? (A.add t) = some u) := by
    by_cases h : cap = i + 1
    · refine ⟨⟨g, 0, none⟩, by simp [h], fun t u hu => ?_⟩
      have h0 : news.length = 0 := by rw [hlen]; omega
      rw [List.length_eq_zero_iff.1 h0] at hu
      simp at hu
    · refine ⟨⟨g, i + 1, none⟩, by simp [h], fun t u hu => ?_⟩
      rw [← hnews, List.getElem?_map, List.getElem?_drop] at hu
      obtain ⟨x, hx, rfl⟩ := Option.map_eq_some_iff.1 hu
      rw [Addr.add_lit]
      exact hc _ _ hx
  have s1 : Hid (news.length = (n - (i + 1)) * 1) := by rw [Nat.mul_one]; exact hlen
  have s2 : Hid (∀ u ∈ news, u.oneCell' = true) := by
    intro u hu
    rw [← hnews] at hu
    obtain ⟨x, _, rfl⟩ := List.mem_map.1 hu
    rfl
  have s3 : Hid (∀ j, j < news.length → (w.drew.cell? ⟨g, 0 + i * 1 + j, none⟩).isSome = true ∧ w.drew.frozen? ⟨g, 0 + i * 1 + j, none⟩ = false) := by
    intro j hj
    rw [hlen] at hj
    rw [show 0 + i * 1 + j = i + j by omega]
    obtain ⟨x, hx⟩ := hget (i + j) (by omega)
    exact ⟨by show (w.cell? _).isSome = true; rw [hx]; rfl, hf (i + j) (by omega)⟩
  obtain ⟨W1, hW1⟩ : ∃ W1, w.drew.setCells g (0 + i * 1) news = W1 := ⟨_, rfl⟩
  have hk1 : (W1.cell? ⟨g, n - 1, none⟩).isSome = true := by
    rw [← hW1]
    rw [World.cell?_setCells_out g news _ _ ⟨g, n - 1, none⟩ (fun _ _ => .inr (by show 0 + i * 1 + news.length ≤ n - 1; rw [hlen]; omega))]
    obtain ⟨x, hx⟩ := hget (n - 1) (by omega)
    show (w.cell? _).isSome = true; rw [hx]; rfl
  have hk2 : W1.frozen? ⟨g, n - 1, none⟩ = false := by
    rw [← hW1, World.frozen?_setCells]
    exact hf (n - 1) (by omega)
  have hq1 : ∀ j, j < 1 → (W1.cell? ⟨g, n - 1 + j, none⟩).isSome = true := by
    intro j hj
    have hj0 : j = 0 := by omega
    rw [hj0]; exact hk1
  have hq2 : ∀ j, j < 1 → W1.frozen? ⟨g, n - 1 + j, none⟩ = false := by
    intro j hj
    have hj0 : j = 0 := by omega
    rw [hj0]; exact hk2
  have hcl : ∀ ty, (Builtin.clear_ #[24] ty #[.slice (some ⟨g, i + (n - (i + 1)), none⟩) (n - (i + (n - (i + 1)))) (cap - (i + (n - (i + 1))))]).run Try.prog W1 = .ok (.tuple #[]) (W1.setCells g (n - 1) [.int .i64 0]) := by
    intro ty
    rw [show i + (n - (i + 1)) = n - 1 by omega, show n - (n - 1) = 1 by omega]
    exact Lib.run_clear_slice W1 24 2 ty (.int .i64 0) Try.underlying24 (fun w => by first | exact zero_i64 w | rfl | kernel_rfl) rfl rfl g (n - 1) 1 (cap - (n - 1)) (by omega) (fun j hj => hq1 j hj) (fun j hj => hq2 j hj)
  have hW : Hid (w.drew.setCells g (0 + i * 1) news = W1) := hW1
  have hE : Hid (W1 = w.drew.setCells g i news) := Lib.hid (by rw [← hW1]; simp)
  have hp0 : (0 : Int) ≤ (i : Int) + 1 := by omega
  have hp1 : (i : Int) + 1 ≤ (n : Int) := by omega
  have hp2 : ((i : Int) + 1).toNat = i + 1 := by omega
  have hp3 : ¬ (i : Int) = (i : Int) + 1 := by omega
  have hic : i ≤ cap := by omega
  have hjc : i + 1 ≤ cap := by omega
  rw [hn] at hl hi
  rw [hnews, hn]
  clear hW1 hk1 hk2 hq1 hq2 hc hf hget hn hnews hlen
  go_enter Try.func40, Try.ntmps40
  go_wp2_with fail
  go_region_law (refine step_append_room rfl (.tmp 22) (.tmp 25) 24 rfl 2 i0 1 Try.underlying24 hi0 hz1 g 0 i cap (by simp [Act.eval, Act.put]) A (n - (i + 1)) (cap - (i + 1)) news (by simp [Act.eval, Act.put]) s1.out hsrc.out s2.out (by omega) s3.out ?_; rw [hW.out])
  go_wp2
  go_ret
  refine ⟨?_, ?_⟩
  · rw [show i + (n - (i + 1)) = n - 1 by omega]; rfl
  · rw [← hE.out]

theorem flat (xs : List Int) : xs.flatMap enI = xs.map (Value.int .i64) := by
  induction xs with
  | nil => rfl
  | cons x xs ih => simp [enI, ih]
theorem own_cells {w : World} {lo g n cap : Nat} {xs : List Int} (h : OwnS w lo w.heap.size 2 1 enI (.slice (some ⟨g, 0, none⟩) n cap) xs) (hn : n = xs.length) (h0 : 0 < xs.length) :
    xs.length ≤ cap ∧ cap ≤ 9223372036854775807 ∧ lo ≤ g ∧ g < w.heap.size ∧ (∀ j x, xs[j]? = some x → w.cell? ⟨g, j, none⟩ = some (.int .i64 x)) ∧ (∀ j, j < xs.length → w.frozen? ⟨g, j, none⟩ = false) := by
  subst hn
  obtain ⟨h1, h2⟩ := h
  obtain ⟨-, h3⟩ := h1
  rcases h3 with ⟨hx, -⟩ | ⟨g', cap', cur, hx, hlo, hg, hle, hmx, hsz, htk⟩
  · cases hx
  · simp only [Value.slice.injEq, Option.some.injEq, Addr.mk.injEq, and_true, true_and] at hx
    obtain ⟨rfl, rfl⟩ := hx
    refine ⟨hle, hmx, hlo, h2 _ rfl, fun j x hj => ?_, fun j hj => ?_⟩
    · have hjl : j < xs.length := (List.getElem?_eq_some_iff.1 hj).1
      have h5 : (cur.toList.take (xs.length * 1))[j]? = (xs.flatMap enI)[j]? := by rw [htk]
      rw [List.getElem?_take_of_lt (by omega), flat, List.getElem?_map, hj] at h5
      have h6 : RowB w g 2 cur.toList := hg
      rw [h6.cell j, h5]; rfl
    · have h6 : RowB w g 2 cur.toList := hg
      exact h6.frozen j
set_option maxHeartbeats 1000000 in
theorem del (lo g n cap i : Nat) (xs : List Int) (w : World) (h : OwnS w lo w.heap.size 2 1 enI (.slice (some ⟨g, 0, none⟩) n cap) xs) (hn : n = xs.length) (hi : i < xs.length) :
    Calls Try.prog 40 #[.slice (some ⟨g, 0, none⟩) n cap, .int .i64 (i : Int), .int .i64 ((i : Int) + 1)] w fun e w' => e = .returned (.slice (some ⟨g, 0, none⟩) (n - 1) cap) ∧
      RdS w' w.heap.size 1 enI (some ⟨g, 0, none⟩) (gone xs i) ∧ Below lo w w' := by
  obtain ⟨hle, hmx, hlo, hgs, hc, hf⟩ := own_cells h hn (by omega)
  subst hn
  refine (del_walk g cap i xs w hi hle hmx hc hf).mono ?_
  rintro e w' ⟨rfl, rfl⟩
  refine ⟨rfl, ⟨?_, fun h0 => ⟨g, 0, rfl, hgs, fun j x hj t u hu => ?_⟩⟩, ?_⟩
  · rw [gone_len hi]; unfold maxLen; omega
  · have hjl : j < xs.length - 1 := by have := (List.getElem?_eq_some_iff.1 hj).1; rw [gone_len hi] at this; exact this
    rw [gone_get hi hjl] at hj
    obtain ⟨rfl, rfl⟩ : t = 0 ∧ u = .int .i64 x := by
      cases t with
      | zero => simp [enI] at hu; exact ⟨rfl, hu.symm⟩
      | succ t => simp [enI] at hu
    rw [show 0 + j * 1 + 0 = j by omega]
    rw [World.cell?_setCells_out g _ _ _ _ (fun _ _ => .inl (by show j < xs.length - 1; exact hjl))]
    by_cases hji : j < i
    · rw [if_pos hji] at hj
      rw [World.cell?_setCells_out g _ _ _ _ (fun _ _ => .inl (by show j < i; exact hji))]
      exact hc j x hj
    · rw [if_neg hji] at hj
      have hml : ((xs.drop (i + 1)).map (Value.int .i64)).length = xs.length - (i + 1) := by simp
      have := World.cell?_setCells_in g ((xs.drop (i + 1)).map (Value.int .i64)) i w.drew (fun q hq => by
        rw [hml] at hq
        show (w.cell? ⟨g, i + q, none⟩).isSome = true
        rw [hc (i + q) _ (List.getElem?_eq_getElem (by omega))]; rfl) (j - i) (by rw [hml]; omega)
      rw [show i + (j - i) = j by omega] at this
      rw [this]
      have hx : xs[i + 1 + (j - i)]? = some x := by rw [show i + 1 + (j - i) = j + 1 by omega]; exact hj
      have hx2 := (List.getElem?_eq_some_iff.1 hx).2
      simp [hx2]
  · exact below_setCells hlo _ _ _ (below_setCells hlo _ _ _ (below_drewN (Below.refl _ _) 1))
end Go.Proofs.Ytfgkkmhafdbicaa.Bd35

set_option linter.unusedVariables false
set_option linter.unusedSimpArgs false
namespace Go.Proofs.Ytfgkkmhafdbicaa.Bd38
open PlP Bd35

/-- The reference's loop behind k rounds: the lead so far and whether there is one. -/
def leadS (zs : List Int) (at' : Nat) : Nat → Int × Bool
  | 0 => (0, false)
  | k + 1 => if k = at' then leadS zs at' k else (if (leadS zs at' k).2 = false ∨ at_ zs at' - at_ zs k < (leadS zs at' k).1 then at_ zs at' - at_ zs k else (leadS zs at' k).1, true)
theorem leadS_bd (zs : List Int) (a : Nat) : ∀ k, ((leadS zs a k).2 = false → (leadS zs a k).1 = 0 ∧ ∀ i, i < k → i = a) ∧
    ((leadS zs a k).2 = true → (∀ i, i < k → i ≠ a → (leadS zs a k).1 ≤ at_ zs a - at_ zs i) ∧ ∃ i, i < k ∧ i ≠ a ∧ (leadS zs a k).1 = at_ zs a - at_ zs i) := by
  intro k
  induction k with
  | zero => exact ⟨fun _ => ⟨rfl, fun i hi => by omega⟩, fun h => by simp [leadS] at h⟩
  | succ k ih =>
    obtain ⟨i0, i1⟩ := ih
    unfold leadS
    by_cases hk : k = a
    · rw [if_pos hk]
      refine ⟨fun h => ⟨(i0 h).1, fun i hi => ?_⟩, fun h => ⟨fun i hi hne => (i1 h).1 i (by omega) hne, ?_⟩⟩
      · by_cases hik : i = k
        · omega
        · exact (i0 h).2 i (by omega)
      · obtain ⟨i, h1, h2, h3⟩ := (i1 h).2
        exact ⟨i, by omega, h2, h3⟩
    · rw [if_neg hk]
      refine ⟨fun h => by simp at h, fun _ => ?_⟩
      simp only
      cases hs : (leadS zs a k).2 with
      | false =>
        rw [if_pos (.inl rfl)]
        refine ⟨fun i hi hne => ?_, k, by omega, hk, rfl⟩
        by_cases hik : i = k
        · rw [hik]; exact Int.le_refl _
        · exact absurd ((i0 hs).2 i (by omega)) hne
      | true =>
        obtain ⟨j0, j, h1, h2, h3⟩ := i1 hs
        by_cases hlt : at_ zs a - at_ zs k < (leadS zs a k).1
        · rw [if_pos (.inr hlt)]
          refine ⟨fun i hi hne => ?_, k, by omega, hk, rfl⟩
          by_cases hik : i = k
          · rw [hik]; exact Int.le_refl _
          · have := j0 i (by omega) hne; omega
        · rw [if_neg (by simp [hlt])]
          refine ⟨fun i hi hne => ?_, j, by omega, h2, h3⟩
          by_cases hik : i = k
          · rw [hik]; omega
          · exact j0 i (by omega) hne
theorem grU_ge (l : List Int) : ∀ k i, i ≤ k → at_ l i ≤ grU l k := by
  intro k
  induction k with
  | zero => intro i hi; obtain rfl : i = 0 := by omega
            exact Int.le_refl _
  | succ k ih =>
    intro i hi
    unfold grU
    by_cases h : i = k + 1
    · rw [h]; exact Int.le_max_right _ _
    · exact Int.le_trans (ih i (by omega)) (Int.le_max_left _ _)
theorem grt_ge {l : List Int} {i : Nat} (h : i < l.length) : at_ l i ≤ grt l := grU_ge l _ i (by omega)
theorem grt_at {l : List Int} (h : 0 < l.length) : ∃ i, i < l.length ∧ at_ l i = grt l :=
  ⟨fgU l (l.length - 1), by have := (fg_gr l (l.length - 1)).2; omega, (fg_gr l (l.length - 1)).1⟩
theorem at_gone {xs : List Int} {i j : Nat} (hi : i < xs.length) (hj : j < xs.length - 1) : at_ (gone xs i) j = if j < i then at_ xs j else at_ xs (j + 1) := by
  unfold at_
  rw [List.getD_eq_getElem?_getD, gone_get hi hj]
  split <;> rw [List.getD_eq_getElem?_getD]
/-- The two leads are one. -/
theorem lead_eq {zs : List Int} {a : Nat} (ha : a < zs.length) : (leadS zs a zs.length).1 = if zs.length = 1 then 0 else at_ zs a - grt (gone zs a) := by
  have hb := leadS_bd zs a zs.length
  by_cases h1 : zs.length = 1
  · rw [if_pos h1]
    cases hs : (leadS zs a zs.length).2 with
    | false => exact (hb.1 hs).1
    | true => obtain ⟨-, i, h2, h3, -⟩ := hb.2 hs; omega
  · rw [if_neg h1]
    have hl : (gone zs a).length = zs.length - 1 := gone_len ha
    cases hs : (leadS zs a zs.length).2 with
    | false =>
      have h0 := (hb.1 hs).2 0 (by omega)
      have h2 := (hb.1 hs).2 1 (by omega)
      omega
    | true =>
      obtain ⟨j0, j, h2, h3, h4⟩ := hb.2 hs
      obtain ⟨i, hi, he⟩ := grt_at (l := gone zs a) (by omega)
      rw [at_gone ha (by omega)] at he
      have u1 : (leadS zs a zs.length).1 ≤ at_ zs a - grt (gone zs a) := by
        rw [← he]
        split
        · next h => exact j0 i (by omega) (by omega)
        · next h => exact j0 (i + 1) (by omega) (by omega)
      have u2 : at_ zs j ≤ grt (gone zs a) := by
        by_cases hja : j < a
        · have := grt_ge (l := gone zs a) (i := j) (by omega)
          rw [at_gone ha (by omega), if_pos hja] at this
          exact this
        · have := grt_ge (l := gone zs a) (i := j - 1) (by omega)
          rw [at_gone ha (by omega), if_neg (by omega), show j - 1 + 1 = j by omega] at this
          exact this
      omega
theorem leadS_num {zs : List Int} {a : Nat} (M : Int) (hM : 0 ≤ M) (ha : a < zs.length) (h : ∀ i, i < zs.length → -M ≤ at_ zs i ∧ at_ zs i ≤ M) (k : Nat) (hk : k ≤ zs.length) : -(2 * M) ≤ (leadS zs a k).1 ∧ (leadS zs a k).1 ≤ 2 * M := by
  have hb := leadS_bd zs a k
  cases hs : (leadS zs a k).2 with
  | false => rw [(hb.1 hs).1]; omega
  | true =>
    obtain ⟨-, i, h2, h3, h4⟩ := hb.2 hs
    have := h i (by omega)
    have := h a ha
    rw [h4]; omega
end Go.Proofs.Ytfgkkmhafdbicaa.Bd38
