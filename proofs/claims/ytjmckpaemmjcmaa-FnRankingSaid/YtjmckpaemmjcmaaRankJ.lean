/-
  RankRatings of the program. Conditions: each theorem's own.
-/
import Derived.Test.YtjmckpaemmjcmaaRankI
set_option linter.unusedVariables false
namespace Go.Proofs.Ytjmckpaemmjcmaa.RankJ
open Go.ChangeShapes Go.WideShapes Go.ChangeAt Go.RowKit Base Base2 Ints Own RankPlain RankC RankI

theorem stS (B : Nat) (A : Option Addr) (n c gb g cap : Nat) (xs : List (Int × Int)) (w : World) (hn : n = xs.length) (h8 : n ≤ 8) (hb : RowB w gb 35 [.slice A n c]) (hr : RdS w B 2 enI2 A xs) (hB : B ≤ gb) (hg : gb < g) (row : RowB w g 2 ((arr (List.range n)).flatMap enI)) :
    Calls Try.prog 52 #[.slice (some ⟨g, 0, none⟩) n cap, .int .i64 n, .func (.func 47) #[] #[.pointer (some ⟨gb, 0, none⟩)]] w fun e w' => (∃ v, e = .returned v) ∧ w.grownBy w' (some g) ∧ RowB w' g 2 ((arr (rank xs n)).flatMap enI) := by
  have CI := Lib.hid (insS B A n c gb g cap xs w hn h8 hb hr hB hg row)
  have hd1 : decide ((20 : Int) ≤ (n : Int)) = false := decide_eq_false (by omega)
  have hd2 : decide ((20 : Int) < (n : Int)) = false := decide_eq_false (by omega)
  clear hn hb hr row
  go_enter Try.func52, Try.ntmps52
  have hd1 : decide ((20 : Int) ≤ (n : Int)) = false := decide_eq_false (by omega)
  have hd2 : decide ((20 : Int) < (n : Int)) = false := decide_eq_false (by omega)
  go_wp2_with fail
  go_loop [7, 8] (fun a b => a = .int .i64 0 ∧ b = .int .i64 20) (fun _ _ => 0)
  case atStart => exact ⟨rfl, rfl⟩
  case round =>
    obtain ⟨rfl, rfl⟩ := hrel
    go_wp2_with fail
    refine CI.out.mono ?_
    rintro e w2 ⟨⟨v, rfl⟩, hg2, row2⟩
    go_wp2_with fail
    go_loopw [6] (fun a wr => a = .int .i64 20 ∧ wr = w2) (fun _ _ => 0)
    case atStart => exact ⟨rfl, rfl⟩
    case round =>
      obtain ⟨rfl, rfl⟩ := hrel
      go_wp2_with fail
      go_returns
      exact ⟨⟨_, rfl⟩, hg2, row2⟩

theorem soS (B : Nat) (A : Option Addr) (n c gb g cap : Nat) (xs : List (Int × Int)) (w : World) (hn : n = xs.length) (h8 : n ≤ 8) (hb : RowB w gb 35 [.slice A n c]) (hr : RdS w B 2 enI2 A xs) (hB : B ≤ gb) (hg : gb < g) (row : RowB w g 2 ((arr (List.range n)).flatMap enI)) :
    Calls Try.prog 46 #[.slice (some ⟨g, 0, none⟩) n cap, .func (.func 47) #[] #[.pointer (some ⟨gb, 0, none⟩)]] w fun e w' => (∃ v, e = .returned v) ∧ w.grownBy w' (some g) ∧ RowB w' g 2 ((arr (rank xs n)).flatMap enI) := by
  have CI := Lib.hid (stS B A n c gb g cap xs w hn h8 hb hr hB hg row)
  clear hn hb hr row
  go_enter Try.func46, Try.ntmps46
  go_wp2_with fail
  refine CI.out.mono ?_
  rintro e w2 ⟨⟨v, rfl⟩, hg2, row2⟩
  go_wp2_with fail
  go_returns
  exact ⟨⟨_, rfl⟩, hg2, row2⟩

/-- What RankRatings returns. -/
def rkL (xs : List (Int × Int)) : List Int := if xs.length ≤ 8 then arr (rank xs xs.length) else []
theorem fill_int {n k : Nat} (h : k < n) : (((arr (List.range k)).flatMap enI ++ List.replicate (n - k) (Value.int .i64 0))).set k (.int .i64 (k : Int)) = (arr (List.range (k + 1))).flatMap enI ++ List.replicate (n - (k + 1)) (.int .i64 0) := by
  obtain ⟨m, hm⟩ : ∃ m, n - k = m + 1 := ⟨n - k - 1, by omega⟩
  rw [hm, show n - (k + 1) = m from by omega, List.replicate_succ]
  have hl : ((arr (List.range k)).flatMap enI).length = k := by rw [flatMap_len enI_len]; simp [arr]
  rw [List.set_append_right _ _ (by omega), hl, Nat.sub_self, List.set_cons_zero, List.range_succ]
  simp [arr, enI]

set_option maxHeartbeats 4000000 in
set_option maxRecDepth 100000 in
theorem rankI (B : Nat) (A : Option Addr) (c : Nat) (xs : List (Int × Int)) (w : World) (hB : B ≤ w.heap.size) (hr : RdS w B 2 enI2 A xs) :
    Calls Try.prog 26 #[.slice A xs.length c] w fun e w' => (∃ v, e = .returned v ∧ OwnS w' w.heap.size w'.heap.size 2 1 enI v (rkL xs)) ∧ Below w.heap.size w w' := by
  have hml := hr.len
  obtain ⟨i0, hi0, hz0, hz1, hz2⟩ := info_parts Ints.info
  obtain ⟨n, hn⟩ : ∃ n, xs.length = n := ⟨_, rfl⟩
  have HL : Hid (rkL xs = if n ≤ 8 then arr (rank xs n) else []) := by unfold rkL; rw [hn]; rfl
  have HN := Lib.hid hn
  rw [hn] at hml
  rw [hn]
  clear hn
  by_cases h8 : n ≤ 8
  · have HL : Hid (rkL xs = arr (rank xs n)) := by rw [HL.out, if_pos h8]; rfl
    go_enter Try.func26, Try.ntmps26
    have hd : decide ((8 : Int) < (n : Int)) = false := decide_eq_false (by omega)
    go_wp2_with (at_make; refine wpList_make_full _ rfl _ _ _ rfl (w.heap.size + 1) 2 i0 _ 1 Try.underlying45 hi0 hz0 hz1 _ _ _ _ n rfl rfl rfl rfl ?c1 ?c2 (by go_size) ?_)
    case c1 => rw [hz2]; omega
    case c2 => unfold maxLen; omega
    intro w1 hown hgrow
    have hrow := RowB.of_own hown
    have hrow := Lib.hid hrow
    have q1 : Below w.heap.size w w1 := ((Below.refl _ _).alloc (Nat.le_refl _) _).grown hgrow (by go_size) (fun k hk => by simp at hk)
    have hbx : RowB w1 w.heap.size 35 [.slice A n c] := (RowB.new _ _ _).grown hgrow (fun k hk => by simp at hk)
    have hsz : w.heap.size + 1 < w1.heap.size := hrow.out.lt
    clear hown hgrow
    go_wp2_with fail
    go_loopw [13] (fun s wr => ∃ k : Nat, k ≤ n ∧ s = .int .i64 (k : Int) ∧ Below w.heap.size w wr ∧ RowB wr w.heap.size 35 [.slice A n c] ∧ Hid (RowB wr (w.heap.size + 1) 2 ((arr (List.range k)).flatMap enI ++ List.replicate (n - k) (.int .i64 0)))) (fun s _ => n - (intOf s).toNat)
    case atStart => exact ⟨0, Nat.zero_le _, rfl, q1, hbx, by simpa [arr, made_rep] using hrow⟩
    case round =>
      clear q1 hbx hrow hsz
      obtain ⟨k, hk, rfl, qb, hbx, hR⟩ := hrel
      have hl := hR.out.lt
      by_cases hlt : k < n
      · have hf := hR.out.frozen
        obtain ⟨z, hz⟩ : ∃ z, wr.cell? ⟨w.heap.size + 1, k, none⟩ = some z := by
          rw [hR.out.cell]
          refine ⟨_, List.getElem?_eq_getElem ?_⟩
          rw [List.length_append, flatMap_len enI_len, List.length_replicate]
          simp [arr]; omega
        have HF : Hid (RowB (wr.setCell ⟨w.heap.size + 1, k, none⟩ (.int .i64 (k : Int))) (w.heap.size + 1) 2 ((arr (List.range (k + 1))).flatMap enI ++ List.replicate (n - (k + 1)) (.int .i64 0))) := by
          have := hR.out.set k (.int .i64 (k : Int))
          rw [fill_int hlt] at this
          exact this
        have hbx' : RowB (wr.setCell ⟨w.heap.size + 1, k, none⟩ (.int .i64 (k : Int))) w.heap.size 35 [.slice A n c] := hbx.other (by show w.heap.size ≠ w.heap.size + 1; omega) _
        have HBX := Lib.hid hbx'; clear hbx'
        have qs := Lib.hid (qb.setCell (p := ⟨w.heap.size + 1, k, none⟩) (by show w.heap.size ≤ w.heap.size + 1; omega) (.int .i64 (k : Int)))
        go_wp2_with fail
        go_roundw
        case rel => exact ⟨k + 1, by omega, by go_num, qs.out, HBX.out, HF⟩
        case measure => simp [intOf]; omega
      · obtain rfl : k = n := by omega
        have row : RowB wr (w.heap.size + 1) 2 ((arr (List.range k)).flatMap enI) := by have := hR.out; rw [Nat.sub_self, List.replicate_zero, List.append_nil] at this; exact this
        have CS := Lib.hid (fun w0 h1 h2 h3 => soS B A k c w.heap.size (w.heap.size + 1) k xs w0 HN.out.symm h8 h1 h2 hB (Nat.lt_succ_self _) h3)
        have hr' := hr.below qb hB
        clear hR
        go_wp2_with fail
        refine (CS.out _ hbx hr' row).mono ?_
        rintro e w2 ⟨⟨v, rfl⟩, hg2, row2⟩
        have q2 := qb.grown hg2 qb.size (fun k hk => by simp at hk; omega)
        go_wp2_with fail
        go_ret
        refine ⟨⟨_, rfl, ?_⟩, q2⟩
        rw [HL.out]
        have hlen : (arr (rank xs k)).length = k := by unfold arr; rw [List.length_map, rank_len]
        have := OwnS.mk_ (lo := w.heap.size) (hi := w2.heap.size) (cap := k) (rest := []) enI_len (by rw [List.append_nil]; exact row2) (by omega) row2.lt (by rw [hlen]; exact Nat.le_refl _) (by unfold maxLen; omega) (by rw [hlen]; simp)
        rw [hlen] at this
        exact this
  · have HL : Hid (rkL xs = []) := by rw [HL.out, if_neg h8]; rfl
    have hgt : (8 : Int) < (n : Int) := by omega
    go_enter Try.func26, Try.ntmps26
    go_wp2_with fail
    go_ret
    exact ⟨⟨_, rfl, by rw [HL.out]; exact OwnS.nil_ _ _ _ _ _ _⟩, by go_grown⟩
end Go.Proofs.Ytjmckpaemmjcmaa.RankJ
