/-
  ParseClock of the reference: what it returns. Conditions: each theorem's own.
-/
import Derived.Test.YtdjopnhbcchedaaDoorPrsI
import Derived.WalkSpells
import Derived.StillTailTactics
set_option linter.unusedVariables false
set_option linter.unusedSimpArgs false
namespace Go.Proofs.YtdjopnhbcchedaaDoor.PrsS
open Go.ChangeShapes Go.WideShapes Go.ChangeAt Go.RowKit Base Fmt Prs PrsI

theorem digs_data (s : ByteArray) (h : 8 ≤ s.size) : (s.extract 0 (s.size - 7) ++ s.extract (s.size - 6) (s.size - 4) ++ s.extract (s.size - 3) s.size).data.toList = digs s.data.toList := by
  unfold digs
  have hl := data_len s
  rw [hl]
  have e : ∀ a b : ByteArray, (a ++ b).data.toList = a.data.toList ++ b.data.toList := fun a b => by
    rw [ByteArray.data_append]; simp
  have e3 : (s.data.toList.drop (s.size - 3)).take (s.size - (s.size - 3)) = s.data.toList.drop (s.size - 3) := List.take_of_length_le (by rw [List.length_drop, hl]; exact Nat.le_refl _)
  rw [e, e, Lib.extract_data, Lib.extract_data, Lib.extract_data, List.drop_zero, Nat.sub_zero, show s.size - 4 - (s.size - 6) = 2 from by omega, e3]
/-- While all digits are digits the numbers stay small. -/
theorem vS_bd {n : Nat} {dl : List UInt8} (hd : ∀ i, i < dl.length → isD (dl.getD i 0) = true) : ∀ k, k ≤ dl.length → (0 ≤ (vS n dl k).1 ∧ (vS n dl k).1 < 10 ^ k) ∧ (0 ≤ (vS n dl k).2.1 ∧ (vS n dl k).2.1 < 10 ^ k) ∧ (0 ≤ (vS n dl k).2.2 ∧ (vS n dl k).2.2 < 10 ^ k) := by
  intro k
  induction k with
  | zero => intro _; simp [vS]
  | succ k ih =>
    intro hk
    have h1 := ih (by omega)
    have hx := hd k (by omega)
    unfold isD at hx
    have hx := of_decide_eq_true hx
    simp only [vS]
    generalize (dl.getD k 0).toNat = x at *
    generalize vS n dl k = v at *
    have hp : (10 : Int) ^ (k + 1) = 10 * 10 ^ k := by rw [Int.pow_succ, Int.mul_comm]
    have hp0 : (0 : Int) < 10 ^ k := Int.pow_pos (by decide)
    rw [hp]
    generalize (10 : Int) ^ k = P at *
    unfold upd
    split
    · simp only; omega
    · split <;> simp only <;> omega
theorem pow_le {k : Nat} (h : k ≤ 9) : (10 : Int) ^ k ≤ 1000000000 := by
  match k, h with
  | 0, _ => decide
  | 1, _ => decide
  | 2, _ => decide
  | 3, _ => decide
  | 4, _ => decide
  | 5, _ => decide
  | 6, _ => decide
  | 7, _ => decide
  | 8, _ => decide
  | 9, _ => decide
theorem isD_take {dl : List UInt8} {k : Nat} (h : (dl.take k).all isD = true) {x : UInt8} (hx : dl[k]? = some x) (hd : isD x = true) : (dl.take (k + 1)).all isD = true := by
  rw [take_succ dl k x hx, List.all_append, h]; simp [hd]
/-- The numbers behind k digits are small (the digits behind them count for nothing). -/
theorem vS_take {n : Nat} {dl : List UInt8} {k : Nat} (h : (dl.take k).all isD = true) (hk : k ≤ dl.length) : (0 ≤ (vS n dl k).1 ∧ (vS n dl k).1 < 10 ^ k) ∧ (0 ≤ (vS n dl k).2.1 ∧ (vS n dl k).2.1 < 10 ^ k) ∧ (0 ≤ (vS n dl k).2.2 ∧ (vS n dl k).2.2 < 10 ^ k) := by
  have hl : (dl.take k).length = k := by rw [List.length_take]; omega
  have hg : ∀ i, i < k → (dl.take k).getD i 0 = dl.getD i 0 := fun i hi => by
    rw [List.getD_eq_getElem?_getD, List.getD_eq_getElem?_getD, List.getElem?_take, if_pos hi]
  have e : ∀ j, j ≤ k → vS n (dl.take k) j = vS n dl j := by
    intro j
    induction j with
    | zero => intro _; rfl
    | succ j ih => intro hj; simp only [vS]; rw [ih (by omega), hg j (by omega)]
  have := vS_bd (n := n) (dl := dl.take k) (fun i hi => by
    rw [hl] at hi
    refine List.all_eq_true.1 h _ ?_
    rw [List.getD_eq_getElem?_getD, List.getElem?_eq_getElem (by omega)]
    exact List.getElem_mem _) k (by omega)
  rw [e k (Nat.le_refl _)] at this
  exact this
theorem digs_len (l : List UInt8) (h : 8 ≤ l.length) : (digs l).length = l.length - 2 := by
  unfold digs
  simp only [List.length_append, List.length_take, List.length_drop]
  omega

set_option maxHeartbeats 4000000 in
set_option maxRecDepth 100000 in
theorem parse_s (s : ByteArray) (hs : s.size ≤ 1048576) (w : World) :
    Calls Tryd.prog 8 #[.string s] w fun e w' => e = .returned (.tuple #[.int .i64 (prsS s.data.toList).1, .bool (prsS s.data.toList).2]) ∧ Below w.heap.size w w' := by
  obtain ⟨⟨rv, ro⟩, hR⟩ : ∃ z, prsS s.data.toList = z := ⟨_, rfl⟩
  rw [hR]
  unfold prsS at hR
  rw [data_len] at hR
  obtain ⟨n, hn⟩ : ∃ n, s.size = n := ⟨_, rfl⟩
  have HN := Lib.hid hn
  rw [hn] at hs hR
  clear hn
  by_cases h8 : n < 8
  · rw [if_pos (.inl h8)] at hR
    simp only [Prod.mk.injEq] at hR
    obtain ⟨rfl, rfl⟩ := hR
    have hd : decide ((s.size : Int) < 8) = true := decide_eq_true (by rw [HN.out]; omega)
    go_enter Tryd.func8, Tryd.ntmps8
    go_wp2_with fail
    go_ret2
    exact ⟨rfl, Below.refl _ _⟩
  by_cases h11 : 11 < n
  · rw [if_pos (.inr h11)] at hR
    simp only [Prod.mk.injEq] at hR
    obtain ⟨rfl, rfl⟩ := hR
    have hd : decide ((s.size : Int) < 8) = false := decide_eq_false (by rw [HN.out]; omega)
    have hd2 : decide ((11 : Int) < (s.size : Int)) = true := decide_eq_true (by rw [HN.out]; omega)
    go_enter Tryd.func8, Tryd.ntmps8
    go_wp2_with fail
    go_ret2
    exact ⟨rfl, Below.refl _ _⟩
  rw [if_neg (by omega)] at hR
  have HR := Lib.hid hR
  clear hR
  have hd : decide ((s.size : Int) < 8) = false := decide_eq_false (by rw [HN.out]; omega)
  have hd2 : decide ((11 : Int) < (s.size : Int)) = false := decide_eq_false (by rw [HN.out]; omega)
  have hz8 : 8 ≤ s.size := by rw [HN.out]; omega
  have hz11 : s.size ≤ 11 := by rw [HN.out]; omega
  go_enter Tryd.func8, Tryd.ntmps8
  go_wp2_with fail
  go_quiet (fail)
  obtain ⟨db, hdb⟩ : ∃ db : ByteArray, s.extract 0 (s.size - 7) ++ s.extract (s.size - 6) (s.size - 4) ++ s.extract (s.size - 3) s.size = db := ⟨_, rfl⟩
  have hdl : db.data.toList = digs s.data.toList := by rw [← hdb]; exact digs_data s hz8
  obtain ⟨N, hN⟩ : ∃ N, db.size = N := ⟨_, rfl⟩
  have hN2 : N + 2 = s.size := by rw [← hN, ← data_len, hdl, digs_len _ (by rw [data_len]; exact hz8), data_len]; omega
  have HDL := Lib.hid hdl
  have HNN := Lib.hid hN
  have hN9 : N ≤ 9 := by omega
  rw [hdb]
  clear hdb hdl hN
  go_wp2_with fail
  go_loopw [7] (fun i wr => ∃ (k : Nat) (a b c : Int), k ≤ N ∧ i = .int .i64 (k : Int) ∧ RowB wr w.heap.size 2 [.int .i64 a, .int .i64 b, .int .i64 c] ∧ Hid (vS s.size db.data.toList k = (a, b, c)) ∧ Hid (Below w.heap.size w wr) ∧ Hid ((db.data.toList.take k).all isD = true)) (fun i _ => N - (intOf i).toNat)
  case atStart => exact ⟨0, 0, 0, 0, by omega, by first | rfl | trivial, RowB.new _ _ _, rfl, (below_drewN (Below.refl _ _) _).alloc (Nat.le_refl _) _, rfl⟩
  case round =>
    obtain ⟨k, a, b, c, hk, rfl, row, hv, hbw, hall⟩ := hrel
    obtain ⟨c0, c1, c2⟩ := row.c3
    have hf := row.frozen
    by_cases hlt : k < N
    · have hlt' : k < db.size := by rw [HNN.out]; exact hlt
      have hx := Lib.data_getElem? db k hlt'
      obtain ⟨x, hxx⟩ : ∃ x, (db[k]'hlt') = x := ⟨_, rfl⟩
      rw [hxx] at hx
      by_cases hD : isD x = true
      · have hD2 : 48 ≤ x.toNat ∧ x.toNat ≤ 57 := by unfold isD at hD; exact of_decide_eq_true hD
        have hbd := vS_take (n := s.size) hall.out (by rw [data_len, HNN.out]; exact hk)
        rw [hv.out] at hbd
        obtain ⟨⟨a0, a1⟩, ⟨b0, b1⟩, g0, g1⟩ := hbd
        replace a0 : 0 ≤ a := a0
        replace b0 : 0 ≤ b := b0
        replace g0 : 0 ≤ c := g0
        have hp := pow_le (k := k) (by omega)
        replace a1 : a < 1000000000 := Int.lt_of_lt_of_le a1 hp
        replace b1 : b < 1000000000 := Int.lt_of_lt_of_le b1 hp
        replace g1 : c < 1000000000 := Int.lt_of_lt_of_le g1 hp
        clear hp
        have HALL2 := Lib.hid (isD_take hall.out hx hD)
        have hg : db.data.toList.getD k 0 = x := by rw [List.getD_eq_getElem?_getD, hx]; rfl
        have HG := Lib.hid hg
        have HXX := Lib.hid hxx
        obtain ⟨z, hz⟩ : ∃ z : Nat, x.toNat = z := ⟨_, rfl⟩
        rw [hz] at hD2
        obtain ⟨hd0, hd1⟩ := hD2
        have HZ := Lib.hid hz
        have hzd : (db[k]'hlt').toNat = z := by rw [hxx, hz]
        have eu : IntKind.u8.wrap ((z : Int) - 48) = (z : Int) - 48 := u8_in _ (by omega)
        have ea1 : IntKind.i64.wrap (10 * a) = 10 * a := IntWalk.i64_in _ (by omega)
        have eb1 : IntKind.i64.wrap (10 * b) = 10 * b := IntWalk.i64_in _ (by omega)
        have ec1 : IntKind.i64.wrap (10 * c) = 10 * c := IntWalk.i64_in _ (by omega)
        have ea2 : IntKind.i64.wrap (10 * a + ((z : Int) - 48)) = 10 * a + ((z : Int) - 48) := IntWalk.i64_in _ (by omega)
        have eb2 : IntKind.i64.wrap (10 * b + ((z : Int) - 48)) = 10 * b + ((z : Int) - 48) := IntWalk.i64_in _ (by omega)
        have ec2 : IntKind.i64.wrap (10 * c + ((z : Int) - 48)) = 10 * c + ((z : Int) - 48) := IntWalk.i64_in _ (by omega)
        have ez : IntKind.i64.wrap ((z : Int) - 48) = (z : Int) - 48 := IntWalk.i64_in _ (by omega)
        clear hxx hz hx hD hg
        have hrl := row.lt
        by_cases k7 : k < s.size - 7
        · have q1 : decide ((s.size : Int) - 7 ≤ (k : Int)) = false := decide_eq_false (by omega)
          have q2 : decide ((s.size : Int) - 5 ≤ (k : Int)) = false := decide_eq_false (by omega)
          have HV2 : Hid (vS s.size db.data.toList (k + 1) = (10 * a + ((z : Int) - 48), b, c)) := Lib.hid (by simp only [vS]; rw [hv.out, HG.out, HZ.out]; unfold upd; rw [if_pos k7])
          go_wp2_with fail
          go_still_tail 14, (by kernel_rfl)
          go_wp2_with fail
          go_roundw
          case rel => exact ⟨k + 1, _, _, _, by omega, by go_num, RowB.drew (RowB.set row 0 _), HV2, (hbw.out.setCell (p := ⟨w.heap.size, 0, none⟩) (Nat.le_refl _) _).drew, HALL2⟩
          case measure => simp [intOf]; omega
        by_cases k5 : k < s.size - 5
        · have q1 : decide ((s.size : Int) - 7 ≤ (k : Int)) = true := decide_eq_true (by omega)
          have q2 : decide ((s.size : Int) - 5 ≤ (k : Int)) = false := decide_eq_false (by omega)
          have HV2 : Hid (vS s.size db.data.toList (k + 1) = (a, 10 * b + ((z : Int) - 48), c)) := Lib.hid (by simp only [vS]; rw [hv.out, HG.out, HZ.out]; unfold upd; rw [if_neg k7, if_pos k5])
          go_wp2_with fail
          go_still_tail 14, (by kernel_rfl)
          go_wp2_with fail
          go_roundw
          case rel => exact ⟨k + 1, _, _, _, by omega, by go_num, RowB.drew (RowB.set row 1 _), HV2, (hbw.out.setCell (p := ⟨w.heap.size, 1, none⟩) (Nat.le_refl _) _).drew, HALL2⟩
          case measure => simp [intOf]; omega
        · have q1 : decide ((s.size : Int) - 7 ≤ (k : Int)) = true := decide_eq_true (by omega)
          have q2 : decide ((s.size : Int) - 5 ≤ (k : Int)) = true := decide_eq_true (by omega)
          have HV2 : Hid (vS s.size db.data.toList (k + 1) = (a, b, 10 * c + ((z : Int) - 48))) := Lib.hid (by simp only [vS]; rw [hv.out, HG.out, HZ.out]; unfold upd; rw [if_neg k7, if_neg k5])
          go_wp2_with fail
          go_still_tail 14, (by kernel_rfl)
          go_wp2_with fail
          go_roundw
          case rel => exact ⟨k + 1, _, _, _, by omega, by go_num, RowB.drew (RowB.set row 2 _), HV2, (hbw.out.setCell (p := ⟨w.heap.size, 2, none⟩) (Nat.le_refl _) _).drew, HALL2⟩
          case measure => simp [intOf]; omega
      · have hR : rv = 0 ∧ ro = false := by
          have := HR.out
          rw [if_neg (fun h => hD (List.all_eq_true.1 h x (by rw [← HDL.out]; exact List.mem_of_getElem? hx)))] at this
          simp only [Prod.mk.injEq] at this
          exact ⟨this.1.symm, this.2.symm⟩
        obtain ⟨rfl, rfl⟩ := hR
        obtain ⟨z, hz⟩ : ∃ z : Nat, x.toNat = z := ⟨_, rfl⟩
        have hzd : (db[k]'hlt').toNat = z := by rw [hxx, hz]
        have hD2 : z < 48 ∨ 57 < z := by
          unfold isD at hD
          have hD := of_decide_eq_false (eq_false_of_ne_true hD)
          omega
        clear hxx hz hx hD
        by_cases h48 : z < 48
        · have q1 : decide ((z : Int) < 48) = true := decide_eq_true (by omega)
          go_wp2_with fail
          go_ret2
          exact ⟨rfl, hbw.out⟩
        · have q1 : decide ((z : Int) < 48) = false := decide_eq_false (by omega)
          have q2 : decide ((57 : Int) < (z : Int)) = true := decide_eq_true (by omega)
          go_wp2_with fail
          go_ret2
          exact ⟨rfl, hbw.out⟩
    · obtain rfl : k = N := by omega
      have hda : (db.data.toList).all isD = true := by
        have := hall.out
        rw [List.take_of_length_le (by rw [data_len, HNN.out]; exact Nat.le_refl _)] at this
        exact this
      have hbd := vS_take (n := s.size) hall.out (by rw [data_len, HNN.out]; exact Nat.le_refl _)
      rw [hv.out] at hbd
      obtain ⟨⟨a0, a1⟩, ⟨b0, b1⟩, g0, g1⟩ := hbd
      replace a0 : 0 ≤ a := a0
      replace b0 : 0 ≤ b := b0
      replace g0 : 0 ≤ c := g0
      have hp := pow_le (k := k) (by omega)
      replace a1 : a < 1000000000 := Int.lt_of_lt_of_le a1 hp
      replace b1 : b < 1000000000 := Int.lt_of_lt_of_le b1 hp
      replace g1 : c < 1000000000 := Int.lt_of_lt_of_le g1 hp
      clear hp
      have hE : (if (fmtT (60000 * a + 1000 * b + c)).data.toList = s.data.toList then (60000 * a + 1000 * b + c, true) else (0, false)) = (rv, ro) := by
        have := HR.out
        rw [← HDL.out, if_pos hda, data_len, HNN.out, ← HN.out, hv.out] at this
        exact this
      have HE := Lib.hid hE
      clear hda hE
      have hge : db.size ≤ k := by rw [HNN.out]; exact Nat.le_refl _
      have e1 : IntKind.i64.wrap (60000 * a) = 60000 * a := IntWalk.i64_in _ (by omega)
      have e2 : IntKind.i64.wrap (1000 * b) = 1000 * b := IntWalk.i64_in _ (by omega)
      have e3 : IntKind.i64.wrap (60000 * a + 1000 * b) = 60000 * a + 1000 * b := IntWalk.i64_in _ (by omega)
      have e4 : IntKind.i64.wrap (60000 * a + 1000 * b + c) = 60000 * a + 1000 * b + c := IntWalk.i64_in _ (by omega)
      go_wp2_with fail
      go_quiet (fail)
      obtain ⟨tt, htt⟩ : ∃ tt, 60000 * a + 1000 * b + c = tt := ⟨_, rfl⟩
      rw [htt] at HE ⊢
      clear htt e1 e2 e3 e4
      go_wp2_with fail
      refine (fmt_s tt _).mono ?_
      rintro e w5 ⟨rfl, hb5⟩
      have hbw := Lib.hid (hbw.out.trans ((below_drewN (Below.refl _ _) _).trans (hb5.mono (by rw [size_drewN]; exact hbw.out.size))))
      obtain ⟨ib, hib⟩ : ∃ ib : ByteArray, fmtT tt = ib := ⟨_, rfl⟩
      rw [hib] at HE ⊢
      clear hib
      by_cases hi : ib.data.toList = s.data.toList
      · have hR := HE.out
        rw [if_pos hi] at hR
        simp only [Prod.mk.injEq] at hR
        obtain ⟨rfl, rfl⟩ := hR
        have e1 : (ib.toList == s.toList) = true := by rw [ByteArray.toList_eq, ByteArray.toList_eq, hi]; simp
        have e2 : (ib.toList != s.toList) = false := by simp only [bne, e1]; rfl
        clear hi
        go_wp2_with fail
        go_ret2
        exact ⟨rfl, hbw.out⟩
      · have hR := HE.out
        rw [if_neg hi] at hR
        simp only [Prod.mk.injEq] at hR
        obtain ⟨rfl, rfl⟩ := hR
        have e1 : (ib.toList == s.toList) = false := by rw [ByteArray.toList_eq, ByteArray.toList_eq]; exact beq_eq_false_iff_ne.2 hi
        have e2 : (ib.toList != s.toList) = true := by simp only [bne, e1]; rfl
        clear hi
        go_wp2_with fail
        go_ret2
        exact ⟨rfl, hbw.out⟩
end Go.Proofs.YtdjopnhbcchedaaDoor.PrsS
