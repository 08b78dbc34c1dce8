/-
  IsRatingList, of the program and of the reference. Conditions: each theorem's own.
-/
import Derived.Test.YtjmckpaemmjcmaaDoorRating
import Derived.Test.YtjmckpaemmjcmaaDoorRatingS
import Derived.Test.YtjmckpaemmjcmaaDoorRatedS
set_option linter.unusedVariables false
namespace Go.Proofs.YtjmckpaemmjcmaaDoor.RatList
open Go.ChangeShapes Go.WideShapes Go.ChangeAt Go.RowKit Base Base2 Rating

def okM (n : Nat) (x : Int × Int × Int) : Bool := decide (0 ≤ x.1 ∧ x.1 < n ∧ 0 ≤ x.2.1 ∧ x.2.1 < n ∧ x.1 ≠ x.2.1 ∧ 1 ≤ x.2.2 ∧ x.2.2 ≤ 25)
def okRL (xs : List (Int × Int)) (ms : List (Int × Int × Int)) : Bool :=
  decide (2 ≤ xs.length ∧ xs.length ≤ 8 ∧ ms.length ≤ 60) && (xs.all (fun x => okR x.1 x.2) && ms.all (okM xs.length))
theorem all_snoc {α : Type} (p : α → Bool) (xs : List α) (k : Nat) (x : α) (h : xs[k]? = some x) (h1 : (xs.take k).all p = true) (h2 : p x = true) : (xs.take (k + 1)).all p = true := by
  rw [take_succ xs k x h, List.all_append, h1]; simp [h2]
theorem all_no {α : Type} (p : α → Bool) (xs : List α) (k : Nat) (x : α) (h : xs[k]? = some x) (h2 : p x = false) : xs.all p = false := by
  rw [List.all_eq_false]
  exact ⟨x, List.mem_of_getElem? h, by simp [h2]⟩
theorem retb {a b : Bool} (h : a = b) : Ending.returned (.bool a) = Ending.returned (.bool b) := by rw [h]

set_option maxHeartbeats 4000000 in
theorem rl_spec (B1 B2 : Nat) (A1 A2 : Option Addr) (c1 c2 : Nat) (xs : List (Int × Int)) (ms : List (Int × Int × Int)) (w : World) (h1 : RdS w B1 2 enI2 A1 xs) (h2 : RdS w B2 3 enI3 A2 ms) (hB1 : B1 ≤ w.heap.size) (hB2 : B2 ≤ w.heap.size) :
    Calls Tryd.prog 24 #[.slice A1 xs.length c1, .slice A2 ms.length c2] w fun e w' => e = .returned (.bool (okRL xs ms)) ∧ Below w.heap.size w w' := by
  have hn := h1.len
  have hm := h2.len
  by_cases g1 : 2 ≤ xs.length ∧ xs.length ≤ 8
  · obtain ⟨g1, g2⟩ := g1
    by_cases g3 : ms.length ≤ 60
    · have hok : okRL xs ms = (xs.all (fun x => okR x.1 x.2) && ms.all (okM xs.length)) := by simp [okRL, g1, g2, g3]
      have HOK := Lib.hid hok; clear hok
      generalize hnn : xs.length = n at *
      generalize hmm : ms.length = m at *
      have H := Lib.hid hnn; clear hnn
      have M := Lib.hid hmm; clear hmm
      go_enter Tryd.func24, Tryd.ntmps24
      go_wp2
      go_loopw [5] (fun i wr => ∃ k : Nat, k ≤ n ∧ i = .int .i64 k ∧ Below w.heap.size w wr ∧ Hid ((xs.take k).all (fun x => okR x.1 x.2) = true)) (fun i _ => n - (intOf i).toNat)
      case atStart => exact ⟨0, Nat.zero_le _, rfl, Below.refl _ _, by simp [Hid]⟩
      case round =>
        obtain ⟨k, hk, rfl, hbe, hall⟩ := hrel
        by_cases hlt : k < n
        · obtain ⟨b, off, p, q, rfl, hb, hx, k0, k1⟩ := rdI2_at h1 (by rw [H.out]; exact hlt)
          have hz := hbe.size
          have d0 := (hbe.cell (p := ⟨b, off + k * 2, none⟩) (by show b < _; omega)).trans k0
          have d1 := (hbe.cell (p := ⟨b, off + k * 2 + 1, none⟩) (by show b < _; omega)).trans k1
          have HX := Lib.hid hx
          clear k0 k1 hx hb
          cases hr : okR p q
          · have HF := Lib.hid (all_no (fun x : Int × Int => okR x.1 x.2) xs k (p, q) HX.out hr)
            have C := fun w0 => isR_spec p q w0
            rw [hr] at C
            have C := Lib.hid C
            clear hr
            go_wp2_with (go_at_call 48; refine (C.out _).mono ?_; rintro e w2 ⟨rfl, hb2⟩; have t2 : Below w.heap.size w w2 := hbe.trans (Below.then_ (by go_grown) hb2 (by go_size)))
            go_ret
            exact ⟨retb (by rw [HOK.out, HF.out]; rfl), t2⟩
          · have HT := Lib.hid (all_snoc (fun x : Int × Int => okR x.1 x.2) xs k (p, q) HX.out hall.out hr)
            have C := fun w0 => isR_spec p q w0
            rw [hr] at C
            have C := Lib.hid C
            clear hr
            go_wp2_with (go_at_call 48; refine (C.out _).mono ?_; rintro e w2 ⟨rfl, hb2⟩; have t2 : Below w.heap.size w w2 := hbe.trans (Below.then_ (by go_grown) hb2 (by go_size)))
            go_roundw
            case rel => exact ⟨k + 1, by omega, by go_num, t2, HT⟩
            case measure => simp [intOf]; omega
        · obtain rfl : k = n := by omega
          have HA : Hid (xs.all (fun x => okR x.1 x.2) = true) := by
            have := hall.out
            rw [List.take_of_length_le (by rw [H.out]; exact Nat.le_refl _)] at this
            exact this
          clear hall
          have hzz := hbe.size
          go_wp2
          go_loopw [7] (fun i wx => ∃ j : Nat, j ≤ m ∧ i = .int .i64 j ∧ Below w.heap.size w wx ∧ Hid ((ms.take j).all (okM k) = true)) (fun i _ => m - (intOf i).toNat)
          case atStart => exact ⟨0, Nat.zero_le _, rfl, hbe, by simp [Hid]⟩
          case round =>
            obtain ⟨j, hj, rfl, hbx, hall⟩ := hrel
            by_cases hlt : j < m
            · obtain ⟨b, off, p, q, r, rfl, hb, hx, k0, k1, k2⟩ := rdI3_at h2 (by rw [M.out]; exact hlt)
              have hz := hbx.size
              have d0 := (hbx.cell (p := ⟨b, off + j * 3, none⟩) (by show b < _; omega)).trans k0
              have d1 := (hbx.cell (p := ⟨b, off + j * 3 + 1, none⟩) (by show b < _; omega)).trans k1
              have d2 := (hbx.cell (p := ⟨b, off + j * 3 + 2, none⟩) (by show b < _; omega)).trans k2
              have HX := Lib.hid hx
              have hbw : b < wr.heap.size := by omega
              clear k0 k1 k2 hx hb
              by_cases m1 : 0 ≤ p
              · by_cases m2 : p ≤ (k : Int) - 1
                · by_cases m3 : 0 ≤ q
                  · by_cases m4 : q ≤ (k : Int) - 1
                    · by_cases m5 : p ≠ q
                      · by_cases m6 : 1 ≤ r
                        · by_cases m7 : r ≤ 25
                          · have HT := Lib.hid (all_snoc (okM k) ms j (p, q, r) HX.out hall.out (by simp [okM]; omega))
                            have he : (p == q) = false := by simpa using m5
                            clear m5
                            go_wp2
                            go_roundw
                            case rel => exact ⟨j + 1, by omega, by go_num, by go_grown, HT⟩
                            case measure => simp [intOf]; omega
                          · have HF := Lib.hid (all_no (okM k) ms j (p, q, r) HX.out (by simp [okM]; omega))
                            have hd : decide (r ≤ 25) = false := decide_eq_false m7
                            replace m7 := Int.not_le.1 m7
                            have he : (p == q) = false := by simpa using m5
                            clear m5
                            go_wp2
                            all_goals go_ret
                            all_goals exact ⟨retb (by rw [HOK.out, HA.out, HF.out]; rfl), by go_grown⟩
                        · have HF := Lib.hid (all_no (okM k) ms j (p, q, r) HX.out (by simp [okM]; omega))
                          have hd : decide (1 ≤ r) = false := decide_eq_false m6
                          replace m6 := Int.not_le.1 m6
                          have he : (p == q) = false := by simpa using m5
                          clear m5
                          go_wp2
                          all_goals go_ret
                          all_goals exact ⟨retb (by rw [HOK.out, HA.out, HF.out]; rfl), by go_grown⟩
                      · have HF := Lib.hid (all_no (okM k) ms j (p, q, r) HX.out (by simp [okM]; omega))
                        have he : (p == q) = true := by simpa using m5
                        clear m5
                        go_wp2
                        all_goals go_ret
                        all_goals exact ⟨retb (by rw [HOK.out, HA.out, HF.out]; rfl), by go_grown⟩
                    · have HF := Lib.hid (all_no (okM k) ms j (p, q, r) HX.out (by simp [okM]; omega))
                      have hd : decide (q ≤ (k : Int) - 1) = false := decide_eq_false m4
                      replace m4 := Int.not_le.1 m4
                      go_wp2
                      all_goals go_ret
                      all_goals exact ⟨retb (by rw [HOK.out, HA.out, HF.out]; rfl), by go_grown⟩
                  · have HF := Lib.hid (all_no (okM k) ms j (p, q, r) HX.out (by simp [okM]; omega))
                    have hd : decide (0 ≤ q) = false := decide_eq_false m3
                    replace m3 := Int.not_le.1 m3
                    go_wp2
                    all_goals go_ret
                    all_goals exact ⟨retb (by rw [HOK.out, HA.out, HF.out]; rfl), by go_grown⟩
                · have HF := Lib.hid (all_no (okM k) ms j (p, q, r) HX.out (by simp [okM]; omega))
                  have hd : decide (p ≤ (k : Int) - 1) = false := decide_eq_false m2
                  replace m2 := Int.not_le.1 m2
                  go_wp2
                  all_goals go_ret
                  all_goals exact ⟨retb (by rw [HOK.out, HA.out, HF.out]; rfl), by go_grown⟩
              · have HF := Lib.hid (all_no (okM k) ms j (p, q, r) HX.out (by simp [okM]; omega))
                have hd : decide (0 ≤ p) = false := decide_eq_false m1
                replace m1 := Int.not_le.1 m1
                go_wp2
                all_goals go_ret
                all_goals exact ⟨retb (by rw [HOK.out, HA.out, HF.out]; rfl), by go_grown⟩
            · obtain rfl : j = m := by omega
              have HB : Hid (ms.all (okM k) = true) := by
                have := hall.out
                rw [List.take_of_length_le (by rw [M.out]; exact Nat.le_refl _)] at this
                exact this
              clear hall
              go_wp2
              go_ret
              exact ⟨retb (by rw [HOK.out, HA.out, HB.out]; rfl), hbx⟩
    · have hok : okRL xs ms = false := by simp [okRL, g3]
      have HOK := Lib.hid hok; clear hok
      replace g3 := Nat.not_le.1 g3
      have hdd : decide ((60 : Int) < (ms.length : Int)) = true := decide_eq_true (by omega)
      go_enter Tryd.func24, Tryd.ntmps24
      go_wp2
      all_goals go_ret
      all_goals exact ⟨retb (by rw [HOK.out]), by go_grown⟩
  · have hok : okRL xs ms = false := by
      unfold okRL; rw [decide_eq_false (by omega)]; rfl
    have HOK := Lib.hid hok; clear hok
    have g1' : (xs.length : Int) < 2 ∨ (8 : Int) < (xs.length : Int) := by omega
    clear g1
    rcases g1' with g1 | g1
    · have hd : decide (2 ≤ (xs.length : Int)) = false := decide_eq_false (by omega)
      have hd1 : decide (1 ≤ (xs.length : Int) - 1) = false := decide_eq_false (by omega)
      go_enter Tryd.func24, Tryd.ntmps24
      go_wp2
      all_goals go_ret
      all_goals exact ⟨retb (by rw [HOK.out]), by go_grown⟩
    · have hd : decide ((xs.length : Int) ≤ 8) = false := decide_eq_false (by omega)
      have hd1 : decide ((xs.length : Int) - 1 ≤ 7) = false := decide_eq_false (by omega)
      go_enter Tryd.func24, Tryd.ntmps24
      go_wp2
      all_goals go_ret
      all_goals exact ⟨retb (by rw [HOK.out]), by go_grown⟩

set_option maxHeartbeats 4000000 in
theorem rl_impl (B1 B2 : Nat) (A1 A2 : Option Addr) (c1 c2 : Nat) (xs : List (Int × Int)) (ms : List (Int × Int × Int)) (w : World) (h1 : RdS w B1 2 enI2 A1 xs) (h2 : RdS w B2 3 enI3 A2 ms) (hB1 : B1 ≤ w.heap.size) (hB2 : B2 ≤ w.heap.size) :
    Calls Tryd.prog 25 #[.slice A1 xs.length c1, .slice A2 ms.length c2] w fun e w' => e = .returned (.bool (okRL xs ms)) ∧ Below w.heap.size w w' := by
  have hn := h1.len
  have hm := h2.len
  by_cases g1 : 2 ≤ xs.length ∧ xs.length ≤ 8
  · obtain ⟨g1, g2⟩ := g1
    by_cases g3 : ms.length ≤ 60
    · have hok : okRL xs ms = (xs.all (fun x => okR x.1 x.2) && ms.all (okM xs.length)) := by simp [okRL, g1, g2, g3]
      have HOK := Lib.hid hok; clear hok
      generalize hnn : xs.length = n at *
      generalize hmm : ms.length = m at *
      have H := Lib.hid hnn; clear hnn
      have M := Lib.hid hmm; clear hmm
      go_enter Tryd.func25, Tryd.ntmps25
      go_wp2
      go_loopw [23] (fun i wr => ∃ k : Nat, k ≤ n ∧ i = .int .i64 k ∧ Below w.heap.size w wr ∧ Hid ((xs.take k).all (fun x => okR x.1 x.2) = true)) (fun i _ => n - (intOf i).toNat)
      case atStart => exact ⟨0, Nat.zero_le _, rfl, Below.refl _ _, by simp [Hid]⟩
      case round =>
        obtain ⟨k, hk, rfl, hbe, hall⟩ := hrel
        by_cases hlt : k < n
        · obtain ⟨b, off, p, q, rfl, hb, hx, k0, k1⟩ := rdI2_at h1 (by rw [H.out]; exact hlt)
          have hz := hbe.size
          have d0 := (hbe.cell (p := ⟨b, off + k * 2, none⟩) (by show b < _; omega)).trans k0
          have d1 := (hbe.cell (p := ⟨b, off + k * 2 + 1, none⟩) (by show b < _; omega)).trans k1
          have HX := Lib.hid hx
          clear k0 k1 hx hb
          cases hr : okR p q
          · have HF := Lib.hid (all_no (fun x : Int × Int => okR x.1 x.2) xs k (p, q) HX.out hr)
            have C := fun w0 => isR_impl p q w0
            rw [hr] at C
            have C := Lib.hid C
            clear hr
            go_wp2_with (go_at_call 26; refine (C.out _).mono ?_; rintro e w2 ⟨rfl, hb2⟩; have t2 : Below w.heap.size w w2 := hbe.trans (Below.then_ (by go_grown) hb2 (by go_size)))
            go_ret
            exact ⟨retb (by rw [HOK.out, HF.out]; rfl), t2⟩
          · have HT := Lib.hid (all_snoc (fun x : Int × Int => okR x.1 x.2) xs k (p, q) HX.out hall.out hr)
            have C := fun w0 => isR_impl p q w0
            rw [hr] at C
            have C := Lib.hid C
            clear hr
            go_wp2_with (go_at_call 26; refine (C.out _).mono ?_; rintro e w2 ⟨rfl, hb2⟩; have t2 : Below w.heap.size w w2 := hbe.trans (Below.then_ (by go_grown) hb2 (by go_size)))
            go_roundw
            case rel => exact ⟨k + 1, by omega, by go_num, t2, HT⟩
            case measure => simp [intOf]; omega
        · obtain rfl : k = n := by omega
          have HA : Hid (xs.all (fun x => okR x.1 x.2) = true) := by
            have := hall.out
            rw [List.take_of_length_le (by rw [H.out]; exact Nat.le_refl _)] at this
            exact this
          clear hall
          have hzz := hbe.size
          go_wp2
          go_loopw [33] (fun i wx => ∃ j : Nat, j ≤ m ∧ i = .int .i64 j ∧ Below w.heap.size w wx ∧ Hid ((ms.take j).all (okM k) = true)) (fun i _ => m - (intOf i).toNat)
          case atStart => exact ⟨0, Nat.zero_le _, rfl, hbe, by simp [Hid]⟩
          case round =>
            obtain ⟨j, hj, rfl, hbx, hall⟩ := hrel
            by_cases hlt : j < m
            · obtain ⟨b, off, p, q, r, rfl, hb, hx, k0, k1, k2⟩ := rdI3_at h2 (by rw [M.out]; exact hlt)
              have hz := hbx.size
              have d0 := (hbx.cell (p := ⟨b, off + j * 3, none⟩) (by show b < _; omega)).trans k0
              have d1 := (hbx.cell (p := ⟨b, off + j * 3 + 1, none⟩) (by show b < _; omega)).trans k1
              have d2 := (hbx.cell (p := ⟨b, off + j * 3 + 2, none⟩) (by show b < _; omega)).trans k2
              have HX := Lib.hid hx
              have hbw : b < wr.heap.size := by omega
              clear k0 k1 k2 hx hb
              by_cases m1 : 0 ≤ p
              · by_cases m2 : p ≤ (k : Int) - 1
                · by_cases m3 : 0 ≤ q
                  · by_cases m4 : q ≤ (k : Int) - 1
                    · by_cases m5 : p ≠ q
                      · by_cases m6 : 1 ≤ r
                        · by_cases m7 : r ≤ 25
                          · have HT := Lib.hid (all_snoc (okM k) ms j (p, q, r) HX.out hall.out (by simp [okM]; omega))
                            have he : (p == q) = false := by simpa using m5
                            clear m5
                            go_wp2
                            go_roundw
                            case rel => exact ⟨j + 1, by omega, by go_num, by go_grown, HT⟩
                            case measure => simp [intOf]; omega
                          · have HF := Lib.hid (all_no (okM k) ms j (p, q, r) HX.out (by simp [okM]; omega))
                            have hd : decide (r ≤ 25) = false := decide_eq_false m7
                            replace m7 := Int.not_le.1 m7
                            have he : (p == q) = false := by simpa using m5
                            clear m5
                            go_wp2
                            all_goals go_ret
                            all_goals exact ⟨retb (by rw [HOK.out, HA.out, HF.out]; rfl), by go_grown⟩
                        · have HF := Lib.hid (all_no (okM k) ms j (p, q, r) HX.out (by simp [okM]; omega))
                          have hd : decide (1 ≤ r) = false := decide_eq_false m6
                          replace m6 := Int.not_le.1 m6
                          have he : (p == q) = false := by simpa using m5
                          clear m5
                          go_wp2
                          all_goals go_ret
                          all_goals exact ⟨retb (by rw [HOK.out, HA.out, HF.out]; rfl), by go_grown⟩
                      · have HF := Lib.hid (all_no (okM k) ms j (p, q, r) HX.out (by simp [okM]; omega))
                        have he : (p == q) = true := by simpa using m5
                        clear m5
                        go_wp2
                        all_goals go_ret
                        all_goals exact ⟨retb (by rw [HOK.out, HA.out, HF.out]; rfl), by go_grown⟩
                    · have HF := Lib.hid (all_no (okM k) ms j (p, q, r) HX.out (by simp [okM]; omega))
                      have hd : decide (q ≤ (k : Int) - 1) = false := decide_eq_false m4
                      replace m4 := Int.not_le.1 m4
                      go_wp2
                      all_goals go_ret
                      all_goals exact ⟨retb (by rw [HOK.out, HA.out, HF.out]; rfl), by go_grown⟩
                  · have HF := Lib.hid (all_no (okM k) ms j (p, q, r) HX.out (by simp [okM]; omega))
                    have hd : decide (0 ≤ q) = false := decide_eq_false m3
                    replace m3 := Int.not_le.1 m3
                    go_wp2
                    all_goals go_ret
                    all_goals exact ⟨retb (by rw [HOK.out, HA.out, HF.out]; rfl), by go_grown⟩
                · have HF := Lib.hid (all_no (okM k) ms j (p, q, r) HX.out (by simp [okM]; omega))
                  have hd : decide (p ≤ (k : Int) - 1) = false := decide_eq_false m2
                  replace m2 := Int.not_le.1 m2
                  go_wp2
                  all_goals go_ret
                  all_goals exact ⟨retb (by rw [HOK.out, HA.out, HF.out]; rfl), by go_grown⟩
              · have HF := Lib.hid (all_no (okM k) ms j (p, q, r) HX.out (by simp [okM]; omega))
                have hd : decide (0 ≤ p) = false := decide_eq_false m1
                replace m1 := Int.not_le.1 m1
                go_wp2
                all_goals go_ret
                all_goals exact ⟨retb (by rw [HOK.out, HA.out, HF.out]; rfl), by go_grown⟩
            · obtain rfl : j = m := by omega
              have HB : Hid (ms.all (okM k) = true) := by
                have := hall.out
                rw [List.take_of_length_le (by rw [M.out]; exact Nat.le_refl _)] at this
                exact this
              clear hall
              go_wp2
              go_ret
              exact ⟨retb (by rw [HOK.out, HA.out, HB.out]; rfl), hbx⟩
    · have hok : okRL xs ms = false := by simp [okRL, g3]
      have HOK := Lib.hid hok; clear hok
      replace g3 := Nat.not_le.1 g3
      have hdd : decide ((60 : Int) < (ms.length : Int)) = true := decide_eq_true (by omega)
      go_enter Tryd.func25, Tryd.ntmps25
      go_wp2
      all_goals go_ret
      all_goals exact ⟨retb (by rw [HOK.out]), by go_grown⟩
  · have hok : okRL xs ms = false := by
      unfold okRL; rw [decide_eq_false (by omega)]; rfl
    have HOK := Lib.hid hok; clear hok
    have g1' : (xs.length : Int) < 2 ∨ (8 : Int) < (xs.length : Int) := by omega
    clear g1
    rcases g1' with g1 | g1
    · have hd : decide (2 ≤ (xs.length : Int)) = false := decide_eq_false (by omega)
      have hd1 : decide (1 ≤ (xs.length : Int) - 1) = false := decide_eq_false (by omega)
      go_enter Tryd.func25, Tryd.ntmps25
      go_wp2
      all_goals go_ret
      all_goals exact ⟨retb (by rw [HOK.out]), by go_grown⟩
    · have hd : decide ((xs.length : Int) ≤ 8) = false := decide_eq_false (by omega)
      have hd1 : decide ((xs.length : Int) - 1 ≤ 7) = false := decide_eq_false (by omega)
      go_enter Tryd.func25, Tryd.ntmps25
      go_wp2
      all_goals go_ret
      all_goals exact ⟨retb (by rw [HOK.out]), by go_grown⟩

end Go.Proofs.YtjmckpaemmjcmaaDoor.RatList
