/-
  The helpers of the laws over []Step: eqStep, eqStepS, markStepS, heldStepS. Conditions: each theorem's own.
-/
import Derived.Test.YtlfdcefgelpgmaaGreatDoorEnS
import Derived.Test.YtlfdcefgelpgmaaGreatDoorBase2
import Derived.BigQuiet
set_option linter.unusedVariables false
set_option linter.unusedSimpArgs false
namespace Go.Proofs.YtlfdcefgelpgmaaGreatDoor.Bd36
open Go.ChangeShapes Go.WideShapes Go.ChangeAt Go.RowKit Base Base2 Ints PlP Bd5

theorem rdSt_at {w : World} {B : Nat} {A : Option Addr} {xs : List Stp} (h : RdS w B 4 enSt A xs) {i : Nat} (hi : i < xs.length) :
    ∃ b off p q r s, A = some ⟨b, off, none⟩ ∧ b < B ∧ xs[i]? = some (p, q, r, s) ∧ w.cell? ⟨b, off + i * 4, none⟩ = some (.int .i64 p) ∧ w.cell? ⟨b, off + i * 4 + 1, none⟩ = some (.int .i64 q) ∧ w.cell? ⟨b, off + i * 4 + 2, none⟩ = some (.int .i64 r) ∧ w.cell? ⟨b, off + i * 4 + 3, none⟩ = some (.bool s) := by
  obtain ⟨b, off, ⟨p, q, r, s⟩, e, hb, hx, hc⟩ := h.at_ hi
  exact ⟨b, off, p, q, r, s, e, hb, hx, hc 0 _ rfl, hc 1 _ rfl, hc 2 _ rfl, hc 3 _ rfl⟩
theorem mark_fillS (P R : List Value) (x y : Stp) (i : Nat) (h : P.length = i) :
    (((((P ++ (enSt x ++ R)).set (i) (Value.int .i64 y.1)).set (i + 1) (Value.int .i64 y.2.1)).set (i + 2) (Value.int .i64 y.2.2.1)).set (i + 3) (Value.bool y.2.2.2)) = P ++ (enSt y ++ R) := by
  subst h
  simp [enSt]
def mB (x : Int) : Bool := x % 3 == 0
/-- The steps that bear the marks k, k + 1, .. -/
def mkS (k i : Nat) : Stp := ((k : Int) + (i : Int) * 4, (k : Int) + (i : Int) * 4 + 1, (k : Int) + (i : Int) * 4 + 1 + 1, mB ((k : Int) + (i : Int) * 4 + 1 + 1 + 1))
def markL (k n : Nat) : List Stp := (List.range n).map (mkS k)
theorem markL_len (k n : Nat) : (markL k n).length = n := by simp [markL]
theorem markL_at (k n i : Nat) (h : i < n) : (markL k n)[i]? = some ((k : Int) + (i : Int) * 4, (k : Int) + (i : Int) * 4 + 1, (k : Int) + (i : Int) * 4 + 1 + 1, mB ((k : Int) + (i : Int) * 4 + 1 + 1 + 1)) := by simp [markL, h, mkS]
theorem markL_succ (k n : Nat) : markL k (n + 1) = markL k n ++ [((k : Int) + (n : Int) * 4, (k : Int) + (n : Int) * 4 + 1, (k : Int) + (n : Int) * 4 + 1 + 1, mB ((k : Int) + (n : Int) * 4 + 1 + 1 + 1))] := by simp [markL, List.range_succ, mkS]

set_option maxHeartbeats 1000000 in
theorem eq1 (p q r : Int) (s : Bool) (w : World) :
    Calls Tryz.prog 57 #[.agg #[.int .i64 p, .int .i64 q, .int .i64 r, .bool s], .agg #[.int .i64 p, .int .i64 q, .int .i64 r, .bool s]] w fun e w' => e = .returned (.bool true) ∧ Below w.heap.size w w' := by
  have e_p : (p != p) = false := by simp
  have e_q : (q != q) = false := by simp
  have e_r : (r != r) = false := by simp
  have e_s : (s != s) = false := by simp
  go_enter Tryz.func57, Tryz.ntmps57
  go_wp2
  go_ret
  exact ⟨rfl, by go_grown⟩


set_option maxHeartbeats 1000000 in
theorem eqS (B1 B2 : Nat) (A1 A2 : Option Addr) (c1 c2 : Nat) (xs : List Stp) (w : World) (h1 : RdS w B1 4 enSt A1 xs) (h2 : RdS w B2 4 enSt A2 xs) (hB1 : B1 ≤ w.heap.size) (hB2 : B2 ≤ w.heap.size) :
    Calls Tryz.prog 31 #[.slice A1 xs.length c1, .slice A2 xs.length c2] w fun e w' => e = .returned (.bool true) ∧ Below w.heap.size w w' := by
  have hn := h1.len
  generalize hnn : xs.length = n at *
  have H := Lib.hid hnn; clear hnn
  go_enter Tryz.func31, Tryz.ntmps31
  go_wp2
  go_loopw [5] (fun i wr => ∃ k : Nat, k ≤ n ∧ i = .int .i64 k ∧ Below w.heap.size w wr) (fun i _ => n - (intOf i).toNat)
  case atStart => exact ⟨0, Nat.zero_le _, rfl, Below.refl _ _⟩
  case round =>
    obtain ⟨k, hk, rfl, hbe⟩ := hrel
    by_cases hlt : k < n
    · obtain ⟨b, off, p, q, r, s, rfl, hb, hx, k0, k1, k2, k3⟩ := rdSt_at h1 (by rw [H.out]; exact hlt)
      obtain ⟨b', off', p', q', r', s', rfl, hb', hx', k4, k5, k6, k7⟩ := rdSt_at h2 (by rw [H.out]; exact hlt)
      rw [hx] at hx'
      simp only [Option.some.injEq, Prod.mk.injEq] at hx'
      obtain ⟨rfl, rfl, rfl, rfl⟩ := hx'
      have hz := hbe.size
      have hk0 : b < wr.heap.size := by omega
      have hk1 : b' < wr.heap.size := by omega
      have d0 := (hbe.cell (p := ⟨b, off + k * 4, none⟩) (by show b < _; omega)).trans k0; have d1 := (hbe.cell (p := ⟨b, off + k * 4 + 1, none⟩) (by show b < _; omega)).trans k1; have d2 := (hbe.cell (p := ⟨b, off + k * 4 + 2, none⟩) (by show b < _; omega)).trans k2; have d3 := (hbe.cell (p := ⟨b, off + k * 4 + 3, none⟩) (by show b < _; omega)).trans k3
      have d4 := (hbe.cell (p := ⟨b', off' + k * 4, none⟩) (by show b' < _; omega)).trans k4; have d5 := (hbe.cell (p := ⟨b', off' + k * 4 + 1, none⟩) (by show b' < _; omega)).trans k5; have d6 := (hbe.cell (p := ⟨b', off' + k * 4 + 2, none⟩) (by show b' < _; omega)).trans k6; have d7 := (hbe.cell (p := ⟨b', off' + k * 4 + 3, none⟩) (by show b' < _; omega)).trans k7
      clear k0 k1 k2 k3 k4 k5 k6 k7 hx hb hb'
      go_wp2
      go_region_held3 (fun w' => w'.cell? ⟨b, off + k * 4, none⟩ = some (.int .i64 p) ∧ w'.cell? ⟨b, off + k * 4 + 1, none⟩ = some (.int .i64 q) ∧ w'.cell? ⟨b, off + k * 4 + 2, none⟩ = some (.int .i64 r) ∧ w'.cell? ⟨b, off + k * 4 + 3, none⟩ = some (.bool s) ∧ w'.cell? ⟨b', off' + k * 4, none⟩ = some (.int .i64 p) ∧ w'.cell? ⟨b', off' + k * 4 + 1, none⟩ = some (.int .i64 q) ∧ w'.cell? ⟨b', off' + k * 4 + 2, none⟩ = some (.int .i64 r) ∧ w'.cell? ⟨b', off' + k * 4 + 3, none⟩ = some (.bool s)) ((first | exact ⟨d0, d1, d2, d3, d4, d5, d6, d7⟩ | exact ⟨(t2.cell (by first | exact hk0 | exact hk1)).trans d0, (t2.cell (by first | exact hk0 | exact hk1)).trans d1, (t2.cell (by first | exact hk0 | exact hk1)).trans d2, (t2.cell (by first | exact hk0 | exact hk1)).trans d3, (t2.cell (by first | exact hk0 | exact hk1)).trans d4, (t2.cell (by first | exact hk0 | exact hk1)).trans d5, (t2.cell (by first | exact hk0 | exact hk1)).trans d6, (t2.cell (by first | exact hk0 | exact hk1)).trans d7⟩)) (first | (go_at_call 57; refine (eq1 p q r s _).mono ?_; rintro e w2 ⟨rfl, hb2⟩; have t2 : Below wr.heap.size wr w2 := Below.then_ (by go_grown) hb2 (by go_size)))
      go_wp2
      go_roundw
      case rel => exact ⟨k + 1, by omega, by go_num, hbe.trans (t2.mono hz)⟩
      case measure => simp [intOf]; omega
    · go_wp2
      go_ret
      exact ⟨rfl, hbe⟩


set_option maxHeartbeats 1000000 in
theorem markS (lo hi : Nat) (v : Value) (k : Nat) (xs : List Stp) (w : World) (hn : xs.length ≤ 1048576) (hk : k ≤ 16777216) (h : OwnS w lo hi 91 4 enSt v xs) :
    Calls Tryz.prog 32 #[v, .int .i64 k] w fun e w' => e = .returned (.int .i64 ((k + xs.length * 4 : Nat) : Int)) ∧ w.grownBy w' v.ownBlock ∧ OwnS w' lo hi 91 4 enSt v (markL k xs.length) := by
  rcases h.cases_ with ⟨rfl, rfl⟩ | ⟨g, cap, rest, rfl, hlo, hhi, hR0, hnc, hcm, hl⟩
  · go_enter Tryz.func32, Tryz.ntmps32
    go_wp2
    go_rounds 1
    go_ret
    exact ⟨rfl, grownBy_refl _ _, OwnS.nil_ _ _ _ _ _ _⟩
  · generalize hnn : xs.length = n at *
    have H := Lib.hid hnn; clear hnn
    have HL := Lib.hid hl; clear hl
    have hR0 := Lib.hid hR0
    unfold maxLen at hcm
    go_enter Tryz.func32, Tryz.ntmps32
    go_wp2
    go_loopw [1, 5] (fun q i wr => ∃ j : Nat, j ≤ n ∧ i = .int .i64 j ∧ q = .int .i64 ((k : Int) + (j : Int) * 4) ∧ w.grownBy wr (some g) ∧ Hid (RowB wr g 91 ((markL k j ++ xs.drop j).flatMap enSt ++ rest))) (fun _ i _ => n - (intOf i).toNat)
    case atStart => exact ⟨0, Nat.zero_le _, rfl, by go_num, grownBy_refl _ _, by simpa [markL] using hR0⟩
    case round =>
      obtain ⟨j, hj, rfl, rfl, hgr, hR⟩ := hrel
      clear hR0
      by_cases hlt : j < n
      · have hlen : j * 4 + 4 ≤ ((markL k j ++ xs.drop j).flatMap enSt ++ rest).length := by
          rw [List.length_append, flatMap_len enSt_len, List.length_append, markL_len, List.length_drop, H.out]; omega
        obtain ⟨z0, hz0⟩ : ∃ z, wr.cell? ⟨g, j * 4, none⟩ = some z := ⟨_, (hR.out.cell _).trans (List.getElem?_eq_getElem (by omega))⟩; obtain ⟨z1, hz1⟩ : ∃ z, wr.cell? ⟨g, j * 4 + 1, none⟩ = some z := ⟨_, (hR.out.cell _).trans (List.getElem?_eq_getElem (by omega))⟩; obtain ⟨z2, hz2⟩ : ∃ z, wr.cell? ⟨g, j * 4 + 1 + 1, none⟩ = some z := ⟨_, (hR.out.cell _).trans (List.getElem?_eq_getElem (by omega))⟩; obtain ⟨z3, hz3⟩ : ∃ z, wr.cell? ⟨g, j * 4 + 3, none⟩ = some z := ⟨_, (hR.out.cell _).trans (List.getElem?_eq_getElem (by omega))⟩
        clear hlen
        have hfz := hR.out.frozen
        go_wp2
        go_roundw
        case rel =>
          refine ⟨j + 1, by omega, by go_num, by congr 1; omega, ?_, ?_⟩
          · exact grownBy_trans (grownBy_trans (grownBy_trans (grownBy_trans hgr (grownBy_setCell _ _ _ _)) (grownBy_setCell _ _ _ _)) (grownBy_setCell _ _ _ _)) (grownBy_setCell _ _ _ _)
          · have := ((((hR.out.set (j * 4) (.int .i64 ((k : Int) + (j : Int) * 4))).set (j * 4 + 1) (.int .i64 ((k : Int) + (j : Int) * 4 + 1))).set (j * 4 + 1 + 1) (.int .i64 ((k : Int) + (j : Int) * 4 + 1 + 1))).set (j * 4 + 1 + 1 + 1) (.bool (mB ((k : Int) + (j : Int) * 4 + 1 + 1 + 1))))
            have hd : xs.drop j = xs[j]'(by rw [H.out]; exact hlt) :: xs.drop (j + 1) := List.drop_eq_getElem_cons (by rw [H.out]; exact hlt)
            rw [hd] at this
            rw [markL_succ]
            have hm : ((markL k j).flatMap enSt).length = j * 4 := by rw [flatMap_len enSt_len, markL_len]
            have e := mark_fillS ((markL k j).flatMap enSt) ((xs.drop (j + 1)).flatMap enSt ++ rest) (xs[j]'(by rw [H.out]; exact hlt)) (((k : Int) + (j : Int) * 4), ((k : Int) + (j : Int) * 4 + 1), ((k : Int) + (j : Int) * 4 + 1 + 1), mB ((k : Int) + (j : Int) * 4 + 1 + 1 + 1)) (j * 4) hm
            simp only [List.flatMap_append, List.flatMap_cons, List.flatMap_nil, List.append_nil, List.append_assoc] at this e ⊢
            rw [e] at this
            obtain ⟨B3, hB3⟩ : ∃ b, mB ((k : Int) + (j : Int) * 4 + 1 + 1 + 1) = b := ⟨_, rfl⟩
            rw [hB3] at this ⊢
            unfold mB at hB3
            rw [hB3]
            exact Lib.hid (by simpa [Int.natCast_add, Int.natCast_mul, Int.add_assoc] using this)
        case measure => simp [intOf]; omega
      · obtain rfl : j = n := by omega
        have hR' := hR.out
        clear hR
        rw [List.drop_of_length_le (by rw [H.out]; exact Nat.le_refl _), List.append_nil] at hR'
        have hR := Lib.hid hR'; clear hR'
        go_wp2
        go_ret
        refine ⟨by simp, hgr, ?_⟩
        have hml := markL_len k j
        have := OwnS.mk_ (lo := lo) (hi := hi) (cap := cap) enSt_len hR.out hlo hhi (by rw [hml]; omega) (by unfold maxLen; omega) (by rw [hml]; exact HL.out)
        rw [hml] at this
        exact this


set_option maxHeartbeats 1000000 in
theorem heldS (B : Nat) (A : Option Addr) (c k n : Nat) (w : World) (hn : n ≤ 1048576) (hk : k ≤ 16777216) (h : RdS w B 4 enSt A (markL k n)) :
    Calls Tryz.prog 33 #[.slice A n c, .int .i64 k] w fun e w' => e = .returned (.int .i64 ((k + n * 4 : Nat) : Int)) ∧ w = w' := by
  go_enter Tryz.func33, Tryz.ntmps33
  go_wp2
  go_loop [1, 5] (fun q i => ∃ j : Nat, j ≤ n ∧ i = .int .i64 j ∧ q = .int .i64 ((k : Int) + (j : Int) * 4)) (fun _ i => n - (intOf i).toNat)
  case atStart => exact ⟨0, Nat.zero_le _, rfl, by go_num⟩
  case round =>
    obtain ⟨j, hj, rfl, rfl⟩ := hrel
    by_cases hlt : j < n
    · obtain ⟨b, off, x, y, z, t, rfl, hb, hx, c0, c1, c2, c3⟩ := rdSt_at h (by rw [markL_len]; exact hlt)
      rw [markL_at k n j hlt] at hx
      simp only [Option.some.injEq, Prod.mk.injEq] at hx
      obtain ⟨rfl, rfl, rfl, rfl⟩ := hx
      have e0 : (((k : Int) + (j : Int) * 4) != ((k : Int) + (j : Int) * 4)) = false := by simp
      have e1 : (((k : Int) + (j : Int) * 4 + 1) != ((k : Int) + (j : Int) * 4 + 1)) = false := by simp
      have e2 : (((k : Int) + (j : Int) * 4 + 1 + 1) != ((k : Int) + (j : Int) * 4 + 1 + 1)) = false := by simp
      unfold mB at c3
      obtain ⟨B3, hB3⟩ : ∃ b, (((k : Int) + (j : Int) * 4 + 1 + 1 + 1) % 3 == 0) = b := ⟨_, rfl⟩
      rw [hB3] at c3
      have e3 : (B3 != B3) = false := by simp
      go_wp2
      go_round
      case rel => exact ⟨j + 1, by omega, by go_num, by congr 1; omega⟩
      case measure => simp [intOf]; omega
    · obtain rfl : j = n := by omega
      go_wp2
      go_ret
      exact ⟨by simp, rfl⟩
end Go.Proofs.YtlfdcefgelpgmaaGreatDoor.Bd36
