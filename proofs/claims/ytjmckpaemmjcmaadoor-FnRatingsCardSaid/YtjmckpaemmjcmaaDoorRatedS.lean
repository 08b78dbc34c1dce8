/-
  The contracts of the laws' helper functions over []RatedMatch. Conditions: each theorem's own.
-/
import Derived.Test.YtjmckpaemmjcmaaDoorBase2
import Derived.Test.YtjmckpaemmjcmaaDoorRows
import Derived.WalkKit
import Derived.ProofKit
import Derived.OpenShut
import Derived.Outline
import Derived.WalkLawsBesides
import Derived.Handy
import Derived.Deep.QuietTactic
import Derived.BigQuiet
import Derived.Deep.RegionHeld3
import Derived.Lib.Hide
set_option linter.unusedVariables false
namespace Go.Proofs.YtjmckpaemmjcmaaDoor.RmS
open Go.ChangeShapes Go.WideShapes Go.ChangeAt Go.RowKit Base Base2

theorem szS (A : Option Addr) (n c : Nat) (left : Int) (w : World) (hn : n ≤ maxLen) (h0 : 0 ≤ left) (h1 : left ≤ 1048576) :
    Calls Tryd.prog 28 #[.slice A n c, .int .i64 left] w fun e w' => e = .returned (.int .i64 (if left < n then -1 else left - n)) ∧ w = w' := by
  unfold maxLen at hn
  by_cases h : left < n
  · rw [if_pos h]
    go_enter Tryd.func28, Tryd.ntmps28
    go_wp2
    go_ret
    exact ⟨rfl, rfl⟩
  · rw [if_neg h]
    go_enter Tryd.func28, Tryd.ntmps28
    go_wp2
    go_ret
    exact ⟨rfl, rfl⟩

theorem copy1 (p q r : Int) (w : World) :
    Calls Tryd.prog 54 #[.agg #[.int .i64 p, .int .i64 q, .int .i64 r]] w fun e w' => e = .returned (.agg #[.int .i64 p, .int .i64 q, .int .i64 r]) ∧ Below w.heap.size w w' := by
  go_enter Tryd.func54, Tryd.ntmps54
  go_wp2
  go_returns
  exact ⟨rfl, by go_grown⟩

theorem infoRatedMatch : (Tryd.prog.info? 49).map (fun i => (i.zero, i.size, i.bytes)) = some (some (.agg #[.int .i64 0, .int .i64 0, .int .i64 0]), 3, 24) := by kernel_rfl
theorem copyS (B : Nat) (A : Option Addr) (c : Nat) (xs : List (Int × Int × Int)) (w : World) (hB : B ≤ w.heap.size) (hn : xs.length ≤ 1048576) (hr : RdS w B 3 enI3 A xs) :
    Calls Tryd.prog 31 #[.slice A xs.length c] w fun e w' => ∃ A', e = .returned (.slice A' xs.length xs.length) ∧ Below w.heap.size w w' ∧ OwnS w' w.heap.size w'.heap.size 49 3 enI3 (.slice A' xs.length xs.length) xs := by
  obtain ⟨i0, hi, hz0, hz1, hz2⟩ := info_parts infoRatedMatch
  generalize hnn : xs.length = n at *
  have H := Lib.hid hnn; clear hnn
  go_enter Tryd.func31, Tryd.ntmps31
  go_wp2_with (at_make; refine wpList_make_full _ rfl _ _ _ rfl w.heap.size 49 i0 _ 3 Tryd.underlying42 hi hz0 hz1 _ _ _ _ n rfl rfl rfl rfl ?c1 ?c2 (Nat.le_refl _) ?_)
  case c1 => rw [hz2]; omega
  case c2 => unfold maxLen; omega
  intro w1 hown hgrow
  have hrow := Lib.hid (RowB.of_own hown)
  have hbel : Below w.heap.size w w1 := (Below.refl _ _).grown hgrow (Nat.le_refl _) (by simp)
  have hsz : w.heap.size < w1.heap.size := hrow.out.lt
  clear hown hgrow
  go_wp2
  go_loopw [4] (fun i wr => ∃ k : Nat, k ≤ n ∧ i = .int .i64 k ∧ Below w.heap.size w wr ∧ Hid (RowB wr w.heap.size 49 ((xs.take k).flatMap enI3 ++ List.replicate ((n - k) * 3) (.int .i64 0)))) (fun i _ => n - (intOf i).toNat)
  case atStart => exact ⟨0, Nat.zero_le _, rfl, hbel, by simpa [made_rep3] using hrow⟩
  case round =>
    obtain ⟨k, hk, rfl, hbe, hR⟩ := hrel
    clear hbel hrow hsz
    by_cases hlt : k < n
    · obtain ⟨b, off, p, q, r, rfl, hb, hx, c0, c1, c2⟩ := rdI3_at hr (by rw [H.out]; exact hlt)
      have hl := hR.out.lt
      have hk0 : b < w.heap.size := by omega
      have d0 := (hbe.cell (p := ⟨b, off + k * 3, none⟩) hk0).trans c0; have d1 := (hbe.cell (p := ⟨b, off + k * 3 + 1, none⟩) hk0).trans c1; have d2 := (hbe.cell (p := ⟨b, off + k * 3 + 2, none⟩) hk0).trans c2
      have hx := Lib.hid hx
      clear c0 c1 c2 hb
      go_wp2_with (go_at_call 54; refine (copy1 p q r _).mono ?_; rintro e w2 ⟨rfl, hb2⟩; have hR' := Lib.hid (hR.out.below hb2 hl); have hbe2 := hbe.trans (hb2.mono hbe.size); have hf2 := hR'.out.frozen; have hl2 := hR'.out.lt; have hlen : k * 3 + 3 ≤ ((xs.take k).flatMap enI3 ++ List.replicate ((n - k) * 3) (Value.int .i64 0)).length := (by rw [List.length_append, flatMap_len enI3_len, List.length_take, List.length_replicate, H.out]; omega); obtain ⟨z3, hz3⟩ : ∃ z, w2.cell? ⟨w.heap.size, k * 3, none⟩ = some z := ⟨_, (hR'.out.cell _).trans (List.getElem?_eq_getElem (by omega))⟩; obtain ⟨z4, hz4⟩ : ∃ z, w2.cell? ⟨w.heap.size, k * 3 + 1, none⟩ = some z := ⟨_, (hR'.out.cell _).trans (List.getElem?_eq_getElem (by omega))⟩; obtain ⟨z5, hz5⟩ : ∃ z, w2.cell? ⟨w.heap.size, k * 3 + 2, none⟩ = some z := ⟨_, (hR'.out.cell _).trans (List.getElem?_eq_getElem (by omega))⟩; clear hlen)
      go_roundw
      case rel =>
        refine ⟨k + 1, by omega, by go_num, by go_grown, ?_⟩
        have hfin := (((hR'.out.set (k * 3) (.int .i64 p)).set (k * 3 + 1) (.int .i64 q)).set (k * 3 + 2) (.int .i64 r))
        obtain ⟨mm, hm⟩ : ∃ mm, n - k = mm + 1 := ⟨n - k - 1, by omega⟩
        rw [hm, fill3 hx.out] at hfin
        rw [show n - (k + 1) = mm from by omega]
        exact hfin
      case measure => simp [intOf]; omega
    · obtain rfl : k = n := by omega
      have hR' := hR.out
      clear hR
      rw [← H.out] at hR'
      simp at hR'
      have hR := Lib.hid hR'; clear hR'
      go_wp2
      go_ret
      refine ⟨_, rfl, hbe, ?_⟩
      rw [← H.out]
      exact hR.out.own enI3_len (Nat.le_refl _) hR.out.lt (by rw [H.out]; unfold maxLen; omega)

theorem eq1 (p q r : Int) (w : World) :
    Calls Tryd.prog 55 #[.agg #[.int .i64 p, .int .i64 q, .int .i64 r], .agg #[.int .i64 p, .int .i64 q, .int .i64 r]] w fun e w' => e = .returned (.bool true) ∧ Below w.heap.size w w' := by
  have e_p : (p != p) = false := by simp
  have e_q : (q != q) = false := by simp
  have e_r : (r != r) = false := by simp
  go_enter Tryd.func55, Tryd.ntmps55
  go_wp2
  go_ret
  exact ⟨rfl, by go_grown⟩

theorem eqS (B1 B2 : Nat) (A1 A2 : Option Addr) (c1 c2 : Nat) (xs : List (Int × Int × Int)) (w : World) (h1 : RdS w B1 3 enI3 A1 xs) (h2 : RdS w B2 3 enI3 A2 xs) (hB1 : B1 ≤ w.heap.size) (hB2 : B2 ≤ w.heap.size) :
    Calls Tryd.prog 33 #[.slice A1 xs.length c1, .slice A2 xs.length c2] w fun e w' => e = .returned (.bool true) ∧ Below w.heap.size w w' := by
  have hn := h1.len
  generalize hnn : xs.length = n at *
  have H := Lib.hid hnn; clear hnn
  go_enter Tryd.func33, Tryd.ntmps33
  go_wp2
  go_loopw [5] (fun i wr => ∃ k : Nat, k ≤ n ∧ i = .int .i64 k ∧ Below w.heap.size w wr) (fun i _ => n - (intOf i).toNat)
  case atStart => exact ⟨0, Nat.zero_le _, rfl, Below.refl _ _⟩
  case round =>
    obtain ⟨k, hk, rfl, hbe⟩ := hrel
    by_cases hlt : k < n
    · obtain ⟨b, off, p, q, r, rfl, hb, hx, k0, k1, k2⟩ := rdI3_at h1 (by rw [H.out]; exact hlt)
      obtain ⟨b', off', p', q', r', rfl, hb', hx', k3, k4, k5⟩ := rdI3_at h2 (by rw [H.out]; exact hlt)
      rw [hx] at hx'
      simp only [Option.some.injEq, Prod.mk.injEq] at hx'
      obtain ⟨rfl, rfl, rfl⟩ := hx'
      have hz := hbe.size
      have hk0 : b < wr.heap.size := by omega
      have hk1 : b' < wr.heap.size := by omega
      have d0 := (hbe.cell (p := ⟨b, off + k * 3, none⟩) (by show b < _; omega)).trans k0; have d1 := (hbe.cell (p := ⟨b, off + k * 3 + 1, none⟩) (by show b < _; omega)).trans k1; have d2 := (hbe.cell (p := ⟨b, off + k * 3 + 2, none⟩) (by show b < _; omega)).trans k2
      have d3 := (hbe.cell (p := ⟨b', off' + k * 3, none⟩) (by show b' < _; omega)).trans k3; have d4 := (hbe.cell (p := ⟨b', off' + k * 3 + 1, none⟩) (by show b' < _; omega)).trans k4; have d5 := (hbe.cell (p := ⟨b', off' + k * 3 + 2, none⟩) (by show b' < _; omega)).trans k5
      clear k0 k1 k2 k3 k4 k5 hx hb hb'
      go_wp2
      go_region_held3 (fun w' => w'.cell? ⟨b, off + k * 3, none⟩ = some (.int .i64 p) ∧ w'.cell? ⟨b, off + k * 3 + 1, none⟩ = some (.int .i64 q) ∧ w'.cell? ⟨b, off + k * 3 + 2, none⟩ = some (.int .i64 r) ∧ w'.cell? ⟨b', off' + k * 3, none⟩ = some (.int .i64 p) ∧ w'.cell? ⟨b', off' + k * 3 + 1, none⟩ = some (.int .i64 q) ∧ w'.cell? ⟨b', off' + k * 3 + 2, none⟩ = some (.int .i64 r)) ((first | exact ⟨d0, d1, d2, d3, d4, d5⟩ | exact ⟨(t2.cell (by first | exact hk0 | exact hk1)).trans d0, (t2.cell (by first | exact hk0 | exact hk1)).trans d1, (t2.cell (by first | exact hk0 | exact hk1)).trans d2, (t2.cell (by first | exact hk0 | exact hk1)).trans d3, (t2.cell (by first | exact hk0 | exact hk1)).trans d4, (t2.cell (by first | exact hk0 | exact hk1)).trans d5⟩)) (first | (go_at_call 55; refine (eq1 p q r _).mono ?_; rintro e w2 ⟨rfl, hb2⟩; have t2 : Below wr.heap.size wr w2 := Below.then_ (by go_grown) hb2 (by go_size)))
      go_wp2
      go_roundw
      case rel => exact ⟨k + 1, by omega, by go_num, hbe.trans (t2.mono hz)⟩
      case measure => simp [intOf]; omega
    · go_wp2
      go_ret
      exact ⟨rfl, hbe⟩

/-- The elements that bear the marks k, k + 1, .. -/
def markL (k n : Nat) : List (Int × Int × Int) := (List.range n).map fun i => (((k + i * 3 : Nat) : Int), ((k + i * 3 + 1 : Nat) : Int), ((k + i * 3 + 2 : Nat) : Int))
theorem markL_len (k n : Nat) : (markL k n).length = n := by simp [markL]
theorem markL_at (k n i : Nat) (h : i < n) : (markL k n)[i]? = some (((k + i * 3 : Nat) : Int), ((k + i * 3 + 1 : Nat) : Int), ((k + i * 3 + 2 : Nat) : Int)) := by simp [markL, h]
theorem markL_succ (k n : Nat) : markL k (n + 1) = markL k n ++ [(((k + n * 3 : Nat) : Int), ((k + n * 3 + 1 : Nat) : Int), ((k + n * 3 + 2 : Nat) : Int))] := by simp [markL, List.range_succ]

theorem markS (lo hi : Nat) (v : Value) (k : Nat) (xs : List (Int × Int × Int)) (w : World) (hn : xs.length ≤ 1048576) (hk : k ≤ 16777216) (h : OwnS w lo hi 49 3 enI3 v xs) :
    Calls Tryd.prog 35 #[v, .int .i64 k] w fun e w' => e = .returned (.int .i64 ((k + xs.length * 3 : Nat) : Int)) ∧ w.grownBy w' v.ownBlock ∧ OwnS w' lo hi 49 3 enI3 v (markL k xs.length) := by
  rcases h.cases_ with ⟨rfl, rfl⟩ | ⟨g, cap, rest, rfl, hlo, hhi, hR0, hnc, hcm, hl⟩
  · go_enter Tryd.func35, Tryd.ntmps35
    go_wp2
    go_rounds 1
    go_ret
    exact ⟨rfl, grownBy_refl _ _, OwnS.nil_ _ _ _ _ _ _⟩
  · generalize hnn : xs.length = n at *
    have H := Lib.hid hnn; clear hnn
    have HL := Lib.hid hl; clear hl
    have hR0 := Lib.hid hR0
    unfold maxLen at hcm
    go_enter Tryd.func35, Tryd.ntmps35
    go_wp2
    go_loopw [1, 5] (fun q i wr => ∃ j : Nat, j ≤ n ∧ i = .int .i64 j ∧ q = .int .i64 ((k : Int) + (j : Int) * 3) ∧ w.grownBy wr (some g) ∧ Hid (RowB wr g 49 ((markL k j ++ xs.drop j).flatMap enI3 ++ rest))) (fun _ i _ => n - (intOf i).toNat)
    case atStart => exact ⟨0, Nat.zero_le _, rfl, by go_num, grownBy_refl _ _, by simpa [markL] using hR0⟩
    case round =>
      obtain ⟨j, hj, rfl, rfl, hgr, hR⟩ := hrel
      clear hR0
      by_cases hlt : j < n
      · have hlen : j * 3 + 3 ≤ ((markL k j ++ xs.drop j).flatMap enI3 ++ rest).length := by
          rw [List.length_append, flatMap_len enI3_len, List.length_append, markL_len, List.length_drop, H.out]; omega
        obtain ⟨z0, hz0⟩ : ∃ z, wr.cell? ⟨g, j * 3, none⟩ = some z := ⟨_, (hR.out.cell _).trans (List.getElem?_eq_getElem (by omega))⟩; obtain ⟨z1, hz1⟩ : ∃ z, wr.cell? ⟨g, j * 3 + 1, none⟩ = some z := ⟨_, (hR.out.cell _).trans (List.getElem?_eq_getElem (by omega))⟩; obtain ⟨z2, hz2⟩ : ∃ z, wr.cell? ⟨g, j * 3 + 2, none⟩ = some z := ⟨_, (hR.out.cell _).trans (List.getElem?_eq_getElem (by omega))⟩
        clear hlen
        have hfz := hR.out.frozen
        go_wp2
        go_roundw
        case rel =>
          refine ⟨j + 1, by omega, by go_num, by congr 1; omega, ?_, ?_⟩
          · exact grownBy_trans (grownBy_trans (grownBy_trans hgr (grownBy_setCell _ _ _ _)) (grownBy_setCell _ _ _ _)) (grownBy_setCell _ _ _ _)
          · have := (((hR.out.set (j * 3) (.int .i64 ((k : Int) + (j : Int) * 3))).set (j * 3 + 1) (.int .i64 ((k : Int) + (j : Int) * 3 + 1))).set (j * 3 + 2) (.int .i64 ((k : Int) + (j : Int) * 3 + 2)))
            have hd : xs.drop j = xs[j]'(by rw [H.out]; exact hlt) :: xs.drop (j + 1) := List.drop_eq_getElem_cons (by rw [H.out]; exact hlt)
            rw [hd] at this
            rw [markL_succ]
            have hm : ((markL k j).flatMap enI3).length = j * 3 := by rw [flatMap_len enI3_len, markL_len]
            have e := mark_fill3 ((markL k j).flatMap enI3) ((xs.drop (j + 1)).flatMap enI3 ++ rest) (xs[j]'(by rw [H.out]; exact hlt)) (((k : Int) + (j : Int) * 3), ((k : Int) + (j : Int) * 3 + 1), ((k : Int) + (j : Int) * 3 + 2)) (j * 3) hm
            simp only [List.flatMap_append, List.flatMap_cons, List.flatMap_nil, List.append_nil, List.append_assoc] at this e ⊢
            rw [e] at this
            exact Lib.hid (by simpa [Int.natCast_add, Int.natCast_mul, Int.add_assoc] using this)
        case measure => simp [intOf]; omega
      · obtain rfl : j = n := by omega
        have hR' := hR.out
        clear hR
        rw [List.drop_of_length_le (by rw [H.out]; exact Nat.le_refl _), List.append_nil] at hR'
        have hR := Lib.hid hR'; clear hR'
        go_wp2
        go_ret
        refine ⟨by simp, hgr, ?_⟩
        have hml := markL_len k j
        have := OwnS.mk_ (lo := lo) (hi := hi) (cap := cap) enI3_len hR.out hlo hhi (by rw [hml]; omega) (by unfold maxLen; omega) (by rw [hml]; exact HL.out)
        rw [hml] at this
        exact this

end Go.Proofs.YtjmckpaemmjcmaaDoor.RmS
