/-
  The contracts of the laws' helper functions over []Rating. Conditions: each theorem's own.
-/
import Derived.Test.YtjmckpaemmjcmaaDoorBase2
import Derived.Test.YtjmckpaemmjcmaaDoorRows
import Derived.WalkKit
import Derived.ProofKit
import Derived.OpenShut
import Derived.Outline
import Derived.WalkLawsBesides
import Derived.Handy
import Derived.Deep.QuietTactic
import Derived.BigQuiet
import Derived.Deep.RegionHeld3
import Derived.Lib.Hide
set_option linter.unusedVariables false
namespace Go.Proofs.YtjmckpaemmjcmaaDoor.RtS
open Go.ChangeShapes Go.WideShapes Go.ChangeAt Go.RowKit Base Base2

theorem szS (A : Option Addr) (n c : Nat) (left : Int) (w : World) (hn : n ≤ maxLen) (h0 : 0 ≤ left) (h1 : left ≤ 1048576) :
    Calls Tryd.prog 27 #[.slice A n c, .int .i64 left] w fun e w' => e = .returned (.int .i64 (if left < n then -1 else left - n)) ∧ w = w' := by
  unfold maxLen at hn
  by_cases h : left < n
  · rw [if_pos h]
    go_enter Tryd.func27, Tryd.ntmps27
    go_wp2
    go_ret
    exact ⟨rfl, rfl⟩
  · rw [if_neg h]
    go_enter Tryd.func27, Tryd.ntmps27
    go_wp2
    go_ret
    exact ⟨rfl, rfl⟩

theorem copy1 (p q : Int) (w : World) :
    Calls Tryd.prog 18 #[.agg #[.int .i64 p, .int .i64 q]] w fun e w' => e = .returned (.agg #[.int .i64 p, .int .i64 q]) ∧ Below w.heap.size w w' := by
  go_enter Tryd.func18, Tryd.ntmps18
  go_wp2
  go_returns
  exact ⟨rfl, by go_grown⟩

theorem infoRating : (Tryd.prog.info? 33).map (fun i => (i.zero, i.size, i.bytes)) = some (some (.agg #[.int .i64 0, .int .i64 0]), 2, 16) := by kernel_rfl
theorem copyS (B : Nat) (A : Option Addr) (c : Nat) (xs : List (Int × Int)) (w : World) (hB : B ≤ w.heap.size) (hn : xs.length ≤ 1048576) (hr : RdS w B 2 enI2 A xs) :
    Calls Tryd.prog 30 #[.slice A xs.length c] w fun e w' => ∃ A', e = .returned (.slice A' xs.length xs.length) ∧ Below w.heap.size w w' ∧ OwnS w' w.heap.size w'.heap.size 33 2 enI2 (.slice A' xs.length xs.length) xs := by
  obtain ⟨i0, hi, hz0, hz1, hz2⟩ := info_parts infoRating
  generalize hnn : xs.length = n at *
  have H := Lib.hid hnn; clear hnn
  go_enter Tryd.func30, Tryd.ntmps30
  go_wp2_with (at_make; refine wpList_make_full _ rfl _ _ _ rfl w.heap.size 33 i0 _ 2 Tryd.underlying41 hi hz0 hz1 _ _ _ _ n rfl rfl rfl rfl ?c1 ?c2 (Nat.le_refl _) ?_)
  case c1 => rw [hz2]; omega
  case c2 => unfold maxLen; omega
  intro w1 hown hgrow
  have hrow := Lib.hid (RowB.of_own hown)
  have hbel : Below w.heap.size w w1 := (Below.refl _ _).grown hgrow (Nat.le_refl _) (by simp)
  have hsz : w.heap.size < w1.heap.size := hrow.out.lt
  clear hown hgrow
  go_wp2
  go_loopw [4] (fun i wr => ∃ k : Nat, k ≤ n ∧ i = .int .i64 k ∧ Below w.heap.size w wr ∧ Hid (RowB wr w.heap.size 33 ((xs.take k).flatMap enI2 ++ List.replicate ((n - k) * 2) (.int .i64 0)))) (fun i _ => n - (intOf i).toNat)
  case atStart => exact ⟨0, Nat.zero_le _, rfl, hbel, by simpa [made_rep2] using hrow⟩
  case round =>
    obtain ⟨k, hk, rfl, hbe, hR⟩ := hrel
    clear hbel hrow hsz
    by_cases hlt : k < n
    · obtain ⟨b, off, p, q, rfl, hb, hx, c0, c1⟩ := rdI2_at hr (by rw [H.out]; exact hlt)
      have hl := hR.out.lt
      have hk0 : b < w.heap.size := by omega
      have d0 := (hbe.cell (p := ⟨b, off + k * 2, none⟩) hk0).trans c0; have d1 := (hbe.cell (p := ⟨b, off + k * 2 + 1, none⟩) hk0).trans c1
      have hx := Lib.hid hx
      clear c0 c1 hb
      go_wp2_with (go_at_call 18; refine (copy1 p q _).mono ?_; rintro e w2 ⟨rfl, hb2⟩; have hR' := Lib.hid (hR.out.below hb2 hl); have hbe2 := hbe.trans (hb2.mono hbe.size); have hf2 := hR'.out.frozen; have hl2 := hR'.out.lt; have hlen : k * 2 + 2 ≤ ((xs.take k).flatMap enI2 ++ List.replicate ((n - k) * 2) (Value.int .i64 0)).length := (by rw [List.length_append, flatMap_len enI2_len, List.length_take, List.length_replicate, H.out]; omega); obtain ⟨z3, hz3⟩ : ∃ z, w2.cell? ⟨w.heap.size, k * 2, none⟩ = some z := ⟨_, (hR'.out.cell _).trans (List.getElem?_eq_getElem (by omega))⟩; obtain ⟨z4, hz4⟩ : ∃ z, w2.cell? ⟨w.heap.size, k * 2 + 1, none⟩ = some z := ⟨_, (hR'.out.cell _).trans (List.getElem?_eq_getElem (by omega))⟩; clear hlen)
      go_roundw
      case rel =>
        refine ⟨k + 1, by omega, by go_num, by go_grown, ?_⟩
        have hfin := ((hR'.out.set (k * 2) (.int .i64 p)).set (k * 2 + 1) (.int .i64 q))
        obtain ⟨mm, hm⟩ : ∃ mm, n - k = mm + 1 := ⟨n - k - 1, by omega⟩
        rw [hm, fill2 hx.out] at hfin
        rw [show n - (k + 1) = mm from by omega]
        exact hfin
      case measure => simp [intOf]; omega
    · obtain rfl : k = n := by omega
      have hR' := hR.out
      clear hR
      rw [← H.out] at hR'
      simp at hR'
      have hR := Lib.hid hR'; clear hR'
      go_wp2
      go_ret
      refine ⟨_, rfl, hbe, ?_⟩
      rw [← H.out]
      exact hR.out.own enI2_len (Nat.le_refl _) hR.out.lt (by rw [H.out]; unfold maxLen; omega)

theorem eq1 (p q : Int) (w : World) :
    Calls Tryd.prog 20 #[.agg #[.int .i64 p, .int .i64 q], .agg #[.int .i64 p, .int .i64 q]] w fun e w' => e = .returned (.bool true) ∧ Below w.heap.size w w' := by
  have e_p : (p != p) = false := by simp
  have e_q : (q != q) = false := by simp
  go_enter Tryd.func20, Tryd.ntmps20
  go_wp2
  go_ret
  exact ⟨rfl, by go_grown⟩

theorem eqS (B1 B2 : Nat) (A1 A2 : Option Addr) (c1 c2 : Nat) (xs : List (Int × Int)) (w : World) (h1 : RdS w B1 2 enI2 A1 xs) (h2 : RdS w B2 2 enI2 A2 xs) (hB1 : B1 ≤ w.heap.size) (hB2 : B2 ≤ w.heap.size) :
    Calls Tryd.prog 32 #[.slice A1 xs.length c1, .slice A2 xs.length c2] w fun e w' => e = .returned (.bool true) ∧ Below w.heap.size w w' := by
  have hn := h1.len
  generalize hnn : xs.length = n at *
  have H := Lib.hid hnn; clear hnn
  go_enter Tryd.func32, Tryd.ntmps32
  go_wp2
  go_loopw [5] (fun i wr => ∃ k : Nat, k ≤ n ∧ i = .int .i64 k ∧ Below w.heap.size w wr) (fun i _ => n - (intOf i).toNat)
  case atStart => exact ⟨0, Nat.zero_le _, rfl, Below.refl _ _⟩
  case round =>
    obtain ⟨k, hk, rfl, hbe⟩ := hrel
    by_cases hlt : k < n
    · obtain ⟨b, off, p, q, rfl, hb, hx, k0, k1⟩ := rdI2_at h1 (by rw [H.out]; exact hlt)
      obtain ⟨b', off', p', q', rfl, hb', hx', k2, k3⟩ := rdI2_at h2 (by rw [H.out]; exact hlt)
      rw [hx] at hx'
      simp only [Option.some.injEq, Prod.mk.injEq] at hx'
      obtain ⟨rfl, rfl⟩ := hx'
      have hz := hbe.size
      have hk0 : b < wr.heap.size := by omega
      have hk1 : b' < wr.heap.size := by omega
      have d0 := (hbe.cell (p := ⟨b, off + k * 2, none⟩) (by show b < _; omega)).trans k0; have d1 := (hbe.cell (p := ⟨b, off + k * 2 + 1, none⟩) (by show b < _; omega)).trans k1
      have d2 := (hbe.cell (p := ⟨b', off' + k * 2, none⟩) (by show b' < _; omega)).trans k2; have d3 := (hbe.cell (p := ⟨b', off' + k * 2 + 1, none⟩) (by show b' < _; omega)).trans k3
      clear k0 k1 k2 k3 hx hb hb'
      go_wp2
      go_region_held3 (fun w' => w'.cell? ⟨b, off + k * 2, none⟩ = some (.int .i64 p) ∧ w'.cell? ⟨b, off + k * 2 + 1, none⟩ = some (.int .i64 q) ∧ w'.cell? ⟨b', off' + k * 2, none⟩ = some (.int .i64 p) ∧ w'.cell? ⟨b', off' + k * 2 + 1, none⟩ = some (.int .i64 q)) ((first | exact ⟨d0, d1, d2, d3⟩ | exact ⟨(t2.cell (by first | exact hk0 | exact hk1)).trans d0, (t2.cell (by first | exact hk0 | exact hk1)).trans d1, (t2.cell (by first | exact hk0 | exact hk1)).trans d2, (t2.cell (by first | exact hk0 | exact hk1)).trans d3⟩)) (first | (go_at_call 20; refine (eq1 p q _).mono ?_; rintro e w2 ⟨rfl, hb2⟩; have t2 : Below wr.heap.size wr w2 := Below.then_ (by go_grown) hb2 (by go_size)))
      go_wp2
      go_roundw
      case rel => exact ⟨k + 1, by omega, by go_num, hbe.trans (t2.mono hz)⟩
      case measure => simp [intOf]; omega
    · go_wp2
      go_ret
      exact ⟨rfl, hbe⟩

/-- The elements that bear the marks k, k + 1, .. -/
def markL (k n : Nat) : List (Int × Int) := (List.range n).map fun i => (((k + i * 2 : Nat) : Int), ((k + i * 2 + 1 : Nat) : Int))
theorem markL_len (k n : Nat) : (markL k n).length = n := by simp [markL]
theorem markL_at (k n i : Nat) (h : i < n) : (markL k n)[i]? = some (((k + i * 2 : Nat) : Int), ((k + i * 2 + 1 : Nat) : Int)) := by simp [markL, h]
theorem markL_succ (k n : Nat) : markL k (n + 1) = markL k n ++ [(((k + n * 2 : Nat) : Int), ((k + n * 2 + 1 : Nat) : Int))] := by simp [markL, List.range_succ]

theorem markS (lo hi : Nat) (v : Value) (k : Nat) (xs : List (Int × Int)) (w : World) (hn : xs.length ≤ 1048576) (hk : k ≤ 16777216) (h : OwnS w lo hi 33 2 enI2 v xs) :
    Calls Tryd.prog 34 #[v, .int .i64 k] w fun e w' => e = .returned (.int .i64 ((k + xs.length * 2 : Nat) : Int)) ∧ w.grownBy w' v.ownBlock ∧ OwnS w' lo hi 33 2 enI2 v (markL k xs.length) := by
  rcases h.cases_ with ⟨rfl, rfl⟩ | ⟨g, cap, rest, rfl, hlo, hhi, hR0, hnc, hcm, hl⟩
  · go_enter Tryd.func34, Tryd.ntmps34
    go_wp2
    go_rounds 1
    go_ret
    exact ⟨rfl, grownBy_refl _ _, OwnS.nil_ _ _ _ _ _ _⟩
  · generalize hnn : xs.length = n at *
    have H := Lib.hid hnn; clear hnn
    have HL := Lib.hid hl; clear hl
    have hR0 := Lib.hid hR0
    unfold maxLen at hcm
    go_enter Tryd.func34, Tryd.ntmps34
    go_wp2
    go_loopw [1, 5] (fun q i wr => ∃ j : Nat, j ≤ n ∧ i = .int .i64 j ∧ q = .int .i64 ((k : Int) + (j : Int) * 2) ∧ w.grownBy wr (some g) ∧ Hid (RowB wr g 33 ((markL k j ++ xs.drop j).flatMap enI2 ++ rest))) (fun _ i _ => n - (intOf i).toNat)
    case atStart => exact ⟨0, Nat.zero_le _, rfl, by go_num, grownBy_refl _ _, by simpa [markL] using hR0⟩
    case round =>
      obtain ⟨j, hj, rfl, rfl, hgr, hR⟩ := hrel
      clear hR0
      by_cases hlt : j < n
      · have hlen : j * 2 + 2 ≤ ((markL k j ++ xs.drop j).flatMap enI2 ++ rest).length := by
          rw [List.length_append, flatMap_len enI2_len, List.length_append, markL_len, List.length_drop, H.out]; omega
        obtain ⟨z0, hz0⟩ : ∃ z, wr.cell? ⟨g, j * 2, none⟩ = some z := ⟨_, (hR.out.cell _).trans (List.getElem?_eq_getElem (by omega))⟩; obtain ⟨z1, hz1⟩ : ∃ z, wr.cell? ⟨g, j * 2 + 1, none⟩ = some z := ⟨_, (hR.out.cell _).trans (List.getElem?_eq_getElem (by omega))⟩
        clear hlen
        have hfz := hR.out.frozen
        go_wp2
        go_roundw
        case rel =>
          refine ⟨j + 1, by omega, by go_num, by congr 1; omega, ?_, ?_⟩
          · exact grownBy_trans (grownBy_trans hgr (grownBy_setCell _ _ _ _)) (grownBy_setCell _ _ _ _)
          · have := ((hR.out.set (j * 2) (.int .i64 ((k : Int) + (j : Int) * 2))).set (j * 2 + 1) (.int .i64 ((k : Int) + (j : Int) * 2 + 1)))
            have hd : xs.drop j = xs[j]'(by rw [H.out]; exact hlt) :: xs.drop (j + 1) := List.drop_eq_getElem_cons (by rw [H.out]; exact hlt)
            rw [hd] at this
            rw [markL_succ]
            have hm : ((markL k j).flatMap enI2).length = j * 2 := by rw [flatMap_len enI2_len, markL_len]
            have e := mark_fill2 ((markL k j).flatMap enI2) ((xs.drop (j + 1)).flatMap enI2 ++ rest) (xs[j]'(by rw [H.out]; exact hlt)) (((k : Int) + (j : Int) * 2), ((k : Int) + (j : Int) * 2 + 1)) (j * 2) hm
            simp only [List.flatMap_append, List.flatMap_cons, List.flatMap_nil, List.append_nil, List.append_assoc] at this e ⊢
            rw [e] at this
            exact Lib.hid (by simpa [Int.natCast_add, Int.natCast_mul] using this)
        case measure => simp [intOf]; omega
      · obtain rfl : j = n := by omega
        have hR' := hR.out
        clear hR
        rw [List.drop_of_length_le (by rw [H.out]; exact Nat.le_refl _), List.append_nil] at hR'
        have hR := Lib.hid hR'; clear hR'
        go_wp2
        go_ret
        refine ⟨by simp, hgr, ?_⟩
        have hml := markL_len k j
        have := OwnS.mk_ (lo := lo) (hi := hi) (cap := cap) enI2_len hR.out hlo hhi (by rw [hml]; omega) (by unfold maxLen; omega) (by rw [hml]; exact HL.out)
        rw [hml] at this
        exact this

end Go.Proofs.YtjmckpaemmjcmaaDoor.RtS
