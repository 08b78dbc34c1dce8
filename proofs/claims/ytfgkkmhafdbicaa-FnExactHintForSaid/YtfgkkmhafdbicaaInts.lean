/-
  The contracts of the helper functions of the laws over slices of int64: size, copy, comparison, marks. Conditions: each theorem's own.
-/
import Derived.Test.YtfgkkmhafdbicaaRows
import Derived.WalkKit
import Derived.ProofKit
import Derived.OpenShut
import Derived.Outline
import Derived.WalkLawsBesides
import Derived.Handy
import Derived.Deep.QuietTactic
import Derived.BigQuiet
import Derived.Deep.RegionHeld3
import Derived.Lib.Hide
import Derived.Test.YtfgkkmhafdbicaaBase
namespace Go.Proofs.Ytfgkkmhafdbicaa.Ints
open Go.ChangeShapes Go.WideShapes Go.ChangeAt Go.RowKit Base

theorem info : (Try.prog.info? 2).map (fun i => (i.zero, i.size, i.bytes)) = some (some (.int .i64 0), 1, 8) := by kernel_rfl

theorem szI (A : Option Addr) (n c : Nat) (left : Int) (w : World) (hn : n ≤ maxLen) (h0 : 0 ≤ left) (h1 : left ≤ 1048576) :
    Calls Try.prog 21 #[.slice A n c, .int .i64 left] w fun e w' => e = .returned (.int .i64 (if left < n then -1 else left - n)) ∧ w = w' := by
  unfold maxLen at hn
  by_cases h : left < n
  · rw [if_pos h]
    go_enter Try.func21, Try.ntmps21
    go_wp2
    go_ret
    exact ⟨rfl, rfl⟩
  · rw [if_neg h]
    go_enter Try.func21, Try.ntmps21
    go_wp2
    go_ret
    exact ⟨rfl, rfl⟩

theorem toI (B : Nat) (A : Option Addr) (c : Nat) (xs : List Int) (w : World) (hB : B ≤ w.heap.size) (hn : xs.length ≤ 1048576) (hr : RdS w B 1 enI A xs) :
    Calls Try.prog 24 #[.slice A xs.length c] w fun e w' => e = .returned (.slice (some ⟨w.heap.size, 0, none⟩) xs.length xs.length) ∧ Below w.heap.size w w' ∧ OwnS w' w.heap.size w'.heap.size 2 1 enI (.slice (some ⟨w.heap.size, 0, none⟩) xs.length xs.length) xs := by
  obtain ⟨i0, hi, hz0, hz1, hz2⟩ := info_parts info
  generalize hnn : xs.length = n at *
  have H := Lib.hid hnn; clear hnn
  go_enter Try.func24, Try.ntmps24
  go_wp2_with (at_make; refine wpList_make_full _ rfl _ _ _ rfl w.heap.size 2 i0 (.int .i64 0) 1 Try.underlying24 hi hz0 hz1 _ _ _ _ n rfl rfl rfl rfl ?c1 ?c2 (Nat.le_refl _) ?_)
  case c1 => rw [hz2]; omega
  case c2 => unfold maxLen; omega
  intro w1 hown hgrow
  have hrow := Lib.hid (RowB.of_own hown)
  have hbel : Below w.heap.size w w1 := (Below.refl _ _).grown hgrow (Nat.le_refl _) (by simp)
  have hsz : w.heap.size < w1.heap.size := hrow.out.lt
  clear hown hgrow
  go_wp2
  go_loopw [4] (fun i wr => ∃ k : Nat, k ≤ n ∧ i = .int .i64 k ∧ Below w.heap.size w wr ∧ Hid (RowB wr w.heap.size 2 ((xs.take k).flatMap enI ++ List.replicate (n - k) (.int .i64 0)))) (fun i _ => n - (intOf i).toNat)
  case atStart => exact ⟨0, Nat.zero_le _, rfl, hbel, by simpa [made_rep] using hrow⟩
  case round =>
    obtain ⟨k, hk, rfl, hbe, hR⟩ := hrel
    clear hbel hrow hsz
    by_cases hlt : k < n
    · obtain ⟨b, off, x, rfl, hb, hx, hc⟩ := rdI_at hr (by rw [H.out]; exact hlt)
      have c1 := (hbe.cell (p := ⟨b, off + k, none⟩) (by show b < _; omega)).trans hc
      obtain ⟨z, hz⟩ : ∃ z, wr.cell? ⟨w.heap.size, k, none⟩ = some z := by
        rw [hR.out.cell]
        refine ⟨_, List.getElem?_eq_getElem ?_⟩
        rw [List.length_append, flatMap_len enI_len, List.length_take, List.length_replicate, H.out]; omega
      have hfz := hR.out.frozen k
      have hx := Lib.hid hx
      clear hc
      go_wp2
      go_roundw
      case rel =>
        refine ⟨k + 1, by omega, by go_num, hbe.setCell (by exact Nat.le_refl _) _, ?_⟩
        have := hR.out.set k (.int .i64 x)
        obtain ⟨m, hm⟩ : ∃ m, n - k = m + 1 := ⟨n - k - 1, by omega⟩
        rw [hm, fill1 hx.out rfl enI_len] at this
        rw [show n - (k + 1) = m from by omega]
        exact this
      case measure => simp [intOf]; omega
    · obtain rfl : k = n := by omega
      have hR' := hR.out
      clear hR
      rw [← H.out] at hR'
      simp at hR'
      have hR := Lib.hid hR'; clear hR'
      go_wp2
      go_ret
      refine ⟨rfl, hbe, ?_⟩
      rw [← H.out]
      exact hR.out.own enI_len (Nat.le_refl _) hR.out.lt (by rw [H.out]; unfold maxLen; omega)

/-- Two slices that read alike are equal. -/
theorem eqI (B1 B2 : Nat) (A1 A2 : Option Addr) (c1 c2 : Nat) (xs : List Int) (w : World) (h1 : RdS w B1 1 enI A1 xs) (h2 : RdS w B2 1 enI A2 xs) :
    Calls Try.prog 29 #[.slice A1 xs.length c1, .slice A2 xs.length c2] w fun e w' => e = .returned (.bool true) ∧ ∃ m, w' = w.drewN m := by
  have hn := h1.len
  generalize hnn : xs.length = n at *
  have H := Lib.hid hnn; clear hnn
  go_enter Try.func29, Try.ntmps29
  go_wp2
  go_loopw [5] (fun i wr => ∃ k : Nat, k ≤ n ∧ i = .int .i64 k ∧ Hid (∃ m, wr = w.drewN m)) (fun i _ => n - (intOf i).toNat)
  case atStart => exact ⟨0, Nat.zero_le _, rfl, 0, rfl⟩
  case round =>
    obtain ⟨k, hk, rfl, hm⟩ := hrel
    by_cases hlt : k < n
    · obtain ⟨b, off, x, rfl, hb, hx, hc⟩ := rdI_at h1 (by rw [H.out]; exact hlt)
      obtain ⟨b', off', x', rfl, hb', hx', hc'⟩ := rdI_at h2 (by rw [H.out]; exact hlt)
      rw [hx] at hx'
      obtain rfl : x = x' := by simpa using hx'
      have d1 : wr.cell? ⟨b, off + k, none⟩ = some (.int .i64 x) := by obtain ⟨m, rfl⟩ := hm.out; exact hc
      have d2 : wr.cell? ⟨b', off' + k, none⟩ = some (.int .i64 x) := by obtain ⟨m, rfl⟩ := hm.out; exact hc'
      have e1 : (x != x) = false := by simp
      clear hx hx' hc hc'
      go_wp2
      go_quiet (fail)
      go_wp2
      go_roundw
      case rel => exact ⟨k + 1, by omega, by go_num, by obtain ⟨m, rfl⟩ := hm.out; exact ⟨_, World.drewN_drewN _ _ _⟩⟩
      case measure => simp [intOf]; omega
    · go_wp2
      go_ret
      exact ⟨rfl, hm.out⟩

theorem markI (lo hi : Nat) (v : Value) (k : Nat) (xs : List Int) (w : World) (hn : xs.length ≤ 1048576) (hk : k ≤ 16777216) (h : OwnS w lo hi 2 1 enI v xs) :
    Calls Try.prog 44 #[v, .int .i64 k] w fun e w' => e = .returned (.int .i64 ((k + xs.length : Nat) : Int)) ∧ w.grownBy w' v.ownBlock ∧ OwnS w' lo hi 2 1 enI v (marks k xs.length) := by
  rcases h.cases_ with ⟨rfl, rfl⟩ | ⟨g, cap, rest, rfl, hlo, hhi, hR0, hnc, hcm, hl⟩
  · go_enter Try.func44, Try.ntmps44
    go_wp2
    go_rounds 1
    go_ret
    exact ⟨rfl, grownBy_refl _ _, OwnS.nil_ _ _ _ _ _ _⟩
  · generalize hnn : xs.length = n at *
    have H := Lib.hid hnn; clear hnn
    have HL := Lib.hid hl; clear hl
    have hR0 := Lib.hid hR0
    unfold maxLen at hcm
    go_enter Try.func44, Try.ntmps44
    go_wp2
    go_loopw [1, 5] (fun q i wr => ∃ j : Nat, j ≤ n ∧ i = .int .i64 j ∧ q = .int .i64 ((k : Int) + (j : Int)) ∧ w.grownBy wr (some g) ∧ Hid (RowB wr g 2 ((marks k j ++ xs.drop j).flatMap enI ++ rest))) (fun _ i _ => n - (intOf i).toNat)
    case atStart => exact ⟨0, Nat.zero_le _, rfl, by go_num, grownBy_refl _ _, by simpa [marks] using hR0⟩
    case round =>
      obtain ⟨j, hj, rfl, rfl, hgr, hR⟩ := hrel
      clear hR0
      by_cases hlt : j < n
      · obtain ⟨z, hz⟩ : ∃ z, wr.cell? ⟨g, j, none⟩ = some z := by
          rw [hR.out.cell]
          refine ⟨_, List.getElem?_eq_getElem ?_⟩
          rw [List.length_append, flatMap_len enI_len, List.length_append, marks_len, List.length_drop, H.out]; omega
        have hfz := hR.out.frozen j
        go_wp2
        go_roundw
        case rel =>
          refine ⟨j + 1, by omega, by go_num, by go_num, grownBy_trans hgr (grownBy_setCell _ _ _ _), ?_⟩
          have := hR.out.set j (.int .i64 ((k : Int) + (j : Int)))
          rw [marks_succ, List.append_assoc]
          rw [List.flatMap_append, List.drop_eq_getElem_cons (by rw [H.out]; exact hlt), List.flatMap_cons] at this
          rw [List.append_assoc] at this
          simp only [enI, List.cons_append, List.nil_append] at this
          rw [set_at _ _ _ _ (by rw [flatMap_len enI_len, marks_len]; omega)] at this
          rw [List.flatMap_append, List.flatMap_append, List.append_assoc, List.append_assoc]
          exact this
        case measure => simp [intOf]; omega
      · obtain rfl : j = n := by omega
        have hR' := hR.out
        clear hR
        rw [List.drop_of_length_le (by rw [H.out]; exact Nat.le_refl _), List.append_nil] at hR'
        have hR := Lib.hid hR'; clear hR'
        go_wp2
        go_ret
        refine ⟨by simp, hgr, ?_⟩
        have hml := marks_len k j
        have := OwnS.mk_ (lo := lo) (hi := hi) (cap := cap) enI_len hR.out hlo hhi (by rw [hml]; omega) (by unfold maxLen; omega) (by rw [hml]; exact HL.out)
        rw [hml] at this
        exact this


theorem eqI_b (B1 B2 : Nat) (A1 A2 : Option Addr) (c1 c2 : Nat) (xs : List Int) (w : World) (h1 : RdS w B1 1 enI A1 xs) (h2 : RdS w B2 1 enI A2 xs) :
    Calls Try.prog 29 #[.slice A1 xs.length c1, .slice A2 xs.length c2] w fun e w' => e = .returned (.bool true) ∧ Below w.heap.size w w' :=
  (eqI B1 B2 A1 A2 c1 c2 xs w h1 h2).mono fun e w' ⟨he, m, hm⟩ => ⟨he, by subst hm; exact below_drewN (Below.refl _ _) _⟩

end Go.Proofs.Ytfgkkmhafdbicaa.Ints
