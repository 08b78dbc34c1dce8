/-
  The contracts of the helper functions of the laws over slices of bytes: copy, comparison. Conditions: each theorem's own.
-/
import Derived.Test.YtahpdboehpicoaaRows
import Derived.WalkKit
import Derived.ProofKit
import Derived.OpenShut
import Derived.Outline
import Derived.WalkLawsBesides
import Derived.Handy
import Derived.Deep.QuietTactic
import Derived.BigQuiet
import Derived.Deep.RegionHeld3
import Derived.Lib.Hide
import Derived.Test.YtahpdboehpicoaaBase
namespace Go.Proofs.Ytahpdboehpicoaa.Bytes
open Go.ChangeShapes Go.WideShapes Go.ChangeAt Go.RowKit Base

theorem info : (Try.prog.info? 5).map (fun i => (i.zero, i.size, i.bytes)) = some (some (.int .u8 0), 1, 1) := by kernel_rfl

theorem toB (B : Nat) (A : Option Addr) (c : Nat) (xs : List Int) (w : World) (hB : B ≤ w.heap.size) (hn : xs.length ≤ 1048576) (hr : RdS w B 1 enB A xs) :
    Calls Try.prog 11 #[.slice A xs.length c] w fun e w' => e = .returned (.slice (some ⟨w.heap.size, 0, none⟩) xs.length xs.length) ∧ Below w.heap.size w w' ∧ OwnS w' w.heap.size w'.heap.size 5 1 enB (.slice (some ⟨w.heap.size, 0, none⟩) xs.length xs.length) xs := by
  obtain ⟨i0, hi, hz0, hz1, hz2⟩ := info_parts info
  generalize hnn : xs.length = n at *
  have H := Lib.hid hnn; clear hnn
  go_enter Try.func11, Try.ntmps11
  go_wp2_with (at_make; refine wpList_make_full _ rfl _ _ _ rfl w.heap.size 5 i0 (.int .u8 0) 1 Try.underlying24 hi hz0 hz1 _ _ _ _ n rfl rfl rfl rfl ?c1 ?c2 (Nat.le_refl _) ?_)
  case c1 => rw [hz2]; omega
  case c2 => unfold maxLen; omega
  intro w1 hown hgrow
  have hrow := Lib.hid (RowB.of_own hown)
  have hbel : Below w.heap.size w w1 := (Below.refl _ _).grown hgrow (Nat.le_refl _) (by simp)
  have hsz : w.heap.size < w1.heap.size := hrow.out.lt
  clear hown hgrow
  go_wp2
  go_loopw [4] (fun i wr => ∃ k : Nat, k ≤ n ∧ i = .int .i64 k ∧ Below w.heap.size w wr ∧ Hid (RowB wr w.heap.size 5 ((xs.take k).flatMap enB ++ List.replicate (n - k) (.int .u8 0)))) (fun i _ => n - (intOf i).toNat)
  case atStart => exact ⟨0, Nat.zero_le _, rfl, hbel, by simpa [made_rep] using hrow⟩
  case round =>
    obtain ⟨k, hk, rfl, hbe, hR⟩ := hrel
    clear hbel hrow hsz
    by_cases hlt : k < n
    · obtain ⟨b, off, x, rfl, hb, hx, hc⟩ := rdI_at hr (by rw [H.out]; exact hlt)
      have c1 := (hbe.cell (p := ⟨b, off + k, none⟩) (by show b < _; omega)).trans hc
      obtain ⟨z, hz⟩ : ∃ z, wr.cell? ⟨w.heap.size, k, none⟩ = some z := by
        rw [hR.out.cell]
        refine ⟨_, List.getElem?_eq_getElem ?_⟩
        rw [List.length_append, flatMap_len enB_len, List.length_take, List.length_replicate, H.out]; omega
      have hfz := hR.out.frozen k
      have hx := Lib.hid hx
      clear hc
      go_wp2
      go_roundw
      case rel =>
        refine ⟨k + 1, by omega, by go_num, hbe.setCell (by exact Nat.le_refl _) _, ?_⟩
        have := hR.out.set k (.int .u8 x)
        obtain ⟨m, hm⟩ : ∃ m, n - k = m + 1 := ⟨n - k - 1, by omega⟩
        rw [hm, fill1 hx.out rfl enB_len] at this
        rw [show n - (k + 1) = m from by omega]
        exact this
      case measure => simp [intOf]; omega
    · obtain rfl : k = n := by omega
      have hR' := hR.out
      clear hR
      rw [← H.out] at hR'
      simp at hR'
      have hR := Lib.hid hR'; clear hR'
      go_wp2
      go_ret
      refine ⟨rfl, hbe, ?_⟩
      rw [← H.out]
      exact hR.out.own enB_len (Nat.le_refl _) hR.out.lt (by rw [H.out]; unfold maxLen; omega)

/-- Two slices that read alike are equal. -/
theorem eqB (B1 B2 : Nat) (A1 A2 : Option Addr) (c1 c2 : Nat) (xs : List Int) (w : World) (h1 : RdS w B1 1 enB A1 xs) (h2 : RdS w B2 1 enB A2 xs) :
    Calls Try.prog 13 #[.slice A1 xs.length c1, .slice A2 xs.length c2] w fun e w' => e = .returned (.bool true) ∧ ∃ m, w' = w.drewN m := by
  have hn := h1.len
  generalize hnn : xs.length = n at *
  have H := Lib.hid hnn; clear hnn
  go_enter Try.func13, Try.ntmps13
  go_wp2
  go_loopw [5] (fun i wr => ∃ k : Nat, k ≤ n ∧ i = .int .i64 k ∧ Hid (∃ m, wr = w.drewN m)) (fun i _ => n - (intOf i).toNat)
  case atStart => exact ⟨0, Nat.zero_le _, rfl, 0, rfl⟩
  case round =>
    obtain ⟨k, hk, rfl, hm⟩ := hrel
    by_cases hlt : k < n
    · obtain ⟨b, off, x, rfl, hb, hx, hc⟩ := rdI_at h1 (by rw [H.out]; exact hlt)
      obtain ⟨b', off', x', rfl, hb', hx', hc'⟩ := rdI_at h2 (by rw [H.out]; exact hlt)
      rw [hx] at hx'
      obtain rfl : x = x' := by simpa using hx'
      have d1 : wr.cell? ⟨b, off + k, none⟩ = some (.int .u8 x) := by obtain ⟨m, rfl⟩ := hm.out; exact hc
      have d2 : wr.cell? ⟨b', off' + k, none⟩ = some (.int .u8 x) := by obtain ⟨m, rfl⟩ := hm.out; exact hc'
      have e1 : (x != x) = false := by simp
      clear hx hx' hc hc'
      go_wp2
      go_quiet (fail)
      go_wp2
      go_roundw
      case rel => exact ⟨k + 1, by omega, by go_num, by obtain ⟨m, rfl⟩ := hm.out; exact ⟨_, World.drewN_drewN _ _ _⟩⟩
      case measure => simp [intOf]; omega
    · go_wp2
      go_ret
      exact ⟨rfl, hm.out⟩

theorem eqB_b (B1 B2 : Nat) (A1 A2 : Option Addr) (c1 c2 : Nat) (xs : List Int) (w : World) (h1 : RdS w B1 1 enB A1 xs) (h2 : RdS w B2 1 enB A2 xs) :
    Calls Try.prog 13 #[.slice A1 xs.length c1, .slice A2 xs.length c2] w fun e w' => e = .returned (.bool true) ∧ Below w.heap.size w w' :=
  (eqB B1 B2 A1 A2 c1 c2 xs w h1 h2).mono fun e w' ⟨he, m, hm⟩ => ⟨he, by subst hm; exact below_drewN (Below.refl _ _) _⟩

end Go.Proofs.Ytahpdboehpicoaa.Bytes
