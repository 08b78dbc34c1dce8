/-
  hasInt: is a number in a list. Conditions: each theorem's own.
-/
import Derived.Test.YtjmckpaemmjcmaaOwn
import Derived.Test.YtjmckpaemmjcmaaInts
import Derived.Deep.QuietTactic
set_option linter.unusedVariables false
namespace Go.Proofs.Ytjmckpaemmjcmaa.Has
open Go.ChangeShapes Go.WideShapes Go.ChangeAt Go.RowKit Base Ints Own
theorem retb {a b : Bool} (h : a = b) : Ending.returned (.bool a) = Ending.returned (.bool b) := by rw [h]
theorem has_take {xs : List Int} {x y : Int} {k : Nat} (hy : xs[k]? = some y) (h : x ∉ xs.take k) (hne : y ≠ x) : x ∉ xs.take (k + 1) := by
  rw [take_succ xs k y hy, List.mem_append]
  rintro (h1 | h1)
  · exact h h1
  · simp at h1
    exact hne h1.symm
set_option maxHeartbeats 1000000 in
theorem hasI (B : Nat) (A : Option Addr) (c : Nat) (xs : List Int) (x : Int) (w : World) (hr : RdS w B 1 enI A xs) :
    Calls Try.prog 27 #[.slice A xs.length c, .int .i64 x] w fun e w' => e = .returned (.bool (decide (x ∈ xs))) ∧ w = w' := by
  have hn := hr.len
  generalize hnn : xs.length = n at *
  have H := Lib.hid hnn; clear hnn
  go_enter Try.func27, Try.ntmps27
  go_wp2
  go_loop [5] (fun i => ∃ k : Nat, k ≤ n ∧ i = .int .i64 k ∧ Hid (x ∉ xs.take k)) (fun i => n - (intOf i).toNat)
  case atStart => exact ⟨0, Nat.zero_le _, rfl, by simp [Hid]⟩
  case round =>
    obtain ⟨k, hk, rfl, hm⟩ := hrel
    by_cases hlt : k < n
    · obtain ⟨b, off, y, rfl, hb, hx, hc⟩ := rdI_at hr (by rw [H.out]; exact hlt)
      by_cases he : y = x
      · subst he
        have HV := Lib.hid (show decide (y ∈ xs) = true from decide_eq_true (List.mem_of_getElem? hx))
        clear hx
        go_wp2
        go_ret
        exact ⟨retb HV.out.symm, rfl⟩
      · have e1 : (y == x) = false := by simp [he]
        have HM := Lib.hid (has_take hx hm.out he)
        clear hx he
        go_wp2
        go_round
        case rel => exact ⟨k + 1, by omega, by go_num, HM⟩
        case measure => simp [intOf]; omega
    · obtain rfl : k = n := by omega
      have HV : Hid (decide (x ∈ xs) = false) := by
        have := hm.out
        rw [List.take_of_length_le (by rw [H.out]; exact Nat.le_refl _)] at this
        exact decide_eq_false this
      go_wp2
      go_ret
      exact ⟨retb HV.out.symm, rfl⟩

theorem hasB (B : Nat) (A : Option Addr) (n c : Nat) (xs : List Int) (x : Int) (b : Bool) (hb : decide (x ∈ xs) = b) (hn : n = xs.length) (w : World) (hr : RdS w B 1 enI A xs) :
    Calls Try.prog 27 #[.slice A n c, .int .i64 x] w fun e w' => e = .returned (.bool b) ∧ w = w' := by
  subst hb hn; exact hasI B A c xs x w hr

theorem hasQ (B : Nat) (A : Option Addr) (n c : Nat) (xs : List Int) (x : Int) (b : Bool) (hb : decide (x ∈ xs) = b) (hn : n = xs.length) (w : World) (k : Nat) (hr : RdS w B 1 enI A xs) :
    Calls Try.prog 27 #[.slice A n c, .int .i64 x] (w.drewN k) fun e w'' => e = .returned (.bool b) ∧ ∃ m, w'' = w.drewN m :=
  Calls.quiet_of_same ((hasB B A n c xs x b hb hn (w.drewN k) hr).mono fun _ _ h => ⟨h.1, h.2.symm⟩)

theorem rd_take {α : Type} {w : World} {B sz : Nat} {en : α → List Value} {A : Option Addr} {xs : List α} (h : RdS w B sz en A xs) (m : Nat) : RdS w B sz en A (xs.take m) := by
  refine ⟨Nat.le_trans (by rw [List.length_take]; omega) h.1, fun hp => ?_⟩
  obtain ⟨b, off, e, hb, hc⟩ := h.2 (by rw [List.length_take] at hp; omega)
  refine ⟨b, off, e, hb, fun i x hx => hc i x ?_⟩
  rw [List.getElem?_take] at hx
  split at hx
  · exact hx
  · cases hx
theorem own_cap {α : Type} {w : World} {lo hi sz n c : Nat} {e : TypeId} {en : α → List Value} {A : Option Addr} {xs : List α} (h : OwnS w lo hi e sz en (.slice A n c) xs) : n ≤ c := by
  rcases h.cases_ with ⟨h1, h2⟩ | ⟨g, cap, rest, h1, _, _, _, h2, _⟩
  · simp only [Value.slice.injEq] at h1; omega
  · simp only [Value.slice.injEq] at h1; omega
end Go.Proofs.Ytjmckpaemmjcmaa.Has
