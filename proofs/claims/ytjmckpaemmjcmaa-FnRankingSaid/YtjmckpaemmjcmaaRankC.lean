/-
  RankRatings of the program: comparing, the closure, the insertion sort. Conditions: each theorem's own.
-/
import Derived.Test.YtjmckpaemmjcmaaRankPlain
import Derived.Test.YtjmckpaemmjcmaaOwn
import Derived.Test.YtjmckpaemmjcmaaInts
import Derived.Test.YtjmckpaemmjcmaaBase2
import Derived.Deep.DeepCutAuto
set_option linter.unusedVariables false
namespace Go.Proofs.Ytjmckpaemmjcmaa.RankC
open Go.ChangeShapes Go.WideShapes Go.ChangeAt Go.RowKit Base Base2 Ints Own RankPlain

def sgn (a b : Int) : Int := if a < b then -1 else if b < a then 1 else 0
def ordv (xs : List (Int × Int)) (i y : Nat) : Int := if sgn (va xs y) (va xs i) = 0 then sgn (ex xs y) (ex xs i) else sgn (va xs y) (va xs i)
theorem ordv_lt (xs : List (Int × Int)) (i y : Nat) : decide (ordv xs i y < 0) = bef xs i y := by
  have h := bef_iff xs i y
  cases hb : bef xs i y
  · rw [hb] at h
    have h : ¬ (va xs y < va xs i ∨ va xs y = va xs i ∧ ex xs y < ex xs i) := fun hh => by have := h.2 hh; cases this
    apply decide_eq_false
    unfold ordv sgn
    split <;> (try split) <;> (try split) <;> omega
  · have h := h.1 hb
    apply decide_eq_true
    unfold ordv sgn
    split <;> (try split) <;> (try split) <;> omega
theorem reti {a b : Int} (h : a = b) : Ending.returned (.int .i64 a) = Ending.returned (.int .i64 b) := by rw [h]

theorem cmpC (a b : Int) (w : World) : Calls Try.prog 49 #[.int .i64 a, .int .i64 b] w fun e w' => e = .returned (.int .i64 (sgn a b)) ∧ w = w' := by
  have e1 : (a != a) = false := by simp
  have e2 : (b != b) = false := by simp
  by_cases h1 : a < b
  · have hv : sgn a b = -1 := by unfold sgn; rw [if_pos h1]
    rw [hv]; clear hv
    go_enter Try.func49, Try.ntmps49
    go_wp2
    go_ret
    exact ⟨rfl, rfl⟩
  · by_cases h2 : b < a
    · have hv : sgn a b = 1 := by unfold sgn; rw [if_neg h1, if_pos h2]
      rw [hv]; clear hv
      go_enter Try.func49, Try.ntmps49
      have hd : decide (a < b) = false := decide_eq_false h1
      go_wp2
      go_ret
      exact ⟨rfl, rfl⟩
    · have hv : sgn a b = 0 := by unfold sgn; rw [if_neg h1, if_neg h2]
      rw [hv]; clear hv
      go_enter Try.func49, Try.ntmps49
      have hd : decide (a < b) = false := decide_eq_false h1
      have hd2 : decide (b < a) = false := decide_eq_false h2
      go_wp2
      go_ret
      exact ⟨rfl, rfl⟩

theorem orI (g : Nat) (p q : Int) (w : World) (hr : RowB w g 3 [.int .i64 p, .int .i64 q]) :
    Calls Try.prog 48 #[.slice (some ⟨g, 0, none⟩) 2 2] w fun e w' => e = .returned (.int .i64 (if p = 0 then q else p)) ∧ w = w' := by
  obtain ⟨c0, c1⟩ := hr.c2
  by_cases hp : p = 0
  · subst hp
    rw [if_pos rfl]
    by_cases hq : q = 0
    · subst hq
      go_enter Try.func48, Try.ntmps48
      go_wp2
      go_rounds 3
      go_ret
      exact ⟨rfl, rfl⟩
    · have e1 : (q != 0) = true := by simp [hq]
      go_enter Try.func48, Try.ntmps48
      go_wp2
      go_rounds 3
      go_ret
      exact ⟨rfl, rfl⟩
  · have e1 : (p != 0) = true := by simp [hp]
    rw [if_neg hp]
    go_enter Try.func48, Try.ntmps48
    go_wp2
    go_rounds 3
    go_ret
    exact ⟨rfl, rfl⟩

theorem orO (g : Nat) (p q o : Int) (w : World) (hr : RowB w g 3 [.int .i64 p, .int .i64 q]) (ho : (if p = 0 then q else p) = o) :
    Calls Try.prog 48 #[.slice (some ⟨g, 0, none⟩) 2 2] w fun e w' => e = .returned (.int .i64 o) ∧ w = w' := by
  subst ho; exact orI g p q w hr

/-- The entry of an index in memory. -/
theorem ent {w : World} {B : Nat} {A : Option Addr} {xs : List (Int × Int)} (h : RdS w B 2 enI2 A xs) {i : Nat} (hi : i < xs.length) :
    ∃ b off, A = some ⟨b, off, none⟩ ∧ b < B ∧ w.cell? ⟨b, off + i * 2, none⟩ = some (.int .i64 (va xs i)) ∧ w.cell? ⟨b, off + i * 2 + 1, none⟩ = some (.int .i64 (ex xs i)) := by
  obtain ⟨b, off, p, q, e, hb, hx, c0, c1⟩ := rdI2_at h hi
  refine ⟨b, off, e, hb, ?_, ?_⟩
  · rw [c0]; unfold va; rw [List.getD_eq_getElem?_getD, hx]; rfl
  · rw [c1]; unfold ex; rw [List.getD_eq_getElem?_getD, hx]; rfl

set_option maxHeartbeats 2000000 in
theorem clo (B : Nat) (A : Option Addr) (n c gb : Nat) (xs : List (Int × Int)) (i y : Nat) (w : World) (hn : n = xs.length) (hi : i < n) (hy : y < n) (hb : RowB w gb 35 [.slice A n c]) (hr : RdS w B 2 enI2 A xs) (hB : B ≤ w.heap.size) :
    Calls Try.prog 47 #[.int .i64 i, .int .i64 y, .pointer (some ⟨gb, 0, none⟩)] w fun e w' => e = .returned (.int .i64 (ordv xs i y)) ∧ Below w.heap.size w w' := by
  have hml := hr.len
  obtain ⟨b, off, rfl, hbB, i0, i1⟩ := ent hr (by rw [← hn]; exact hi)
  obtain ⟨b', off', e1, _, y0, y1⟩ := ent hr (i := y) (by rw [← hn]; exact hy)
  simp only [Option.some.injEq, Addr.mk.injEq, and_true] at e1
  obtain ⟨rfl, rfl⟩ := e1
  have hbw : b < w.heap.size := by omega
  rw [← hn] at hml
  have c0 := hb.c1
  have HO : Hid (ordv xs i y = if sgn (va xs y) (va xs i) = 0 then sgn (ex xs y) (ex xs i) else sgn (va xs y) (va xs i)) := rfl
  clear hn hr
  generalize va xs i = vi at *
  generalize va xs y = vy at *
  generalize ex xs i = xi at *
  generalize ex xs y = xy at *
  generalize ordv xs i y = o at *
  have hlb := hb.lt
  have hi0 : (0 : Int) ≤ (i : Int) := by omega
  have hi1 : (i : Int) < (n : Int) := by omega
  have hy0 : (0 : Int) ≤ (y : Int) := by omega
  have hy1 : (y : Int) < (n : Int) := by omega
  go_enter Try.func47, Try.ntmps47
  have HS : Hid (∀ w' : World, Below w.heap.size w w' → w'.cell? ⟨gb, 0, none⟩ = some (.slice (some ⟨b, off, none⟩) n c) ∧ w'.cell? ⟨b, off + i * 2, none⟩ = some (.int .i64 vi) ∧ w'.cell? ⟨b, off + i * 2 + 1, none⟩ = some (.int .i64 xi) ∧ w'.cell? ⟨b, off + y * 2, none⟩ = some (.int .i64 vy) ∧ w'.cell? ⟨b, off + y * 2 + 1, none⟩ = some (.int .i64 xy)) := fun w' h => ⟨(hb.below h hlb).c1, (h.cell (p := ⟨b, off + i * 2, none⟩) hbw).trans i0, (h.cell (p := ⟨b, off + i * 2 + 1, none⟩) hbw).trans i1, (h.cell (p := ⟨b, off + y * 2, none⟩) hbw).trans y0, (h.cell (p := ⟨b, off + y * 2 + 1, none⟩) hbw).trans y1⟩
  go_upto_region 1 with (fail)
  go_region_held3 (fun w' => w'.cell? ⟨gb, 0, none⟩ = some (.slice (some ⟨b, off, none⟩) n c) ∧ w'.cell? ⟨b, off + i * 2, none⟩ = some (.int .i64 vi) ∧ w'.cell? ⟨b, off + i * 2 + 1, none⟩ = some (.int .i64 xi) ∧ w'.cell? ⟨b, off + y * 2, none⟩ = some (.int .i64 vy) ∧ w'.cell? ⟨b, off + y * 2 + 1, none⟩ = some (.int .i64 xy)) (exact HS.out _ (by go_grown)) (first | (go_at_call 49; refine (cmpC _ _ _).mono ?_; rintro e w2 ⟨rfl, rfl⟩) | (go_at_call 48; refine (orO _ _ _ o _ (by first | exact RowB.new _ _ _ | exact RowB.drew (RowB.new _ _ _)) HO.out.symm).mono ?_; rintro e w2 ⟨rfl, rfl⟩) | fail)
  all_goals go_wp2_with fail
  all_goals go_ret
  all_goals exact ⟨rfl, by go_grown⟩
end Go.Proofs.Ytjmckpaemmjcmaa.RankC
