/-
  slices.Clone and its twins on []int64: a copy of the call's own. Conditions: each theorem's own.
-/
import Derived.Test.YtlfdcefgelpgmaaGreatDoorOwn
import Derived.Test.YtlfdcefgelpgmaaGreatDoorInts
import Derived.Laws.AppendOwnNone
set_option linter.unusedVariables false
namespace Go.Proofs.YtlfdcefgelpgmaaGreatDoor.Clone
open Go.ChangeShapes Go.WideShapes Go.ChangeAt Go.RowKit Base Ints Own

theorem news_rd {w : World} {B : Nat} {ad : Addr} {xs : List Int} (h : RdS w B 1 enI (some ad) xs) : ∀ j u, (xs.flatMap enI)[j]? = some u → w.cell? (ad.add j) = some u := by
  intro j u hu
  have hj : j < (xs.flatMap enI).length := (List.getElem?_eq_some_iff.1 hu).1
  rw [flatMap_len enI_len, Nat.mul_one] at hj
  obtain ⟨b, off, he, _, hc⟩ := h.2 (by omega)
  simp only [Option.some.injEq] at he
  subst he
  have hx : xs[j]? = some xs[j] := List.getElem?_eq_getElem hj
  have h1 := flatMap_at enI_len xs j _ hx 0 _ rfl
  rw [Nat.mul_one, Nat.add_zero, hu] at h1
  have h2 := hc j _ hx 0 _ rfl
  rw [← h1, Nat.mul_one, Nat.add_zero] at h2
  have hadd : (⟨b, off, none⟩ : Addr).add j = ⟨b, off + j, none⟩ := by unfold Addr.add; split <;> simp_all
  rw [hadd]; exact h2
theorem rd_none {w : World} {B : Nat} {xs : List Int} (h : RdS w B 1 enI none xs) : xs = [] := by
  cases xs with
  | nil => rfl
  | cons x xs => obtain ⟨b, off, he, _⟩ := h.2 (by simp); cases he
theorem one_Is (xs : List Int) : ∀ u ∈ xs.flatMap enI, u.oneCell' = true := by
  intro u hu
  obtain ⟨y, _, hy⟩ := List.mem_flatMap.1 hu
  exact one_I y u hy


set_option maxHeartbeats 1000000 in
theorem own02 (A : Option Addr) (cp B : Nat) (xs : List Int) (w : World) (hB : B ≤ w.heap.size) (hr : RdS w B 1 enI A xs) (hA : A = none → cp = 0) (hn : xs.length ≤ 1048577) :
    Calls Tryz.prog 61 #[.slice A xs.length cp] w fun e w' => (∃ v, e = .returned v ∧ OwnS w' w.heap.size w'.heap.size 2 1 enI v xs) ∧ Below w.heap.size w w' := by
  obtain ⟨i0, hi0, hz0, hz1, hz2⟩ := info_parts Ints.info
  cases A with
  | none =>
    obtain rfl := rd_none hr
    obtain rfl := hA rfl
    go_enter Tryz.func61, Tryz.ntmps61
    go_wp2_with (at_builtin; refine wpList_append_own_none rfl _ _ _ rfl w.heap.size 2 i0 1 Tryz.underlying45 hi0 _ 0 [] rfl ((RowB.new w 2 []).own (xs := ([] : List Int)) (en := enI) enI_len (Nat.le_refl _) (by simp) (by decide) : OwnS _ w.heap.size (w.alloc (.cells #[] 2)).heap.size 2 1 enI _ []).1 rfl ?_)
    go_wp2
    go_ret
    exact ⟨⟨_, rfl, (RowB.new w 2 []).own (xs := []) enI_len (Nat.le_refl _) (by simp) (by decide)⟩, by go_grown⟩
  | some ad =>
    go_enter Tryz.func61, Tryz.ntmps61
    go_wp2_with (at_builtin; refine wpList_append_own _ rfl _ _ _ rfl w.heap.size 2 i0 (.int .i64 0) 1 8 Tryz.underlying45 hi0 hz0 hz1 hz2 rfl (by decide) _ 0 [] rfl ((RowB.new w 2 []).own (xs := ([] : List Int)) (en := enI) enI_len (Nat.le_refl _) (by simp) (by decide) : OwnS _ w.heap.size (w.alloc (.cells #[] 2)).heap.size 2 1 enI _ []).1 ad xs.length cp (xs.flatMap enI) rfl (by rw [flatMap_len enI_len]) (news_rd (hr.below (by go_grown) hB)) (one_Is xs) ?c1 ?c2 ?c3 ?_)
    case c1 => unfold maxLen; omega
    case c2 => omega
    case c3 => go_size
    intro v' w' hown hgr _
    have hown : w'.ownsRow w.heap.size 2 1 v' xs.length (xs.flatMap enI) := by simpa using hown
    go_wp2
    go_ret
    refine ⟨⟨_, rfl, hown, fun g hg => (hown.lt g hg).2⟩, ?_⟩
    exact ((Below.refl w.heap.size w).alloc (Nat.le_refl _) _).grown hgr (by go_size) (fun g hg => by simp [Value.ownBlock] at hg; omega)

end Go.Proofs.YtlfdcefgelpgmaaGreatDoor.Clone
