/-
  RateAll: what the matches make of the ratings (plain), the copy of the list. Conditions: each theorem's own.
-/
import Derived.Test.YtjmckpaemmjcmaaDoorRMatch3
import Derived.Test.YtjmckpaemmjcmaaDoorRatList
import Derived.Test.YtjmckpaemmjcmaaDoorOwn
import Derived.Laws.AppendOwnNone
set_option linter.unusedVariables false
namespace Go.Proofs.YtjmckpaemmjcmaaDoor.RateAll
open Go.ChangeShapes Go.WideShapes Go.ChangeAt Go.RowKit Base Base2 Own Rating Chance RMatch RMatch3 RatList

/-- One match. -/
def stepR (ys : List (Int × Int)) (m : Int × Int × Int) : List (Int × Int) :=
  let a := ys.getD m.1.toNat (0, 0)
  let b := ys.getD m.2.1.toNat (0, 0)
  let p := rp a.1 b.1 m.2.2
  (ys.set m.1.toNat (up a.1 (chg m.2.2 p a.2), more a.2 m.2.2)).set m.2.1.toNat (down b.1 (chg m.2.2 p b.2), more b.2 m.2.2)
def allR (xs : List (Int × Int)) (ms : List (Int × Int × Int)) : List (Int × Int) := ms.foldl stepR xs
def raL (xs : List (Int × Int)) (ms : List (Int × Int × Int)) : List (Int × Int) := if okRL xs ms then allR xs ms else []
def raC (xs : List (Int × Int)) (ms : List (Int × Int × Int)) : Int := if okRL xs ms then 0 else 1
theorem stepR_len (ys : List (Int × Int)) (m : Int × Int × Int) : (stepR ys m).length = ys.length := by simp [stepR]
theorem allR_len (ms : List (Int × Int × Int)) : ∀ xs : List (Int × Int), (allR xs ms).length = xs.length := by
  induction ms with
  | nil => intro xs; rfl
  | cons m ms ih => intro xs; show (allR (stepR xs m) ms).length = _; rw [ih, stepR_len]
theorem allR_succ (xs : List (Int × Int)) (ms : List (Int × Int × Int)) (k : Nat) (m : Int × Int × Int) (h : ms[k]? = some m) : allR xs (ms.take (k + 1)) = stepR (allR xs (ms.take k)) m := by
  unfold allR
  rw [take_succ ms k m h, List.foldl_append]
  rfl
theorem okR_iff (v e : Int) : okR v e = true ↔ 0 ≤ v ∧ v ≤ 1000000 ∧ 0 ≤ e ∧ e ≤ 100000 := by unfold okR; simp
theorem okR_at {ys : List (Int × Int)} (h : ys.all (fun x => okR x.1 x.2) = true) {i : Nat} (hi : i < ys.length) : okR (ys.getD i (0, 0)).1 (ys.getD i (0, 0)).2 = true := by
  rw [List.getD_eq_getElem?_getD, List.getElem?_eq_getElem hi]
  exact (List.all_eq_true.1 h) _ (List.getElem_mem hi)
theorem stepR_ok {ys : List (Int × Int)} {m : Int × Int × Int} (h : ys.all (fun x => okR x.1 x.2) = true) (hm : okM ys.length m = true) : (stepR ys m).all (fun x => okR x.1 x.2) = true := by
  unfold okM at hm
  have hm := of_decide_eq_true hm
  have ha := (okR_iff _ _).1 (okR_at h (i := m.1.toNat) (by omega))
  have hb := (okR_iff _ _).1 (okR_at h (i := m.2.1.toNat) (by omega))
  unfold stepR
  simp only
  generalize ys.getD m.1.toNat (0, 0) = a at *
  generalize ys.getD m.2.1.toNat (0, 0) = b at *
  have hp := ch_bd2 (a.1 - b.1) m.2.2
  have ca := chg_bd2 (L := m.2.2) (p := rp a.1 b.1 m.2.2) (x := a.2) hp.1 hp.2 ha.2.2.1
  have cb := chg_bd2 (L := m.2.2) (p := rp a.1 b.1 m.2.2) (x := b.2) hp.1 hp.2 hb.2.2.1
  rw [List.all_eq_true] at h ⊢
  intro x hx
  rcases List.mem_or_eq_of_mem_set hx with hx | hx
  · rcases List.mem_or_eq_of_mem_set hx with hx | hx
    · exact h x hx
    · subst hx
      exact (okR_iff _ _).2 (by simp only [up, more]; omega)
  · subst hx
    exact (okR_iff _ _).2 (by simp only [down, more]; omega)
theorem allR_ok {xs : List (Int × Int)} {ms : List (Int × Int × Int)} (h : okRL xs ms = true) : ∀ k, k ≤ ms.length → (allR xs (ms.take k)).all (fun x => okR x.1 x.2) = true := by
  unfold okRL at h
  simp only [Bool.and_eq_true] at h
  intro k
  induction k with
  | zero => intro _; exact h.2.1
  | succ k ih =>
    intro hk
    have hx : ms[k]? = some ms[k] := List.getElem?_eq_getElem (by omega)
    rw [allR_succ xs ms k _ hx]
    refine stepR_ok (ih (by omega)) ?_
    rw [allR_len]
    exact (List.all_eq_true.1 h.2.2) _ (List.getElem_mem (by omega))

theorem one_R (xs : List (Int × Int)) : ∀ u ∈ xs.flatMap enI2, u.oneCell' = true := by
  intro u hu
  obtain ⟨y, _, hy⟩ := List.mem_flatMap.1 hu
  simp [enI2] at hy
  rcases hy with rfl | rfl <;> rfl
theorem news_rd2 {w : World} {B : Nat} {ad : Addr} {xs : List (Int × Int)} (h : RdS w B 2 enI2 (some ad) xs) : ∀ j u, (xs.flatMap enI2)[j]? = some u → w.cell? (ad.add j) = some u := by
  intro j u hu
  have hj : j < (xs.flatMap enI2).length := (List.getElem?_eq_some_iff.1 hu).1
  rw [flatMap_len enI2_len] at hj
  obtain ⟨b, off, he, _, hc⟩ := h.2 (by omega)
  simp only [Option.some.injEq] at he
  subst he
  have hq : j / 2 < xs.length := by omega
  have hx : xs[j / 2]? = some xs[j / 2] := List.getElem?_eq_getElem hq
  have h2l : j % 2 < (enI2 xs[j / 2]).length := by rw [enI2_len]; omega
  obtain ⟨v, hv⟩ : ∃ v, (enI2 xs[j / 2])[j % 2]? = some v := ⟨_, List.getElem?_eq_getElem h2l⟩
  have h1 := flatMap_at enI2_len xs (j / 2) _ hx (j % 2) _ hv
  have h2 := hc (j / 2) _ hx (j % 2) _ hv
  rw [show j / 2 * 2 + j % 2 = j from by omega, hu] at h1
  simp only [Option.some.injEq] at h1
  subst h1
  rw [show off + j / 2 * 2 + j % 2 = off + j from by omega] at h2
  have hadd : (⟨b, off, none⟩ : Addr).add j = ⟨b, off + j, none⟩ := by unfold Addr.add; split <;> simp_all
  rw [hadd]; exact h2
theorem infoR : (Tryd.prog.info? 33).map (fun i => (i.zero, i.size, i.bytes)) = some (some (.agg #[.int .i64 0, .int .i64 0]), 2, 16) := by kernel_rfl

set_option maxHeartbeats 1000000 in
theorem cloneR (ad : Addr) (cp B : Nat) (xs : List (Int × Int)) (w : World) (hB : B ≤ w.heap.size) (hr : RdS w B 2 enI2 (some ad) xs) (hn : xs.length ≤ 1048577) :
    Calls Tryd.prog 53 #[.slice (some ad) xs.length cp] w fun e w' => (∃ v, e = .returned v ∧ OwnS w' w.heap.size w'.heap.size 33 2 enI2 v xs) ∧ Below w.heap.size w w' := by
  obtain ⟨i0, hi0, hz0, hz1, hz2⟩ := info_parts infoR
  have qT : ∀ w : World, (binOp .eql 41 (.slice (some ad) xs.length cp) (.slice none 0 0)).run Tryd.prog w = .ok (.bool false) w := fun w => Lib.run_eql_slice_nil w _ _ _ _ _ _ _ Tryd.underlying41
  go_enter Tryd.func53, Tryd.ntmps53
  go_wp2_with (at_builtin; refine wpList_append_own _ rfl _ _ _ rfl w.heap.size 33 i0 (.agg #[.int .i64 0, .int .i64 0]) 2 16 Tryd.underlying41 hi0 hz0 hz1 hz2 rfl (by decide) _ 0 [] rfl ((RowB.new w 33 []).own (xs := ([] : List (Int × Int))) (en := enI2) enI2_len (Nat.le_refl _) (by simp) (by decide) : OwnS _ w.heap.size (w.alloc (.cells #[] 33)).heap.size 33 2 enI2 _ []).1 ad xs.length cp (xs.flatMap enI2) rfl (by rw [flatMap_len enI2_len]) (news_rd2 (hr.below (by go_grown) hB)) (one_R xs) ?c1 ?c2 ?c3 ?_)
  case c1 => unfold maxLen; omega
  case c2 => omega
  case c3 => go_size
  intro v' w' hown hgr _
  have hown : w'.ownsRow w.heap.size 33 2 v' xs.length (xs.flatMap enI2) := by simpa using hown
  go_wp2
  go_ret
  refine ⟨⟨_, rfl, hown, fun g hg => (hown.lt g hg).2⟩, ?_⟩
  exact ((Below.refl w.heap.size w).alloc (Nat.le_refl _) _).grown hgr (by go_size) (fun g hg => by simp [Value.ownBlock] at hg; omega)

/-- A row of ratings: two cells of entry i. -/
theorem rat_cells {w : World} {g : Nat} {e : TypeId} {ys : List (Int × Int)} {rest : List Value} (h : RowB w g e (ys.flatMap enI2 ++ rest)) {i : Nat} (hi : i < ys.length) :
    w.cell? ⟨g, i * 2, none⟩ = some (.int .i64 (ys.getD i (0, 0)).1) ∧ w.cell? ⟨g, i * 2 + 1, none⟩ = some (.int .i64 (ys.getD i (0, 0)).2) := by
  have hx : ys[i]? = some (ys.getD i (0, 0)) := by rw [List.getD_eq_getElem?_getD, List.getElem?_eq_getElem hi]; rfl
  have hl : (ys.flatMap enI2).length = ys.length * 2 := flatMap_len enI2_len ys
  refine ⟨?_, ?_⟩
  · rw [h.cell, List.getElem?_append_left (by omega)]
    exact flatMap_at enI2_len ys i _ hx 0 _ rfl
  · rw [h.cell, List.getElem?_append_left (by omega)]
    exact flatMap_at enI2_len ys i _ hx 1 _ rfl
theorem rat_set {w : World} {g : Nat} {e : TypeId} {ys : List (Int × Int)} {rest : List Value} (h : RowB w g e (ys.flatMap enI2 ++ rest)) (i : Nat) (hi : i < ys.length) (a b : Int) :
    RowB ((w.setCell ⟨g, i * 2, none⟩ (.int .i64 a)).setCell ⟨g, i * 2 + 1, none⟩ (.int .i64 b)) g e ((ys.set i (a, b)).flatMap enI2 ++ rest) := by
  have := (h.set (i * 2) (.int .i64 a)).set (i * 2 + 1) (.int .i64 b)
  have e1 : ∀ (ys : List (Int × Int)) (i : Nat), i < ys.length → ((ys.flatMap enI2 ++ rest).set (i * 2) (.int .i64 a)).set (i * 2 + 1) (.int .i64 b) = (ys.set i (a, b)).flatMap enI2 ++ rest := by
    intro ys
    induction ys with
    | nil => intro i hi; simp at hi
    | cons y ys ih =>
      intro i hi
      cases i with
      | zero => rfl
      | succ i =>
        have hi' : i < ys.length := by simpa using hi
        have e2 : (i + 1) * 2 = i * 2 + 1 + 1 := by omega
        rw [e2]
        simp only [List.flatMap_cons, enI2, List.cons_append, List.nil_append, List.set_cons_succ]
        exact congrArg _ (congrArg _ (ih i hi'))
  rw [e1 ys i hi] at this
  exact this
end Go.Proofs.YtjmckpaemmjcmaaDoor.RateAll
