/-
  The draw of clock rules and any state (l31DrawAny). Conditions: each theorem's own.
-/
import Derived.Test.YtdjopnhbcchedaaDrawS
set_option linter.unusedVariables false
namespace Go.Proofs.Ytdjopnhbcchedaa.DrawN
open Go.ChangeShapes Go.WideShapes Go.ChangeAt Go.RowKit Base Base2 Ints Own Draw RegInv DrawK DrawE ClockRun DrawS
variable {w0 w w' : World} {B g cp : Nat} {A : Option Addr} {xs : List Int}
theorem own_any {Al : Option Addr} {n n' c c' k : Nat} (h : (Value.slice Al n c).ownBlock = some k) : (Value.slice Al n' c').ownBlock = some k := by
  cases Al with
  | none => simp [Value.ownBlock] at h
  | some a => simpa [Value.ownBlock] using h
theorem own_cap {α : Type} {W : World} {lo hi sz n k : Nat} {e : TypeId} {en : α → List Value} {A : Option Addr} {ys : List α} (h : OwnS W lo hi e sz en (.slice A n k) ys) : n ≤ k := by
  rcases h.cases_ with ⟨h1, h2⟩ | ⟨g, cap, rest, h1, _, _, _, h2, _⟩
  · simp only [Value.slice.injEq] at h1; omega
  · simp only [Value.slice.injEq] at h1; omega
theorem _root_.Go.Proofs.Ytdjopnhbcchedaa.Base.OwnS.take_ {W : World} {lo hi k m : Nat} {A : Option Addr} {ys : List Int} (h : OwnS W lo hi 2 1 enI (.slice A ys.length k) ys) (hm : m ≤ ys.length) : OwnS W lo hi 2 1 enI (.slice A (ys.take m).length k) (ys.take m) := by
  rcases h.cases_ with ⟨h1, h2⟩ | ⟨gg, cap, rest, h1, glo, ghi, row, hnc, hcm, hlen⟩
  · subst h2
    simp only [Value.slice.injEq] at h1
    obtain ⟨rfl, -, rfl⟩ := h1
    simp only [List.take_nil]
    exact OwnS.nil_ _ _ _ _ _ _
  · simp only [Value.slice.injEq] at h1
    obtain ⟨rfl, -, rfl⟩ := h1
    have e : ys.flatMap enI ++ rest = (ys.take m).flatMap enI ++ ((ys.drop m).flatMap enI ++ rest) := by rw [← List.append_assoc, ← List.flatMap_append, List.take_append_drop]
    rw [e] at row
    refine OwnS.mk_ enI_len row glo ghi (by rw [List.length_take]; omega) hcm ?_
    rw [List.length_append, flatMap_len enI_len, List.length_take, List.length_drop]
    omega
section
variable {p4 p5 : Nat} {r d b : Int} {Al : Option Addr} {c : Nat} {gs : List Int} {tu si us : Int} {ru : Bool} {fa : Int} {W W' : World}
theorem An_put5 (h : An w0 w B g A cp xs p4 p5 r d b Al c gs tu si us ru fa W) {gs' : List Int} {tu' si' us' : Int} {ru' : Bool} {fa' : Int} (ho : OwnS W w.heap.size W.heap.size 2 1 enI (.slice Al gs'.length c) gs') (ha : ∀ k, (Value.slice Al gs'.length c).ownBlock = some k → k ≠ p4 ∧ k ≠ p5 ∧ w.heap.size + 1 < k) {j : Nat} {u : Value} (hr : ([.slice Al gs.length c, .int .i64 tu, .int .i64 si, .int .i64 us, .bool ru, .int .i64 fa] : List Value).set j u = [.slice Al gs'.length c, .int .i64 tu', .int .i64 si', .int .i64 us', .bool ru', .int .i64 fa']) :
    An w0 w B g A cp xs p4 p5 r d b Al c gs' tu' si' us' ru' fa' (W.setCell ⟨p5, j, none⟩ u) := by
  have hp := h.hp
  refine ⟨h.D.set (by omega) (by omega) _, grown_new h.gr (by omega) _, h.q4.other (by show p4 ≠ p5; omega) _, ?_, ?_, ha, hp⟩
  · rw [← hr]; exact h.q5.set j u
  · rw [World.size_setCell]; exact own_far ho (fun k hk => (ha k hk).2.1) _ _
theorem _root_.Go.Proofs.Ytdjopnhbcchedaa.DrawS.An.put5 (h : An w0 w B g A cp xs p4 p5 r d b Al c gs tu si us ru fa W) {gs' : List Int} {tu' si' us' : Int} {ru' : Bool} {fa' : Int} (ho : OwnS W w.heap.size W.heap.size 2 1 enI (.slice Al gs'.length c) gs') (ha : ∀ k, (Value.slice Al gs'.length c).ownBlock = some k → k ≠ p4 ∧ k ≠ p5 ∧ w.heap.size + 1 < k) {j : Nat} {u : Value} (hr : ([.slice Al gs.length c, .int .i64 tu, .int .i64 si, .int .i64 us, .bool ru, .int .i64 fa] : List Value).set j u = [.slice Al gs'.length c, .int .i64 tu', .int .i64 si', .int .i64 us', .bool ru', .int .i64 fa']) :
    An w0 w B g A cp xs p4 p5 r d b Al c gs' tu' si' us' ru' fa' (W.setCell ⟨p5, j, none⟩ u) := An_put5 h ho ha hr
theorem _root_.Go.Proofs.Ytdjopnhbcchedaa.DrawS.An.some_ {x y : Int} (h : An w0 w B g A cp xs p4 p5 r d b Al c [x, y] tu si us ru fa W) : ∃ bk, Al = some ⟨bk, 0, none⟩ := by
  rcases h.o.cases_ with ⟨h1, h2⟩ | ⟨gg, cap, rest, h1, glo, ghi, row, hnc, hcm, hlen⟩
  · cases h2
  · simp only [Value.slice.injEq] at h1; exact ⟨gg, h1.1⟩
theorem _root_.Go.Proofs.Ytdjopnhbcchedaa.DrawS.An.left {x y : Int} (h : An w0 w B g A cp xs p4 p5 r d b Al c [x, y] tu si us ru fa W) {bk : Nat} (hA : Al = some ⟨bk, 0, none⟩) : True ∧ W.cell? ⟨bk, 0, none⟩ = some (.int .i64 x) ∧ (∀ o, W.frozen? ⟨bk, o, none⟩ = false) ∧ bk < W.heap.size := by
  subst hA
  rcases h.o.cases_ with ⟨h1, h2⟩ | ⟨gg, cap, rest, h1, glo, ghi, row, hnc, hcm, hlen⟩
  · cases h2
  · simp only [Value.slice.injEq, Option.some.injEq, Addr.mk.injEq, and_true] at h1
    obtain ⟨rfl, -, rfl⟩ := h1
    exact ⟨trivial, row.cell 0, row.frozen, row.lt⟩
theorem _root_.Go.Proofs.Ytdjopnhbcchedaa.DrawS.An.putL {x y : Int} (h : An w0 w B g A cp xs p4 p5 r d b Al c [x, y] tu si us ru fa W) {bk : Nat} (hA : Al = some ⟨bk, 0, none⟩) (t : Int) : An w0 w B g A cp xs p4 p5 r d b Al c [t, y] tu si us ru fa (W.setCell ⟨bk, 0, none⟩ (.int .i64 t)) := by
  have hp := h.hp
  subst hA
  have hk := h.ap bk rfl
  rcases h.o.cases_ with ⟨h1, h2⟩ | ⟨gg, cap, rest, h1, glo, ghi, row, hnc, hcm, hlen⟩
  · cases h2
  · simp only [Value.slice.injEq, Option.some.injEq, Addr.mk.injEq, and_true] at h1
    obtain ⟨rfl, -, rfl⟩ := h1
    refine ⟨h.D.set (by omega) (by omega) _, grown_new h.gr (by omega) _, h.q4.other (by show p4 ≠ bk; omega) _, h.q5.other (by show p5 ≠ bk; omega) _, ?_, h.ap, hp⟩
    have := row.set 0 (.int .i64 t)
    rw [World.size_setCell]
    exact OwnS.mk_ (xs := [t, y]) (rest := rest) enI_len this glo ghi hnc hcm hlen
end
structure NrF15 (w0 w : World) (B g : Nat) (A : Option Addr) (cp : Nat) (xs : List Int) (p4 p5 : Nat) (r d b : Int) (Al : Option Addr) (c : Nat) (gs : List Int) (tu si us : Int) (ru : Bool) (fa : Int) (L : Nat → Prop) (v15 v16 : Value) (w' : World) : Prop where
  K : An w0 w B g A cp xs p4 p5 r d b Al c gs tu si us ru fa w'
  z2 : ¬ L 2 → RowB w' w.heap.size 25 [.int .i64 0, .int .i64 0, .int .i64 0]
  z3 : ¬ L 3 → RowB w' (w.heap.size + 1) 30 [.slice none 0 0, .int .i64 0, .int .i64 0, .int .i64 0, .bool false, .int .i64 0]
  f0 : L 0 → v15 = .agg #[.int .i64 r, .int .i64 d, .int .i64 b]
  f1 : L 1 → v16 = .agg #[.slice Al gs.length c, .int .i64 tu, .int .i64 si, .int .i64 us, .bool ru, .int .i64 fa]
  f2 : L 2 → RowB w' w.heap.size 25 [.int .i64 r, .int .i64 d, .int .i64 b]
  f3 : L 3 → RowB w' (w.heap.size + 1) 30 [.slice Al gs.length c, .int .i64 tu, .int .i64 si, .int .i64 us, .bool ru, .int .i64 fa]
structure NrF69 (w0 w : World) (B g : Nat) (A : Option Addr) (cp : Nat) (xs : List Int) (p4 p5 : Nat) (r d b : Int) (Al : Option Addr) (c : Nat) (gs : List Int) (tu si us : Int) (ru : Bool) (fa : Int) (L : Nat → Prop) (v69 v70 : Value) (w' : World) : Prop where
  K : An w0 w B g A cp xs p4 p5 r d b Al c gs tu si us ru fa w'
  z2 : ¬ L 2 → RowB w' w.heap.size 25 [.int .i64 0, .int .i64 0, .int .i64 0]
  z3 : ¬ L 3 → RowB w' (w.heap.size + 1) 30 [.slice none 0 0, .int .i64 0, .int .i64 0, .int .i64 0, .bool false, .int .i64 0]
  f0 : L 0 → v69 = .agg #[.int .i64 r, .int .i64 d, .int .i64 b]
  f1 : L 1 → v70 = .agg #[.slice Al gs.length c, .int .i64 tu, .int .i64 si, .int .i64 us, .bool ru, .int .i64 fa]
  f2 : L 2 → RowB w' w.heap.size 25 [.int .i64 r, .int .i64 d, .int .i64 b]
  f3 : L 3 → RowB w' (w.heap.size + 1) 30 [.slice Al gs.length c, .int .i64 tu, .int .i64 si, .int .i64 us, .bool ru, .int .i64 fa]
structure LfF (w0 w : World) (B g : Nat) (A : Option Addr) (cp : Nat) (xs : List Int) (p4 p5 : Nat) (r d b : Int) (Al : Option Addr) (c : Nat) (x y : Int) (bk : Nat) (tu si us : Int) (ru : Bool) (fa : Int) (L : Nat → Prop) (v27 v28 v29 v30 v31 v32 v33 v34 : Value) (w' : World) : Prop where
  K : ¬ L 8 → An w0 w B g A cp xs p4 p5 r d b Al c [x, y] tu si us ru fa w'
  z2 : RowB w' w.heap.size 25 [.int .i64 0, .int .i64 0, .int .i64 0]
  z3 : RowB w' (w.heap.size + 1) 30 [.slice none 0 0, .int .i64 0, .int .i64 0, .int .i64 0, .bool false, .int .i64 0]
  f0 : L 0 → v27 = .pointer (some ⟨p5, 0, none⟩)
  f1 : L 1 → v28 = .slice Al 2 c
  f2 : L 2 → ¬ L 8 → Blk w.heap.size g w' v29 3 2 [.int .i64 (-1), .int .i64 0, .int .i64 100000001]
  f3 : L 3 → v30 = .pointer (some ⟨g, 0, none⟩)
  f4 : L 4 → ∃ t : Int, v31 = .int .i64 t ∧ 0 ≤ t ∧ t < 3
  f5 : L 5 → ¬ L 8 → Cel w.heap.size g w' v32
  f6 : L 6 → ∃ t : Int, v33 = .int .i64 t
  f7 : L 7 → v34 = .pointer (some ⟨bk, 0, none⟩)
  f8 : L 8 → ∃ t : Int, An w0 w B g A cp xs p4 p5 r d b Al c [t, y] tu si us ru fa w'

set_option maxHeartbeats 8000000 in
set_option maxRecDepth 100000 in
theorem any (h : Dr w0 B g A cp xs w) :
    Calls Try.prog 61 #[.pointer (some ⟨g, 0, none⟩)] w fun e w' => ∃ (r d b : Int) (Al : Option Addr) (c : Nat) (gs : List Int) (tu si us : Int) (ru : Bool) (fa : Int), e = .returned (.tuple #[.agg #[.int .i64 r, .int .i64 d, .int .i64 b], .agg #[.slice Al gs.length c, .int .i64 tu, .int .i64 si, .int .i64 us, .bool ru, .int .i64 fa]]) ∧ Dr w0 B g A cp xs w' ∧ w.grownBy w' (some g) ∧ OwnS w' w.heap.size w'.heap.size 2 1 enI (.slice Al gs.length c) gs := by
  have hlt := h.lt
  have hbg := h.base
  go_enter Try.func61, Try.ntmps61
  go_wp2_with fail
  refine (draw ((h.alloc _).alloc _)).mono ?_
  rintro e w1 ⟨r, d, b, Al, c, gs, tu, si, us, ru, fa, rfl, D, hg, ho⟩
  have z2 : RowB w1 w.heap.size 25 [.int .i64 0, .int .i64 0, .int .i64 0] := ((RowB.new _ _ _).alloc _).grown hg (fun k hk => by simp at hk; omega)
  have z3 : RowB w1 (w.heap.size + 1) 30 [.slice none 0 0, .int .i64 0, .int .i64 0, .int .i64 0, .bool false, .int .i64 0] := (RowB.new' _ _ _ (by simp)).grown hg (fun k hk => by simp at hk; omega)
  have gr : w.grownBy w1 (some g) := grownBy_trans (grownBy_trans (World.grownBy_alloc _ _ _) (World.grownBy_alloc _ _ _)) hg
  have hz3 := z3.lt
  have hz0 := ho.block
  simp only [World.size_alloc] at hz0
  clear hg
  go_upto_region 2 with (fail)
  refine wp_gen (fun W' => An w0 w B g A cp xs w1.heap.size (w1.heap.size + 1) r d b Al c gs tu si us ru fa W' ∧ RowB W' w.heap.size 25 [.int .i64 0, .int .i64 0, .int .i64 0] ∧ RowB W' (w.heap.size + 1) 30 [.slice none 0 0, .int .i64 0, .int .i64 0, .int .i64 0, .bool false, .int .i64 0]) ⟨⟨(D.alloc _).alloc _, grownBy_trans (grownBy_trans gr (World.grownBy_alloc _ _ _)) (World.grownBy_alloc _ _ _), (RowB.new _ _ _).alloc _, RowB.new' _ _ _ (by simp), (((ho.alloc _).alloc _).less (by simp; omega)).more (by simp; omega), fun k hk => by have := hz0 k hk; omega, by omega⟩, (z2.alloc _).alloc _, (z3.alloc _).alloc _⟩ ?_
  obtain ⟨p4, hp4⟩ : ∃ p, w1.heap.size = p := ⟨_, rfl⟩
  rw [hp4] at hz3 ⊢
  obtain ⟨p5, hp5⟩ : ∃ p, p4 + 1 = p := ⟨_, rfl⟩
  rw [hp5]
  clear D gr z2 z3 ho hz0 hp4
  rintro w2 ⟨K, z2, z3⟩
  have hh := K.hp
  obtain ⟨c0, c1, c2, c3, c4, c5⟩ := K.q5.c6
  by_cases hg2 : gs.length = 2
  case neg =>
    have hne : (((gs.length : Nat) : Int) != 2) = true := by simp; omega
    go_wp2_with fail
    (try simp only [hne])
    clear c0 c1 c2 c3 c4 c5 hne hg2
    have K := K
    refine region_inv (fun a0 L a w' => ∃ v15 v16 : Value, a = ((a0.put (some 15) v15).put (some 16) v16) ∧ NrF15 w0 w B g A cp xs p4 p5 r d b Al c gs tu si us ru fa L v15 v16 w') (by kernel_rfl) (by kernel_rfl) ?h0 ?hst ?fin
    case h0 =>
      exact ⟨_, _, by simp only [Act.put, List.setIfInBounds_toArray, List.set_cons_zero, List.set_cons_succ]; exact rfl, ⟨K.drew, fun _ => RowB.drew z2, fun _ => RowB.drew z3, fun h => (h : False).elim, fun h => (h : False).elim, fun h => (h : False).elim, fun h => (h : False).elim⟩⟩
    case hst =>
      refine StepsFrom.cons rfl (fun L a w' hI hno hdep hcl K hK => ?_) ?_
      · obtain ⟨v15, v16, ha, F⟩ := hI
        obtain ⟨c0, c1, c2⟩ := F.K.q4.c3
        subst ha
        simp only [Act.put, List.setIfInBounds_toArray, List.set_cons_zero, List.set_cons_succ]
        go_simp
        exact hK.out _ _ ⟨_, v16, by simp only [Act.put, List.setIfInBounds_toArray, List.set_cons_zero, List.set_cons_succ], ⟨F.K, fun h => F.z2 (fun x => h (Or.inr x)), fun h => F.z3 (fun x => h (Or.inr x)), fun _ => rfl, fun h => F.f1 (h.resolve_left (by decide)), fun h => F.f2 (h.resolve_left (by decide)), fun h => F.f3 (h.resolve_left (by decide))⟩⟩
      refine StepsFrom.cons rfl (fun L a w' hI hno hdep hcl K hK => ?_) ?_
      · obtain ⟨v15, v16, ha, F⟩ := hI
        obtain ⟨c0, c1, c2, c3, c4, c5⟩ := F.K.q5.c6
        subst ha
        simp only [Act.put, List.setIfInBounds_toArray, List.set_cons_zero, List.set_cons_succ]
        go_simp
        exact hK.out _ _ ⟨v15, _, by simp only [Act.put, List.setIfInBounds_toArray, List.set_cons_zero, List.set_cons_succ], ⟨F.K, fun h => F.z2 (fun x => h (Or.inr x)), fun h => F.z3 (fun x => h (Or.inr x)), fun h => F.f0 (h.resolve_left (by decide)), fun _ => rfl, fun h => F.f2 (h.resolve_left (by decide)), fun h => F.f3 (h.resolve_left (by decide))⟩⟩
      refine StepsFrom.cons rfl (fun L a w' hI hno hdep hcl K hK => ?_) ?_
      · obtain ⟨v15, v16, ha, F⟩ := hI
        have e15 := F.f0 (hdep 0 (by kernel_rfl))
        have hz := F.z2 hno
        obtain ⟨c0, c1, c2⟩ := hz.c3
        have hf := hz.frozen
        have hl := hz.lt
        subst ha
        simp only [Act.put, List.setIfInBounds_toArray, List.set_cons_zero, List.set_cons_succ, e15]
        go_simp
        exact hK.out _ _ ⟨v15, v16, by simp only [Act.put, List.setIfInBounds_toArray, List.set_cons_zero, List.set_cons_succ, e15], ⟨F.K.set2 _ _ _, fun h => absurd (Or.inl rfl) h, fun h => other3 (F.z3 (fun x => h (Or.inr x))) (by omega) _ _ _, fun h => F.f0 (h.resolve_left (by decide)), fun h => F.f1 (h.resolve_left (by decide)), fun _ => three hz _ _ _, fun h => other3 (F.f3 (h.resolve_left (by decide))) (by omega) _ _ _⟩⟩
      refine StepsFrom.cons rfl (fun L a w' hI hno hdep hcl K hK => ?_) ?_
      · obtain ⟨v15, v16, ha, F⟩ := hI
        have e16 := F.f1 (hdep 1 (by kernel_rfl))
        have hz := F.z3 hno
        obtain ⟨c0, c1, c2, c3, c4, c5⟩ := hz.c6
        have hf := hz.frozen
        have hl := hz.lt
        subst ha
        simp only [Act.put, List.setIfInBounds_toArray, List.set_cons_zero, List.set_cons_succ, e16]
        go_simp
        exact hK.out _ _ ⟨v15, v16, by simp only [Act.put, List.setIfInBounds_toArray, List.set_cons_zero, List.set_cons_succ, e16], ⟨F.K.set3 _ _ _ _ _ _, fun h => other6 (F.z2 (fun x => h (Or.inr x))) (by omega) _ _ _ _ _ _, fun h => absurd (Or.inl rfl) h, fun h => F.f0 (h.resolve_left (by decide)), fun h => F.f1 (h.resolve_left (by decide)), fun h => other6 (F.f2 (h.resolve_left (by decide))) (by omega) _ _ _ _ _ _, fun _ => six hz _ _ _ _ _ _⟩⟩
      exact StepsFrom.nil (by decide)
    case fin =>
      rintro L a' w9 ⟨v15, v16, rfl, F⟩ hL
      have R2 := F.f2 (hL 2 (by decide))
      have R3 := F.f3 (hL 3 (by decide))
      have K9 := F.K
      clear F hL
      simp only [Act.put, List.setIfInBounds_toArray, List.set_cons_zero, List.set_cons_succ]
      obtain ⟨a0, a1, a2⟩ := R2.c3
      obtain ⟨b0, b1, b2, b3, b4, b5⟩ := R3.c6
      go_wp2_with fail
      refine bodyPost_ret (v := .tuple #[.agg #[.int .i64 r, .int .i64 d, .int .i64 b], .agg #[.slice Al gs.length c, .int .i64 tu, .int .i64 si, .int .i64 us, .bool ru, .int .i64 fa]]) (by simp [results, Try.results61, go_sem, a0, a1, a2, b0, b1, b2, b3, b4, b5]) rfl ?_
      exact ⟨_, _, _, _, _, _, _, _, _, _, _, rfl, K9.D, K9.gr, K9.o⟩
  rw [hg2]
  obtain ⟨x, y, rfl⟩ := list2 hg2
  clear hg2
  replace c0 : w2.cell? ⟨p5, 0, none⟩ = some (.slice Al 2 c) := c0
  go_wp2_with fail
  clear c0 c1 c2 c3 c4 c5
  refine (next' K.D 24 (by decide)).mono ?_
  rintro e w4 ⟨⟨t, rfl, t0, t1, -⟩, hD, hg, -⟩
  have K := K.grown hD hg
  have zz2 := z2.grown hg (fun k hk => by simp at hk; omega)
  have zz3 := z3.grown hg (fun k hk => by simp at hk; omega)
  clear z2 z3 hD hg
  have z2 := zz2
  have z3 := zz3
  clear zz2 zz3
  have hc2 : 2 ≤ c := own_cap K.o
  by_cases e0 : t = 0
  case pos =>
    subst e0
    obtain ⟨c0, c1, c2, c3, c4, c5⟩ := K.q5.c6
    have hf := K.q5.frozen
    have hl := K.q5.lt
    go_wp2_with fail
    refine wp_gen (fun W' => (∃ gz : List Int, An w0 w B g A cp xs p4 p5 r d b Al c gz tu si us ru fa W') ∧ RowB W' w.heap.size 25 [.int .i64 0, .int .i64 0, .int .i64 0] ∧ RowB W' (w.heap.size + 1) 30 [.slice none 0 0, .int .i64 0, .int .i64 0, .int .i64 0, .bool false, .int .i64 0]) ⟨⟨_, K.put5 (K.o.take_ (m := 1) (by simp)) (fun k hk => K.ap k (own_any hk)) (j := 0) (u := .slice Al 1 c) rfl⟩, z2.other (by show w.heap.size ≠ p5; omega) _, z3.other (by show w.heap.size + 1 ≠ p5; omega) _⟩ ?_
    clear K z2 z3 c0 c1 c2 c3 c4 c5 hf hl 
    rintro w6 ⟨⟨gz, K⟩, z2, z3⟩
    have K := K
    refine region_inv (fun a0 L a w' => ∃ v69 v70 : Value, a = ((a0.put (some 69) v69).put (some 70) v70) ∧ NrF69 w0 w B g A cp xs p4 p5 r d b Al c gz tu si us ru fa L v69 v70 w') (by kernel_rfl) (by kernel_rfl) ?h0 ?hst ?fin
    case h0 =>
      exact ⟨_, _, by simp only [Act.put, List.setIfInBounds_toArray, List.set_cons_zero, List.set_cons_succ]; exact rfl, ⟨K.drew, fun _ => RowB.drew z2, fun _ => RowB.drew z3, fun h => (h : False).elim, fun h => (h : False).elim, fun h => (h : False).elim, fun h => (h : False).elim⟩⟩
    case hst =>
      refine StepsFrom.cons rfl (fun L a w' hI hno hdep hcl K hK => ?_) ?_
      · obtain ⟨v69, v70, ha, F⟩ := hI
        obtain ⟨c0, c1, c2⟩ := F.K.q4.c3
        subst ha
        simp only [Act.put, List.setIfInBounds_toArray, List.set_cons_zero, List.set_cons_succ]
        go_simp
        exact hK.out _ _ ⟨_, v70, by simp only [Act.put, List.setIfInBounds_toArray, List.set_cons_zero, List.set_cons_succ], ⟨F.K, fun h => F.z2 (fun x => h (Or.inr x)), fun h => F.z3 (fun x => h (Or.inr x)), fun _ => rfl, fun h => F.f1 (h.resolve_left (by decide)), fun h => F.f2 (h.resolve_left (by decide)), fun h => F.f3 (h.resolve_left (by decide))⟩⟩
      refine StepsFrom.cons rfl (fun L a w' hI hno hdep hcl K hK => ?_) ?_
      · obtain ⟨v69, v70, ha, F⟩ := hI
        obtain ⟨c0, c1, c2, c3, c4, c5⟩ := F.K.q5.c6
        subst ha
        simp only [Act.put, List.setIfInBounds_toArray, List.set_cons_zero, List.set_cons_succ]
        go_simp
        exact hK.out _ _ ⟨v69, _, by simp only [Act.put, List.setIfInBounds_toArray, List.set_cons_zero, List.set_cons_succ], ⟨F.K, fun h => F.z2 (fun x => h (Or.inr x)), fun h => F.z3 (fun x => h (Or.inr x)), fun h => F.f0 (h.resolve_left (by decide)), fun _ => rfl, fun h => F.f2 (h.resolve_left (by decide)), fun h => F.f3 (h.resolve_left (by decide))⟩⟩
      refine StepsFrom.cons rfl (fun L a w' hI hno hdep hcl K hK => ?_) ?_
      · obtain ⟨v69, v70, ha, F⟩ := hI
        have e69 := F.f0 (hdep 0 (by kernel_rfl))
        have hz := F.z2 hno
        obtain ⟨c0, c1, c2⟩ := hz.c3
        have hf := hz.frozen
        have hl := hz.lt
        subst ha
        simp only [Act.put, List.setIfInBounds_toArray, List.set_cons_zero, List.set_cons_succ, e69]
        go_simp
        exact hK.out _ _ ⟨v69, v70, by simp only [Act.put, List.setIfInBounds_toArray, List.set_cons_zero, List.set_cons_succ, e69], ⟨F.K.set2 _ _ _, fun h => absurd (Or.inl rfl) h, fun h => other3 (F.z3 (fun x => h (Or.inr x))) (by omega) _ _ _, fun h => F.f0 (h.resolve_left (by decide)), fun h => F.f1 (h.resolve_left (by decide)), fun _ => three hz _ _ _, fun h => other3 (F.f3 (h.resolve_left (by decide))) (by omega) _ _ _⟩⟩
      refine StepsFrom.cons rfl (fun L a w' hI hno hdep hcl K hK => ?_) ?_
      · obtain ⟨v69, v70, ha, F⟩ := hI
        have e70 := F.f1 (hdep 1 (by kernel_rfl))
        have hz := F.z3 hno
        obtain ⟨c0, c1, c2, c3, c4, c5⟩ := hz.c6
        have hf := hz.frozen
        have hl := hz.lt
        subst ha
        simp only [Act.put, List.setIfInBounds_toArray, List.set_cons_zero, List.set_cons_succ, e70]
        go_simp
        exact hK.out _ _ ⟨v69, v70, by simp only [Act.put, List.setIfInBounds_toArray, List.set_cons_zero, List.set_cons_succ, e70], ⟨F.K.set3 _ _ _ _ _ _, fun h => other6 (F.z2 (fun x => h (Or.inr x))) (by omega) _ _ _ _ _ _, fun h => absurd (Or.inl rfl) h, fun h => F.f0 (h.resolve_left (by decide)), fun h => F.f1 (h.resolve_left (by decide)), fun h => other6 (F.f2 (h.resolve_left (by decide))) (by omega) _ _ _ _ _ _, fun _ => six hz _ _ _ _ _ _⟩⟩
      exact StepsFrom.nil (by decide)
    case fin =>
      rintro L a' w9 ⟨v69, v70, rfl, F⟩ hL
      have R2 := F.f2 (hL 2 (by decide))
      have R3 := F.f3 (hL 3 (by decide))
      have K9 := F.K
      clear F hL
      simp only [Act.put, List.setIfInBounds_toArray, List.set_cons_zero, List.set_cons_succ]
      obtain ⟨a0, a1, a2⟩ := R2.c3
      obtain ⟨b0, b1, b2, b3, b4, b5⟩ := R3.c6
      go_wp2_with fail
      refine bodyPost_ret (v := .tuple #[.agg #[.int .i64 r, .int .i64 d, .int .i64 b], .agg #[.slice Al (gz).length c, .int .i64 tu, .int .i64 si, .int .i64 us, .bool ru, .int .i64 fa]]) (by simp [results, Try.results61, go_sem, a0, a1, a2, b0, b1, b2, b3, b4, b5]) rfl ?_
      exact ⟨_, _, _, _, _, _, _, _, _, _, _, rfl, K9.D, K9.gr, K9.o⟩
  by_cases e1 : t = 1
  case pos =>
    subst e1
    obtain ⟨bk, rfl⟩ := K.some_
    have hbk := K.ap bk rfl
    go_wp2_with fail
    refine region_inv (fun a0 L a w' => ∃ v27 v28 v29 v30 v31 v32 v33 v34 : Value, a = ((((((((a0.put (some 27) v27).put (some 28) v28).put (some 29) v29).put (some 30) v30).put (some 31) v31).put (some 32) v32).put (some 33) v33).put (some 34) v34) ∧ LfF w0 w B g A cp xs p4 p5 r d b (some ⟨bk, 0, none⟩) c x y bk tu si us ru fa L v27 v28 v29 v30 v31 v32 v33 v34 w') (by kernel_rfl) (by kernel_rfl) ?h0 ?hst ?fin
    case h0 =>
      exact ⟨_, _, _, _, _, _, _, _, by simp only [Act.put, List.setIfInBounds_toArray, List.set_cons_zero, List.set_cons_succ]; exact rfl, ⟨fun _ => K.drew, RowB.drew z2, RowB.drew z3, fun h => (h : False).elim, fun h => (h : False).elim, fun h => (h : False).elim, fun h => (h : False).elim, fun h => (h : False).elim, fun h => (h : False).elim, fun h => (h : False).elim, fun h => (h : False).elim, fun h => (h : False).elim⟩⟩
    case hst =>
      refine StepsFrom.cons rfl (fun L a w' hI hno hdep hcl K hK => ?_) ?_
      · obtain ⟨v27, v28, v29, v30, v31, v32, v33, v34, ha, F⟩ := hI
        subst ha
        simp only [Act.put, List.setIfInBounds_toArray, List.set_cons_zero, List.set_cons_succ]
        go_simp
        exact hK.out _ _ ⟨_, v28, v29, v30, v31, v32, v33, v34, by simp only [Act.put, List.setIfInBounds_toArray, List.set_cons_zero, List.set_cons_succ], ⟨fun h => F.K (fun x => h (Or.inr x)), F.z2, F.z3, fun _ => rfl, fun h => F.f1 (h.resolve_left (by decide)), fun h hn => (F.f2 (h.resolve_left (by decide)) (fun x => hn (Or.inr x))), fun h => F.f3 (h.resolve_left (by decide)), fun h => F.f4 (h.resolve_left (by decide)), fun h hn => (F.f5 (h.resolve_left (by decide)) (fun x => hn (Or.inr x))), fun h => F.f6 (h.resolve_left (by decide)), fun h => F.f7 (h.resolve_left (by decide)), fun h => absurd (hcl 8 0 (by kernel_rfl) (h.resolve_left (by decide))) hno⟩⟩
      refine StepsFrom.cons rfl (fun L a w' hI hno hdep hcl K hK => ?_) ?_
      · obtain ⟨v27, v28, v29, v30, v31, v32, v33, v34, ha, F⟩ := hI
        have e27 := F.f0 (hdep 0 (by kernel_rfl))
        have hAn := F.K (fun x => hno (hcl 8 1 (by kernel_rfl) x))
        obtain ⟨c0, c1, c2, c3, c4, c5⟩ := hAn.q5.c6
        subst ha
        simp only [Act.put, List.setIfInBounds_toArray, List.set_cons_zero, List.set_cons_succ, e27]
        go_simp
        exact hK.out _ _ ⟨v27, _, v29, v30, v31, v32, v33, v34, by simp only [Act.put, List.setIfInBounds_toArray, List.set_cons_zero, List.set_cons_succ, e27], ⟨fun h => F.K (fun x => h (Or.inr x)), F.z2, F.z3, fun h => F.f0 (h.resolve_left (by decide)), fun _ => rfl, fun h hn => (F.f2 (h.resolve_left (by decide)) (fun x => hn (Or.inr x))), fun h => F.f3 (h.resolve_left (by decide)), fun h => F.f4 (h.resolve_left (by decide)), fun h hn => (F.f5 (h.resolve_left (by decide)) (fun x => hn (Or.inr x))), fun h => F.f6 (h.resolve_left (by decide)), fun h => F.f7 (h.resolve_left (by decide)), fun h => absurd (hcl 8 1 (by kernel_rfl) (h.resolve_left (by decide))) hno⟩⟩
      refine StepsFrom.cons rfl (fun L a w' hI hno hdep hcl K hK => ?_) ?_
      · obtain ⟨v27, v28, v29, v30, v31, v32, v33, v34, ha, F⟩ := hI
        have hAn := F.K (fun x => hno (hcl 8 2 (by kernel_rfl) x))
        have hz := hAn.gr.size
        have hl := hAn.D.lt
        subst ha
        simp only [Act.put, List.setIfInBounds_toArray, List.set_cons_zero, List.set_cons_succ]
        go_simp
        exact hK.out _ _ ⟨v27, v28, _, v30, v31, v32, v33, v34, by simp only [Act.put, List.setIfInBounds_toArray, List.set_cons_zero, List.set_cons_succ], ⟨fun h => (F.K (fun x => h (Or.inr x))).alloc _, F.z2.alloc _, F.z3.alloc _, fun h => F.f0 (h.resolve_left (by decide)), fun h => F.f1 (h.resolve_left (by decide)), fun _ _ => ⟨_, rfl, by omega, by omega, RowB.new _ _ _⟩, fun h => F.f3 (h.resolve_left (by decide)), fun h => F.f4 (h.resolve_left (by decide)), fun h hn => (F.f5 (h.resolve_left (by decide)) (fun x => hn (Or.inr x))).keep (Kp.alloc _ _ _ _), fun h => F.f6 (h.resolve_left (by decide)), fun h => F.f7 (h.resolve_left (by decide)), fun h => absurd (hcl 8 2 (by kernel_rfl) (h.resolve_left (by decide))) hno⟩⟩
      refine StepsFrom.cons rfl (fun L a w' hI hno hdep hcl K hK => ?_) ?_
      · obtain ⟨v27, v28, v29, v30, v31, v32, v33, v34, ha, F⟩ := hI
        subst ha
        simp only [Act.put, List.setIfInBounds_toArray, List.set_cons_zero, List.set_cons_succ]
        go_simp
        exact hK.out _ _ ⟨v27, v28, v29, _, v31, v32, v33, v34, by simp only [Act.put, List.setIfInBounds_toArray, List.set_cons_zero, List.set_cons_succ], ⟨fun h => F.K (fun x => h (Or.inr x)), F.z2, F.z3, fun h => F.f0 (h.resolve_left (by decide)), fun h => F.f1 (h.resolve_left (by decide)), fun h hn => (F.f2 (h.resolve_left (by decide)) (fun x => hn (Or.inr x))), fun _ => rfl, fun h => F.f4 (h.resolve_left (by decide)), fun h hn => (F.f5 (h.resolve_left (by decide)) (fun x => hn (Or.inr x))), fun h => F.f6 (h.resolve_left (by decide)), fun h => F.f7 (h.resolve_left (by decide)), fun h => absurd (hcl 8 3 (by kernel_rfl) (h.resolve_left (by decide))) hno⟩⟩
      refine StepsFrom.cons rfl (fun L a w' hI hno hdep hcl K hK => ?_) ?_
      · obtain ⟨v27, v28, v29, v30, v31, v32, v33, v34, ha, F⟩ := hI
        have e30 := F.f3 (hdep 3 (by kernel_rfl))
        have hAn := F.K (fun x => hno (hcl 8 4 (by kernel_rfl) x))
        have hp := hAn.hp
        subst ha
        simp only [Act.put, List.setIfInBounds_toArray, List.set_cons_zero, List.set_cons_succ, e30]
        go_simp
        refine (next' hAn.D 3 (by decide)).mono ?_
        rintro e w2 ⟨⟨t, rfl, t0, t1, -⟩, hD, hg, -⟩
        have t1 := t1 (by decide)
        exact hK.out _ _ ⟨v27, v28, v29, v30, _, v32, v33, v34, by simp only [Act.put, List.setIfInBounds_toArray, List.set_cons_zero, List.set_cons_succ, e30], ⟨fun _ => hAn.grown hD hg, F.z2.grown hg (fun k hk => by simp at hk; omega), F.z3.grown hg (fun k hk => by simp at hk; omega), fun h => F.f0 (h.resolve_left (by decide)), fun h => F.f1 (h.resolve_left (by decide)), fun h hn => (F.f2 (h.resolve_left (by decide)) (fun x => hn (Or.inr x))).keep (Kp.grown hg), fun h => F.f3 (h.resolve_left (by decide)), fun _ => ⟨t, rfl, t0, t1⟩, fun h hn => (F.f5 (h.resolve_left (by decide)) (fun x => hn (Or.inr x))).keep (Kp.grown hg), fun h => F.f6 (h.resolve_left (by decide)), fun h => F.f7 (h.resolve_left (by decide)), fun h => absurd (hcl 8 4 (by kernel_rfl) (h.resolve_left (by decide))) hno⟩⟩
      refine StepsFrom.cons rfl (fun L a w' hI hno hdep hcl K hK => ?_) ?_
      · obtain ⟨v27, v28, v29, v30, v31, v32, v33, v34, ha, F⟩ := hI
        have ns : ¬ L 8 := fun x => hno (hcl 8 5 (by kernel_rfl) x)
        obtain ⟨bb, e29, hb1, hb2, hR⟩ := F.f2 (hdep 2 (by kernel_rfl)) ns
        obtain ⟨t, e31, t0, t1⟩ := F.f4 (hdep 4 (by kernel_rfl))
        obtain ⟨m, rfl⟩ : ∃ m : Nat, t = m := ⟨t.toNat, by omega⟩
        have hc : ∃ z : Int, ([.int .i64 (-1), .int .i64 0, .int .i64 100000001] : List Value)[m]? = some (.int .i64 z) := by (obtain rfl | rfl | rfl : m = 0 ∨ m = 1 ∨ m = 2 := by omega) <;> exact ⟨_, rfl⟩
        subst ha
        simp only [Act.put, List.setIfInBounds_toArray, List.set_cons_zero, List.set_cons_succ, e29, e31]
        go_simp
        exact hK.out _ _ ⟨v27, v28, v29, v30, v31, .pointer (some ⟨bb, m, none⟩), v33, v34, by simp only [Act.put, List.setIfInBounds_toArray, List.set_cons_zero, List.set_cons_succ, e29, e31], ⟨fun h => F.K (fun x => h (Or.inr x)), F.z2, F.z3, fun h => F.f0 (h.resolve_left (by decide)), fun h => F.f1 (h.resolve_left (by decide)), fun h hn => (F.f2 (h.resolve_left (by decide)) (fun x => hn (Or.inr x))), fun h => F.f3 (h.resolve_left (by decide)), fun h => F.f4 (h.resolve_left (by decide)), fun _ _ => by obtain ⟨z, hz⟩ := hc; exact ⟨_, _, _, _, z, rfl, hb1, hb2, hR, hz⟩, fun h => F.f6 (h.resolve_left (by decide)), fun h => F.f7 (h.resolve_left (by decide)), fun h => absurd (hcl 8 5 (by kernel_rfl) (h.resolve_left (by decide))) hno⟩⟩
      refine StepsFrom.cons rfl (fun L a w' hI hno hdep hcl K hK => ?_) ?_
      · obtain ⟨v27, v28, v29, v30, v31, v32, v33, v34, ha, F⟩ := hI
        have ns : ¬ L 8 := fun x => hno (hcl 8 6 (by kernel_rfl) x)
        obtain ⟨bb, j, te, cs, t, e32, hb1, hb2, hR, hx⟩ := F.f5 (hdep 5 (by kernel_rfl)) ns
        have hc := (hR.cell j).trans hx
        clear hx hR
        subst ha
        simp only [Act.put, List.setIfInBounds_toArray, List.set_cons_zero, List.set_cons_succ, e32]
        go_simp
        exact hK.out _ _ ⟨v27, v28, v29, v30, v31, v32, .int .i64 t, v34, by simp only [Act.put, List.setIfInBounds_toArray, List.set_cons_zero, List.set_cons_succ, e32], ⟨fun h => F.K (fun x => h (Or.inr x)), F.z2, F.z3, fun h => F.f0 (h.resolve_left (by decide)), fun h => F.f1 (h.resolve_left (by decide)), fun h hn => (F.f2 (h.resolve_left (by decide)) (fun x => hn (Or.inr x))), fun h => F.f3 (h.resolve_left (by decide)), fun h => F.f4 (h.resolve_left (by decide)), fun h hn => (F.f5 (h.resolve_left (by decide)) (fun x => hn (Or.inr x))), fun _ => ⟨t, rfl⟩, fun h => F.f7 (h.resolve_left (by decide)), fun h => absurd (hcl 8 6 (by kernel_rfl) (h.resolve_left (by decide))) hno⟩⟩
      refine StepsFrom.cons rfl (fun L a w' hI hno hdep hcl K hK => ?_) ?_
      · obtain ⟨v27, v28, v29, v30, v31, v32, v33, v34, ha, F⟩ := hI
        have e28 := F.f1 (hdep 1 (by kernel_rfl))
        subst ha
        simp only [Act.put, List.setIfInBounds_toArray, List.set_cons_zero, List.set_cons_succ, e28]
        go_simp
        exact hK.out _ _ ⟨v27, v28, v29, v30, v31, v32, v33, _, by simp only [Act.put, List.setIfInBounds_toArray, List.set_cons_zero, List.set_cons_succ, e28], ⟨fun h => F.K (fun x => h (Or.inr x)), F.z2, F.z3, fun h => F.f0 (h.resolve_left (by decide)), fun h => F.f1 (h.resolve_left (by decide)), fun h hn => (F.f2 (h.resolve_left (by decide)) (fun x => hn (Or.inr x))), fun h => F.f3 (h.resolve_left (by decide)), fun h => F.f4 (h.resolve_left (by decide)), fun h hn => (F.f5 (h.resolve_left (by decide)) (fun x => hn (Or.inr x))), fun h => F.f6 (h.resolve_left (by decide)), fun _ => rfl, fun h => absurd (hcl 8 7 (by kernel_rfl) (h.resolve_left (by decide))) hno⟩⟩
      refine StepsFrom.cons rfl (fun L a w' hI hno hdep hcl K hK => ?_) ?_
      · obtain ⟨v27, v28, v29, v30, v31, v32, v33, v34, ha, F⟩ := hI
        have e34 := F.f7 (hdep 7 (by kernel_rfl))
        obtain ⟨t, e33⟩ := F.f6 (hdep 6 (by kernel_rfl))
        have hAn := F.K hno
        obtain ⟨hk0, c0, hf, hl⟩ := hAn.left rfl
        subst ha
        simp only [Act.put, List.setIfInBounds_toArray, List.set_cons_zero, List.set_cons_succ, e34, e33]
        go_simp
        exact hK.out _ _ ⟨v27, v28, v29, v30, v31, v32, v33, v34, by simp only [Act.put, List.setIfInBounds_toArray, List.set_cons_zero, List.set_cons_succ, e34, e33], ⟨fun h => absurd (Or.inl rfl) h, F.z2.other (by show w.heap.size ≠ bk; omega) _, F.z3.other (by show w.heap.size + 1 ≠ bk; omega) _, fun h => F.f0 (h.resolve_left (by decide)), fun h => F.f1 (h.resolve_left (by decide)), fun _ hn => absurd (Or.inl rfl) hn, fun h => F.f3 (h.resolve_left (by decide)), fun h => F.f4 (h.resolve_left (by decide)), fun _ hn => absurd (Or.inl rfl) hn, fun h => F.f6 (h.resolve_left (by decide)), fun h => F.f7 (h.resolve_left (by decide)), fun _ => ⟨t, hAn.putL rfl t⟩⟩⟩
      exact StepsFrom.nil (by decide)
    case fin =>
      rintro L a' w5 ⟨v27, v28, v29, v30, v31, v32, v33, v34, rfl, F⟩ hL
      obtain ⟨v, K⟩ := F.f8 (hL 8 (by decide))
      obtain ⟨gz, K⟩ : ∃ gz : List Int, An w0 w B g A cp xs p4 p5 r d b (some ⟨bk, 0, none⟩) c gz tu si us ru fa w5 := ⟨_, K⟩
      have z2 := F.z2
      have z3 := F.z3
      clear F hL
      simp only [Act.put, List.setIfInBounds_toArray, List.set_cons_zero, List.set_cons_succ]
      go_wp2_with fail
      have K := K
      refine region_inv (fun a0 L a w' => ∃ v69 v70 : Value, a = ((a0.put (some 69) v69).put (some 70) v70) ∧ NrF69 w0 w B g A cp xs p4 p5 r d b (some ⟨bk, 0, none⟩) c gz tu si us ru fa L v69 v70 w') (by kernel_rfl) (by kernel_rfl) ?h0 ?hst ?fin
      case h0 =>
        exact ⟨_, _, by simp only [Act.put, List.setIfInBounds_toArray, List.set_cons_zero, List.set_cons_succ]; exact rfl, ⟨K.drew, fun _ => RowB.drew z2, fun _ => RowB.drew z3, fun h => (h : False).elim, fun h => (h : False).elim, fun h => (h : False).elim, fun h => (h : False).elim⟩⟩
      case hst =>
        refine StepsFrom.cons rfl (fun L a w' hI hno hdep hcl K hK => ?_) ?_
        · obtain ⟨v69, v70, ha, F⟩ := hI
          obtain ⟨c0, c1, c2⟩ := F.K.q4.c3
          subst ha
          simp only [Act.put, List.setIfInBounds_toArray, List.set_cons_zero, List.set_cons_succ]
          go_simp
          exact hK.out _ _ ⟨_, v70, by simp only [Act.put, List.setIfInBounds_toArray, List.set_cons_zero, List.set_cons_succ], ⟨F.K, fun h => F.z2 (fun x => h (Or.inr x)), fun h => F.z3 (fun x => h (Or.inr x)), fun _ => rfl, fun h => F.f1 (h.resolve_left (by decide)), fun h => F.f2 (h.resolve_left (by decide)), fun h => F.f3 (h.resolve_left (by decide))⟩⟩
        refine StepsFrom.cons rfl (fun L a w' hI hno hdep hcl K hK => ?_) ?_
        · obtain ⟨v69, v70, ha, F⟩ := hI
          obtain ⟨c0, c1, c2, c3, c4, c5⟩ := F.K.q5.c6
          subst ha
          simp only [Act.put, List.setIfInBounds_toArray, List.set_cons_zero, List.set_cons_succ]
          go_simp
          exact hK.out _ _ ⟨v69, _, by simp only [Act.put, List.setIfInBounds_toArray, List.set_cons_zero, List.set_cons_succ], ⟨F.K, fun h => F.z2 (fun x => h (Or.inr x)), fun h => F.z3 (fun x => h (Or.inr x)), fun h => F.f0 (h.resolve_left (by decide)), fun _ => rfl, fun h => F.f2 (h.resolve_left (by decide)), fun h => F.f3 (h.resolve_left (by decide))⟩⟩
        refine StepsFrom.cons rfl (fun L a w' hI hno hdep hcl K hK => ?_) ?_
        · obtain ⟨v69, v70, ha, F⟩ := hI
          have e69 := F.f0 (hdep 0 (by kernel_rfl))
          have hz := F.z2 hno
          obtain ⟨c0, c1, c2⟩ := hz.c3
          have hf := hz.frozen
          have hl := hz.lt
          subst ha
          simp only [Act.put, List.setIfInBounds_toArray, List.set_cons_zero, List.set_cons_succ, e69]
          go_simp
          exact hK.out _ _ ⟨v69, v70, by simp only [Act.put, List.setIfInBounds_toArray, List.set_cons_zero, List.set_cons_succ, e69], ⟨F.K.set2 _ _ _, fun h => absurd (Or.inl rfl) h, fun h => other3 (F.z3 (fun x => h (Or.inr x))) (by omega) _ _ _, fun h => F.f0 (h.resolve_left (by decide)), fun h => F.f1 (h.resolve_left (by decide)), fun _ => three hz _ _ _, fun h => other3 (F.f3 (h.resolve_left (by decide))) (by omega) _ _ _⟩⟩
        refine StepsFrom.cons rfl (fun L a w' hI hno hdep hcl K hK => ?_) ?_
        · obtain ⟨v69, v70, ha, F⟩ := hI
          have e70 := F.f1 (hdep 1 (by kernel_rfl))
          have hz := F.z3 hno
          obtain ⟨c0, c1, c2, c3, c4, c5⟩ := hz.c6
          have hf := hz.frozen
          have hl := hz.lt
          subst ha
          simp only [Act.put, List.setIfInBounds_toArray, List.set_cons_zero, List.set_cons_succ, e70]
          go_simp
          exact hK.out _ _ ⟨v69, v70, by simp only [Act.put, List.setIfInBounds_toArray, List.set_cons_zero, List.set_cons_succ, e70], ⟨F.K.set3 _ _ _ _ _ _, fun h => other6 (F.z2 (fun x => h (Or.inr x))) (by omega) _ _ _ _ _ _, fun h => absurd (Or.inl rfl) h, fun h => F.f0 (h.resolve_left (by decide)), fun h => F.f1 (h.resolve_left (by decide)), fun h => other6 (F.f2 (h.resolve_left (by decide))) (by omega) _ _ _ _ _ _, fun _ => six hz _ _ _ _ _ _⟩⟩
        exact StepsFrom.nil (by decide)
      case fin =>
        rintro L a' w9 ⟨v69, v70, rfl, F⟩ hL
        have R2 := F.f2 (hL 2 (by decide))
        have R3 := F.f3 (hL 3 (by decide))
        have K9 := F.K
        clear F hL
        simp only [Act.put, List.setIfInBounds_toArray, List.set_cons_zero, List.set_cons_succ]
        obtain ⟨a0, a1, a2⟩ := R2.c3
        obtain ⟨b0, b1, b2, b3, b4, b5⟩ := R3.c6
        go_wp2_with fail
        refine bodyPost_ret (v := .tuple #[.agg #[.int .i64 r, .int .i64 d, .int .i64 b], .agg #[.slice (some ⟨bk, 0, none⟩) (gz).length c, .int .i64 tu, .int .i64 si, .int .i64 us, .bool ru, .int .i64 fa]]) (by simp [results, Try.results61, go_sem, a0, a1, a2, b0, b1, b2, b3, b4, b5]) rfl ?_
        exact ⟨_, _, _, _, _, _, _, _, _, _, _, rfl, K9.D, K9.gr, K9.o⟩
  by_cases e2 : t = 2
  case pos =>
    subst e2
    go_wp2_with fail
    refine (next' (K.D) 4 (by decide)).mono ?_
    rintro e w5 ⟨⟨u, rfl, u0, u1, -⟩, hD, hg, -⟩
    have u1 := u1 (by decide)
    have K := K.grown hD hg
    have zz2 := z2.grown hg (fun k hk => by simp at hk; omega)
    have zz3 := z3.grown hg (fun k hk => by simp at hk; omega)
    clear z2 z3 hD hg
    have z2 := zz2
    have z3 := zz3
    clear zz2 zz3
    have eu : IntKind.i64.wrap (u - 1) = u - 1 := IntWalk.i64_in _ (by omega)
    obtain ⟨c0, c1, c2, c3, c4, c5⟩ := K.q5.c6
    have hf := K.q5.frozen
    have hl := K.q5.lt
    go_wp2_with fail
    refine wp_gen (fun W' => (∃ gz : List Int, An w0 w B g A cp xs p4 p5 r d b Al c gz (u - 1) si us ru fa W') ∧ RowB W' w.heap.size 25 [.int .i64 0, .int .i64 0, .int .i64 0] ∧ RowB W' (w.heap.size + 1) 30 [.slice none 0 0, .int .i64 0, .int .i64 0, .int .i64 0, .bool false, .int .i64 0]) ⟨⟨_, K.put5 (K.o) K.ap (j := 1) (u := .int .i64 (u - 1)) rfl⟩, z2.other (by show w.heap.size ≠ p5; omega) _, z3.other (by show w.heap.size + 1 ≠ p5; omega) _⟩ ?_
    clear K z2 z3 c0 c1 c2 c3 c4 c5 hf hl 
    rintro w6 ⟨⟨gz, K⟩, z2, z3⟩
    have K := K
    refine region_inv (fun a0 L a w' => ∃ v69 v70 : Value, a = ((a0.put (some 69) v69).put (some 70) v70) ∧ NrF69 w0 w B g A cp xs p4 p5 r d b Al c gz (u - 1) si us ru fa L v69 v70 w') (by kernel_rfl) (by kernel_rfl) ?h0 ?hst ?fin
    case h0 =>
      exact ⟨_, _, by simp only [Act.put, List.setIfInBounds_toArray, List.set_cons_zero, List.set_cons_succ]; exact rfl, ⟨K.drew, fun _ => RowB.drew z2, fun _ => RowB.drew z3, fun h => (h : False).elim, fun h => (h : False).elim, fun h => (h : False).elim, fun h => (h : False).elim⟩⟩
    case hst =>
      refine StepsFrom.cons rfl (fun L a w' hI hno hdep hcl K hK => ?_) ?_
      · obtain ⟨v69, v70, ha, F⟩ := hI
        obtain ⟨c0, c1, c2⟩ := F.K.q4.c3
        subst ha
        simp only [Act.put, List.setIfInBounds_toArray, List.set_cons_zero, List.set_cons_succ]
        go_simp
        exact hK.out _ _ ⟨_, v70, by simp only [Act.put, List.setIfInBounds_toArray, List.set_cons_zero, List.set_cons_succ], ⟨F.K, fun h => F.z2 (fun x => h (Or.inr x)), fun h => F.z3 (fun x => h (Or.inr x)), fun _ => rfl, fun h => F.f1 (h.resolve_left (by decide)), fun h => F.f2 (h.resolve_left (by decide)), fun h => F.f3 (h.resolve_left (by decide))⟩⟩
      refine StepsFrom.cons rfl (fun L a w' hI hno hdep hcl K hK => ?_) ?_
      · obtain ⟨v69, v70, ha, F⟩ := hI
        obtain ⟨c0, c1, c2, c3, c4, c5⟩ := F.K.q5.c6
        subst ha
        simp only [Act.put, List.setIfInBounds_toArray, List.set_cons_zero, List.set_cons_succ]
        go_simp
        exact hK.out _ _ ⟨v69, _, by simp only [Act.put, List.setIfInBounds_toArray, List.set_cons_zero, List.set_cons_succ], ⟨F.K, fun h => F.z2 (fun x => h (Or.inr x)), fun h => F.z3 (fun x => h (Or.inr x)), fun h => F.f0 (h.resolve_left (by decide)), fun _ => rfl, fun h => F.f2 (h.resolve_left (by decide)), fun h => F.f3 (h.resolve_left (by decide))⟩⟩
      refine StepsFrom.cons rfl (fun L a w' hI hno hdep hcl K hK => ?_) ?_
      · obtain ⟨v69, v70, ha, F⟩ := hI
        have e69 := F.f0 (hdep 0 (by kernel_rfl))
        have hz := F.z2 hno
        obtain ⟨c0, c1, c2⟩ := hz.c3
        have hf := hz.frozen
        have hl := hz.lt
        subst ha
        simp only [Act.put, List.setIfInBounds_toArray, List.set_cons_zero, List.set_cons_succ, e69]
        go_simp
        exact hK.out _ _ ⟨v69, v70, by simp only [Act.put, List.setIfInBounds_toArray, List.set_cons_zero, List.set_cons_succ, e69], ⟨F.K.set2 _ _ _, fun h => absurd (Or.inl rfl) h, fun h => other3 (F.z3 (fun x => h (Or.inr x))) (by omega) _ _ _, fun h => F.f0 (h.resolve_left (by decide)), fun h => F.f1 (h.resolve_left (by decide)), fun _ => three hz _ _ _, fun h => other3 (F.f3 (h.resolve_left (by decide))) (by omega) _ _ _⟩⟩
      refine StepsFrom.cons rfl (fun L a w' hI hno hdep hcl K hK => ?_) ?_
      · obtain ⟨v69, v70, ha, F⟩ := hI
        have e70 := F.f1 (hdep 1 (by kernel_rfl))
        have hz := F.z3 hno
        obtain ⟨c0, c1, c2, c3, c4, c5⟩ := hz.c6
        have hf := hz.frozen
        have hl := hz.lt
        subst ha
        simp only [Act.put, List.setIfInBounds_toArray, List.set_cons_zero, List.set_cons_succ, e70]
        go_simp
        exact hK.out _ _ ⟨v69, v70, by simp only [Act.put, List.setIfInBounds_toArray, List.set_cons_zero, List.set_cons_succ, e70], ⟨F.K.set3 _ _ _ _ _ _, fun h => other6 (F.z2 (fun x => h (Or.inr x))) (by omega) _ _ _ _ _ _, fun h => absurd (Or.inl rfl) h, fun h => F.f0 (h.resolve_left (by decide)), fun h => F.f1 (h.resolve_left (by decide)), fun h => other6 (F.f2 (h.resolve_left (by decide))) (by omega) _ _ _ _ _ _, fun _ => six hz _ _ _ _ _ _⟩⟩
      exact StepsFrom.nil (by decide)
    case fin =>
      rintro L a' w9 ⟨v69, v70, rfl, F⟩ hL
      have R2 := F.f2 (hL 2 (by decide))
      have R3 := F.f3 (hL 3 (by decide))
      have K9 := F.K
      clear F hL
      simp only [Act.put, List.setIfInBounds_toArray, List.set_cons_zero, List.set_cons_succ]
      obtain ⟨a0, a1, a2⟩ := R2.c3
      obtain ⟨b0, b1, b2, b3, b4, b5⟩ := R3.c6
      go_wp2_with fail
      refine bodyPost_ret (v := .tuple #[.agg #[.int .i64 r, .int .i64 d, .int .i64 b], .agg #[.slice Al (gz).length c, .int .i64 (u - 1), .int .i64 si, .int .i64 us, .bool ru, .int .i64 fa]]) (by simp [results, Try.results61, go_sem, a0, a1, a2, b0, b1, b2, b3, b4, b5]) rfl ?_
      exact ⟨_, _, _, _, _, _, _, _, _, _, _, rfl, K9.D, K9.gr, K9.o⟩
  by_cases e3 : t = 3
  case pos =>
    subst e3
    go_wp2_with fail
    refine (next' (K.D.alloc _) 3 (by decide)).mono ?_
    rintro e w5 ⟨⟨u, rfl, u0, u1, -⟩, hD, hg, -⟩
    have u1 := u1 (by decide)
    have hlg := K.D.lt
    have rb := (RowB.new w4 2 [.int .i64 (-1), .int .i64 100000001, .int .i64 100000000]).grown hg (fun k hk => by simp at hk; omega)
    have K := (K.alloc _).grown hD hg
    have zz2 := (z2.alloc _).grown hg (fun k hk => by simp at hk; omega)
    have zz3 := (z3.alloc _).grown hg (fun k hk => by simp at hk; omega)
    obtain ⟨m, rfl⟩ : ∃ m : Nat, u = m := ⟨u.toNat, by omega⟩
    obtain ⟨v, hv⟩ := pickI rb (by simp) (show m < _ from by simp; omega)
    clear rb hlg
    clear z2 z3 hD hg
    have z2 := zz2
    have z3 := zz3
    clear zz2 zz3
    obtain ⟨c0, c1, c2, c3, c4, c5⟩ := K.q5.c6
    have hf := K.q5.frozen
    have hl := K.q5.lt
    go_wp2_with fail
    refine wp_gen (fun W' => (∃ gz : List Int, An w0 w B g A cp xs p4 p5 r d b Al c gz tu v us ru fa W') ∧ RowB W' w.heap.size 25 [.int .i64 0, .int .i64 0, .int .i64 0] ∧ RowB W' (w.heap.size + 1) 30 [.slice none 0 0, .int .i64 0, .int .i64 0, .int .i64 0, .bool false, .int .i64 0]) ⟨⟨_, K.put5 (K.o) K.ap (j := 2) (u := .int .i64 v) rfl⟩, z2.other (by show w.heap.size ≠ p5; omega) _, z3.other (by show w.heap.size + 1 ≠ p5; omega) _⟩ ?_
    clear K z2 z3 c0 c1 c2 c3 c4 c5 hf hl hv
    rintro w6 ⟨⟨gz, K⟩, z2, z3⟩
    have K := K
    refine region_inv (fun a0 L a w' => ∃ v69 v70 : Value, a = ((a0.put (some 69) v69).put (some 70) v70) ∧ NrF69 w0 w B g A cp xs p4 p5 r d b Al c gz tu v us ru fa L v69 v70 w') (by kernel_rfl) (by kernel_rfl) ?h0 ?hst ?fin
    case h0 =>
      exact ⟨_, _, by simp only [Act.put, List.setIfInBounds_toArray, List.set_cons_zero, List.set_cons_succ]; exact rfl, ⟨K.drew, fun _ => RowB.drew z2, fun _ => RowB.drew z3, fun h => (h : False).elim, fun h => (h : False).elim, fun h => (h : False).elim, fun h => (h : False).elim⟩⟩
    case hst =>
      refine StepsFrom.cons rfl (fun L a w' hI hno hdep hcl K hK => ?_) ?_
      · obtain ⟨v69, v70, ha, F⟩ := hI
        obtain ⟨c0, c1, c2⟩ := F.K.q4.c3
        subst ha
        simp only [Act.put, List.setIfInBounds_toArray, List.set_cons_zero, List.set_cons_succ]
        go_simp
        exact hK.out _ _ ⟨_, v70, by simp only [Act.put, List.setIfInBounds_toArray, List.set_cons_zero, List.set_cons_succ], ⟨F.K, fun h => F.z2 (fun x => h (Or.inr x)), fun h => F.z3 (fun x => h (Or.inr x)), fun _ => rfl, fun h => F.f1 (h.resolve_left (by decide)), fun h => F.f2 (h.resolve_left (by decide)), fun h => F.f3 (h.resolve_left (by decide))⟩⟩
      refine StepsFrom.cons rfl (fun L a w' hI hno hdep hcl K hK => ?_) ?_
      · obtain ⟨v69, v70, ha, F⟩ := hI
        obtain ⟨c0, c1, c2, c3, c4, c5⟩ := F.K.q5.c6
        subst ha
        simp only [Act.put, List.setIfInBounds_toArray, List.set_cons_zero, List.set_cons_succ]
        go_simp
        exact hK.out _ _ ⟨v69, _, by simp only [Act.put, List.setIfInBounds_toArray, List.set_cons_zero, List.set_cons_succ], ⟨F.K, fun h => F.z2 (fun x => h (Or.inr x)), fun h => F.z3 (fun x => h (Or.inr x)), fun h => F.f0 (h.resolve_left (by decide)), fun _ => rfl, fun h => F.f2 (h.resolve_left (by decide)), fun h => F.f3 (h.resolve_left (by decide))⟩⟩
      refine StepsFrom.cons rfl (fun L a w' hI hno hdep hcl K hK => ?_) ?_
      · obtain ⟨v69, v70, ha, F⟩ := hI
        have e69 := F.f0 (hdep 0 (by kernel_rfl))
        have hz := F.z2 hno
        obtain ⟨c0, c1, c2⟩ := hz.c3
        have hf := hz.frozen
        have hl := hz.lt
        subst ha
        simp only [Act.put, List.setIfInBounds_toArray, List.set_cons_zero, List.set_cons_succ, e69]
        go_simp
        exact hK.out _ _ ⟨v69, v70, by simp only [Act.put, List.setIfInBounds_toArray, List.set_cons_zero, List.set_cons_succ, e69], ⟨F.K.set2 _ _ _, fun h => absurd (Or.inl rfl) h, fun h => other3 (F.z3 (fun x => h (Or.inr x))) (by omega) _ _ _, fun h => F.f0 (h.resolve_left (by decide)), fun h => F.f1 (h.resolve_left (by decide)), fun _ => three hz _ _ _, fun h => other3 (F.f3 (h.resolve_left (by decide))) (by omega) _ _ _⟩⟩
      refine StepsFrom.cons rfl (fun L a w' hI hno hdep hcl K hK => ?_) ?_
      · obtain ⟨v69, v70, ha, F⟩ := hI
        have e70 := F.f1 (hdep 1 (by kernel_rfl))
        have hz := F.z3 hno
        obtain ⟨c0, c1, c2, c3, c4, c5⟩ := hz.c6
        have hf := hz.frozen
        have hl := hz.lt
        subst ha
        simp only [Act.put, List.setIfInBounds_toArray, List.set_cons_zero, List.set_cons_succ, e70]
        go_simp
        exact hK.out _ _ ⟨v69, v70, by simp only [Act.put, List.setIfInBounds_toArray, List.set_cons_zero, List.set_cons_succ, e70], ⟨F.K.set3 _ _ _ _ _ _, fun h => other6 (F.z2 (fun x => h (Or.inr x))) (by omega) _ _ _ _ _ _, fun h => absurd (Or.inl rfl) h, fun h => F.f0 (h.resolve_left (by decide)), fun h => F.f1 (h.resolve_left (by decide)), fun h => other6 (F.f2 (h.resolve_left (by decide))) (by omega) _ _ _ _ _ _, fun _ => six hz _ _ _ _ _ _⟩⟩
      exact StepsFrom.nil (by decide)
    case fin =>
      rintro L a' w9 ⟨v69, v70, rfl, F⟩ hL
      have R2 := F.f2 (hL 2 (by decide))
      have R3 := F.f3 (hL 3 (by decide))
      have K9 := F.K
      clear F hL
      simp only [Act.put, List.setIfInBounds_toArray, List.set_cons_zero, List.set_cons_succ]
      obtain ⟨a0, a1, a2⟩ := R2.c3
      obtain ⟨b0, b1, b2, b3, b4, b5⟩ := R3.c6
      go_wp2_with fail
      refine bodyPost_ret (v := .tuple #[.agg #[.int .i64 r, .int .i64 d, .int .i64 b], .agg #[.slice Al (gz).length c, .int .i64 tu, .int .i64 v, .int .i64 us, .bool ru, .int .i64 fa]]) (by simp [results, Try.results61, go_sem, a0, a1, a2, b0, b1, b2, b3, b4, b5]) rfl ?_
      exact ⟨_, _, _, _, _, _, _, _, _, _, _, rfl, K9.D, K9.gr, K9.o⟩
  by_cases e4 : t = 4
  case pos =>
    subst e4
    go_wp2_with fail
    refine (next' (K.D.alloc _) 3 (by decide)).mono ?_
    rintro e w5 ⟨⟨u, rfl, u0, u1, -⟩, hD, hg, -⟩
    have u1 := u1 (by decide)
    have hlg := K.D.lt
    have rb := (RowB.new w4 2 [.int .i64 (-1), .int .i64 5, .int .i64 100000000]).grown hg (fun k hk => by simp at hk; omega)
    have K := (K.alloc _).grown hD hg
    have zz2 := (z2.alloc _).grown hg (fun k hk => by simp at hk; omega)
    have zz3 := (z3.alloc _).grown hg (fun k hk => by simp at hk; omega)
    obtain ⟨m, rfl⟩ : ∃ m : Nat, u = m := ⟨u.toNat, by omega⟩
    obtain ⟨v, hv⟩ := pickI rb (by simp) (show m < _ from by simp; omega)
    clear rb hlg
    clear z2 z3 hD hg
    have z2 := zz2
    have z3 := zz3
    clear zz2 zz3
    obtain ⟨c0, c1, c2, c3, c4, c5⟩ := K.q5.c6
    have hf := K.q5.frozen
    have hl := K.q5.lt
    go_wp2_with fail
    refine wp_gen (fun W' => (∃ gz : List Int, An w0 w B g A cp xs p4 p5 r d b Al c gz tu si v ru fa W') ∧ RowB W' w.heap.size 25 [.int .i64 0, .int .i64 0, .int .i64 0] ∧ RowB W' (w.heap.size + 1) 30 [.slice none 0 0, .int .i64 0, .int .i64 0, .int .i64 0, .bool false, .int .i64 0]) ⟨⟨_, K.put5 (K.o) K.ap (j := 3) (u := .int .i64 v) rfl⟩, z2.other (by show w.heap.size ≠ p5; omega) _, z3.other (by show w.heap.size + 1 ≠ p5; omega) _⟩ ?_
    clear K z2 z3 c0 c1 c2 c3 c4 c5 hf hl hv
    rintro w6 ⟨⟨gz, K⟩, z2, z3⟩
    have K := K
    refine region_inv (fun a0 L a w' => ∃ v69 v70 : Value, a = ((a0.put (some 69) v69).put (some 70) v70) ∧ NrF69 w0 w B g A cp xs p4 p5 r d b Al c gz tu si v ru fa L v69 v70 w') (by kernel_rfl) (by kernel_rfl) ?h0 ?hst ?fin
    case h0 =>
      exact ⟨_, _, by simp only [Act.put, List.setIfInBounds_toArray, List.set_cons_zero, List.set_cons_succ]; exact rfl, ⟨K.drew, fun _ => RowB.drew z2, fun _ => RowB.drew z3, fun h => (h : False).elim, fun h => (h : False).elim, fun h => (h : False).elim, fun h => (h : False).elim⟩⟩
    case hst =>
      refine StepsFrom.cons rfl (fun L a w' hI hno hdep hcl K hK => ?_) ?_
      · obtain ⟨v69, v70, ha, F⟩ := hI
        obtain ⟨c0, c1, c2⟩ := F.K.q4.c3
        subst ha
        simp only [Act.put, List.setIfInBounds_toArray, List.set_cons_zero, List.set_cons_succ]
        go_simp
        exact hK.out _ _ ⟨_, v70, by simp only [Act.put, List.setIfInBounds_toArray, List.set_cons_zero, List.set_cons_succ], ⟨F.K, fun h => F.z2 (fun x => h (Or.inr x)), fun h => F.z3 (fun x => h (Or.inr x)), fun _ => rfl, fun h => F.f1 (h.resolve_left (by decide)), fun h => F.f2 (h.resolve_left (by decide)), fun h => F.f3 (h.resolve_left (by decide))⟩⟩
      refine StepsFrom.cons rfl (fun L a w' hI hno hdep hcl K hK => ?_) ?_
      · obtain ⟨v69, v70, ha, F⟩ := hI
        obtain ⟨c0, c1, c2, c3, c4, c5⟩ := F.K.q5.c6
        subst ha
        simp only [Act.put, List.setIfInBounds_toArray, List.set_cons_zero, List.set_cons_succ]
        go_simp
        exact hK.out _ _ ⟨v69, _, by simp only [Act.put, List.setIfInBounds_toArray, List.set_cons_zero, List.set_cons_succ], ⟨F.K, fun h => F.z2 (fun x => h (Or.inr x)), fun h => F.z3 (fun x => h (Or.inr x)), fun h => F.f0 (h.resolve_left (by decide)), fun _ => rfl, fun h => F.f2 (h.resolve_left (by decide)), fun h => F.f3 (h.resolve_left (by decide))⟩⟩
      refine StepsFrom.cons rfl (fun L a w' hI hno hdep hcl K hK => ?_) ?_
      · obtain ⟨v69, v70, ha, F⟩ := hI
        have e69 := F.f0 (hdep 0 (by kernel_rfl))
        have hz := F.z2 hno
        obtain ⟨c0, c1, c2⟩ := hz.c3
        have hf := hz.frozen
        have hl := hz.lt
        subst ha
        simp only [Act.put, List.setIfInBounds_toArray, List.set_cons_zero, List.set_cons_succ, e69]
        go_simp
        exact hK.out _ _ ⟨v69, v70, by simp only [Act.put, List.setIfInBounds_toArray, List.set_cons_zero, List.set_cons_succ, e69], ⟨F.K.set2 _ _ _, fun h => absurd (Or.inl rfl) h, fun h => other3 (F.z3 (fun x => h (Or.inr x))) (by omega) _ _ _, fun h => F.f0 (h.resolve_left (by decide)), fun h => F.f1 (h.resolve_left (by decide)), fun _ => three hz _ _ _, fun h => other3 (F.f3 (h.resolve_left (by decide))) (by omega) _ _ _⟩⟩
      refine StepsFrom.cons rfl (fun L a w' hI hno hdep hcl K hK => ?_) ?_
      · obtain ⟨v69, v70, ha, F⟩ := hI
        have e70 := F.f1 (hdep 1 (by kernel_rfl))
        have hz := F.z3 hno
        obtain ⟨c0, c1, c2, c3, c4, c5⟩ := hz.c6
        have hf := hz.frozen
        have hl := hz.lt
        subst ha
        simp only [Act.put, List.setIfInBounds_toArray, List.set_cons_zero, List.set_cons_succ, e70]
        go_simp
        exact hK.out _ _ ⟨v69, v70, by simp only [Act.put, List.setIfInBounds_toArray, List.set_cons_zero, List.set_cons_succ, e70], ⟨F.K.set3 _ _ _ _ _ _, fun h => other6 (F.z2 (fun x => h (Or.inr x))) (by omega) _ _ _ _ _ _, fun h => absurd (Or.inl rfl) h, fun h => F.f0 (h.resolve_left (by decide)), fun h => F.f1 (h.resolve_left (by decide)), fun h => other6 (F.f2 (h.resolve_left (by decide))) (by omega) _ _ _ _ _ _, fun _ => six hz _ _ _ _ _ _⟩⟩
      exact StepsFrom.nil (by decide)
    case fin =>
      rintro L a' w9 ⟨v69, v70, rfl, F⟩ hL
      have R2 := F.f2 (hL 2 (by decide))
      have R3 := F.f3 (hL 3 (by decide))
      have K9 := F.K
      clear F hL
      simp only [Act.put, List.setIfInBounds_toArray, List.set_cons_zero, List.set_cons_succ]
      obtain ⟨a0, a1, a2⟩ := R2.c3
      obtain ⟨b0, b1, b2, b3, b4, b5⟩ := R3.c6
      go_wp2_with fail
      refine bodyPost_ret (v := .tuple #[.agg #[.int .i64 r, .int .i64 d, .int .i64 b], .agg #[.slice Al (gz).length c, .int .i64 tu, .int .i64 si, .int .i64 v, .bool ru, .int .i64 fa]]) (by simp [results, Try.results61, go_sem, a0, a1, a2, b0, b1, b2, b3, b4, b5]) rfl ?_
      exact ⟨_, _, _, _, _, _, _, _, _, _, _, rfl, K9.D, K9.gr, K9.o⟩
  by_cases e5 : t = 5
  case pos =>
    subst e5
    obtain ⟨c0, c1, c2, c3, c4, c5⟩ := K.q5.c6
    have hf := K.q5.frozen
    have hl := K.q5.lt
    go_wp2_with fail
    refine wp_gen (fun W' => (∃ gz : List Int, An w0 w B g A cp xs p4 p5 r d b Al c gz tu si us (!ru) fa W') ∧ RowB W' w.heap.size 25 [.int .i64 0, .int .i64 0, .int .i64 0] ∧ RowB W' (w.heap.size + 1) 30 [.slice none 0 0, .int .i64 0, .int .i64 0, .int .i64 0, .bool false, .int .i64 0]) ⟨⟨_, K.put5 (K.o) K.ap (j := 4) (u := .bool (!ru)) rfl⟩, z2.other (by show w.heap.size ≠ p5; omega) _, z3.other (by show w.heap.size + 1 ≠ p5; omega) _⟩ ?_
    clear K z2 z3 c0 c1 c2 c3 c4 c5 hf hl 
    rintro w6 ⟨⟨gz, K⟩, z2, z3⟩
    have K := K
    refine region_inv (fun a0 L a w' => ∃ v69 v70 : Value, a = ((a0.put (some 69) v69).put (some 70) v70) ∧ NrF69 w0 w B g A cp xs p4 p5 r d b Al c gz tu si us (!ru) fa L v69 v70 w') (by kernel_rfl) (by kernel_rfl) ?h0 ?hst ?fin
    case h0 =>
      exact ⟨_, _, by simp only [Act.put, List.setIfInBounds_toArray, List.set_cons_zero, List.set_cons_succ]; exact rfl, ⟨K.drew, fun _ => RowB.drew z2, fun _ => RowB.drew z3, fun h => (h : False).elim, fun h => (h : False).elim, fun h => (h : False).elim, fun h => (h : False).elim⟩⟩
    case hst =>
      refine StepsFrom.cons rfl (fun L a w' hI hno hdep hcl K hK => ?_) ?_
      · obtain ⟨v69, v70, ha, F⟩ := hI
        obtain ⟨c0, c1, c2⟩ := F.K.q4.c3
        subst ha
        simp only [Act.put, List.setIfInBounds_toArray, List.set_cons_zero, List.set_cons_succ]
        go_simp
        exact hK.out _ _ ⟨_, v70, by simp only [Act.put, List.setIfInBounds_toArray, List.set_cons_zero, List.set_cons_succ], ⟨F.K, fun h => F.z2 (fun x => h (Or.inr x)), fun h => F.z3 (fun x => h (Or.inr x)), fun _ => rfl, fun h => F.f1 (h.resolve_left (by decide)), fun h => F.f2 (h.resolve_left (by decide)), fun h => F.f3 (h.resolve_left (by decide))⟩⟩
      refine StepsFrom.cons rfl (fun L a w' hI hno hdep hcl K hK => ?_) ?_
      · obtain ⟨v69, v70, ha, F⟩ := hI
        obtain ⟨c0, c1, c2, c3, c4, c5⟩ := F.K.q5.c6
        subst ha
        simp only [Act.put, List.setIfInBounds_toArray, List.set_cons_zero, List.set_cons_succ]
        go_simp
        exact hK.out _ _ ⟨v69, _, by simp only [Act.put, List.setIfInBounds_toArray, List.set_cons_zero, List.set_cons_succ], ⟨F.K, fun h => F.z2 (fun x => h (Or.inr x)), fun h => F.z3 (fun x => h (Or.inr x)), fun h => F.f0 (h.resolve_left (by decide)), fun _ => rfl, fun h => F.f2 (h.resolve_left (by decide)), fun h => F.f3 (h.resolve_left (by decide))⟩⟩
      refine StepsFrom.cons rfl (fun L a w' hI hno hdep hcl K hK => ?_) ?_
      · obtain ⟨v69, v70, ha, F⟩ := hI
        have e69 := F.f0 (hdep 0 (by kernel_rfl))
        have hz := F.z2 hno
        obtain ⟨c0, c1, c2⟩ := hz.c3
        have hf := hz.frozen
        have hl := hz.lt
        subst ha
        simp only [Act.put, List.setIfInBounds_toArray, List.set_cons_zero, List.set_cons_succ, e69]
        go_simp
        exact hK.out _ _ ⟨v69, v70, by simp only [Act.put, List.setIfInBounds_toArray, List.set_cons_zero, List.set_cons_succ, e69], ⟨F.K.set2 _ _ _, fun h => absurd (Or.inl rfl) h, fun h => other3 (F.z3 (fun x => h (Or.inr x))) (by omega) _ _ _, fun h => F.f0 (h.resolve_left (by decide)), fun h => F.f1 (h.resolve_left (by decide)), fun _ => three hz _ _ _, fun h => other3 (F.f3 (h.resolve_left (by decide))) (by omega) _ _ _⟩⟩
      refine StepsFrom.cons rfl (fun L a w' hI hno hdep hcl K hK => ?_) ?_
      · obtain ⟨v69, v70, ha, F⟩ := hI
        have e70 := F.f1 (hdep 1 (by kernel_rfl))
        have hz := F.z3 hno
        obtain ⟨c0, c1, c2, c3, c4, c5⟩ := hz.c6
        have hf := hz.frozen
        have hl := hz.lt
        subst ha
        simp only [Act.put, List.setIfInBounds_toArray, List.set_cons_zero, List.set_cons_succ, e70]
        go_simp
        exact hK.out _ _ ⟨v69, v70, by simp only [Act.put, List.setIfInBounds_toArray, List.set_cons_zero, List.set_cons_succ, e70], ⟨F.K.set3 _ _ _ _ _ _, fun h => other6 (F.z2 (fun x => h (Or.inr x))) (by omega) _ _ _ _ _ _, fun h => absurd (Or.inl rfl) h, fun h => F.f0 (h.resolve_left (by decide)), fun h => F.f1 (h.resolve_left (by decide)), fun h => other6 (F.f2 (h.resolve_left (by decide))) (by omega) _ _ _ _ _ _, fun _ => six hz _ _ _ _ _ _⟩⟩
      exact StepsFrom.nil (by decide)
    case fin =>
      rintro L a' w9 ⟨v69, v70, rfl, F⟩ hL
      have R2 := F.f2 (hL 2 (by decide))
      have R3 := F.f3 (hL 3 (by decide))
      have K9 := F.K
      clear F hL
      simp only [Act.put, List.setIfInBounds_toArray, List.set_cons_zero, List.set_cons_succ]
      obtain ⟨a0, a1, a2⟩ := R2.c3
      obtain ⟨b0, b1, b2, b3, b4, b5⟩ := R3.c6
      go_wp2_with fail
      refine bodyPost_ret (v := .tuple #[.agg #[.int .i64 r, .int .i64 d, .int .i64 b], .agg #[.slice Al (gz).length c, .int .i64 tu, .int .i64 si, .int .i64 us, .bool (!ru), .int .i64 fa]]) (by simp [results, Try.results61, go_sem, a0, a1, a2, b0, b1, b2, b3, b4, b5]) rfl ?_
      exact ⟨_, _, _, _, _, _, _, _, _, _, _, rfl, K9.D, K9.gr, K9.o⟩
  by_cases e6 : t = 6
  case pos =>
    subst e6
    go_wp2_with fail
    refine (next' (K.D) 4 (by decide)).mono ?_
    rintro e w5 ⟨⟨u, rfl, u0, u1, -⟩, hD, hg, -⟩
    have u1 := u1 (by decide)
    have K := K.grown hD hg
    have zz2 := z2.grown hg (fun k hk => by simp at hk; omega)
    have zz3 := z3.grown hg (fun k hk => by simp at hk; omega)
    clear z2 z3 hD hg
    have z2 := zz2
    have z3 := zz3
    clear zz2 zz3
    have eu : IntKind.i64.wrap (u - 2) = u - 2 := IntWalk.i64_in _ (by omega)
    obtain ⟨c0, c1, c2, c3, c4, c5⟩ := K.q5.c6
    have hf := K.q5.frozen
    have hl := K.q5.lt
    go_wp2_with fail
    refine wp_gen (fun W' => (∃ gz : List Int, An w0 w B g A cp xs p4 p5 r d b Al c gz tu si us ru (u - 2) W') ∧ RowB W' w.heap.size 25 [.int .i64 0, .int .i64 0, .int .i64 0] ∧ RowB W' (w.heap.size + 1) 30 [.slice none 0 0, .int .i64 0, .int .i64 0, .int .i64 0, .bool false, .int .i64 0]) ⟨⟨_, K.put5 (K.o) K.ap (j := 5) (u := .int .i64 (u - 2)) rfl⟩, z2.other (by show w.heap.size ≠ p5; omega) _, z3.other (by show w.heap.size + 1 ≠ p5; omega) _⟩ ?_
    clear K z2 z3 c0 c1 c2 c3 c4 c5 hf hl 
    rintro w6 ⟨⟨gz, K⟩, z2, z3⟩
    have K := K
    refine region_inv (fun a0 L a w' => ∃ v69 v70 : Value, a = ((a0.put (some 69) v69).put (some 70) v70) ∧ NrF69 w0 w B g A cp xs p4 p5 r d b Al c gz tu si us ru (u - 2) L v69 v70 w') (by kernel_rfl) (by kernel_rfl) ?h0 ?hst ?fin
    case h0 =>
      exact ⟨_, _, by simp only [Act.put, List.setIfInBounds_toArray, List.set_cons_zero, List.set_cons_succ]; exact rfl, ⟨K.drew, fun _ => RowB.drew z2, fun _ => RowB.drew z3, fun h => (h : False).elim, fun h => (h : False).elim, fun h => (h : False).elim, fun h => (h : False).elim⟩⟩
    case hst =>
      refine StepsFrom.cons rfl (fun L a w' hI hno hdep hcl K hK => ?_) ?_
      · obtain ⟨v69, v70, ha, F⟩ := hI
        obtain ⟨c0, c1, c2⟩ := F.K.q4.c3
        subst ha
        simp only [Act.put, List.setIfInBounds_toArray, List.set_cons_zero, List.set_cons_succ]
        go_simp
        exact hK.out _ _ ⟨_, v70, by simp only [Act.put, List.setIfInBounds_toArray, List.set_cons_zero, List.set_cons_succ], ⟨F.K, fun h => F.z2 (fun x => h (Or.inr x)), fun h => F.z3 (fun x => h (Or.inr x)), fun _ => rfl, fun h => F.f1 (h.resolve_left (by decide)), fun h => F.f2 (h.resolve_left (by decide)), fun h => F.f3 (h.resolve_left (by decide))⟩⟩
      refine StepsFrom.cons rfl (fun L a w' hI hno hdep hcl K hK => ?_) ?_
      · obtain ⟨v69, v70, ha, F⟩ := hI
        obtain ⟨c0, c1, c2, c3, c4, c5⟩ := F.K.q5.c6
        subst ha
        simp only [Act.put, List.setIfInBounds_toArray, List.set_cons_zero, List.set_cons_succ]
        go_simp
        exact hK.out _ _ ⟨v69, _, by simp only [Act.put, List.setIfInBounds_toArray, List.set_cons_zero, List.set_cons_succ], ⟨F.K, fun h => F.z2 (fun x => h (Or.inr x)), fun h => F.z3 (fun x => h (Or.inr x)), fun h => F.f0 (h.resolve_left (by decide)), fun _ => rfl, fun h => F.f2 (h.resolve_left (by decide)), fun h => F.f3 (h.resolve_left (by decide))⟩⟩
      refine StepsFrom.cons rfl (fun L a w' hI hno hdep hcl K hK => ?_) ?_
      · obtain ⟨v69, v70, ha, F⟩ := hI
        have e69 := F.f0 (hdep 0 (by kernel_rfl))
        have hz := F.z2 hno
        obtain ⟨c0, c1, c2⟩ := hz.c3
        have hf := hz.frozen
        have hl := hz.lt
        subst ha
        simp only [Act.put, List.setIfInBounds_toArray, List.set_cons_zero, List.set_cons_succ, e69]
        go_simp
        exact hK.out _ _ ⟨v69, v70, by simp only [Act.put, List.setIfInBounds_toArray, List.set_cons_zero, List.set_cons_succ, e69], ⟨F.K.set2 _ _ _, fun h => absurd (Or.inl rfl) h, fun h => other3 (F.z3 (fun x => h (Or.inr x))) (by omega) _ _ _, fun h => F.f0 (h.resolve_left (by decide)), fun h => F.f1 (h.resolve_left (by decide)), fun _ => three hz _ _ _, fun h => other3 (F.f3 (h.resolve_left (by decide))) (by omega) _ _ _⟩⟩
      refine StepsFrom.cons rfl (fun L a w' hI hno hdep hcl K hK => ?_) ?_
      · obtain ⟨v69, v70, ha, F⟩ := hI
        have e70 := F.f1 (hdep 1 (by kernel_rfl))
        have hz := F.z3 hno
        obtain ⟨c0, c1, c2, c3, c4, c5⟩ := hz.c6
        have hf := hz.frozen
        have hl := hz.lt
        subst ha
        simp only [Act.put, List.setIfInBounds_toArray, List.set_cons_zero, List.set_cons_succ, e70]
        go_simp
        exact hK.out _ _ ⟨v69, v70, by simp only [Act.put, List.setIfInBounds_toArray, List.set_cons_zero, List.set_cons_succ, e70], ⟨F.K.set3 _ _ _ _ _ _, fun h => other6 (F.z2 (fun x => h (Or.inr x))) (by omega) _ _ _ _ _ _, fun h => absurd (Or.inl rfl) h, fun h => F.f0 (h.resolve_left (by decide)), fun h => F.f1 (h.resolve_left (by decide)), fun h => other6 (F.f2 (h.resolve_left (by decide))) (by omega) _ _ _ _ _ _, fun _ => six hz _ _ _ _ _ _⟩⟩
      exact StepsFrom.nil (by decide)
    case fin =>
      rintro L a' w9 ⟨v69, v70, rfl, F⟩ hL
      have R2 := F.f2 (hL 2 (by decide))
      have R3 := F.f3 (hL 3 (by decide))
      have K9 := F.K
      clear F hL
      simp only [Act.put, List.setIfInBounds_toArray, List.set_cons_zero, List.set_cons_succ]
      obtain ⟨a0, a1, a2⟩ := R2.c3
      obtain ⟨b0, b1, b2, b3, b4, b5⟩ := R3.c6
      go_wp2_with fail
      refine bodyPost_ret (v := .tuple #[.agg #[.int .i64 r, .int .i64 d, .int .i64 b], .agg #[.slice Al (gz).length c, .int .i64 tu, .int .i64 si, .int .i64 us, .bool ru, .int .i64 (u - 2)]]) (by simp [results, Try.results61, go_sem, a0, a1, a2, b0, b1, b2, b3, b4, b5]) rfl ?_
      exact ⟨_, _, _, _, _, _, _, _, _, _, _, rfl, K9.D, K9.gr, K9.o⟩
  have f0 : (t == 0) = false := by simp [e0]
  have f1 : (t == 1) = false := by simp [e1]
  have f2 : (t == 2) = false := by simp [e2]
  have f3 : (t == 3) = false := by simp [e3]
  have f4 : (t == 4) = false := by simp [e4]
  have f5 : (t == 5) = false := by simp [e5]
  have f6 : (t == 6) = false := by simp [e6]
  clear e0 e1 e2 e3 e4 e5 e6
  obtain ⟨gz, K⟩ : ∃ gz : List Int, An w0 w B g A cp xs p4 p5 r d b Al c gz tu si us ru fa w4 := ⟨_, K⟩
  go_wp2_with fail
  have K := K
  refine region_inv (fun a0 L a w' => ∃ v69 v70 : Value, a = ((a0.put (some 69) v69).put (some 70) v70) ∧ NrF69 w0 w B g A cp xs p4 p5 r d b Al c gz tu si us ru fa L v69 v70 w') (by kernel_rfl) (by kernel_rfl) ?h0 ?hst ?fin
  case h0 =>
    exact ⟨_, _, by simp only [Act.put, List.setIfInBounds_toArray, List.set_cons_zero, List.set_cons_succ]; exact rfl, ⟨K.drew, fun _ => RowB.drew z2, fun _ => RowB.drew z3, fun h => (h : False).elim, fun h => (h : False).elim, fun h => (h : False).elim, fun h => (h : False).elim⟩⟩
  case hst =>
    refine StepsFrom.cons rfl (fun L a w' hI hno hdep hcl K hK => ?_) ?_
    · obtain ⟨v69, v70, ha, F⟩ := hI
      obtain ⟨c0, c1, c2⟩ := F.K.q4.c3
      subst ha
      simp only [Act.put, List.setIfInBounds_toArray, List.set_cons_zero, List.set_cons_succ]
      go_simp
      exact hK.out _ _ ⟨_, v70, by simp only [Act.put, List.setIfInBounds_toArray, List.set_cons_zero, List.set_cons_succ], ⟨F.K, fun h => F.z2 (fun x => h (Or.inr x)), fun h => F.z3 (fun x => h (Or.inr x)), fun _ => rfl, fun h => F.f1 (h.resolve_left (by decide)), fun h => F.f2 (h.resolve_left (by decide)), fun h => F.f3 (h.resolve_left (by decide))⟩⟩
    refine StepsFrom.cons rfl (fun L a w' hI hno hdep hcl K hK => ?_) ?_
    · obtain ⟨v69, v70, ha, F⟩ := hI
      obtain ⟨c0, c1, c2, c3, c4, c5⟩ := F.K.q5.c6
      subst ha
      simp only [Act.put, List.setIfInBounds_toArray, List.set_cons_zero, List.set_cons_succ]
      go_simp
      exact hK.out _ _ ⟨v69, _, by simp only [Act.put, List.setIfInBounds_toArray, List.set_cons_zero, List.set_cons_succ], ⟨F.K, fun h => F.z2 (fun x => h (Or.inr x)), fun h => F.z3 (fun x => h (Or.inr x)), fun h => F.f0 (h.resolve_left (by decide)), fun _ => rfl, fun h => F.f2 (h.resolve_left (by decide)), fun h => F.f3 (h.resolve_left (by decide))⟩⟩
    refine StepsFrom.cons rfl (fun L a w' hI hno hdep hcl K hK => ?_) ?_
    · obtain ⟨v69, v70, ha, F⟩ := hI
      have e69 := F.f0 (hdep 0 (by kernel_rfl))
      have hz := F.z2 hno
      obtain ⟨c0, c1, c2⟩ := hz.c3
      have hf := hz.frozen
      have hl := hz.lt
      subst ha
      simp only [Act.put, List.setIfInBounds_toArray, List.set_cons_zero, List.set_cons_succ, e69]
      go_simp
      exact hK.out _ _ ⟨v69, v70, by simp only [Act.put, List.setIfInBounds_toArray, List.set_cons_zero, List.set_cons_succ, e69], ⟨F.K.set2 _ _ _, fun h => absurd (Or.inl rfl) h, fun h => other3 (F.z3 (fun x => h (Or.inr x))) (by omega) _ _ _, fun h => F.f0 (h.resolve_left (by decide)), fun h => F.f1 (h.resolve_left (by decide)), fun _ => three hz _ _ _, fun h => other3 (F.f3 (h.resolve_left (by decide))) (by omega) _ _ _⟩⟩
    refine StepsFrom.cons rfl (fun L a w' hI hno hdep hcl K hK => ?_) ?_
    · obtain ⟨v69, v70, ha, F⟩ := hI
      have e70 := F.f1 (hdep 1 (by kernel_rfl))
      have hz := F.z3 hno
      obtain ⟨c0, c1, c2, c3, c4, c5⟩ := hz.c6
      have hf := hz.frozen
      have hl := hz.lt
      subst ha
      simp only [Act.put, List.setIfInBounds_toArray, List.set_cons_zero, List.set_cons_succ, e70]
      go_simp
      exact hK.out _ _ ⟨v69, v70, by simp only [Act.put, List.setIfInBounds_toArray, List.set_cons_zero, List.set_cons_succ, e70], ⟨F.K.set3 _ _ _ _ _ _, fun h => other6 (F.z2 (fun x => h (Or.inr x))) (by omega) _ _ _ _ _ _, fun h => absurd (Or.inl rfl) h, fun h => F.f0 (h.resolve_left (by decide)), fun h => F.f1 (h.resolve_left (by decide)), fun h => other6 (F.f2 (h.resolve_left (by decide))) (by omega) _ _ _ _ _ _, fun _ => six hz _ _ _ _ _ _⟩⟩
    exact StepsFrom.nil (by decide)
  case fin =>
    rintro L a' w9 ⟨v69, v70, rfl, F⟩ hL
    have R2 := F.f2 (hL 2 (by decide))
    have R3 := F.f3 (hL 3 (by decide))
    have K9 := F.K
    clear F hL
    simp only [Act.put, List.setIfInBounds_toArray, List.set_cons_zero, List.set_cons_succ]
    obtain ⟨a0, a1, a2⟩ := R2.c3
    obtain ⟨b0, b1, b2, b3, b4, b5⟩ := R3.c6
    go_wp2_with fail
    refine bodyPost_ret (v := .tuple #[.agg #[.int .i64 r, .int .i64 d, .int .i64 b], .agg #[.slice Al (gz).length c, .int .i64 tu, .int .i64 si, .int .i64 us, .bool ru, .int .i64 fa]]) (by simp [results, Try.results61, go_sem, a0, a1, a2, b0, b1, b2, b3, b4, b5]) rfl ?_
    exact ⟨_, _, _, _, _, _, _, _, _, _, _, rfl, K9.D, K9.gr, K9.o⟩
end Go.Proofs.Ytdjopnhbcchedaa.DrawN
