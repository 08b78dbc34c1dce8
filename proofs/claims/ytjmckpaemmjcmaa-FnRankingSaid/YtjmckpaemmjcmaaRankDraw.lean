/-
  The draw of a list of ratings to be ranked. Conditions: each theorem's own.
-/
import Derived.Test.YtjmckpaemmjcmaaDrawL
set_option linter.unusedVariables false
namespace Go.Proofs.Ytjmckpaemmjcmaa.RankDraw
open Go.ChangeShapes Go.WideShapes Go.ChangeAt Go.RowKit Base Base2 Ints Own Draw DrawL Rating
theorem zeros2 (n : Nat) : (List.replicate n ((0, 0) : Int × Int)).flatMap enI2 = List.replicate (n * 2) (Value.int .i64 0) := by
  induction n with
  | zero => rfl
  | succ n ih => rw [List.replicate_succ, List.flatMap_cons, ih, Nat.succ_mul, Nat.add_comm, ← List.replicate_append_replicate]; rfl

set_option maxHeartbeats 4000000 in
set_option maxRecDepth 100000 in
theorem drawRank {w : World} {cp : Nat} {A : Option Addr} {xs : List Int} (hr : RdS w w.heap.size 1 enB A xs) (hw : ∀ x ∈ xs, (Lit.int .u8 x).wf = true) :
    Calls Try.prog 25 #[.slice A xs.length cp] w fun e w' => ∃ v ls, e = .returned v ∧ OwnS w' w.heap.size w'.heap.size 25 2 enI2 v ls ∧ ls.length ≤ 9 ∧ Below w.heap.size w w' := by
  obtain ⟨i4, hi4, hz0, hz1, hz2⟩ := info_parts infoR
  go_enter Try.func25, Try.ntmps25
  go_wp2_with fail
  refine (new_ hr hw).mono ?_
  rintro e w1 ⟨rfl, h1⟩
  have h1s := h1.bel.size
  go_wp2_with fail
  refine (list_ h1).mono ?_
  rintro e w2 ⟨v, u, ls, ms, rfl, K, h5, -⟩
  obtain ⟨A4, c4, rfl, _⟩ := K.o4.form enI2_len
  by_cases h0 : 0 < ls.length
  · have h0' : decide ((0 : Int) < (ls.length : Int)) = true := decide_eq_true (by omega)
    go_wp2_with fail
    refine (next' K.D 2 (by decide)).mono ?_
    rintro e w3 ⟨⟨y, rfl, y0, y1, -⟩, hD, hg, -⟩
    have K := K.grown hD hg
    clear hD hg
    by_cases hy : y = 0
    · subst hy
      obtain ⟨b, off, p, q, rfl, hb, hx, d0, d1⟩ := rdI2_at (K.o4.rd enI2_len) h0
      rw [Nat.zero_mul, Nat.add_zero] at d0 d1
      clear hx
      have hbg := K.gr.size
      go_wp2_with (at_builtin; refine wpL_app rfl _ _ _ rfl w1.heap.size _ 25 i4 (.agg #[.int .i64 0, .int .i64 0]) 2 16 Try.underlying35 hi4 hz0 hz1 hz2 rfl (by decide) enI2_len one_R (.slice (some ⟨b, off, none⟩) ls.length c4) ls [(p, q)] rfl ((K.alloc _).o4) ⟨w3.heap.size, 0, none⟩ 1 1 rfl rfl (news_new (RowB.new _ _ _)) (by decide) ?c1 ?c2 ?c3 ?_)
      case c1 => unfold maxLen; omega
      case c2 => omega
      case c3 => go_size
      intro k2 c2 w4 ho hg hat hlt4
      have K6 := (K.alloc _).app4 ho hg (hat.imp_right (fun h => by rw [World.size_alloc]; exact h))
      clear ho hg hat K
      have K := K6
      clear K6
      go_wp2_with fail
      refine (next' K.D 24 (by decide)).mono ?_
      rintro e w5 ⟨⟨t, rfl, t0, t1, -⟩, hD, hg, -⟩
      have K := K.grown hD hg
      clear hD hg
      by_cases et : t = 0
      · subst et
        go_wp2_with fail
        refine (next' K.D 2 (by decide)).mono ?_
        rintro e w6 ⟨⟨s, rfl, s0, s1, -⟩, hD, hg, -⟩
        have s1 := s1 (by decide)
        have K := K.grown hD hg
        clear hD hg
        have q6 := K.D.bel
        have z6 := q6.size
        obtain ⟨n, hn⟩ : ∃ n : Nat, 8 + s = (n : Int) := ⟨(8 + s).toNat, by omega⟩
        have en : IntKind.i64.wrap (8 + s) = (n : Int) := by rw [hn]; exact IntWalk.i64_in _ (by omega)
        have hn9 : n ≤ 9 := by omega
        clear hn s0 s1
        go_wp2_with (at_make; refine wpList_make_full _ rfl _ _ _ rfl w6.heap.size 25 i4 _ 2 Try.underlying35 hi4 hz0 hz1 _ _ _ _ n rfl rfl rfl rfl ?c1 ?c2 (Nat.le_refl _) ?_)
        case c1 => rw [hz2]; omega
        case c2 => unfold maxLen; omega
        intro w7 hown hgrow
        have hR := RowB.of_own hown
        have q7 : Below w6.heap.size w6 w7 := (Below.refl _ _).grown hgrow (Nat.le_refl _) (by simp)
        clear hown hgrow
        have hR : RowB w7 w6.heap.size 25 ((List.replicate n ((0, 0) : Int × Int)).flatMap enI2) := by rw [zeros2]; simpa [made_rep2] using hR
        have hlt7 := hR.lt
        go_wp2_with fail
        go_ret
        have ho := RowB.own hR enI2_len (lo := w.heap.size) (hi := w7.heap.size) z6 hlt7 (by rw [List.length_replicate]; unfold maxLen; omega)
        rw [List.length_replicate] at ho
        exact ⟨_, List.replicate n (0, 0), rfl, ho, by rw [List.length_replicate]; omega, q6.trans (q7.mono z6)⟩
      · have e1 : (t == 0) = false := by simp [et]
        clear et
        go_wp2_with fail
        go_ret
        exact ⟨_, ls ++ [(p, q)], rfl, OwnS.less K.o4 h1s, by simp; omega, K.D.bel⟩
    · have ey : (y == 0) = false := by simp [hy]
      clear hy
      go_wp2_with fail
      refine (next' K.D 24 (by decide)).mono ?_
      rintro e w5 ⟨⟨t, rfl, t0, t1, -⟩, hD, hg, -⟩
      have K := K.grown hD hg
      clear hD hg
      by_cases et : t = 0
      · subst et
        go_wp2_with fail
        refine (next' K.D 2 (by decide)).mono ?_
        rintro e w6 ⟨⟨s, rfl, s0, s1, -⟩, hD, hg, -⟩
        have s1 := s1 (by decide)
        have K := K.grown hD hg
        clear hD hg
        have q6 := K.D.bel
        have z6 := q6.size
        obtain ⟨n, hn⟩ : ∃ n : Nat, 8 + s = (n : Int) := ⟨(8 + s).toNat, by omega⟩
        have en : IntKind.i64.wrap (8 + s) = (n : Int) := by rw [hn]; exact IntWalk.i64_in _ (by omega)
        have hn9 : n ≤ 9 := by omega
        clear hn s0 s1
        go_wp2_with (at_make; refine wpList_make_full _ rfl _ _ _ rfl w6.heap.size 25 i4 _ 2 Try.underlying35 hi4 hz0 hz1 _ _ _ _ n rfl rfl rfl rfl ?c1 ?c2 (Nat.le_refl _) ?_)
        case c1 => rw [hz2]; omega
        case c2 => unfold maxLen; omega
        intro w7 hown hgrow
        have hR := RowB.of_own hown
        have q7 : Below w6.heap.size w6 w7 := (Below.refl _ _).grown hgrow (Nat.le_refl _) (by simp)
        clear hown hgrow
        have hR : RowB w7 w6.heap.size 25 ((List.replicate n ((0, 0) : Int × Int)).flatMap enI2) := by rw [zeros2]; simpa [made_rep2] using hR
        have hlt7 := hR.lt
        go_wp2_with fail
        go_ret
        have ho := RowB.own hR enI2_len (lo := w.heap.size) (hi := w7.heap.size) z6 hlt7 (by rw [List.length_replicate]; unfold maxLen; omega)
        rw [List.length_replicate] at ho
        exact ⟨_, List.replicate n (0, 0), rfl, ho, by rw [List.length_replicate]; omega, q6.trans (q7.mono z6)⟩
      · have e1 : (t == 0) = false := by simp [et]
        clear et
        go_wp2_with fail
        go_ret
        exact ⟨_, ls, rfl, OwnS.less K.o4 h1s, by omega, K.D.bel⟩
  · have h0' : decide ((0 : Int) < (ls.length : Int)) = false := decide_eq_false (by omega)
    go_wp2_with fail
    refine (next' K.D 24 (by decide)).mono ?_
    rintro e w5 ⟨⟨t, rfl, t0, t1, -⟩, hD, hg, -⟩
    have K := K.grown hD hg
    clear hD hg
    by_cases et : t = 0
    · subst et
      go_wp2_with fail
      refine (next' K.D 2 (by decide)).mono ?_
      rintro e w6 ⟨⟨s, rfl, s0, s1, -⟩, hD, hg, -⟩
      have s1 := s1 (by decide)
      have K := K.grown hD hg
      clear hD hg
      have q6 := K.D.bel
      have z6 := q6.size
      obtain ⟨n, hn⟩ : ∃ n : Nat, 8 + s = (n : Int) := ⟨(8 + s).toNat, by omega⟩
      have en : IntKind.i64.wrap (8 + s) = (n : Int) := by rw [hn]; exact IntWalk.i64_in _ (by omega)
      have hn9 : n ≤ 9 := by omega
      clear hn s0 s1
      go_wp2_with (at_make; refine wpList_make_full _ rfl _ _ _ rfl w6.heap.size 25 i4 _ 2 Try.underlying35 hi4 hz0 hz1 _ _ _ _ n rfl rfl rfl rfl ?c1 ?c2 (Nat.le_refl _) ?_)
      case c1 => rw [hz2]; omega
      case c2 => unfold maxLen; omega
      intro w7 hown hgrow
      have hR := RowB.of_own hown
      have q7 : Below w6.heap.size w6 w7 := (Below.refl _ _).grown hgrow (Nat.le_refl _) (by simp)
      clear hown hgrow
      have hR : RowB w7 w6.heap.size 25 ((List.replicate n ((0, 0) : Int × Int)).flatMap enI2) := by rw [zeros2]; simpa [made_rep2] using hR
      have hlt7 := hR.lt
      go_wp2_with fail
      go_ret
      have ho := RowB.own hR enI2_len (lo := w.heap.size) (hi := w7.heap.size) z6 hlt7 (by rw [List.length_replicate]; unfold maxLen; omega)
      rw [List.length_replicate] at ho
      exact ⟨_, List.replicate n (0, 0), rfl, ho, by rw [List.length_replicate]; omega, q6.trans (q7.mono z6)⟩
    · have e1 : (t == 0) = false := by simp [et]
      clear et
      go_wp2_with fail
      go_ret
      exact ⟨_, ls, rfl, OwnS.less K.o4 h1s, by omega, K.D.bel⟩
end Go.Proofs.Ytjmckpaemmjcmaa.RankDraw
