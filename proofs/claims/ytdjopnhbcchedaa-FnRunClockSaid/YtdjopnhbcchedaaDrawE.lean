/-
  The draw of clock events. Conditions: each theorem's own.
-/
import Derived.Test.YtdjopnhbcchedaaDrawK
import Derived.Test.YtdjopnhbcchedaaBase2
import Derived.Laws.AppendOwnNone
set_option linter.unusedVariables false
namespace Go.Proofs.Ytdjopnhbcchedaa.DrawE
open Go.ChangeShapes Go.WideShapes Go.ChangeAt Go.RowKit Base Base2 Ints Own Draw RegInv DrawK
variable {w0 w w' : World} {B g cp : Nat} {A : Option Addr} {xs : List Int}
theorem grown_own {a b c : World} {row row' : Option Nat} (h : a.grownBy b row) (k : b.grownBy c row') (hk : ∀ i, row' = some i → a.heap.size ≤ i) : a.grownBy c row :=
  ⟨k.os.trans h.os, k.tape.trans h.tape, k.output.trans h.output, Nat.le_trans h.size k.size, fun i hi hr => (k.block i (Nat.lt_of_lt_of_le hi h.size) (fun e => by have := hk i e.symm; omega)).trans (h.block i hi hr)⟩
theorem infoE : (Try.prog.info? 54).map (fun i => (i.zero, i.size, i.bytes)) = some (some (.agg #[.int .i64 0, .int .i64 0]), 2, 16) := by kernel_rfl
theorem one_E (x : Int × Int) : ∀ u ∈ enI2 x, u.oneCell' = true := by intro u hu; simp [enI2] at hu; rcases hu with rfl | rfl <;> rfl
theorem flat2_set (u : Int) : ∀ (ls : List (Int × Int)) (k j : Nat), k < ls.length → j < 2 → ∃ ls' : List (Int × Int), ls'.length = ls.length ∧ (ls.flatMap enI2).set (k * 2 + j) (.int .i64 u) = ls'.flatMap enI2 := by
  intro ls
  induction ls with
  | nil => intro k j h; simp at h
  | cons x ls ih =>
    intro k j hk hj
    obtain ⟨p, q⟩ := x
    cases k with
    | zero =>
      match j, hj with
      | 0, _ => exact ⟨(u, q) :: ls, rfl, by simp [enI2]⟩
      | 1, _ => exact ⟨(p, u) :: ls, rfl, by simp [enI2]⟩
    | succ k =>
      obtain ⟨ls', h1, h2⟩ := ih k j (by simpa using hk) hj
      refine ⟨(p, q) :: ls', by simp [h1], ?_⟩
      rw [List.flatMap_cons, List.flatMap_cons, ← h2, show (k + 1) * 2 + j = (k * 2 + j) + 2 from by omega]
      rfl
theorem ev_put {W : World} {b k j : Nat} {e : TypeId} {ls : List (Int × Int)} {rest : List Value} (h : RowB W b e (ls.flatMap enI2 ++ rest)) (hk : k < ls.length) (hj : j < 2) (u : Int) : ∃ ls' : List (Int × Int), ls'.length = ls.length ∧ RowB (W.setCell ⟨b, k * 2 + j, none⟩ (.int .i64 u)) b e (ls'.flatMap enI2 ++ rest) := by
  obtain ⟨ls', h1, h2⟩ := flat2_set u ls k j hk hj
  refine ⟨ls', h1, ?_⟩
  have := h.set (k * 2 + j) (.int .i64 u)
  rw [List.set_append_left _ _ (by rw [flatMap_len enI2_len]; omega), h2] at this
  exact this
/-- Events under way. -/
structure Ev (w0 w : World) (B g : Nat) (A : Option Addr) (cp : Nat) (xs : List Int) (v : Value) (ls : List (Int × Int)) (W : World) : Prop where
  D : Dr w0 B g A cp xs W
  gr : w.grownBy W (some g)
  o : OwnS W w.heap.size W.heap.size 54 2 enI2 v ls
  lt : g < w.heap.size
section
variable {v : Value} {ls : List (Int × Int)} {W W' : World}
theorem Ev.grown (h : Ev w0 w B g A cp xs v ls W) (hD : Dr w0 B g A cp xs W') (hg : W.grownBy W' (some g)) : Ev w0 w B g A cp xs v ls W' :=
  ⟨hD, grownBy_trans h.gr hg, (h.o.grown hg (fun k hk => by simp at hk; have := h.lt; omega)).more hg.size, h.lt⟩
theorem Ev.alloc (h : Ev w0 w B g A cp xs v ls W) (o : Obj) : Ev w0 w B g A cp xs v ls (W.alloc o) :=
  ⟨h.D.alloc _, grownBy_trans h.gr (World.grownBy_alloc _ _ _), (h.o.alloc _).more (by simp), h.lt⟩
theorem Ev.app (h : Ev w0 w B g A cp xs v ls W) {k c n : Nat} {ys : List (Int × Int)} (ho : OwnS W' w.heap.size W'.heap.size 54 2 enI2 (.slice (some ⟨k, 0, none⟩) n c) ys) (hg : W.grownBy W' v.ownBlock) (hat : v.ownBlock = some k ∨ k = W.heap.size) :
    Ev w0 w B g A cp xs (.slice (some ⟨k, 0, none⟩) n c) ys W' := by
  have hb := h.o.block
  have hl := h.lt
  have hB := h.D.base
  exact ⟨h.D.grown hg (fun i hi => by have := hb i hi; omega) (fun i hi => by have := hb i hi; omega), grown_own h.gr hg (fun i hi => (hb i hi).1), ho, h.lt⟩
theorem Ev.put (h : Ev w0 w B g A cp xs v ls W) {n c b m j : Nat} {Av : Option Addr} (hv : v = .slice Av n c) (hA : Av = some ⟨b, 0, none⟩) (hm : m < ls.length) (hj : j < 2) (u : Int) :
    ∃ ls' : List (Int × Int), ls'.length = ls.length ∧ Ev w0 w B g A cp xs v ls' (W.setCell ⟨b, m * 2 + j, none⟩ (.int .i64 u)) := by
  have hl := h.lt
  have hB := h.D.base
  subst hv hA
  rcases h.o.cases_ with ⟨h1, h2⟩ | ⟨gg, cap, rest, h1, glo, ghi, row, hnc, hcm, hlen⟩
  · simp only [Value.slice.injEq] at h1; cases h1.1
  · simp only [Value.slice.injEq, Option.some.injEq, Addr.mk.injEq, and_true] at h1
    obtain ⟨rfl, rfl, rfl⟩ := h1
    obtain ⟨ls', h3, h4⟩ := ev_put row hm hj u
    refine ⟨ls', h3, h.D.set (by omega) (by omega) _, grown_new h.gr glo _, ?_, h.lt⟩
    have := OwnS.mk_ (lo := w.heap.size) (hi := (W.setCell ⟨b, m * 2 + j, none⟩ (.int .i64 u)).heap.size) enI2_len h4 glo (by rw [World.size_setCell]; exact ghi) (by omega) hcm (by rw [h3]; exact hlen)
    rw [h3] at this
    exact this
end

set_option maxHeartbeats 4000000 in
set_option maxRecDepth 100000 in
theorem events (time : Int) (ht0 : 0 ≤ time) (ht1 : time ≤ 100) (h : Dr w0 B g A cp xs w) :
    Calls Try.prog 57 #[.pointer (some ⟨g, 0, none⟩), .int .i64 time] w fun e w' => ∃ v ls, e = .returned v ∧ Ev w0 w B g A cp xs v ls w' ∧ ls.length ≤ 14 := by
  obtain ⟨i5, hi5, hz0, hz1, hz2⟩ := info_parts infoE
  have hlt := h.lt
  have hbg := h.base
  go_enter Try.func57, Try.ntmps57
  go_wp2_with fail
  have K0 : Ev w0 w B g A cp xs (.slice (some ⟨w.heap.size, 0, none⟩) 0 0) [] (w.alloc (.cells #[] 54)) :=
    ⟨h.alloc _, World.grownBy_alloc _ _ _, (RowB.new w 54 []).own (xs := ([] : List (Int × Int))) (en := enI2) enI2_len (Nat.le_refl _) (by simp) (by decide), hlt⟩
  refine (next' K0.D 8 (by decide)).mono ?_
  rintro e w1 ⟨⟨x, rfl, x0, x1, -⟩, h1, hg1, -⟩
  have x1 := x1 (by decide)
  have K1 := K0.grown h1 hg1
  clear K0 hg1 h1
  go_wp2_with fail
  go_loopw [1, 5, 6] (fun t' v' i wr => ∃ (v : Value) (ls : List (Int × Int)) (j : Nat) (tm : Int), v = v' ∧ t' = .int .i64 tm ∧ i = .int .i64 (j : Int) ∧ 0 ≤ tm ∧ tm + 150 * j ≤ 2000 ∧ ls.length + 2 * j ≤ 14 ∧ Ev w0 w B g A cp xs v ls wr) (fun _ _ i _ => (intOf i).toNat)
  case atStart => exact ⟨_, [], x.toNat, _, rfl, rfl, by rw [Int.toNat_of_nonneg (by omega)], ht0, by omega, by simp; omega, K1⟩
  case round =>
    obtain ⟨v, ls, j, tm, rfl, rfl, rfl, tm0, tm1, hj, K⟩ := hrel
    clear K1
    by_cases j0 : 0 < j
    · obtain ⟨j, rfl⟩ : ∃ i, j = i + 1 := ⟨j - 1, by omega⟩
      go_wp2_with fail
      refine (next' K.D 60 (by decide)).mono ?_
      rintro e w2 ⟨⟨a, rfl, a0, a1, -⟩, hD, hg, -⟩
      have a1 := a1 (by decide)
      have K := K.grown hD hg
      clear hD hg
      go_wp2_with fail
      refine (next' (K.D.alloc _) 5 (by decide)).mono ?_
      rintro e w3 ⟨⟨d, rfl, d0, d1, -⟩, hD, hg, -⟩
      have d1 := d1 (by decide)
      have hlg := K.D.lt
      have rb := (RowB.new w2 2 [.int .i64 1, .int .i64 1, .int .i64 1, .int .i64 2, .int .i64 3]).grown hg (fun k hk => by simp at hk; omega)
      have K := (K.alloc _).grown hD hg
      obtain ⟨m, rfl⟩ : ∃ m : Nat, d = m := ⟨d.toNat, by omega⟩
      obtain ⟨kd, hkd⟩ := pickI rb (by simp) (show m < _ from by simp; omega)
      clear hD hg rb hlg
      have hgs := K.gr.size
      go_wp2_with (at_builtin; refine wpL_app rfl _ _ _ rfl w.heap.size _ 54 i5 (.agg #[.int .i64 0, .int .i64 0]) 2 16 Try.underlying47 hi5 hz0 hz1 hz2 rfl (by decide) enI2_len one_E v ls [(kd, tm + a)] rfl ((K.alloc _).o) ⟨w3.heap.size, 0, none⟩ 1 1 rfl rfl (news_new (RowB.new _ _ _)) (by decide) ?c1 ?c2 ?c3 ?_)
      case c1 => (try simp only [List.length_append, List.length_cons, List.length_nil]); unfold maxLen; omega
      case c2 => (try simp only [List.length_append, List.length_cons, List.length_nil]); omega
      case c3 => go_size
      intro k2 c2 w4 ho hg hat hlt6
      have K := (K.alloc _).app ho hg (hat.imp_right (fun h => by rw [World.size_alloc]; exact h))
      clear ho hg hat
      clear hkd
      by_cases ek : kd = 2
      · subst ek
        go_wp2_with fail
        refine (next' K.D 90 (by decide)).mono ?_
        rintro e w5 ⟨⟨b, rfl, b0, b1, -⟩, hD, hg, -⟩
        have b1 := b1 (by decide)
        have K := K.grown hD hg
        clear hD hg
        have hgs := K.gr.size
        go_wp2_with (at_builtin; refine wpL_app rfl _ _ _ rfl w.heap.size _ 54 i5 (.agg #[.int .i64 0, .int .i64 0]) 2 16 Try.underlying47 hi5 hz0 hz1 hz2 rfl (by decide) enI2_len one_E (.slice (some ⟨k2, 0, none⟩) (ls.length + 1) c2) (ls ++ [_]) [(3, tm + a + b)] rfl ((K.alloc _).o) ⟨w5.heap.size, 0, none⟩ 1 1 rfl rfl (news_new (RowB.new _ _ _)) (by decide) ?c1 ?c2 ?c3 ?_)
        case c1 => (try simp only [List.length_append, List.length_cons, List.length_nil]); unfold maxLen; omega
        case c2 => (try simp only [List.length_append, List.length_cons, List.length_nil]); omega
        case c3 => go_size
        intro k3 c3 w6 ho hg hat hlt6
        have K := (K.alloc _).app ho hg (hat.imp_right (fun h => by rw [World.size_alloc]; exact h))
        clear ho hg hat
        go_wp2_with fail
        go_roundw
        case rel => exact ⟨_, _, j, _, rfl, rfl, by go_num, by omega, by omega, by simp; omega, K⟩
        case measure => simp [intOf] <;> omega
      · have ek' : (kd == 2) = false := by simp [ek]
        clear ek
        go_wp2_with fail
        go_roundw
        case rel => exact ⟨_, _, j, _, rfl, rfl, by go_num, by omega, by omega, by simp; omega, K⟩
        case measure => simp [intOf] <;> omega
    · obtain rfl : j = 0 := by omega
      obtain ⟨A4, c4, rfl, _⟩ := K.o.form enI2_len
      have hl14 : ls.length ≤ 14 := by omega
      clear hj
      by_cases hl0 : 0 < ls.length
      case neg =>
        go_wp2_with fail
        go_ret
        exact ⟨_, ls, rfl, K, hl14⟩
      go_wp2_with fail
      refine (next' K.D (ls.length : Int) (by omega)).mono ?_
      rintro e w2 ⟨⟨a, rfl, a0, a1, -⟩, hD, hg, -⟩
      have a1 := a1 (by omega)
      have K := K.grown hD hg
      clear hD hg
      obtain ⟨m, rfl⟩ : ∃ m : Nat, a = m := ⟨a.toNat, by omega⟩
      have hm : m < ls.length := by omega
      go_wp2_with fail
      refine (next' K.D 16 (by decide)).mono ?_
      rintro e w3 ⟨⟨t, rfl, t0, t1, -⟩, hD, hg, -⟩
      have K := K.grown hD hg
      clear hD hg
      by_cases e0 : t = 0
      case pos =>
        subst e0
        go_wp2_with fail
        refine (next' K.D 5 (by decide)).mono ?_
        rintro e w4 ⟨⟨u, rfl, u0, u1, -⟩, hD, hg, -⟩
        have K := K.grown hD hg
        clear hD hg
        obtain ⟨bb, off, p, q, hA, hbb, hx, y0, y1⟩ := rdI2_at (K.o.rd enI2_len) hm
        have hfr : ∀ o, w4.frozen? ⟨bb, o, none⟩ = false := by
          rcases K.o.cases_ with ⟨h1, h2⟩ | ⟨gg, cap, rest, h1, glo, ghi, row, hnc, hcm, hlen⟩
          · simp only [Value.slice.injEq] at h1; rw [hA] at h1; cases h1.1
          · simp only [Value.slice.injEq] at h1; rw [hA] at h1; simp only [Option.some.injEq, Addr.mk.injEq, and_true] at h1; intro o; rw [h1.1.1]; exact row.frozen o
        have hoff : off = 0 := by
          rcases K.o.cases_ with ⟨h1, h2⟩ | ⟨gg, cap, rest, h1, glo, ghi, row, hnc, hcm, hlen⟩
          · simp only [Value.slice.injEq] at h1; rw [hA] at h1; cases h1.1
          · simp only [Value.slice.injEq] at h1; rw [hA] at h1; simp only [Option.some.injEq, Addr.mk.injEq, and_true] at h1; exact h1.1.2
        subst hoff
        obtain ⟨ls', hl', K'⟩ := K.put (j := 0) rfl hA hm (by decide) u
        rw [Nat.zero_add] at y0 y1
        subst hA
        clear hx
        go_wp2_with fail
        go_ret
        exact ⟨_, ls', rfl, K', by omega⟩
      by_cases e1 : t = 1
      case pos =>
        subst e1
        go_wp2_with fail
        refine (next' (K.D.alloc _) 4 (by decide)).mono ?_
        rintro e w4 ⟨⟨d, rfl, d0, d1, -⟩, hD, hg, -⟩
        have d1 := d1 (by decide)
        have hlg := K.D.lt
        have rb := (RowB.new w3 2 [.int .i64 (-1), .int .i64 100000000, .int .i64 100000001, .int .i64 0]).grown hg (fun k hk => by simp at hk; omega)
        have K := (K.alloc _).grown hD hg
        obtain ⟨y, rfl⟩ : ∃ y : Nat, d = y := ⟨d.toNat, by omega⟩
        obtain ⟨u, hu⟩ := pickI rb (by simp) (show y < _ from by simp; omega)
        clear hD hg rb hlg
        obtain ⟨bb, off, p, q, hA, hbb, hx, y0, y1⟩ := rdI2_at (K.o.rd enI2_len) hm
        have hfr : ∀ o, w4.frozen? ⟨bb, o, none⟩ = false := by
          rcases K.o.cases_ with ⟨h1, h2⟩ | ⟨gg, cap, rest, h1, glo, ghi, row, hnc, hcm, hlen⟩
          · simp only [Value.slice.injEq] at h1; rw [hA] at h1; cases h1.1
          · simp only [Value.slice.injEq] at h1; rw [hA] at h1; simp only [Option.some.injEq, Addr.mk.injEq, and_true] at h1; intro o; rw [h1.1.1]; exact row.frozen o
        have hoff : off = 0 := by
          rcases K.o.cases_ with ⟨h1, h2⟩ | ⟨gg, cap, rest, h1, glo, ghi, row, hnc, hcm, hlen⟩
          · simp only [Value.slice.injEq] at h1; rw [hA] at h1; cases h1.1
          · simp only [Value.slice.injEq] at h1; rw [hA] at h1; simp only [Option.some.injEq, Addr.mk.injEq, and_true] at h1; exact h1.1.2
        subst hoff
        obtain ⟨ls', hl', K'⟩ := K.put (j := 1) rfl hA hm (by decide) u
        rw [Nat.zero_add] at y0 y1
        subst hA
        clear hx
        go_wp2_with fail
        go_ret
        exact ⟨_, ls', rfl, K', by omega⟩
      have f0 : (t == 0) = false := by simp [e0]
      have f1 : (t == 1) = false := by simp [e1]
      clear e0 e1
      go_wp2_with fail
      go_ret
      exact ⟨_, ls, rfl, K, hl14⟩
end Go.Proofs.Ytdjopnhbcchedaa.DrawE
