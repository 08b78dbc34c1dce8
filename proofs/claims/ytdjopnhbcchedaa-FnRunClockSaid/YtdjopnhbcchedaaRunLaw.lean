/-
  The law on running a clock: events are applied one after the other, up to the first one that cannot be applied. Conditions: none beyond the given row's.
-/
import Derived.Test.YtdjopnhbcchedaaDrawX
import Derived.Test.YtdjopnhbcchedaaPauseLaw
set_option linter.unusedVariables false
namespace Go.Proofs.Ytdjopnhbcchedaa.RunLaw
open Go.ChangeShapes Go.WideShapes Go.ChangeAt Go.RowKit Base Base2 Ints Own Draw RegInv Clock ClockSt ClockR ClockT ClockA ClockRun ClockStart DrawS DrawX

theorem likeI (B1 B2 : Nat) (A1 A2 : Option Addr) (c1 c2 : Nat) (xs : List Int) (w : World) (h1 : RdS w B1 1 enI A1 xs) (h2 : RdS w B2 1 enI A2 xs) :
    Calls Try.prog 33 #[.slice A1 xs.length c1, .slice A2 xs.length c2] w fun e w' => e = .returned (.bool true) ∧ Below w.heap.size w w' := by
  have hn := h1.len
  generalize hnn : xs.length = n at *
  have H := Lib.hid hnn; clear hnn
  go_enter Try.func33, Try.ntmps33
  go_wp2
  go_loopw [5] (fun i wr => ∃ k : Nat, k ≤ n ∧ i = .int .i64 k ∧ Hid (∃ m, wr = w.drewN m)) (fun i _ => n - (intOf i).toNat)
  case atStart => exact ⟨0, Nat.zero_le _, rfl, 0, rfl⟩
  case round =>
    obtain ⟨k, hk, rfl, hm⟩ := hrel
    by_cases hlt : k < n
    · obtain ⟨b, off, x, rfl, hb, hx, hc⟩ := rdI_at h1 (by rw [H.out]; exact hlt)
      obtain ⟨b', off', x', rfl, hb', hx', hc'⟩ := rdI_at h2 (by rw [H.out]; exact hlt)
      rw [hx] at hx'
      obtain rfl : x = x' := by simpa using hx'
      have d1 : wr.cell? ⟨b, off + k, none⟩ = some (.int .i64 x) := by obtain ⟨m, rfl⟩ := hm.out; exact hc
      have d2 : wr.cell? ⟨b', off' + k, none⟩ = some (.int .i64 x) := by obtain ⟨m, rfl⟩ := hm.out; exact hc'
      have e1 : (x != x) = false := by simp
      clear hx hx' hc hc'
      go_wp2
      go_quiet (fail)
      go_wp2
      go_roundw
      case rel => exact ⟨k + 1, by omega, by go_num, by obtain ⟨m, rfl⟩ := hm.out; exact ⟨_, World.drewN_drewN _ _ _⟩⟩
      case measure => simp [intOf]; omega
    · go_wp2
      go_ret
      obtain ⟨m, rfl⟩ := hm.out
      exact ⟨rfl, below_drewN (Below.refl _ _) _⟩


theorem st_ok {r d b turn time : Int} {gs : List Int} {tu si us : Int} {ru : Bool} {fa : Int} (h : stR r d b turn time = (gs, tu, si, us, ru, fa, 0)) : okCS r d b gs tu si us ru fa = true := by
  unfold stR at h
  split at h
  · rename_i h0
    unfold okCR at h0
    have h0 := of_decide_eq_true h0
    split at h
    · rename_i h1
      simp only [Prod.mk.injEq] at h
      obtain ⟨rfl, rfl, rfl, rfl, rfl, rfl, -⟩ := h
      exact PauseLaw.okCS_mk (by omega) (by omega) (by omega) (by omega) (by omega) (by omega) (by omega) (by omega) (.inl rfl)
    · simp only [Prod.mk.injEq] at h
      exact absurd h.2.2.2.2.2.2 (by decide)
  · simp only [Prod.mk.injEq] at h
    exact absurd h.2.2.2.2.2.2 (by decide)
theorem ap_ok {r d b : Int} {xs : List Int} {tu si us : Int} {ru : Bool} {fa kd tm : Int} {gs' : List Int} {tu' si' us' : Int} {ru' : Bool} {fa' : Int} (h0 : okCS r d b xs tu si us ru fa = true) (h : apR r d b xs tu si us ru fa kd tm = (gs', tu', si', us', ru', fa', 0)) : okCS r d b gs' tu' si' us' ru' fa' = true := by
  obtain ⟨x, y, rfl, hr, hd, hb, hx, hy, ht, hs, hu, hf⟩ := okCS_elim h0
  have hrb := rest_bd (d := d) (since := si) (used := us) (time := tm) (run := ru) ht hx.2 hy.2
  unfold apR at h
  rw [if_pos h0] at h
  split at h
  · rename_i h1
    have heb := elap_bd (run := ru) hs.1 hs.2 hu.1 hu.2 h1.2.1 h1.2.2
    split at h
    · rename_i h2
      obtain ⟨rfl, hru⟩ := h2
      split at h
      · simp only [Prod.mk.injEq] at h
        obtain ⟨rfl, rfl, rfl, rfl, rfl, rfl, -⟩ := h
        rcases ht with rfl | rfl
        · exact PauseLaw.okCS_mk hr hd hb (by omega) hy (.inl rfl) (by omega) (by omega) (.inr ⟨rfl, rfl⟩)
        · exact PauseLaw.okCS_mk hr hd hb hx (by omega) (.inr rfl) (by omega) (by omega) (.inr ⟨rfl, rfl⟩)
      · split at h
        · simp only [Prod.mk.injEq] at h
          obtain ⟨rfl, rfl, rfl, rfl, rfl, rfl, -⟩ := h
          rcases ht with rfl | rfl
          · exact PauseLaw.okCS_mk hr hd hb (by omega) hy (.inr (by omega)) (by omega) (by omega) (.inl rfl)
          · exact PauseLaw.okCS_mk hr hd hb hx (by omega) (.inl (by omega)) (by omega) (by omega) (.inl rfl)
        · split at h
          · simp only [Prod.mk.injEq] at h
            obtain ⟨rfl, rfl, rfl, rfl, rfl, rfl, -⟩ := h
            exact PauseLaw.okCS_mk hr hd hb hx hy ht (by omega) (by omega) (.inl rfl)
          · simp only [Prod.mk.injEq] at h
            obtain ⟨rfl, rfl, rfl, rfl, rfl, rfl, -⟩ := h
            exact PauseLaw.okCS_mk hr hd hb hx hy ht (by omega) hu (.inl rfl)
    · simp only [Prod.mk.injEq] at h
      exact absurd h.2.2.2.2.2.2 (by decide)
  · simp only [Prod.mk.injEq] at h
    exact absurd h.2.2.2.2.2.2 (by decide)

/-- In the law's loop: the rules' box p, the run's state in the box ps, the state now in the box pn, the events. -/
structure Lx (w0 : World) (sz p ps pn le he lF hF ln hn : Nat) (r d b : Int) (Ae : Option Addr) (ce : Nat) (evs : List (Int × Int)) (AF : Option Addr) (cF : Nat) (gF : List Int) (tF sF uF : Int) (rF : Bool) (fF : Int) (An : Option Addr) (cn : Nat) (gs : List Int) (tu si us : Int) (ru : Bool) (fa : Int) (W : World) : Prop where
  q4 : RowB W p 25 [.int .i64 r, .int .i64 d, .int .i64 b]
  qs : RowB W ps 30 [.slice AF gF.length cF, .int .i64 tF, .int .i64 sF, .int .i64 uF, .bool rF, .int .i64 fF]
  qn : RowB W pn 30 [.slice An gs.length cn, .int .i64 tu, .int .i64 si, .int .i64 us, .bool ru, .int .i64 fa]
  oF : OwnS W lF hF 2 1 enI (.slice AF gF.length cF) gF
  on : OwnS W ln hn 2 1 enI (.slice An gs.length cn) gs
  oe : OwnS W le he 54 2 enI2 (.slice Ae evs.length ce) evs
  hz : sz ≤ W.heap.size ∧ hn ≤ sz
  hb : p < sz ∧ ps < sz ∧ pn < sz ∧ he ≤ sz ∧ hF ≤ sz ∧ w0.heap.size ≤ sz
  ha : p ≠ pn ∧ ps ≠ pn ∧ hF ≤ pn ∧ he ≤ pn ∧ w0.heap.size ≤ pn
  bel : Below w0.heap.size w0 W
section
variable {w0 w w' W W' : World} {sz p ps pn le he lF hF ln hn : Nat} {r d b : Int} {Ae : Option Addr} {ce : Nat} {evs : List (Int × Int)} {AF : Option Addr} {cF : Nat} {gF : List Int} {tF sF uF : Int} {rF : Bool} {fF : Int} {An : Option Addr} {cn : Nat} {gs : List Int} {tu si us : Int} {ru : Bool} {fa : Int}
theorem Lx.drew (h : Lx w0 sz p ps pn le he lF hF ln hn r d b Ae ce evs AF cF gF tF sF uF rF fF An cn gs tu si us ru fa W) : Lx w0 sz p ps pn le he lF hF ln hn r d b Ae ce evs AF cF gF tF sF uF rF fF An cn gs tu si us ru fa W.drew := ⟨h.q4.drew, h.qs.drew, h.qn.drew, h.oF, h.on, h.oe, h.hz, h.hb, h.ha, h.bel.drew⟩
theorem Lx.below (h : Lx w0 sz p ps pn le he lF hF ln hn r d b Ae ce evs AF cF gF tF sF uF rF fF An cn gs tu si us ru fa W) (hb : Below W.heap.size W W') : Lx w0 sz p ps pn le he lF hF ln hn r d b Ae ce evs AF cF gF tF sF uF rF fF An cn gs tu si us ru fa W' := by
  have h1 := h.hz
  have h2 := h.hb
  exact ⟨h.q4.below hb h.q4.lt, h.qs.below hb h.qs.lt, h.qn.below hb h.qn.lt, h.oF.below hb (by omega), h.on.below hb (by omega), h.oe.below hb (by omega), ⟨Nat.le_trans h1.1 hb.size, h1.2⟩, h.hb, h.ha, h.bel.trans (hb.mono h.bel.size)⟩
theorem Lx.alloc (h : Lx w0 sz p ps pn le he lF hF ln hn r d b Ae ce evs AF cF gF tF sF uF rF fF An cn gs tu si us ru fa W) (o : Obj) : Lx w0 sz p ps pn le he lF hF ln hn r d b Ae ce evs AF cF gF tF sF uF rF fF An cn gs tu si us ru fa (W.alloc o) := h.below ((Below.refl _ _).alloc (Nat.le_refl _) _)
theorem Lx.set1 (h : Lx w0 sz p ps pn le he lF hF ln hn r d b Ae ce evs AF cF gF tF sF uF rF fF An cn gs tu si us ru fa W) {x : Nat} (hx : sz ≤ x) (j : Nat) (u : Value) : Lx w0 sz p ps pn le he lF hF ln hn r d b Ae ce evs AF cF gF tF sF uF rF fF An cn gs tu si us ru fa (W.setCell ⟨x, j, none⟩ u) := by
  have h1 := h.hz
  have h2 := h.hb
  exact ⟨h.q4.other (by show p ≠ x; omega) _, h.qs.other (by show ps ≠ x; omega) _, h.qn.other (by show pn ≠ x; omega) _, h.oF.grown (grownBy_setCell W x j u) (fun k hk => by simp at hk; omega), h.on.grown (grownBy_setCell W x j u) (fun k hk => by simp at hk; omega), h.oe.grown (grownBy_setCell W x j u) (fun k hk => by simp at hk; omega), ⟨by rw [World.size_setCell]; exact h1.1, h1.2⟩, h.hb, h.ha, h.bel.setCell (by show w0.heap.size ≤ x; omega) _⟩
theorem Lx.set6 (h : Lx w0 sz p ps pn le he lF hF ln hn r d b Ae ce evs AF cF gF tF sF uF rF fF An cn gs tu si us ru fa W) {g : Nat} (hx : sz ≤ g) (u v x y z t : Value) : Lx w0 sz p ps pn le he lF hF ln hn r d b Ae ce evs AF cF gF tF sF uF rF fF An cn gs tu si us ru fa ((((((W.setCell ⟨g, 0, none⟩ u).setCell ⟨g, 1, none⟩ v).setCell ⟨g, 2, none⟩ x).setCell ⟨g, 3, none⟩ y).setCell ⟨g, 4, none⟩ z).setCell ⟨g, 5, none⟩ t) :=
  (((((h.set1 hx 0 u).set1 hx 1 v).set1 hx 2 x).set1 hx 3 y).set1 hx 4 z).set1 hx 5 t
/-- The next state is stored into the box. -/
theorem Lx.next (h : Lx w0 sz p ps pn le he lF hF ln hn r d b Ae ce evs AF cF gF tF sF uF rF fF An cn gs tu si us ru fa W) {A2 : Option Addr} {c2 : Nat} {g2 : List Int} {t2 s2 u2 : Int} {r2 : Bool} {y2 : Int} (hr : RowB W' pn 30 [.slice A2 g2.length c2, .int .i64 t2, .int .i64 s2, .int .i64 u2, .bool r2, .int .i64 y2]) (hg : W.grownBy W' (some pn)) (ho : OwnS W sz W.heap.size 2 1 enI (.slice A2 g2.length c2) g2) :
    Lx w0 W.heap.size p ps pn le he lF hF sz W.heap.size r d b Ae ce evs AF cF gF tF sF uF rF fF A2 c2 g2 t2 s2 u2 r2 y2 W' := by
  have h1 := h.hz
  have h2 := h.hb
  have h3 := h.ha
  exact ⟨h.q4.grown hg (fun k hk => by simp at hk; omega), h.qs.grown hg (fun k hk => by simp at hk; omega), hr, h.oF.grown hg (fun k hk => by simp at hk; omega), ho.grown hg (fun k hk => by simp at hk; omega), h.oe.grown hg (fun k hk => by simp at hk; omega), ⟨hg.size, Nat.le_refl _⟩, by omega, h.ha, h.bel.grown hg h.bel.size (fun k hk => by simp at hk; omega)⟩
end
theorem cell6 {W : World} {g : Nat} {p : Addr} (h : p.block ≠ g) (u v x y z t : Value) : ((((((W.setCell ⟨g, 0, none⟩ u).setCell ⟨g, 1, none⟩ v).setCell ⟨g, 2, none⟩ x).setCell ⟨g, 3, none⟩ y).setCell ⟨g, 4, none⟩ z).setCell ⟨g, 5, none⟩ t).cell? p = W.cell? p := by
  have e : ∀ (W : World) (j : Nat) (u : Value), (W.setCell ⟨g, j, none⟩ u).cell? p = W.cell? p := fun W j u => World.cell?_of_block (Below.heap_setCell _ _ _ _ h)
  rw [e, e, e, e, e, e]

structure RlF (w0 : World) (sz p ps pn le he lF hF ln hn : Nat) (r d b : Int) (Ae : Option Addr) (ce : Nat) (evs : List (Int × Int)) (AF : Option Addr) (cF : Nat) (gF : List Int) (tF sF uF : Int) (rF : Bool) (fF : Int) (An : Option Addr) (cn : Nat) (gs : List Int) (tu si us : Int) (ru : Bool) (fa : Int) (k n bk off : Nat) (kd tm : Int) (g2 : List Int) (t2 s2 u2 : Int) (r2 : Bool) (y2 co : Int) (L : Nat → Prop) (v15 v16 v86 v87 v88 v89 v90 v91 v92 v93 v94 v95 : Value) (w' : World) : Prop where
  K : Lx w0 sz p ps pn le he lF hF ln hn r d b Ae ce evs AF cF gF tF sF uF rF fF An cn gs tu si us ru fa w'
  cl : ∀ j u, (enI2 (kd, tm))[j]? = some u → w'.cell? ⟨bk, off + k * 2 + j, none⟩ = some u
  bl : bk < sz
  f0 : L 0 → v87 = .agg #[.int .i64 r, .int .i64 d, .int .i64 b]
  f1 : L 1 → v88 = .agg #[.slice An gs.length cn, .int .i64 tu, .int .i64 si, .int .i64 us, .bool ru, .int .i64 fa]
  f2 : L 2 → v89 = .slice (some ⟨bk, off, none⟩) n ce
  f3 : L 3 → v90 = .int .i64 (k : Int)
  f4 : L 4 → v91 = .pointer (some ⟨bk, off + k * 2, none⟩)
  f5 : L 5 → v92 = .agg #[.int .i64 kd, .int .i64 tm]
  f6 : L 6 → ∃ (A2 : Option Addr) (c2 : Nat), v93 = .tuple #[.agg #[.slice A2 g2.length c2, .int .i64 t2, .int .i64 s2, .int .i64 u2, .bool r2, .int .i64 y2], .int .i64 co] ∧ OwnS w' sz w'.heap.size 2 1 enI (.slice A2 g2.length c2) g2 ∧ (L 10 → ∀ j bx, v15 = .pointer (some ⟨bx, 0, none⟩) → (Value.slice A2 g2.length c2).ownBlock = some j → j ≠ bx)
  f7 : L 7 → v86 = v93
  f8 : L 8 → ∃ c, v86 = .tuple #[v94, c]
  f9 : L 9 → ∃ a, v86 = .tuple #[a, v95]
  f10 : L 10 → ¬ L 11 → ∃ bx, v15 = .pointer (some ⟨bx, 0, none⟩) ∧ sz ≤ bx ∧ RowB w' bx 30 [.slice none 0 0, .int .i64 0, .int .i64 0, .int .i64 0, .bool false, .int .i64 0]
  f11 : L 11 → ∃ bx, v15 = .pointer (some ⟨bx, 0, none⟩) ∧ sz ≤ bx ∧ ∃ (A2 : Option Addr) (c2 : Nat), v94 = .agg #[.slice A2 g2.length c2, .int .i64 t2, .int .i64 s2, .int .i64 u2, .bool r2, .int .i64 y2] ∧ RowB w' bx 30 [.slice A2 g2.length c2, .int .i64 t2, .int .i64 s2, .int .i64 u2, .bool r2, .int .i64 y2]
  f12 : L 12 → v16 = v95

set_option maxHeartbeats 4000000 in
set_option maxRecDepth 100000 in
theorem runL (Ac : Option Addr) (cpc : Nat) (cs : List Int) (W : World) (hr : RdS W W.heap.size 1 enB Ac cs) (hw : ∀ x ∈ cs, (Lit.int .u8 x).wf = true) :
    Calls Try.prog 8 #[.slice Ac cs.length cpc] W fun e w' => e = .returned (.bool true) ∧ Below W.heap.size W w' := by
  cases hbig : decide ((4096 : Int) < (cs.length : Int))
  case true =>
    have HB := Lib.hid hbig; clear hbig
    go_enter Try.func8, Try.ntmps8
    go_wp2_with fail
    refine (FlagLaw.bigF _ cpc Ac true HB.out _ hr.1).mono ?_
    rintro e w1 ⟨rfl, rfl⟩
    go_wp2_with fail
    go_ret
    exact ⟨rfl, Below.refl _ _⟩
  have HB := Lib.hid hbig; clear hbig
  go_enter Try.func8, Try.ntmps8
  go_wp2_with fail
  refine (FlagLaw.bigF _ cpc Ac false HB.out _ hr.1).mono ?_
  rintro e w1 ⟨rfl, rfl⟩
  go_wp2_with fail
  refine (run_ hr hw).mono ?_
  rintro e w2 ⟨r, d, b, turn, time, Ae, ce, evs, rfl, oe, h81, hb2⟩
  clear hr hw
  have hz2 := hb2.size
  go_upto_region 4 with (fail)
  refine wp_gen (fun W' => RowB W' w2.heap.size 25 [.int .i64 r, .int .i64 d, .int .i64 b] ∧ OwnS W' W.heap.size w2.heap.size 54 2 enI2 (.slice Ae evs.length ce) evs ∧ Below W.heap.size W W') ⟨RowB.new _ _ _, oe.alloc _, hb2.alloc hz2 _⟩ ?_
  clear oe hb2
  generalize w2.heap.size = p at *
  rintro w3 ⟨q4, oe, hb3⟩
  obtain ⟨⟨g1, t1, s1, u1, r1, f1, c1⟩, hS⟩ : ∃ z, stR r d b turn time = z := ⟨_, rfl⟩
  obtain ⟨⟨⟨gF, tF, sF, uF, rF, fF⟩, nF, cF1⟩, hR⟩ : ∃ z, rcR r d b turn time evs = z := ⟨_, rfl⟩
  obtain ⟨c0, c1', c2'⟩ := q4.c3
  have hl := q4.lt
  go_wp2_with fail
  refine (rc_impl r d b turn time Ae ce p evs _ gF tF sF uF rF fF nF cF1 (by omega) (oe.rd enI2_len) hR).mono ?_
  rintro e w4 ⟨AF, cF, rfl, hb, oF⟩
  have q4 := q4.below hb hl
  have oe := oe.below hb (by omega)
  have hb4 := hb3.trans (hb.mono hb3.size)
  have hs4 := hb.size
  clear hb c0 c1' c2' hb3
  go_upto_region 5 with (fail)
  refine wp_gen (fun W' => RowB W' p 25 [.int .i64 r, .int .i64 d, .int .i64 b] ∧ OwnS W' W.heap.size p 54 2 enI2 (.slice Ae evs.length ce) evs ∧ Below W.heap.size W W' ∧ RowB W' w4.heap.size 30 [.slice AF gF.length cF, .int .i64 tF, .int .i64 sF, .int .i64 uF, .bool rF, .int .i64 fF] ∧ OwnS W' w3.heap.size w4.heap.size 2 1 enI (.slice AF gF.length cF) gF ∧ w4.heap.size < W'.heap.size) ⟨q4.alloc _, oe.alloc _, hb4.alloc hb4.size _, RowB.new _ _ _, oF.alloc _, by simp⟩ ?_
  clear q4 oe hb4 oF
  generalize w4.heap.size = ps at *
  generalize w3.heap.size = lF at *
  rintro w5 ⟨q4, oe, hb5, qs, oF, hl5⟩
  obtain ⟨c0, c1', c2'⟩ := q4.c3
  go_wp2_with fail
  refine (st_impl r d b turn time _ g1 t1 s1 u1 r1 f1 c1 hS).mono ?_
  rintro e w6 ⟨An, cn, rfl, hb, on⟩
  have q4 := q4.below hb (by omega)
  have oe := oe.below hb (by omega)
  have qs := qs.below hb hl5
  have oF := oF.below hb (by omega)
  have hb6 := hb5.trans (hb.mono hb5.size)
  have hs6 := hb.size
  clear hb c0 c1' c2' hb5
  go_upto_region 6 with (fail)
  refine wp_gen (fun W' => Lx W W'.heap.size p ps w6.heap.size W.heap.size p lF ps w5.heap.size w6.heap.size r d b Ae ce evs AF cF gF tF sF uF rF fF An cn g1 t1 s1 u1 r1 f1 W') ⟨q4.alloc _, qs.alloc _, RowB.new _ _ _, oF.alloc _, on.alloc _, oe.alloc _, by simp, by simp only [World.size_alloc]; omega, by omega, hb6.alloc hb6.size _⟩ ?_
  clear q4 oe qs oF on hb6
  generalize w6.heap.size = pn at *
  generalize w5.heap.size = ln at *
  rintro w7 K
  obtain ⟨c0, c1', c2'⟩ := K.q4.c3
  go_wp2_with fail
  refine (st_spec r d b turn time _ g1 t1 s1 u1 r1 f1 c1 hS).mono ?_
  rintro e w8 ⟨Aw, cw, rfl, hb, ow⟩
  have K := K.below hb
  clear hb ow c0 c1' c2'
  have hcc : (c1 != c1) = false := by simp
  obtain ⟨c0, c1', c2'⟩ := K.q4.c3
  obtain ⟨a0, a1, a2, a3, a4, a5⟩ := K.qs.c6
  have hKb := K.hb
  have hKz := K.hz
  have lp : p < w8.heap.size := by omega
  have lps : ps < w8.heap.size := by omega
  have lpn : pn < w8.heap.size := by omega
  by_cases hc : c1 = 0
  case neg =>
    have hR2 : rcR r d b turn time evs = (([], 0, 0, 0, false, 0), 0, c1) := by unfold rcR; rw [hS]; simp only []; rw [if_neg hc]
    rw [hR2] at hR
    simp only [Prod.mk.injEq] at hR
    obtain ⟨⟨rfl, rfl, rfl, rfl, rfl, rfl⟩, rfl, rfl⟩ := hR
    have hc2 : (c1 != 0) = true := by simp [hc]
    have hc3 : (c1 == c1) = true := by simp
    clear hc hR2 hS
    go_wp2_with fail
    go_ret
    exact ⟨rfl, (K.alloc _).bel⟩
  subst hc
  by_cases hn : evs.length ≤ 80
  case neg =>
    have hR2 : rcR r d b turn time evs = (([], 0, 0, 0, false, 0), 0, 3) := by unfold rcR; rw [hS]; simp only [if_true]; rw [if_neg hn]
    rw [hR2] at hR
    simp only [Prod.mk.injEq] at hR
    obtain ⟨⟨rfl, rfl, rfl, rfl, rfl, rfl⟩, rfl, rfl⟩ := hR
    have hn2 : decide ((80 : Int) < (evs.length : Int)) = true := decide_eq_true (by omega)
    have hn3 : 80 < evs.length := by omega
    clear hR2 hS hn
    go_wp2_with fail
    go_ret
    exact ⟨rfl, (K.alloc _).bel⟩
  have hR2 : rcGo r d b (evs.drop 0) 0 (g1, t1, s1, u1, r1, f1) = ((gF, tF, sF, uF, rF, fF), nF, cF1) := by rw [← hR]; unfold rcR; rw [hS]; simp only [if_true]; rw [if_pos hn]; rfl
  have hok1 := st_ok hS
  obtain ⟨n, hn'⟩ : ∃ n, evs.length = n := ⟨_, rfl⟩
  have HN := Lib.hid hn'
  have K0 := K.alloc (.cells #[.slice Aw g1.length cw, .int .i64 t1, .int .i64 s1, .int .i64 u1, .bool r1, .int .i64 f1] 30 )
  have hn8 : n ≤ 80 := by omega
  have hd80 : decide ((80 : Int) < (n : Int)) = false := decide_eq_false (by omega)
  have HR2 := Lib.hid hR2
  have HK1 := Lib.hid hok1
  clear hR hR2 hok1 hS hn
  rw [hn']
  clear hn' K c0 c1' c2' a0 a1 a2 a3 a4 a5 h81
  go_wp2_with fail
  go_loopw [14] (fun s wq => ∃ (m : Nat) (sz ln hn : Nat) (An : Option Addr) (cn : Nat) (gs : List Int) (tu si us : Int) (ru : Bool) (fa : Int), m ≤ n ∧ s = .int .i64 (m : Int) ∧ Lx W sz p ps pn W.heap.size p lF ps ln hn r d b Ae ce evs AF cF gF tF sF uF rF fF An cn gs tu si us ru fa wq ∧ Hid (rcGo r d b (evs.drop m) m (gs, tu, si, us, ru, fa) = ((gF, tF, sF, uF, rF, fF), nF, cF1)) ∧ Hid (okCS r d b gs tu si us ru fa = true)) (fun s _ => n - (intOf s).toNat)
  case atStart => exact ⟨0, _, _, _, _, _, _, _, _, _, _, _, Nat.zero_le _, rfl, K0, HR2, HK1⟩
  case round =>
    clear K0 HR2 HK1 lp lps lpn hKb hKz
    obtain ⟨m, sz, ln, hn, An, cn, gs, tu, si, us, ru, fa, hm, rfl, K, HG, HO⟩ := hrel
    by_cases hmt : m < n
    · obtain ⟨bk, off, x, rfl, hbk, hx, hcl⟩ := (K.oe.rd enI2_len).at_ (i := m) (by rw [HN.out]; exact hmt)
      obtain ⟨kd, tm⟩ := x
      have hKb := K.hb
      have hbs : bk < wr.heap.size := by have := K.hz; omega
      have K : Lx W wr.heap.size p ps pn W.heap.size p lF ps ln hn r d b (some ⟨bk, off, none⟩) ce evs AF cF gF tF sF uF rF fF An cn gs tu si us ru fa wr := ⟨K.q4, K.qs, K.qn, K.oF, K.on, K.oe, ⟨Nat.le_refl _, by have := K.hz; omega⟩, by have := K.hz; omega, K.ha, K.bel⟩
      have hcl0 : ∀ j u, (enI2 (kd, tm))[j]? = some u → wr.drew.cell? ⟨bk, off + m * 2 + j, none⟩ = some u := hcl
      obtain ⟨⟨g2, t2, s2, u2, r2, y2, co⟩, hP⟩ : ∃ z, apR r d b gs tu si us ru fa kd tm = z := ⟨_, rfl⟩
      have HP := Lib.hid hP
      have HST := Lib.hid (rcGo_step (s := (gs, tu, si, us, ru, fa)) hx hP)
      clear hP hx hcl hbk hKb
      go_wp2_with fail
      refine region_inv (fun a0 L a w' => ∃ v15 v16 v86 v87 v88 v89 v90 v91 v92 v93 v94 v95 : Value, a = ((((((((((((a0.put (some 15) v15).put (some 16) v16).put (some 86) v86).put (some 87) v87).put (some 88) v88).put (some 89) v89).put (some 90) v90).put (some 91) v91).put (some 92) v92).put (some 93) v93).put (some 94) v94).put (some 95) v95) ∧ RlF W wr.heap.size p ps pn W.heap.size p lF ps ln hn r d b (some ⟨bk, off, none⟩) ce evs AF cF gF tF sF uF rF fF An cn gs tu si us ru fa m n bk off kd tm g2 t2 s2 u2 r2 y2 co L v15 v16 v86 v87 v88 v89 v90 v91 v92 v93 v94 v95 w') (by kernel_rfl) (by kernel_rfl) ?h0 ?hst ?fin
      case h0 =>
        exact ⟨_, _, _, _, _, _, _, _, _, _, _, _, by simp only [Act.put, List.setIfInBounds_toArray, List.set_cons_zero, List.set_cons_succ]; exact rfl, ⟨K.drew, hcl0, hbs, fun h => (h : False).elim, fun h => (h : False).elim, fun h => (h : False).elim, fun h => (h : False).elim, fun h => (h : False).elim, fun h => (h : False).elim, fun h => (h : False).elim, fun h => (h : False).elim, fun h => (h : False).elim, fun h => (h : False).elim, fun h => (h : False).elim, fun h => (h : False).elim, fun h => (h : False).elim⟩⟩
      case hst =>
        refine StepsFrom.cons rfl (fun L a w' hI hno hdep hcl K hK => ?_) ?_
        · obtain ⟨v15, v16, v86, v87, v88, v89, v90, v91, v92, v93, v94, v95, ha, F⟩ := hI
          obtain ⟨c0, c1, c2⟩ := F.K.q4.c3
          subst ha
          simp only [Act.put, List.setIfInBounds_toArray, List.set_cons_zero, List.set_cons_succ]
          go_simp
          exact hK.out _ _ ⟨v15, v16, v86, _, v88, v89, v90, v91, v92, v93, v94, v95, by simp only [Act.put, List.setIfInBounds_toArray, List.set_cons_zero, List.set_cons_succ], ⟨F.K, F.cl, F.bl, fun _ => rfl, fun h => F.f1 (h.resolve_left (by decide)), fun h => F.f2 (h.resolve_left (by decide)), fun h => F.f3 (h.resolve_left (by decide)), fun h => F.f4 (h.resolve_left (by decide)), fun h => F.f5 (h.resolve_left (by decide)), fun h => by obtain ⟨A2, c2, h1, h2, h3⟩ := F.f6 (h.resolve_left (by decide)); exact ⟨A2, c2, h1, h2, fun h4 => h3 (h4.resolve_left (by decide))⟩, fun h => F.f7 (h.resolve_left (by decide)), fun h => F.f8 (h.resolve_left (by decide)), fun h => F.f9 (h.resolve_left (by decide)), fun h hn => F.f10 (h.resolve_left (by decide)) (fun x => hn (Or.inr x)), fun h => F.f11 (h.resolve_left (by decide)), fun h => F.f12 (h.resolve_left (by decide))⟩⟩
        refine StepsFrom.cons rfl (fun L a w' hI hno hdep hcl K hK => ?_) ?_
        · obtain ⟨v15, v16, v86, v87, v88, v89, v90, v91, v92, v93, v94, v95, ha, F⟩ := hI
          obtain ⟨c0, c1, c2, c3, c4, c5⟩ := F.K.qn.c6
          subst ha
          simp only [Act.put, List.setIfInBounds_toArray, List.set_cons_zero, List.set_cons_succ]
          go_simp
          exact hK.out _ _ ⟨v15, v16, v86, v87, _, v89, v90, v91, v92, v93, v94, v95, by simp only [Act.put, List.setIfInBounds_toArray, List.set_cons_zero, List.set_cons_succ], ⟨F.K, F.cl, F.bl, fun h => F.f0 (h.resolve_left (by decide)), fun _ => rfl, fun h => F.f2 (h.resolve_left (by decide)), fun h => F.f3 (h.resolve_left (by decide)), fun h => F.f4 (h.resolve_left (by decide)), fun h => F.f5 (h.resolve_left (by decide)), fun h => by obtain ⟨A2, c2, h1, h2, h3⟩ := F.f6 (h.resolve_left (by decide)); exact ⟨A2, c2, h1, h2, fun h4 => h3 (h4.resolve_left (by decide))⟩, fun h => F.f7 (h.resolve_left (by decide)), fun h => F.f8 (h.resolve_left (by decide)), fun h => F.f9 (h.resolve_left (by decide)), fun h hn => F.f10 (h.resolve_left (by decide)) (fun x => hn (Or.inr x)), fun h => F.f11 (h.resolve_left (by decide)), fun h => F.f12 (h.resolve_left (by decide))⟩⟩
        refine StepsFrom.cons rfl (fun L a w' hI hno hdep hcl K hK => ?_) ?_
        · obtain ⟨v15, v16, v86, v87, v88, v89, v90, v91, v92, v93, v94, v95, ha, F⟩ := hI
          subst ha
          simp only [Act.put, List.setIfInBounds_toArray, List.set_cons_zero, List.set_cons_succ]
          go_simp
          exact hK.out _ _ ⟨v15, v16, v86, v87, v88, _, v90, v91, v92, v93, v94, v95, by simp only [Act.put, List.setIfInBounds_toArray, List.set_cons_zero, List.set_cons_succ], ⟨F.K, F.cl, F.bl, fun h => F.f0 (h.resolve_left (by decide)), fun h => F.f1 (h.resolve_left (by decide)), fun _ => rfl, fun h => F.f3 (h.resolve_left (by decide)), fun h => F.f4 (h.resolve_left (by decide)), fun h => F.f5 (h.resolve_left (by decide)), fun h => by obtain ⟨A2, c2, h1, h2, h3⟩ := F.f6 (h.resolve_left (by decide)); exact ⟨A2, c2, h1, h2, fun h4 => h3 (h4.resolve_left (by decide))⟩, fun h => F.f7 (h.resolve_left (by decide)), fun h => F.f8 (h.resolve_left (by decide)), fun h => F.f9 (h.resolve_left (by decide)), fun h hn => F.f10 (h.resolve_left (by decide)) (fun x => hn (Or.inr x)), fun h => F.f11 (h.resolve_left (by decide)), fun h => F.f12 (h.resolve_left (by decide))⟩⟩
        refine StepsFrom.cons rfl (fun L a w' hI hno hdep hcl K hK => ?_) ?_
        · obtain ⟨v15, v16, v86, v87, v88, v89, v90, v91, v92, v93, v94, v95, ha, F⟩ := hI
          subst ha
          simp only [Act.put, List.setIfInBounds_toArray, List.set_cons_zero, List.set_cons_succ]
          go_simp
          exact hK.out _ _ ⟨v15, v16, v86, v87, v88, v89, _, v91, v92, v93, v94, v95, by simp only [Act.put, List.setIfInBounds_toArray, List.set_cons_zero, List.set_cons_succ], ⟨F.K, F.cl, F.bl, fun h => F.f0 (h.resolve_left (by decide)), fun h => F.f1 (h.resolve_left (by decide)), fun h => F.f2 (h.resolve_left (by decide)), fun _ => rfl, fun h => F.f4 (h.resolve_left (by decide)), fun h => F.f5 (h.resolve_left (by decide)), fun h => by obtain ⟨A2, c2, h1, h2, h3⟩ := F.f6 (h.resolve_left (by decide)); exact ⟨A2, c2, h1, h2, fun h4 => h3 (h4.resolve_left (by decide))⟩, fun h => F.f7 (h.resolve_left (by decide)), fun h => F.f8 (h.resolve_left (by decide)), fun h => F.f9 (h.resolve_left (by decide)), fun h hn => F.f10 (h.resolve_left (by decide)) (fun x => hn (Or.inr x)), fun h => F.f11 (h.resolve_left (by decide)), fun h => F.f12 (h.resolve_left (by decide))⟩⟩
        refine StepsFrom.cons rfl (fun L a w' hI hno hdep hcl K hK => ?_) ?_
        · obtain ⟨v15, v16, v86, v87, v88, v89, v90, v91, v92, v93, v94, v95, ha, F⟩ := hI
          have e89 := F.f2 (hdep 2 (by kernel_rfl))
          have e90 := F.f3 (hdep 3 (by kernel_rfl))
          subst ha
          simp only [Act.put, List.setIfInBounds_toArray, List.set_cons_zero, List.set_cons_succ, e89, e90]
          go_simp
          exact hK.out _ _ ⟨v15, v16, v86, v87, v88, v89, v90, _, v92, v93, v94, v95, by simp only [Act.put, List.setIfInBounds_toArray, List.set_cons_zero, List.set_cons_succ, e89, e90], ⟨F.K, F.cl, F.bl, fun h => F.f0 (h.resolve_left (by decide)), fun h => F.f1 (h.resolve_left (by decide)), fun h => F.f2 (h.resolve_left (by decide)), fun h => F.f3 (h.resolve_left (by decide)), fun _ => rfl, fun h => F.f5 (h.resolve_left (by decide)), fun h => by obtain ⟨A2, c2, h1, h2, h3⟩ := F.f6 (h.resolve_left (by decide)); exact ⟨A2, c2, h1, h2, fun h4 => h3 (h4.resolve_left (by decide))⟩, fun h => F.f7 (h.resolve_left (by decide)), fun h => F.f8 (h.resolve_left (by decide)), fun h => F.f9 (h.resolve_left (by decide)), fun h hn => F.f10 (h.resolve_left (by decide)) (fun x => hn (Or.inr x)), fun h => F.f11 (h.resolve_left (by decide)), fun h => F.f12 (h.resolve_left (by decide))⟩⟩
        refine StepsFrom.cons rfl (fun L a w' hI hno hdep hcl K hK => ?_) ?_
        · obtain ⟨v15, v16, v86, v87, v88, v89, v90, v91, v92, v93, v94, v95, ha, F⟩ := hI
          have e91 := F.f4 (hdep 4 (by kernel_rfl))
          have c0 := F.cl 0 _ rfl
          have c1 := F.cl 1 _ rfl
          rw [Nat.add_zero] at c0
          subst ha
          simp only [Act.put, List.setIfInBounds_toArray, List.set_cons_zero, List.set_cons_succ, e91]
          go_simp
          exact hK.out _ _ ⟨v15, v16, v86, v87, v88, v89, v90, v91, _, v93, v94, v95, by simp only [Act.put, List.setIfInBounds_toArray, List.set_cons_zero, List.set_cons_succ, e91], ⟨F.K, F.cl, F.bl, fun h => F.f0 (h.resolve_left (by decide)), fun h => F.f1 (h.resolve_left (by decide)), fun h => F.f2 (h.resolve_left (by decide)), fun h => F.f3 (h.resolve_left (by decide)), fun h => F.f4 (h.resolve_left (by decide)), fun _ => rfl, fun h => by obtain ⟨A2, c2, h1, h2, h3⟩ := F.f6 (h.resolve_left (by decide)); exact ⟨A2, c2, h1, h2, fun h4 => h3 (h4.resolve_left (by decide))⟩, fun h => F.f7 (h.resolve_left (by decide)), fun h => F.f8 (h.resolve_left (by decide)), fun h => F.f9 (h.resolve_left (by decide)), fun h hn => F.f10 (h.resolve_left (by decide)) (fun x => hn (Or.inr x)), fun h => F.f11 (h.resolve_left (by decide)), fun h => F.f12 (h.resolve_left (by decide))⟩⟩
        refine StepsFrom.cons rfl (fun L a w' hI hno hdep hcl K hK => ?_) ?_
        · obtain ⟨v15, v16, v86, v87, v88, v89, v90, v91, v92, v93, v94, v95, ha, F⟩ := hI
          have e87 := F.f0 (hdep 0 (by kernel_rfl))
          have e88 := F.f1 (hdep 1 (by kernel_rfl))
          have e92 := F.f5 (hdep 5 (by kernel_rfl))
          have hK1 := F.K
          have hsz := hK1.hz
          subst ha
          simp only [Act.put, List.setIfInBounds_toArray, List.set_cons_zero, List.set_cons_succ, e87, e88, e92]
          go_simp
          refine (ap_impl r d b An cn hn gs tu si us ru fa kd tm w' g2 t2 s2 u2 r2 y2 co (by omega) (hK1.on.rd enI_len) HP.out).mono ?_
          rintro e w2 ⟨A2, c2, rfl, hb, h2⟩
          exact hK.out _ _ ⟨v15, v16, v86, v87, v88, v89, v90, v91, v92, _, v94, v95, by simp only [Act.put, List.setIfInBounds_toArray, List.set_cons_zero, List.set_cons_succ, e87, e88, e92], ⟨F.K.below hb, fun j u hu => (hb.cell (p := ⟨bk, off + m * 2 + j, none⟩) (by show bk < w'.heap.size; have := F.bl; omega)).trans (F.cl j u hu), F.bl, fun h => F.f0 (h.resolve_left (by decide)), fun h => F.f1 (h.resolve_left (by decide)), fun h => F.f2 (h.resolve_left (by decide)), fun h => F.f3 (h.resolve_left (by decide)), fun h => F.f4 (h.resolve_left (by decide)), fun h => F.f5 (h.resolve_left (by decide)), fun _ => ⟨A2, c2, rfl, h2.less hsz.1, fun h10 j bx hbx hj => by obtain ⟨bx', h3, h4, h5⟩ := F.f10 (h10.resolve_left (by decide)) (fun x => hno (hcl 11 6 (by kernel_rfl) x)); rw [h3] at hbx; simp only [Value.pointer.injEq, Option.some.injEq, Addr.mk.injEq, and_true] at hbx; have := h2.block j hj; have := h5.lt; omega⟩, fun h => absurd (hcl 7 6 (by kernel_rfl) (h.resolve_left (by decide))) hno, fun h => F.f8 (h.resolve_left (by decide)), fun h => F.f9 (h.resolve_left (by decide)), fun h hn => by obtain ⟨bx, h1, h2, h3⟩ := F.f10 (h.resolve_left (by decide)) (fun x => hn (Or.inr x)); exact ⟨bx, h1, h2, h3.below hb h3.lt⟩, fun h => absurd (hcl 11 6 (by kernel_rfl) (h.resolve_left (by decide))) hno, fun h => F.f12 (h.resolve_left (by decide))⟩⟩
        refine StepsFrom.cons rfl (fun L a w' hI hno hdep hcl K hK => ?_) ?_
        · obtain ⟨v15, v16, v86, v87, v88, v89, v90, v91, v92, v93, v94, v95, ha, F⟩ := hI
          subst ha
          simp only [Act.put, List.setIfInBounds_toArray, List.set_cons_zero, List.set_cons_succ]
          go_simp
          exact hK.out _ _ ⟨v15, v16, _, v87, v88, v89, v90, v91, v92, v93, v94, v95, by simp only [Act.put, List.setIfInBounds_toArray, List.set_cons_zero, List.set_cons_succ], ⟨F.K, F.cl, F.bl, fun h => F.f0 (h.resolve_left (by decide)), fun h => F.f1 (h.resolve_left (by decide)), fun h => F.f2 (h.resolve_left (by decide)), fun h => F.f3 (h.resolve_left (by decide)), fun h => F.f4 (h.resolve_left (by decide)), fun h => F.f5 (h.resolve_left (by decide)), fun h => by obtain ⟨A2, c2, h1, h2, h3⟩ := F.f6 (h.resolve_left (by decide)); exact ⟨A2, c2, h1, h2, fun h4 => h3 (h4.resolve_left (by decide))⟩, fun _ => rfl, fun h => absurd (hcl 8 7 (by kernel_rfl) (h.resolve_left (by decide))) hno, fun h => absurd (hcl 9 7 (by kernel_rfl) (h.resolve_left (by decide))) hno, fun h hn => F.f10 (h.resolve_left (by decide)) (fun x => hn (Or.inr x)), fun h => F.f11 (h.resolve_left (by decide)), fun h => F.f12 (h.resolve_left (by decide))⟩⟩
        refine StepsFrom.cons rfl (fun L a w' hI hno hdep hcl K hK => ?_) ?_
        · obtain ⟨v15, v16, v86, v87, v88, v89, v90, v91, v92, v93, v94, v95, ha, F⟩ := hI
          have e86 := F.f7 (hdep 7 (by kernel_rfl))
          obtain ⟨A2, c2, e93, h2, h3⟩ := F.f6 (hdep 6 (by kernel_rfl))
          subst ha
          simp only [Act.put, List.setIfInBounds_toArray, List.set_cons_zero, List.set_cons_succ, e86, e93]
          go_simp
          exact hK.out _ _ ⟨v15, v16, v86, v87, v88, v89, v90, v91, v92, v93, _, v95, by simp only [Act.put, List.setIfInBounds_toArray, List.set_cons_zero, List.set_cons_succ, e86, e93], ⟨F.K, F.cl, F.bl, fun h => F.f0 (h.resolve_left (by decide)), fun h => F.f1 (h.resolve_left (by decide)), fun h => F.f2 (h.resolve_left (by decide)), fun h => F.f3 (h.resolve_left (by decide)), fun h => F.f4 (h.resolve_left (by decide)), fun h => F.f5 (h.resolve_left (by decide)), fun h => by obtain ⟨A2, c2, h1, h2, h3⟩ := F.f6 (h.resolve_left (by decide)); exact ⟨A2, c2, h1, h2, fun h4 => h3 (h4.resolve_left (by decide))⟩, fun h => F.f7 (h.resolve_left (by decide)), fun _ => ⟨_, e86.trans e93⟩, fun h => F.f9 (h.resolve_left (by decide)), fun h hn => F.f10 (h.resolve_left (by decide)) (fun x => hn (Or.inr x)), fun h => absurd (hcl 11 8 (by kernel_rfl) (h.resolve_left (by decide))) hno, fun h => F.f12 (h.resolve_left (by decide))⟩⟩
        refine StepsFrom.cons rfl (fun L a w' hI hno hdep hcl K hK => ?_) ?_
        · obtain ⟨v15, v16, v86, v87, v88, v89, v90, v91, v92, v93, v94, v95, ha, F⟩ := hI
          have e86 := F.f7 (hdep 7 (by kernel_rfl))
          obtain ⟨A2, c2, e93, h2, h3⟩ := F.f6 (hdep 6 (by kernel_rfl))
          subst ha
          simp only [Act.put, List.setIfInBounds_toArray, List.set_cons_zero, List.set_cons_succ, e86, e93]
          go_simp
          exact hK.out _ _ ⟨v15, v16, v86, v87, v88, v89, v90, v91, v92, v93, v94, _, by simp only [Act.put, List.setIfInBounds_toArray, List.set_cons_zero, List.set_cons_succ, e86, e93], ⟨F.K, F.cl, F.bl, fun h => F.f0 (h.resolve_left (by decide)), fun h => F.f1 (h.resolve_left (by decide)), fun h => F.f2 (h.resolve_left (by decide)), fun h => F.f3 (h.resolve_left (by decide)), fun h => F.f4 (h.resolve_left (by decide)), fun h => F.f5 (h.resolve_left (by decide)), fun h => by obtain ⟨A2, c2, h1, h2, h3⟩ := F.f6 (h.resolve_left (by decide)); exact ⟨A2, c2, h1, h2, fun h4 => h3 (h4.resolve_left (by decide))⟩, fun h => F.f7 (h.resolve_left (by decide)), fun h => F.f8 (h.resolve_left (by decide)), fun _ => ⟨_, e86.trans e93⟩, fun h hn => F.f10 (h.resolve_left (by decide)) (fun x => hn (Or.inr x)), fun h => F.f11 (h.resolve_left (by decide)), fun h => absurd (hcl 12 9 (by kernel_rfl) (h.resolve_left (by decide))) hno⟩⟩
        refine StepsFrom.cons rfl (fun L a w' hI hno hdep hcl K hK => ?_) ?_
        · obtain ⟨v15, v16, v86, v87, v88, v89, v90, v91, v92, v93, v94, v95, ha, F⟩ := hI
          have hsz := F.K.hz
          subst ha
          simp only [Act.put, List.setIfInBounds_toArray, List.set_cons_zero, List.set_cons_succ]
          go_simp
          exact hK.out _ _ ⟨_, v16, v86, v87, v88, v89, v90, v91, v92, v93, v94, v95, by simp only [Act.put, List.setIfInBounds_toArray, List.set_cons_zero, List.set_cons_succ], ⟨F.K.alloc _, fun j u hu => (World.cell?_of_block (Below.heap_alloc _ _ _ (by show bk < w'.heap.size; have := F.bl; have := F.K.hz; omega))).trans (F.cl j u hu), F.bl, fun h => F.f0 (h.resolve_left (by decide)), fun h => F.f1 (h.resolve_left (by decide)), fun h => F.f2 (h.resolve_left (by decide)), fun h => F.f3 (h.resolve_left (by decide)), fun h => F.f4 (h.resolve_left (by decide)), fun h => F.f5 (h.resolve_left (by decide)), fun h => by obtain ⟨A2, c2, h1, h2, h3⟩ := F.f6 (h.resolve_left (by decide)); exact ⟨A2, c2, h1, (h2.alloc _).more (by simp), fun _ j bx hbx hj => by simp only [Value.pointer.injEq, Option.some.injEq, Addr.mk.injEq, and_true] at hbx; have := h2.2 j hj; omega⟩, fun h => F.f7 (h.resolve_left (by decide)), fun h => F.f8 (h.resolve_left (by decide)), fun h => F.f9 (h.resolve_left (by decide)), fun _ _ => ⟨_, rfl, by omega, RowB.new _ _ _⟩, fun h => absurd (hcl 11 10 (by kernel_rfl) (h.resolve_left (by decide))) hno, fun h => F.f12 (h.resolve_left (by decide))⟩⟩
        refine StepsFrom.cons rfl (fun L a w' hI hno hdep hcl K hK => ?_) ?_
        · obtain ⟨v15, v16, v86, v87, v88, v89, v90, v91, v92, v93, v94, v95, ha, F⟩ := hI
          obtain ⟨q1, e94⟩ := F.f8 (hdep 8 (by kernel_rfl))
          have e86 := F.f7 (hdep 7 (by kernel_rfl))
          obtain ⟨A2, c2, e93, h2, h3⟩ := F.f6 (hdep 6 (by kernel_rfl))
          rw [e86, e93] at e94
          simp only [Value.tuple.injEq, Array.mk.injEq, List.cons.injEq, and_true] at e94
          obtain ⟨e94, -⟩ := e94
          replace e94 := e94.symm
          obtain ⟨bx, e15, hx1, hx3⟩ := F.f10 (hdep 10 (by kernel_rfl)) hno
          obtain ⟨c0, c1, c2', c3, c4, c5⟩ := hx3.c6
          have hf := hx3.frozen
          have hl := hx3.lt
          have h10 := hdep 10 (by kernel_rfl)
          have h5 : ∀ j, (Value.slice A2 g2.length c2).ownBlock = some j → j ≠ bx := fun j hj => h3 h10 j bx e15 hj
          subst ha
          simp only [Act.put, List.setIfInBounds_toArray, List.set_cons_zero, List.set_cons_succ, e15, e94, e86, e93]
          go_simp
          exact hK.out _ _ ⟨v15, v16, v86, v87, v88, v89, v90, v91, v92, v93, v94, v95, by simp only [Act.put, List.setIfInBounds_toArray, List.set_cons_zero, List.set_cons_succ, e15, e94, e86, e93], ⟨F.K.set6 (by omega) _ _ _ _ _ _, fun j u hu => (cell6 (by show bk ≠ bx; have := F.bl; omega) _ _ _ _ _ _).trans (F.cl j u hu), F.bl, fun h => F.f0 (h.resolve_left (by decide)), fun h => F.f1 (h.resolve_left (by decide)), fun h => F.f2 (h.resolve_left (by decide)), fun h => F.f3 (h.resolve_left (by decide)), fun h => F.f4 (h.resolve_left (by decide)), fun h => F.f5 (h.resolve_left (by decide)), fun _ => ⟨A2, c2, e93, own6 h2 h5 _ _ _ _ _ _, fun _ => h3 h10⟩, fun h => F.f7 (h.resolve_left (by decide)), fun h => F.f8 (h.resolve_left (by decide)), fun h => F.f9 (h.resolve_left (by decide)), fun _ hn => absurd (Or.inl rfl) hn, fun _ => ⟨bx, e15, hx1, A2, c2, e94, six hx3 _ _ _ _ _ _⟩, fun h => F.f12 (h.resolve_left (by decide))⟩⟩
        refine StepsFrom.cons rfl (fun L a w' hI hno hdep hcl K hK => ?_) ?_
        · obtain ⟨v15, v16, v86, v87, v88, v89, v90, v91, v92, v93, v94, v95, ha, F⟩ := hI
          subst ha
          simp only [Act.put, List.setIfInBounds_toArray, List.set_cons_zero, List.set_cons_succ]
          go_simp
          exact hK.out _ _ ⟨v15, v95, v86, v87, v88, v89, v90, v91, v92, v93, v94, v95, by simp only [Act.put, List.setIfInBounds_toArray, List.set_cons_zero, List.set_cons_succ], ⟨F.K, F.cl, F.bl, fun h => F.f0 (h.resolve_left (by decide)), fun h => F.f1 (h.resolve_left (by decide)), fun h => F.f2 (h.resolve_left (by decide)), fun h => F.f3 (h.resolve_left (by decide)), fun h => F.f4 (h.resolve_left (by decide)), fun h => F.f5 (h.resolve_left (by decide)), fun h => by obtain ⟨A2, c2, h1, h2, h3⟩ := F.f6 (h.resolve_left (by decide)); exact ⟨A2, c2, h1, h2, fun h4 => h3 (h4.resolve_left (by decide))⟩, fun h => F.f7 (h.resolve_left (by decide)), fun h => F.f8 (h.resolve_left (by decide)), fun h => F.f9 (h.resolve_left (by decide)), fun h hn => F.f10 (h.resolve_left (by decide)) (fun x => hn (Or.inr x)), fun h => F.f11 (h.resolve_left (by decide)), fun _ => rfl⟩⟩
        exact StepsFrom.nil (by decide)
      case fin =>
        rintro L a' w9 ⟨v15, v16, v86, v87, v88, v89, v90, v91, v92, v93, v94, v95, rfl, F⟩ hL
        obtain ⟨bx, e15, hx1, A2', c2', e94', hrow⟩ := F.f11 (hL 11 (by decide))
        obtain ⟨q1, e94⟩ := F.f8 (hL 8 (by decide))
        obtain ⟨q2, e95⟩ := F.f9 (hL 9 (by decide))
        have e16 := F.f12 (hL 12 (by decide))
        have e86 := F.f7 (hL 7 (by decide))
        obtain ⟨A2, c2, e93, h2, h3⟩ := F.f6 (hL 6 (by decide))
        rw [e86, e93, e94'] at e94
        rw [e86, e93] at e95
        simp only [Value.tuple.injEq, Array.mk.injEq, List.cons.injEq, and_true, Value.agg.injEq, Value.slice.injEq, true_and] at e94 e95
        obtain ⟨⟨rfl, rfl⟩, -⟩ := e94
        obtain ⟨-, rfl⟩ := e95
        have K := F.K
        clear F hL e94' e86 e93 h3
        subst e15 e16
        simp only [Act.put, List.setIfInBounds_toArray, List.set_cons_zero, List.set_cons_succ]
        obtain ⟨c0, c1', c2'⟩ := K.q4.c3
        obtain ⟨a0, a1, a2, a3, a4, a5⟩ := K.qs.c6
        obtain ⟨n0, n1, n2, n3, n4, n5⟩ := K.qn.c6
        have lp := K.q4.lt
        have lps := K.qs.lt
        have lpn := K.qn.lt
        by_cases hco : co = 0
        case neg =>
          have hE := HG.out
          rw [HST.out, if_neg hco] at hE
          simp only [Prod.mk.injEq] at hE
          obtain ⟨⟨rfl, rfl, rfl, rfl, rfl, rfl⟩, rfl, rfl⟩ := hE
          have hc2 : (co != 0) = true := by simp [hco]
          have hc3 : (co == co) = true := by simp
          have hc4 : ((m : Int) == (m : Int)) = true := by simp
          clear hco
          go_wp2_with fail
          refine (likeI _ _ AF An cF cn gs _ (K.oF.rd enI_len) (K.on.rd enI_len)).mono ?_
          rintro e w10 ⟨rfl, hb⟩
          have K := K.below hb
          clear c0 c1' c2' a0 a1 a2 a3 a4 a5 n0 n1 n2 n3 n4 n5 lp lps lpn hb
          obtain ⟨c0, c1', c2'⟩ := K.q4.c3
          obtain ⟨a0, a1, a2, a3, a4, a5⟩ := K.qs.c6
          obtain ⟨n0, n1, n2, n3, n4, n5⟩ := K.qn.c6
          have lp := K.q4.lt
          have lps := K.qs.lt
          have lpn := K.qn.lt
          have e1 : (tu == tu) = true := by simp
          go_wp2_with fail
          have CS := isCS_impl r d b AF cF ps gs tu si us ru fa w10 (by omega) (K.oF.rd enI_len)
          rw [HO.out] at CS
          refine CS.mono ?_
          rintro e w11 ⟨rfl, hb⟩
          have K := K.below hb
          go_wp2_with fail
          go_ret
          exact ⟨rfl, K.bel⟩
        subst hco
        have HG2 : Hid (rcGo r d b (evs.drop (m + 1)) (m + 1) (g2, t2, s2, u2, r2, y2) = ((gF, tF, sF, uF, rF, fF), nF, cF1)) := by
          have hE := HG.out
          rw [HST.out, if_pos rfl] at hE
          exact hE
        have HO2 := Lib.hid (ap_ok HO.out HP.out)
        obtain ⟨x0, x1, x2, x3, x4, x5⟩ := hrow.c6
        have hlx := hrow.lt
        go_wp2_with (refine Store.wpL_st 30 _ _ rfl pn [.slice A2 g2.length c2, .int .i64 t2, .int .i64 s2, .int .i64 u2, .bool r2, .int .i64 y2] _ rfl rfl 30 K.qn (by kernel_rfl) rfl rfl ?_; intro w10 hrn hgn hsn)
        have K := K.next hrn hgn h2
        go_roundw
        case rel => exact ⟨m + 1, _, _, _, _, _, _, _, _, _, _, _, by omega, by go_num, K, HG2, HO2⟩
        case measure => simp [intOf]; omega
    · obtain rfl : m = n := by omega
      have hE := HG.out
      rw [rcGo_end r d b evs m _ (by rw [HN.out]; exact Nat.le_refl _)] at hE
      simp only [Prod.mk.injEq] at hE
      obtain ⟨⟨rfl, rfl, rfl, rfl, rfl, rfl⟩, rfl, rfl⟩ := hE
      obtain ⟨c0, c1', c2'⟩ := K.q4.c3
      obtain ⟨a0, a1, a2, a3, a4, a5⟩ := K.qs.c6
      obtain ⟨n0, n1, n2, n3, n4, n5⟩ := K.qn.c6
      have lp := K.q4.lt
      have lps := K.qs.lt
      have lpn := K.qn.lt
      go_wp2_with fail
      refine (likeI _ _ AF An cF cn gs _ (K.oF.rd enI_len) (K.on.rd enI_len)).mono ?_
      rintro e w9 ⟨rfl, hb⟩
      have K := K.below hb
      clear c0 c1' c2' a0 a1 a2 a3 a4 a5 n0 n1 n2 n3 n4 n5 lp lps lpn hb
      obtain ⟨c0, c1', c2'⟩ := K.q4.c3
      obtain ⟨a0, a1, a2, a3, a4, a5⟩ := K.qs.c6
      obtain ⟨n0, n1, n2, n3, n4, n5⟩ := K.qn.c6
      have lp := K.q4.lt
      have lps := K.qs.lt
      have lpn := K.qn.lt
      have e1 : (tu == tu) = true := by simp
      have e2 : (us == us) = true := by simp
      go_wp2_with fail
      have CS := isCS_impl r d b AF cF ps gs tu si us ru fa w9 (by omega) (K.oF.rd enI_len)
      rw [HO.out] at CS
      refine CS.mono ?_
      rintro e w10 ⟨rfl, hb⟩
      have K := K.below hb
      go_wp2_with fail
      go_ret
      exact ⟨rfl, K.bel⟩
end Go.Proofs.Ytdjopnhbcchedaa.RunLaw
