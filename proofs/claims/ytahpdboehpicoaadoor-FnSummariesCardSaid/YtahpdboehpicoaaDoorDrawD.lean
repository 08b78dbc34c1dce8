/-
  The source of drawn numbers with its exact state: each number follows from the code and the state. Conditions: each theorem's own.
-/
import Derived.Test.YtahpdboehpicoaaDoorDraw
set_option linter.unusedVariables false
namespace Go.Proofs.YtahpdboehpicoaaDoor.DrawD
open Go.ChangeShapes Go.WideShapes Go.ChangeAt Go.RowKit Base Ints Own Draw

/-- The number below k that comes next, and the state behind it (how much of the code is used; the seed). -/
def nx (xs : List Int) (st : Nat × Int) (k : Int) : Int × (Nat × Int) :=
  if k ≤ 1 then (0, st)
  else if st.1 < xs.length then
    (if k ≤ 256 ∧ ((st.1 : Int) + 1) % 2 = 0 then xs.getD st.1 0 % k else ((st.2 * 48271 + 17) % 2147483647 / 11 + xs.getD st.1 0) % k, st.1 + 1, (st.2 * 48271 + 17) % 2147483647)
  else ((st.2 * 48271 + 17) % 2147483647 / 11 % k, st.1, (st.2 * 48271 + 17) % 2147483647)
/-- The first seed. -/
def sd (xs : List Int) : Nat → Int
  | 0 => 24157
  | j + 1 => (sd xs j * 43 + xs.getD j 0) % 2147483647
def st0 (xs : List Int) : Nat × Int := (0, sd xs (min xs.length 64))
theorem nx1 {xs : List Int} {st : Nat × Int} {k : Int} (h : k ≤ 1) : nx xs st k = (0, st) := by unfold nx; rw [if_pos h]
theorem nx2 {xs : List Int} {m : Nat} {s k x : Int} (h : ¬ k ≤ 1) (hm : xs[m]? = some x) (h3 : k ≤ 256) (h4 : ((m : Int) + 1) % 2 = 0) : nx xs (m, s) k = (x % k, m + 1, (s * 48271 + 17) % 2147483647) := by
  have hl := (List.getElem?_eq_some_iff.1 hm).1
  unfold nx
  rw [if_neg h, if_pos hl, if_pos ⟨h3, h4⟩, List.getD_eq_getElem?_getD, hm]; rfl
theorem nx3 {xs : List Int} {m : Nat} {s k x : Int} (h : ¬ k ≤ 1) (hm : xs[m]? = some x) (h3 : ¬ (k ≤ 256 ∧ ((m : Int) + 1) % 2 = 0)) : nx xs (m, s) k = (((s * 48271 + 17) % 2147483647 / 11 + x) % k, m + 1, (s * 48271 + 17) % 2147483647) := by
  have hl := (List.getElem?_eq_some_iff.1 hm).1
  unfold nx
  rw [if_neg h, if_pos hl, if_neg h3, List.getD_eq_getElem?_getD, hm]; rfl
theorem nx4 {xs : List Int} {m : Nat} {s k : Int} (h : ¬ k ≤ 1) (hm : ¬ m < xs.length) : nx xs (m, s) k = ((s * 48271 + 17) % 2147483647 / 11 % k, m, (s * 48271 + 17) % 2147483647) := by
  unfold nx
  rw [if_neg h, if_neg hm]

/-- A source: its block g, the code it reads from, its state. -/
def SrcX (w : World) (g : Nat) (A : Option Addr) (n cp : Nat) (st : Nat × Int) : Prop :=
  RowB w g 52 [.slice A n cp, .int .i64 st.1, .int .i64 st.2] ∧ st.1 ≤ n ∧ 0 ≤ st.2 ∧ st.2 < 2147483647
theorem SrcX.lt {w : World} {g : Nat} {A : Option Addr} {n cp : Nat} {st : Nat × Int} (h : SrcX w g A n cp st) : g < w.heap.size := h.1.lt
theorem SrcX.below {w w' : World} {g : Nat} {A : Option Addr} {n cp B : Nat} {st : Nat × Int} (h : SrcX w g A n cp st) (hb : Below B w w') (hg : g < B) : SrcX w' g A n cp st := ⟨h.1.below hb hg, h.2⟩
theorem SrcX.drew {w : World} {g : Nat} {A : Option Addr} {n cp : Nat} {st : Nat × Int} (h : SrcX w g A n cp st) : SrcX w.drew g A n cp st := h
theorem SrcX.grown {w w' : World} {g : Nat} {A : Option Addr} {n cp : Nat} {st : Nat × Int} {row : Option Nat} (h : SrcX w g A n cp st) (hg : w.grownBy w' row) (hr : ∀ k, row = some k → k ≠ g) : SrcX w' g A n cp st := ⟨h.1.grown hg hr, h.2⟩
theorem SrcX.src {w : World} {g : Nat} {A : Option Addr} {n cp : Nat} {st : Nat × Int} (h : SrcX w g A n cp st) : Src w g A n cp := ⟨st.1, st.2, h.1, by omega, by have := h.2.1; omega, h.2.2.1, h.2.2.2⟩

set_option maxHeartbeats 2000000 in
set_option maxRecDepth 100000 in
theorem nextE (g B : Nat) (A : Option Addr) (n cp : Nat) (xs : List Int) (k : Int) (w : World) (st : Nat × Int) (r : Int) (st' : Nat × Int) (hnx : nx xs st k = (r, st')) (hS : SrcX w g A n cp st) (hn : xs.length = n) (hr : RdS w B 1 enB A xs) (hB : B ≤ g) (hw : ∀ x ∈ xs, (Lit.int .u8 x).wf = true) (hk : k ≤ 9223372036854775807) :
    Calls Tryd.prog 20 #[.pointer (some ⟨g, 0, none⟩), .int .i64 k] w fun e w' => (e = .returned (.int .i64 r) ∧ 0 ≤ r ∧ (1 ≤ k → r < k) ∧ (k ≤ 1 → r = 0)) ∧ SrcX w' g A n cp st' ∧ w.grownBy w' (some g) ∧ w'.heap.size = w.heap.size := by
  have HNX := Lib.hid hnx
  clear hnx
  by_cases h1 : k ≤ 1
  · go_enter Tryd.func20, Tryd.ntmps20
    go_wp2
    go_ret
    have hE := HNX.out
    rw [nx1 h1] at hE
    simp only [Prod.mk.injEq] at hE
    obtain ⟨rfl, rfl⟩ := hE
    exact ⟨⟨rfl, by omega, fun _ => by omega, fun _ => rfl⟩, hS, grownBy_refl _ _, rfl⟩
  · obtain ⟨m, s⟩ := st
    obtain ⟨hR, ha1, hs0, hs1⟩ := hS
    replace ha1 : m ≤ n := ha1
    replace hs0 : 0 ≤ s := hs0
    replace hs1 : s < 2147483647 := hs1
    replace hR : RowB w g 52 [.slice A n cp, .int .i64 m, .int .i64 s] := hR
    have HK := Lib.hid h1
    have hml := hr.len
    have HN := Lib.hid hn
    have HW := Lib.hid hw
    rw [hn] at hml
    clear hn hw
    obtain ⟨c0, c1, c2⟩ := hR.c3
    have hf := hR.frozen
    have hlt := hR.lt
    have hd : decide (k ≤ 1) = false := decide_eq_false h1
    replace h1 := Int.not_le.1 h1
    obtain ⟨z0, z1, z2, z3⟩ := seed1 hs0 hs1
    have H2 : Hid (0 ≤ (s * 48271 + 17) % 2147483647 ∧ (s * 48271 + 17) % 2147483647 < 2147483647) := ⟨z2, z3⟩
    have hRd : Hid (∀ w' : World, w.grownBy w' (some g) → RdS w' B 1 enB A xs) := fun w' hg => hr.keep fun p hp => World.cell?_of_block (hg.block p.block (by omega) (by simp; omega))
    have PW : Hid (∀ w' : World, Below w.heap.size w w' → True) := fun _ _ => trivial
    go_enter Tryd.func20, Tryd.ntmps20
    go_upto_region 4 with (fail)
    refine wpS (fun W' => RowB W' g 52 [.slice A n cp, .int .i64 m, .int .i64 ((s * 48271 + 17) % 2147483647)] ∧ w.grownBy W' (some g) ∧ W'.heap.size = w.heap.size) ⟨hR.set 2 _, grownBy_setCell _ _ _ _, by simp⟩ ?_
    obtain ⟨s1, hs1e⟩ : ∃ s1, (s * 48271 + 17) % 2147483647 = s1 := ⟨_, rfl⟩
    have HS1 := Lib.hid hs1e
    rw [hs1e]
    rw [hs1e] at z2 z3 H2
    clear hs1e
    clear c0 c1 c2 hf hR z0 z1
    rintro W ⟨hR, hgr, hsz⟩
    obtain ⟨c0, c1, c2⟩ := hR.c3
    have hf := hR.frozen
    have x0 : 0 ≤ s1 / 11 := by omega
    have x1 : s1 / 11 ≤ 195225786 := by omega
    by_cases h2 : m < n
    · obtain ⟨b, off, x, rfl, hb, hx, hc⟩ := rdI_at (hRd.out W hgr) (by rw [HN.out]; exact h2)
      have hx8 := bounds_u8 (HW.out x (List.mem_of_getElem? hx))
      obtain ⟨hx0, hx1⟩ := hx8
      have hbg : b ≠ g := by omega
      have HX := Lib.hid hx
      clear hx
      have e1 : IntKind.i64.wrap (s1 / 11 + x) = s1 / 11 + x := IntWalk.i64_in _ (by omega)
      have e2 : IntKind.i64.wrap ((m : Int) + 1 - 1) = (m : Int) := by rw [IntWalk.i64_in _ (by omega)]; omega
      have hk0 : 0 < k := by omega
      have r1 := Lib.hid (show 0 ≤ (s1 / 11 + x) % k ∧ (s1 / 11 + x) % k < k from ⟨Int.emod_nonneg _ (by omega), Int.emod_lt_of_pos _ hk0⟩)
      have r2 := Lib.hid (show 0 ≤ x % k ∧ x % k < k from ⟨Int.emod_nonneg _ (by omega), Int.emod_lt_of_pos _ hk0⟩)
      go_wp2_with fail
      go_quiet (fail)
      go_wp2_with fail
      go_quiet (fail)
      go_upto_region 8 with (fail)
      refine wpS (fun W' => RowB W' g 52 [.slice (some ⟨b, off, none⟩) n cp, .int .i64 ((m : Int) + 1), .int .i64 s1] ∧ w.grownBy W' (some g) ∧ W'.heap.size = w.heap.size ∧ W'.cell? ⟨b, off + m, none⟩ = some (.int .u8 x)) ⟨RowB.set hR 1 _, grownBy_trans (grown_drewN hgr _) (grownBy_setCell _ _ _ _), by simpa using hsz, by rw [World.cell?_of_block (Below.heap_setCell _ _ _ _ (by show b ≠ g; omega))]; exact hc⟩ ?_
      clear c0 c1 c2 hf hR hgr hsz hc
      rintro W5 ⟨hR, hgr, hsz, hc⟩
      obtain ⟨c0, c1, c2⟩ := hR.c3
      have hf := hR.frozen
      have HS : Hid (SrcX W5 g (some ⟨b, off, none⟩) n cp (m + 1, s1)) := ⟨hR, by show m + 1 ≤ n; omega, H2.out.1, H2.out.2⟩
      by_cases h3 : k ≤ 256
      · by_cases h4 : ((m : Int) + 1) % 2 = 0
        · have H4 := Lib.hid h4
          have e4 : (((m : Int) + 1) % 2 == 0) = true := by simp [h4]
          clear h4
          go_wp2_with fail
          go_quiet (fail)
          go_wp2_with fail
          go_ret
          have hE := HNX.out; rw [nx2 (Int.not_le.2 HK.out) HX.out (by omega) H4.out, HS1.out] at hE; simp only [Prod.mk.injEq] at hE; obtain ⟨rfl, rfl⟩ := hE; 
          exact ⟨⟨rfl, r2.out.1, fun _ => r2.out.2, fun h => by omega⟩, HS.out, grown_drewN hgr _, hsz⟩
        · have H4 := Lib.hid h4
          have e4 : (((m : Int) + 1) % 2 == 0) = false := by simp [h4]
          clear h4
          go_wp2_with fail
          go_ret
          have hE := HNX.out; rw [nx3 (Int.not_le.2 HK.out) HX.out (fun h => H4.out h.2), HS1.out] at hE; simp only [Prod.mk.injEq] at hE; obtain ⟨rfl, rfl⟩ := hE; 
          exact ⟨⟨rfl, r1.out.1, fun _ => r1.out.2, fun h => by omega⟩, HS.out, hgr, hsz⟩
      · have hd3 : decide (k ≤ 256) = false := decide_eq_false h3
        replace h3 := Int.not_le.1 h3
        go_wp2_with fail
        go_ret
        have hE := HNX.out; rw [nx3 (Int.not_le.2 HK.out) HX.out (fun h => by have := h.1; omega), HS1.out] at hE; simp only [Prod.mk.injEq] at hE; obtain ⟨rfl, rfl⟩ := hE; 
        exact ⟨⟨rfl, r1.out.1, fun _ => r1.out.2, fun h => by omega⟩, HS.out, hgr, hsz⟩
    · obtain rfl : m = n := by omega
      have hk0 : 0 < k := by omega
      have r1 := Lib.hid (show 0 ≤ (s1 / 11) % k ∧ (s1 / 11) % k < k from ⟨Int.emod_nonneg _ (by omega), Int.emod_lt_of_pos _ hk0⟩)
      have HS : Hid (SrcX W g A m cp (m, s1)) := ⟨hR, Nat.le_refl _, H2.out.1, H2.out.2⟩
      go_wp2_with fail
      go_quiet (fail)
      go_wp2_with fail
      go_ret
      have hE := HNX.out; rw [nx4 (Int.not_le.2 HK.out) (by rw [HN.out]; omega), HS1.out] at hE; simp only [Prod.mk.injEq] at hE; obtain ⟨rfl, rfl⟩ := hE; 
      exact ⟨⟨rfl, r1.out.1, fun _ => r1.out.2, fun h => by omega⟩, HS.out, grown_drewN hgr _, hsz⟩


set_option maxHeartbeats 2000000 in
set_option maxRecDepth 100000 in
/-- A new source. -/
theorem fromE (B : Nat) (A : Option Addr) (cp : Nat) (xs : List Int) (w : World) (hB : B ≤ w.heap.size) (hr : RdS w B 1 enB A xs) (hw : ∀ x ∈ xs, (Lit.int .u8 x).wf = true) :
    Calls Tryd.prog 19 #[.slice A xs.length cp] w fun e w' => e = .returned (.pointer (some ⟨w.heap.size, 0, none⟩)) ∧ SrcX w' w.heap.size A xs.length cp (st0 xs) ∧ Below w.heap.size w w' := by
  have hml := hr.len
  obtain ⟨n, hn⟩ : ∃ n, xs.length = n := ⟨_, rfl⟩
  have HN := Lib.hid hn
  have HW := Lib.hid hw
  rw [hn] at hml
  rw [hn]
  clear hn hw
  go_enter Tryd.func19, Tryd.ntmps19
  go_wp2_with fail
  go_loopw [4] (fun i wr => ∃ j : Nat, j ≤ n ∧ i = .int .i64 j ∧ Below w.heap.size w wr ∧ Hid (∃ s : Int, RowB wr w.heap.size 52 [.slice A n cp, .int .i64 0, .int .i64 s] ∧ 0 ≤ s ∧ s < 2147483647 ∧ s = sd xs j ∧ j ≤ 64)) (fun i _ => n - (intOf i).toNat)
  case atStart => exact ⟨0, Nat.zero_le _, rfl, by go_grown, 24157, RowB.new _ _ _, by omega, by omega, rfl, by omega⟩
  case round =>
    obtain ⟨j, hj, rfl, hb, hs⟩ := hrel
    obtain ⟨s, hR, hs0, hs1, hsd, hj64⟩ := hs.out
    have HSD := Lib.hid hsd
    clear hsd
    clear hs
    obtain ⟨c0, c1, c2⟩ := hR.c3
    have hf := hR.frozen
    have hRl := hR.lt
    by_cases h1 : j < n
    · by_cases h2 : j < 64
      · obtain ⟨b, off, x, rfl, hbB, hx, hc⟩ := rdI_at (hr.below hb hB) (by rw [HN.out]; exact h1)
        obtain ⟨hx0, hx1⟩ := bounds_u8 (HW.out x (List.mem_of_getElem? hx))
        obtain ⟨z0, z1, z2, z3⟩ := seed2 hs0 hs1 hx0 hx1
        have hbg : b ≠ w.heap.size := by omega
        have e1 : IntKind.i64.wrap (s * 43) = s * 43 := IntWalk.i64_in _ (by omega)
        have e2 : IntKind.i64.wrap (s * 43 + x) = s * 43 + x := IntWalk.i64_in _ (by omega)
        have HX := Lib.hid hx
        clear hx
        go_wp2_with fail
        go_still_tail 15, (by kernel_rfl)
        go_wp2_with fail
        go_roundw
        case rel => exact ⟨j + 1, by omega, by go_num, (hb.setCell (p := ⟨w.heap.size, 2, none⟩) (Nat.le_refl _) _).drew, _, RowB.drew (RowB.set hR 2 _), z2, z3, by rw [HSD.out]; show _ = (sd xs j * 43 + xs.getD j 0) % 2147483647; rw [List.getD_eq_getElem?_getD, HX.out]; rfl, by omega⟩
        case measure => simp [intOf]; omega
      · have hd : decide ((j : Int) < 64) = false := decide_eq_false (by omega)
        have HS : Hid (SrcX wr w.heap.size A n cp (st0 xs)) := by
          have e : st0 xs = (0, s) := by unfold st0; rw [HN.out, show min n 64 = j from by omega, HSD.out]
          rw [e]; exact ⟨hR, Nat.zero_le _, hs0, hs1⟩
        go_wp2_with fail
        go_ret
        exact ⟨rfl, HS.out, hb⟩
    · obtain rfl : j = n := by omega
      have HS : Hid (SrcX wr w.heap.size A j cp (st0 xs)) := by
        have e : st0 xs = (0, s) := by unfold st0; rw [HN.out, show min j 64 = j from by omega, HSD.out]
        rw [e]; exact ⟨hR, Nat.zero_le _, hs0, hs1⟩
      go_wp2_with fail
      go_ret
      exact ⟨rfl, HS.out, hb⟩


/-! ### A source in use, with its state -/
structure Dx (w0 : World) (B g : Nat) (A : Option Addr) (cp : Nat) (xs : List Int) (st : Nat × Int) (w : World) : Prop where
  src : SrcX w g A xs.length cp st
  rd : RdS w B 1 enB A xs
  wf : ∀ x ∈ xs, (Lit.int .u8 x).wf = true
  bel : Below B w0 w
  base : B ≤ g
  old : B = w0.heap.size
section
variable {w0 w w' : World} {B g cp : Nat} {A : Option Addr} {xs : List Int} {st : Nat × Int}
theorem Dx.lt (h : Dx w0 B g A cp xs st w) : g < w.heap.size := h.src.lt
theorem Dx.grown {row : Option Nat} (h : Dx w0 B g A cp xs st w) (hg : w.grownBy w' row) (hr : ∀ k, row = some k → B ≤ k) (hn : ∀ k, row = some k → k ≠ g) : Dx w0 B g A cp xs st w' :=
  ⟨h.src.grown hg hn, h.rd.grown hg (by have := h.lt; have := h.base; omega) hr, h.wf, h.bel.grown hg (by have := h.lt; have := h.base; omega) hr, h.base, h.old⟩
theorem Dx.below {C : Nat} (h : Dx w0 B g A cp xs st w) (hb : Below C w w') (hC : g < C) : Dx w0 B g A cp xs st w' :=
  ⟨h.src.below hb hC, h.rd.below hb (by have := h.base; omega), h.wf, h.bel.trans (hb.mono (by have := h.base; omega)), h.base, h.old⟩
theorem Dx.alloc (h : Dx w0 B g A cp xs st w) (o : Obj) : Dx w0 B g A cp xs st (w.alloc o) := h.below ((Below.refl _ _).alloc (Nat.le_refl _) _) h.lt
theorem Dx.drew (h : Dx w0 B g A cp xs st w) : Dx w0 B g A cp xs st w.drew := ⟨h.src.drew, h.rd.drew, h.wf, h.bel.drew, h.base, h.old⟩
/-- What a draw tells: the number, the state behind it. -/
def Nx (xs : List Int) (st : Nat × Int) (k x : Int) (st' : Nat × Int) : Prop := nx xs st k = (x, st')
theorem nextX (h : Dx w0 B g A cp xs st w) (k : Int) (hk : k ≤ 9223372036854775807) :
    Calls Tryd.prog 20 #[.pointer (some ⟨g, 0, none⟩), .int .i64 k] w fun e w' => ∃ x st', (e = .returned (.int .i64 x) ∧ 0 ≤ x ∧ (1 ≤ k → x < k) ∧ (k ≤ 1 → x = 0) ∧ Nx xs st k x st') ∧ Dx w0 B g A cp xs st' w' ∧ w.grownBy w' (some g) ∧ w'.heap.size = w.heap.size := by
  obtain ⟨r, st', hnx⟩ : ∃ r st', nx xs st k = (r, st') := ⟨_, _, rfl⟩
  refine (nextE g B A xs.length cp xs k w st r st' hnx h.src rfl h.rd h.base h.wf hk).mono ?_
  rintro e w' ⟨he, hs, hg, hz⟩
  refine ⟨r, st', ⟨he.1, he.2.1, he.2.2.1, he.2.2.2, hnx⟩, ⟨hs, h.rd.grown hg (by have := h.lt; have := h.base; omega) (fun k hk => by simp at hk; have := h.base; omega), h.wf, h.bel.grown hg (by have := h.lt; have := h.base; omega) (fun k hk => by simp at hk; have := h.base; omega), h.base, h.old⟩, hg, hz⟩
theorem newX (hr : RdS w w.heap.size 1 enB A xs) (hw : ∀ x ∈ xs, (Lit.int .u8 x).wf = true) :
    Calls Tryd.prog 19 #[.slice A xs.length cp] w fun e w' => e = .returned (.pointer (some ⟨w.heap.size, 0, none⟩)) ∧ Dx w w.heap.size w.heap.size A cp xs (st0 xs) w' := by
  refine (fromE w.heap.size A cp xs w (Nat.le_refl _) hr hw).mono ?_
  rintro e w' ⟨he, hs, hb⟩
  exact ⟨he, hs, hr.below hb (Nat.le_refl _), hw, hb, Nat.le_refl _, rfl⟩
end
theorem Dx.set {w0 w : World} {B g cp : Nat} {A : Option Addr} {xs : List Int} {st : Nat × Int} (h : Dx w0 B g A cp xs st w) {b j : Nat} (hb : B ≤ b) (hn : b ≠ g) (u : Value) : Dx w0 B g A cp xs st (w.setCell ⟨b, j, none⟩ u) :=
  h.grown (grownBy_setCell w b j u) (fun k hk => by simp at hk; omega) (fun k hk => by simp at hk; omega)
end Go.Proofs.YtahpdboehpicoaaDoor.DrawD
