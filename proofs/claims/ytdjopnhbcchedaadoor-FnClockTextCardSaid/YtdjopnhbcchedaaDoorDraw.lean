/-
  The source of drawn numbers (l01From, l01Next): what a draw may count on. Conditions: each theorem's own.
-/
import Derived.Test.YtdjopnhbcchedaaDoorOwn
import Derived.Test.YtdjopnhbcchedaaDoorInts
import Derived.Deep.DeepCutAuto
import Derived.StillTailTactics
set_option linter.unusedVariables false
namespace Go.Proofs.YtdjopnhbcchedaaDoor.Draw
open Go.ChangeShapes Go.WideShapes Go.ChangeAt Go.RowKit Base Ints Own

theorem enB_len (x : Int) : (enB x).length = 1 := rfl
/-- A source: its block g, the code it reads from. -/
def Src (w : World) (g : Nat) (A : Option Addr) (n cp : Nat) : Prop :=
  ∃ at_ seed : Int, RowB w g 47 [.slice A n cp, .int .i64 at_, .int .i64 seed] ∧ 0 ≤ at_ ∧ at_ ≤ n ∧ 0 ≤ seed ∧ seed < 2147483647
theorem Src.lt {w : World} {g : Nat} {A : Option Addr} {n cp : Nat} (h : Src w g A n cp) : g < w.heap.size := by obtain ⟨_, _, h, _⟩ := h; exact h.lt
theorem Src.below {w w' : World} {g : Nat} {A : Option Addr} {n cp B : Nat} (h : Src w g A n cp) (hb : Below B w w') (hg : g < B) : Src w' g A n cp := by
  obtain ⟨a, s, h, r⟩ := h; exact ⟨a, s, h.below hb hg, r⟩
theorem Src.drew {w : World} {g : Nat} {A : Option Addr} {n cp : Nat} (h : Src w g A n cp) : Src w.drew g A n cp := h
theorem Src.grown {w w' : World} {g : Nat} {A : Option Addr} {n cp : Nat} {row : Option Nat} (h : Src w g A n cp) (hg : w.grownBy w' row) (hr : ∀ k, row = some k → k ≠ g) : Src w' g A n cp := by
  obtain ⟨a, s, h, r⟩ := h; exact ⟨a, s, h.grown hg hr, r⟩

theorem seed1 {s : Int} (h0 : 0 ≤ s) (h1 : s < 2147483647) : 0 ≤ s * 48271 + 17 ∧ s * 48271 + 17 ≤ 103661183124325 ∧ 0 ≤ (s * 48271 + 17) % 2147483647 ∧ (s * 48271 + 17) % 2147483647 < 2147483647 := by omega
theorem grown_drewN {a b : World} {row : Option Nat} (h : a.grownBy b row) (n : Nat) : a.grownBy (b.drewN n) row := ⟨h.os, h.tape, h.output, h.size, h.block⟩
theorem wpS {P : Program} {c : Code} {Q : Exit → Act → World → Prop} {a : Act} {W : World} (R : World → Prop) (h : R W) (k : ∀ W', R W' → c.wp P Q a W') : c.wp P Q a W := k W h

set_option maxHeartbeats 2000000 in
set_option maxRecDepth 100000 in
theorem next (g B : Nat) (A : Option Addr) (n cp : Nat) (xs : List Int) (k : Int) (w : World) (hS : Src w g A n cp) (hn : xs.length = n) (hr : RdS w B 1 enB A xs) (hB : B ≤ g) (hw : ∀ x ∈ xs, (Lit.int .u8 x).wf = true) (hk : k ≤ 9223372036854775807) :
    Calls Tryd.prog 23 #[.pointer (some ⟨g, 0, none⟩), .int .i64 k] w fun e w' => (∃ x, e = .returned (.int .i64 x) ∧ 0 ≤ x ∧ (1 ≤ k → x < k) ∧ (k ≤ 1 → x = 0)) ∧ Src w' g A n cp ∧ w.grownBy w' (some g) ∧ w'.heap.size = w.heap.size := by
  by_cases h1 : k ≤ 1
  · go_enter Tryd.func23, Tryd.ntmps23
    go_wp2
    go_ret
    exact ⟨⟨0, rfl, by omega, fun _ => by omega, fun _ => rfl⟩, hS, grownBy_refl _ _, rfl⟩
  · obtain ⟨a, s, hR, ha0, ha1, hs0, hs1⟩ := hS
    have hml := hr.len
    have HN := Lib.hid hn
    have HW := Lib.hid hw
    rw [hn] at hml
    clear hn hw
    obtain ⟨m, rfl⟩ : ∃ m : Nat, a = m := ⟨a.toNat, by omega⟩
    obtain ⟨c0, c1, c2⟩ := hR.c3
    have hf := hR.frozen
    have hlt := hR.lt
    have hd : decide (k ≤ 1) = false := decide_eq_false h1
    replace h1 := Int.not_le.1 h1
    obtain ⟨z0, z1, z2, z3⟩ := seed1 hs0 hs1
    have H2 : Hid (0 ≤ (s * 48271 + 17) % 2147483647 ∧ (s * 48271 + 17) % 2147483647 < 2147483647) := ⟨z2, z3⟩
    have hRd : Hid (∀ w' : World, w.grownBy w' (some g) → RdS w' B 1 enB A xs) := fun w' hg => hr.keep fun p hp => World.cell?_of_block (hg.block p.block (by omega) (by simp; omega))
    have PW : Hid (∀ w' : World, Below w.heap.size w w' → True) := fun _ _ => trivial
    go_enter Tryd.func23, Tryd.ntmps23
    go_upto_region 4 with (fail)
    refine wpS (fun W' => RowB W' g 47 [.slice A n cp, .int .i64 m, .int .i64 ((s * 48271 + 17) % 2147483647)] ∧ w.grownBy W' (some g) ∧ W'.heap.size = w.heap.size) ⟨hR.set 2 _, grownBy_setCell _ _ _ _, by simp⟩ ?_
    generalize (s * 48271 + 17) % 2147483647 = s1 at *
    clear c0 c1 c2 hf hR z0 z1
    rintro W ⟨hR, hgr, hsz⟩
    obtain ⟨c0, c1, c2⟩ := hR.c3
    have hf := hR.frozen
    have x0 : 0 ≤ s1 / 11 := by omega
    have x1 : s1 / 11 ≤ 195225786 := by omega
    by_cases h2 : m < n
    · obtain ⟨b, off, x, rfl, hb, hx, hc⟩ := rdI_at (hRd.out W hgr) (by rw [HN.out]; exact h2)
      have hx8 := bounds_u8 (HW.out x (List.mem_of_getElem? hx))
      obtain ⟨hx0, hx1⟩ := hx8
      have hbg : b ≠ g := by omega
      clear hx
      have e1 : IntKind.i64.wrap (s1 / 11 + x) = s1 / 11 + x := IntWalk.i64_in _ (by omega)
      have e2 : IntKind.i64.wrap ((m : Int) + 1 - 1) = (m : Int) := by rw [IntWalk.i64_in _ (by omega)]; omega
      have hk0 : 0 < k := by omega
      have r1 := Lib.hid (show 0 ≤ (s1 / 11 + x) % k ∧ (s1 / 11 + x) % k < k from ⟨Int.emod_nonneg _ (by omega), Int.emod_lt_of_pos _ hk0⟩)
      have r2 := Lib.hid (show 0 ≤ x % k ∧ x % k < k from ⟨Int.emod_nonneg _ (by omega), Int.emod_lt_of_pos _ hk0⟩)
      go_wp2_with fail
      go_quiet (fail)
      go_wp2_with fail
      go_quiet (fail)
      go_upto_region 8 with (fail)
      refine wpS (fun W' => RowB W' g 47 [.slice (some ⟨b, off, none⟩) n cp, .int .i64 ((m : Int) + 1), .int .i64 s1] ∧ w.grownBy W' (some g) ∧ W'.heap.size = w.heap.size ∧ W'.cell? ⟨b, off + m, none⟩ = some (.int .u8 x)) ⟨RowB.set hR 1 _, grownBy_trans (grown_drewN hgr _) (grownBy_setCell _ _ _ _), by simpa using hsz, by rw [World.cell?_of_block (Below.heap_setCell _ _ _ _ (by show b ≠ g; omega))]; exact hc⟩ ?_
      clear c0 c1 c2 hf hR hgr hsz hc
      rintro W5 ⟨hR, hgr, hsz, hc⟩
      obtain ⟨c0, c1, c2⟩ := hR.c3
      have hf := hR.frozen
      have HS : Hid (Src W5 g (some ⟨b, off, none⟩) n cp) := ⟨(m : Int) + 1, s1, hR, by omega, by omega, H2.out.1, H2.out.2⟩
      by_cases h3 : k ≤ 256
      · by_cases h4 : ((m : Int) + 1) % 2 = 0
        · have e4 : (((m : Int) + 1) % 2 == 0) = true := by simp [h4]
          clear h4
          go_wp2_with fail
          go_quiet (fail)
          go_wp2_with fail
          go_ret
          exact ⟨⟨_, rfl, r2.out.1, fun _ => r2.out.2, fun h => by omega⟩, HS.out, grown_drewN hgr _, hsz⟩
        · have e4 : (((m : Int) + 1) % 2 == 0) = false := by simp [h4]
          clear h4
          go_wp2_with fail
          go_ret
          exact ⟨⟨_, rfl, r1.out.1, fun _ => r1.out.2, fun h => by omega⟩, HS.out, hgr, hsz⟩
      · have hd3 : decide (k ≤ 256) = false := decide_eq_false h3
        replace h3 := Int.not_le.1 h3
        go_wp2_with fail
        go_ret
        exact ⟨⟨_, rfl, r1.out.1, fun _ => r1.out.2, fun h => by omega⟩, HS.out, hgr, hsz⟩
    · obtain rfl : m = n := by omega
      have hk0 : 0 < k := by omega
      have r1 := Lib.hid (show 0 ≤ (s1 / 11) % k ∧ (s1 / 11) % k < k from ⟨Int.emod_nonneg _ (by omega), Int.emod_lt_of_pos _ hk0⟩)
      have HS : Hid (Src W g A m cp) := ⟨(m : Int), s1, hR, by omega, by omega, H2.out.1, H2.out.2⟩
      go_wp2_with fail
      go_quiet (fail)
      go_wp2_with fail
      go_ret
      exact ⟨⟨_, rfl, r1.out.1, fun _ => r1.out.2, fun h => by omega⟩, HS.out, grown_drewN hgr _, hsz⟩

theorem seed2 {s x : Int} (h0 : 0 ≤ s) (h1 : s < 2147483647) (x0 : 0 ≤ x) (x1 : x ≤ 255) : 0 ≤ s * 43 + x ∧ s * 43 + x ≤ 92341797076 ∧ 0 ≤ (s * 43 + x) % 2147483647 ∧ (s * 43 + x) % 2147483647 < 2147483647 := by omega

set_option maxHeartbeats 2000000 in
set_option maxRecDepth 100000 in
/-- A new source. -/
theorem from_ (B : Nat) (A : Option Addr) (cp : Nat) (xs : List Int) (w : World) (hB : B ≤ w.heap.size) (hr : RdS w B 1 enB A xs) (hw : ∀ x ∈ xs, (Lit.int .u8 x).wf = true) :
    Calls Tryd.prog 22 #[.slice A xs.length cp] w fun e w' => e = .returned (.pointer (some ⟨w.heap.size, 0, none⟩)) ∧ Src w' w.heap.size A xs.length cp ∧ Below w.heap.size w w' := by
  have hml := hr.len
  obtain ⟨n, hn⟩ : ∃ n, xs.length = n := ⟨_, rfl⟩
  have HN := Lib.hid hn
  have HW := Lib.hid hw
  rw [hn] at hml
  rw [hn]
  clear hn hw
  go_enter Tryd.func22, Tryd.ntmps22
  go_wp2_with fail
  go_loopw [4] (fun i wr => ∃ j : Nat, j ≤ n ∧ i = .int .i64 j ∧ Below w.heap.size w wr ∧ Hid (∃ s : Int, RowB wr w.heap.size 47 [.slice A n cp, .int .i64 0, .int .i64 s] ∧ 0 ≤ s ∧ s < 2147483647)) (fun i _ => n - (intOf i).toNat)
  case atStart => exact ⟨0, Nat.zero_le _, rfl, by go_grown, 24157, RowB.new _ _ _, by omega, by omega⟩
  case round =>
    obtain ⟨j, hj, rfl, hb, hs⟩ := hrel
    obtain ⟨s, hR, hs0, hs1⟩ := hs.out
    clear hs
    obtain ⟨c0, c1, c2⟩ := hR.c3
    have hf := hR.frozen
    have hRl := hR.lt
    by_cases h1 : j < n
    · by_cases h2 : j < 64
      · obtain ⟨b, off, x, rfl, hbB, hx, hc⟩ := rdI_at (hr.below hb hB) (by rw [HN.out]; exact h1)
        obtain ⟨hx0, hx1⟩ := bounds_u8 (HW.out x (List.mem_of_getElem? hx))
        obtain ⟨z0, z1, z2, z3⟩ := seed2 hs0 hs1 hx0 hx1
        have hbg : b ≠ w.heap.size := by omega
        have e1 : IntKind.i64.wrap (s * 43) = s * 43 := IntWalk.i64_in _ (by omega)
        have e2 : IntKind.i64.wrap (s * 43 + x) = s * 43 + x := IntWalk.i64_in _ (by omega)
        clear hx
        go_wp2_with fail
        go_still_tail 15, (by kernel_rfl)
        go_wp2_with fail
        go_roundw
        case rel => exact ⟨j + 1, by omega, by go_num, (hb.setCell (p := ⟨w.heap.size, 2, none⟩) (Nat.le_refl _) _).drew, _, RowB.drew (RowB.set hR 2 _), z2, z3⟩
        case measure => simp [intOf]; omega
      · have hd : decide ((j : Int) < 64) = false := decide_eq_false (by omega)
        have HS : Hid (Src wr w.heap.size A n cp) := ⟨0, s, hR, by omega, by omega, hs0, hs1⟩
        go_wp2_with fail
        go_ret
        exact ⟨rfl, HS.out, hb⟩
    · obtain rfl : j = n := by omega
      have HS : Hid (Src wr w.heap.size A j cp) := ⟨0, s, hR, by omega, by omega, hs0, hs1⟩
      go_wp2_with fail
      go_ret
      exact ⟨rfl, HS.out, hb⟩

/-! ### A source in use: the elder world, the source's block, the code -/
structure Dr (w0 : World) (B g : Nat) (A : Option Addr) (cp : Nat) (xs : List Int) (w : World) : Prop where
  src : Src w g A xs.length cp
  rd : RdS w B 1 enB A xs
  wf : ∀ x ∈ xs, (Lit.int .u8 x).wf = true
  bel : Below B w0 w
  base : B ≤ g
  old : B = w0.heap.size
section
variable {w0 w w' : World} {B g cp : Nat} {A : Option Addr} {xs : List Int}
theorem Dr.lt (h : Dr w0 B g A cp xs w) : g < w.heap.size := h.src.lt
theorem Dr.grown {row : Option Nat} (h : Dr w0 B g A cp xs w) (hg : w.grownBy w' row) (hr : ∀ k, row = some k → B ≤ k) (hn : ∀ k, row = some k → k ≠ g) : Dr w0 B g A cp xs w' :=
  ⟨h.src.grown hg hn, h.rd.grown hg (by have := h.lt; have := h.base; omega) hr, h.wf, h.bel.grown hg (by have := h.lt; have := h.base; omega) hr, h.base, h.old⟩
theorem Dr.below {C : Nat} (h : Dr w0 B g A cp xs w) (hb : Below C w w') (hC : g < C) : Dr w0 B g A cp xs w' :=
  ⟨h.src.below hb hC, h.rd.below hb (by have := h.base; omega), h.wf, h.bel.trans (hb.mono (by have := h.base; omega)), h.base, h.old⟩
theorem Dr.alloc (h : Dr w0 B g A cp xs w) (o : Obj) : Dr w0 B g A cp xs (w.alloc o) := h.below ((Below.refl _ _).alloc (Nat.le_refl _) _) h.lt
theorem Dr.drew (h : Dr w0 B g A cp xs w) : Dr w0 B g A cp xs w.drew := ⟨h.src.drew, h.rd.drew, h.wf, h.bel.drew, h.base, h.old⟩
theorem next' (h : Dr w0 B g A cp xs w) (k : Int) (hk : k ≤ 9223372036854775807) :
    Calls Tryd.prog 23 #[.pointer (some ⟨g, 0, none⟩), .int .i64 k] w fun e w' => (∃ x, e = .returned (.int .i64 x) ∧ 0 ≤ x ∧ (1 ≤ k → x < k) ∧ (k ≤ 1 → x = 0)) ∧ Dr w0 B g A cp xs w' ∧ w.grownBy w' (some g) ∧ w'.heap.size = w.heap.size := by
  refine (next g B A xs.length cp xs k w h.src rfl h.rd h.base h.wf hk).mono ?_
  rintro e w' ⟨he, hs, hg, hz⟩
  refine ⟨he, ⟨hs, h.rd.grown hg (by have := h.lt; have := h.base; omega) (fun k hk => by simp at hk; have := h.base; omega), h.wf, h.bel.grown hg (by have := h.lt; have := h.base; omega) (fun k hk => by simp at hk; have := h.base; omega), h.base, h.old⟩, hg, hz⟩
theorem new_ (hr : RdS w w.heap.size 1 enB A xs) (hw : ∀ x ∈ xs, (Lit.int .u8 x).wf = true) :
    Calls Tryd.prog 22 #[.slice A xs.length cp] w fun e w' => e = .returned (.pointer (some ⟨w.heap.size, 0, none⟩)) ∧ Dr w w.heap.size w.heap.size A cp xs w' := by
  refine (from_ w.heap.size A cp xs w (Nat.le_refl _) hr hw).mono ?_
  rintro e w' ⟨he, hs, hb⟩
  exact ⟨he, hs, hr.below hb (Nat.le_refl _), hw, hb, Nat.le_refl _, rfl⟩
end
theorem grown_new {a b : World} {row : Option Nat} {k j : Nat} (h : a.grownBy b row) (hk : a.heap.size ≤ k) (u : Value) : a.grownBy (b.setCell ⟨k, j, none⟩ u) row :=
  ⟨h.os, h.tape, h.output, by rw [World.size_setCell]; exact h.size, fun i hi hr => (Below.heap_setCell _ _ _ _ (by show i ≠ k; omega)).trans (h.block i hi hr)⟩
theorem Dr.set {w0 w : World} {B g cp : Nat} {A : Option Addr} {xs : List Int} (h : Dr w0 B g A cp xs w) {b j : Nat} (hb : B ≤ b) (hn : b ≠ g) (u : Value) : Dr w0 B g A cp xs (w.setCell ⟨b, j, none⟩ u) :=
  h.grown (grownBy_setCell w b j u) (fun k hk => by simp at hk; omega) (fun k hk => by simp at hk; omega)
end Go.Proofs.YtdjopnhbcchedaaDoor.Draw
