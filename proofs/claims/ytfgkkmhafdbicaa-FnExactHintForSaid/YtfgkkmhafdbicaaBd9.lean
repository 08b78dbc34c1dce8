/-
  The program's text of a board. Conditions: each theorem's own.
  Are two boards the same: of the reference. Conditions: each theorem's own.
-/
import Derived.Test.YtfgkkmhafdbicaaPlP
import Derived.Test.YtfgkkmhafdbicaaBd1
import Derived.Test.YtfgkkmhafdbicaaClone
import Derived.Test.YtfgkkmhafdbicaaOwn
import Derived.Laws.IdiomStrings
import Derived.Laws.AppendOwnNone
import Derived.WalkKit
import Derived.Deep.DeepCutAuto

set_option linter.unusedVariables false
set_option linter.unusedSimpArgs false
namespace Go.Proofs.Ytfgkkmhafdbicaa.Bd9
open Go.ChangeShapes Go.WideShapes Go.ChangeAt Go.RowKit Base Ints Own Clone PlP Bd1

theorem one_B (x : Int) : ∀ u ∈ enB x, u.oneCell' = true := by intro u hu; simp [enB] at hu; subst hu; rfl
theorem infoB : (Try.prog.info? 5).map (fun i => (i.zero, i.size, i.bytes)) = some (some (.int .u8 0), 1, 1) := by kernel_rfl
def nums (l : List UInt8) : List Int := l.map fun b => (b.toNat : Int)
theorem nums_len (l : List UInt8) : (nums l).length = l.length := by unfold nums; rw [List.length_map]
theorem convL (W : World) (B : Nat) (b off cap : Nat) (l : List UInt8) (h : RdS W B 1 enB (some ⟨b, off, none⟩) (nums l)) : (convert 100 9 (.slice (some ⟨b, off, none⟩) l.length cap)).run Try.prog W = .ok (.string ⟨l.toArray⟩) W := by
  refine run_convert_bytes_back W 100 9 5 ⟨b, off, none⟩ cap l Try.underlying100 Try.underlying5 Try.underlying9 ?_
  intro j hj
  obtain ⟨b', off', he, _, hc⟩ := h.2 (by rw [nums_len]; omega)
  simp only [Option.some.injEq, Addr.mk.injEq, and_true] at he
  obtain ⟨rfl, rfl⟩ := he
  have hx : (nums l)[j]? = some ((l[j].toNat : Nat) : Int) := by unfold nums; rw [List.getElem?_map, List.getElem?_eq_getElem hj]; rfl
  have h1 := hc j _ hx 0 _ rfl
  have hadd : (⟨b, off, none⟩ : Addr).add j = ⟨b, off + j, none⟩ := by unfold Addr.add; split <;> simp_all
  rw [hadd]
  simpa using h1
theorem key_nums {b : Bd} (h1 : ∀ i, 0 ≤ at_ b.1 i ∧ at_ b.1 i ≤ 200) (h2 : ∀ i, 0 ≤ at_ b.2 i ∧ at_ b.2 i ≤ 200) : nums (keyP b) = b.1 ++ b.2 := by
  have one : ∀ l : List Int, (∀ i, 0 ≤ at_ l i ∧ at_ l i ≤ 200) → (l.map fun n : Int => UInt8.ofNat n.toNat).map (fun b : UInt8 => (b.toNat : Int)) = l := by
    intro l hl
    rw [List.map_map]
    refine List.map_congr_left (f := _) (g := id) (fun x hx => ?_) |>.trans (List.map_id _)
    obtain ⟨i, hi, rfl⟩ := List.mem_iff_getElem.1 hx
    have := hl i
    have e : at_ l i = l[i] := by unfold at_; rw [List.getD_eq_getElem?_getD, List.getElem?_eq_getElem hi]; rfl
    rw [e] at this
    simp only [Function.comp, id]
    rw [UInt8.toNat_ofNat_of_lt' (by show _ < 256; omega)]
    omega
  unfold nums keyP
  rw [List.map_append, List.map_append, one _ h1, one _ h2]
theorem key_len (b : Bd) : (keyP b).length = b.1.length + b.2.length := by unfold keyP; simp
theorem take_at {l : List Int} {k : Nat} (h : k < l.length) : l.take (k + 1) = l.take k ++ [at_ l k] := take_succ l k _ (at_get h)

set_option maxHeartbeats 4000000 in
set_option maxRecDepth 100000 in
theorem key_i (l m : List Int) (n : Nat) (hln : l.length = n) (hmn : m.length = n) (hn : 0 < n ∧ n ≤ 1000) (h1 : ∀ i, 0 ≤ at_ l i ∧ at_ l i ≤ 200) (h2 : ∀ i, 0 ≤ at_ m i ∧ at_ m i ≤ 200) (Ao At : Option Addr) (co ct B : Nat) (w : World) (hB : B ≤ w.heap.size) (hr1 : RdS w B 1 enI Ao l) (hr2 : RdS w B 1 enI At m) :
    Calls Try.prog 68 #[.agg #[.slice Ao n co, .slice At n ct]] w fun e w' => e = .returned (.string ⟨(keyP (l, m)).toArray⟩) ∧ Below w.heap.size w w' := by
  obtain ⟨iB, hiB, hzB0, hzB1, hzB2⟩ := info_parts infoB
  have HL := Lib.hid hln
  have HM := Lib.hid hmn
  have HX1 := Lib.hid h1
  have HX2 := Lib.hid h2
  have HR1 := Lib.hid hr1
  have HR2 := Lib.hid hr2
  have hw0 : IntKind.i64.wrap ((n : Int) + (n : Int)) = ((n + n : Nat) : Int) := by rw [IntWalk.i64_in _ (by omega)]; omega
  clear hln hmn h1 h2 hr1 hr2
  go_enter Try.func68, Try.ntmps68
  go_upto_region 1 with (fail)
  refine wp_gen (fun W' => Below w.heap.size w W' ∧ RowB W' w.heap.size 34 [.slice Ao n co, .slice At n ct]) ⟨by go_grown, RowB.new _ _ _⟩ ?_
  rintro w1 ⟨hbW, rb⟩
  obtain ⟨r0, r1⟩ := rb.c2
  have hl1 := rb.lt
  go_wp2_with (at_make; refine wpList_make_own _ rfl _ _ _ rfl (w.heap.size + 1) 5 iB (.int .u8 0) 1 Try.underlying100 hiB hzB0 hzB1 _ _ _ (n + n) rfl rfl ?c0 ?c1 ?c2 (by omega) ?_)
  case c0 => first | rfl | exact hw0 | (simp [hw0]; done) | (simp; omega)
  case c1 => rw [hzB2]; omega
  case c2 => unfold maxLen; omega
  intro w2 hown hgrow
  have ho0 : Hid (OwnS w2 (w.heap.size + 1) w2.heap.size 5 1 enB (.slice (some ⟨w1.heap.size, 0, none⟩) 0 (n + n)) (l.take 0)) := Lib.hid ⟨by simpa using hown, fun g hg => by simp [Value.ownBlock] at hg; subst hg; exact (hown.lt _ rfl).2⟩
  have rb := rb.grown hgrow (fun _ h => by simp at h)
  have hbW := hbW.grown hgrow hbW.size (fun _ h => by simp at h)
  clear hown hgrow r0 r1 hl1
  obtain ⟨r0, r1⟩ := rb.c2
  have hl1 := rb.lt
  go_wp2_with fail
  go_loopw [3, 19] (fun vl i wr => ∃ k : Nat, k ≤ n ∧ i = .int .i64 (k : Int) ∧ Hid (Below w.heap.size w wr) ∧ RowB wr w.heap.size 34 [.slice Ao n co, .slice At n ct] ∧ Hid (OwnS wr (w.heap.size + 1) wr.heap.size 5 1 enB vl (l.take k)) ∧ Hid ((l.take k).length = 0 + k)) (fun _ i _ => n - (intOf i).toNat)
  case atStart => exact ⟨0, Nat.zero_le _, by first | rfl | trivial, Lib.hid hbW, rb, ho0, Lib.hid (by simp)⟩
  case round =>
    obtain ⟨k, hk, rfl, hb, rb, ho, hlen⟩ := hrel
    clear r0 r1 hl1
    obtain ⟨r0, r1⟩ := rb.c2
    have hl1 := rb.lt
    by_cases hlt : k < n
    · obtain ⟨b1, o1, rfl, hb1', hc1⟩ := at_rd (HR1.out.below hb.out hB) (i := k) (by rw [HL.out]; exact hlt)
      have hkn : (k : Int) < (n : Int) := by omega
      have hw1 : IntKind.u8.wrap (at_ l k) = at_ l k := IntWalk.u8_in _ (by have := HX1.out k; omega)
      have HS := Lib.hid (show l.take (k + 1) = l.take k ++ [at_ l k] from take_at (by rw [HL.out]; exact hlt))
      obtain ⟨X, hX⟩ : ∃ X, l.take k = X := ⟨_, rfl⟩
      rw [hX] at ho hlen HS
      clear hX
      obtain ⟨Av, cv, hvl, _⟩ := ho.out.form enB_len
      subst hvl
      go_wp2_with (at_builtin; refine wpL_app rfl _ _ _ rfl (w.heap.size + 1) _ 5 iB (.int .u8 0) 1 1 Try.underlying100 hiB hzB0 hzB1 hzB2 rfl (by decide) enB_len one_B (.slice Av X.length cv) X [at_ l k] rfl (ho.out.alloc _) ⟨wr.heap.size, 0, none⟩ 1 1 (by first | rfl | (simp; rfl) | (simp [go_sem]; done)) rfl (news_new (RowB.new _ _ _)) (by decide) ?c1 ?c2 ?c3 ?_)
      case c1 => have := hlen.out; unfold maxLen; omega
      case c2 => have := hlen.out; omega
      case c3 => go_size
      intro k2 c2 w7 ho7 hg7 hat7 hlt7
      have hrow : ∀ g, (Value.slice Av X.length cv).ownBlock = some g → w.heap.size + 1 ≤ g := fun g hg => (ho.out.block g hg).1
      have hg8 : wr.grownBy w7 (Value.slice Av X.length cv).ownBlock := below_grown (w := wr) (by go_grown) hg7
      have rb := rb.grown hg8 (fun g hg => by have := hrow g hg; omega)
      have hbn := Lib.hid (hb.out.grown hg8 hb.out.size (fun g hg => by have := hrow g hg; omega))
      have hoN := Lib.hid (show OwnS w7 (w.heap.size + 1) w7.heap.size 5 1 enB (.slice (some ⟨k2, 0, none⟩) (X.length + 1) c2) (l.take (k + 1)) from by rw [HS.out]; exact ho7)
      have hlN : Hid ((l.take (k + 1)).length = 0 + (k + 1)) := Lib.hid (by rw [HS.out, List.length_append, hlen.out, List.length_singleton]; omega)
      clear hg7 hg8 hat7 ho7 hrow hb ho hlen
      go_wp2_with fail
      go_roundw
      case rel => exact ⟨k + 1, by omega, by go_num, hbn, rb, hoN, hlN⟩
      case measure => simp [intOf]; omega
    · obtain rfl : n = k := by omega
      have hlt0 : l.take n = l := by rw [← HL.out]; exact List.take_length
      go_wp2_with fail
      go_loopw [3, 32] (fun vl i wr => ∃ k : Nat, k ≤ n ∧ i = .int .i64 (k : Int) ∧ Hid (Below w.heap.size w wr) ∧ RowB wr w.heap.size 34 [.slice Ao n co, .slice At n ct] ∧ Hid (OwnS wr (w.heap.size + 1) wr.heap.size 5 1 enB vl (l ++ m.take k)) ∧ Hid ((l ++ m.take k).length = n + k)) (fun _ i _ => n - (intOf i).toNat)
      case atStart => exact ⟨0, Nat.zero_le _, by first | rfl | trivial, hb, rb, by simpa [hlt0] using ho, Lib.hid (by simp [HL.out])⟩
      case round =>
        obtain ⟨k, hk, rfl, hb, rb, ho, hlen⟩ := hrel
        clear r0 r1 hl1
        obtain ⟨r0, r1⟩ := rb.c2
        have hl1 := rb.lt
        by_cases hlt : k < n
        · obtain ⟨b1, o1, rfl, hb1', hc1⟩ := at_rd (HR2.out.below hb.out hB) (i := k) (by rw [HM.out]; exact hlt)
          have hkn : (k : Int) < (n : Int) := by omega
          have hw1 : IntKind.u8.wrap (at_ m k) = at_ m k := IntWalk.u8_in _ (by have := HX2.out k; omega)
          have HS := Lib.hid (show l ++ m.take (k + 1) = l ++ m.take k ++ [at_ m k] from by rw [take_at (by rw [HM.out]; exact hlt), List.append_assoc])
          obtain ⟨X, hX⟩ : ∃ X, l ++ m.take k = X := ⟨_, rfl⟩
          rw [hX] at ho hlen HS
          clear hX
          obtain ⟨Av, cv, hvl, _⟩ := ho.out.form enB_len
          subst hvl
          go_wp2_with (at_builtin; refine wpL_app rfl _ _ _ rfl (w.heap.size + 1) _ 5 iB (.int .u8 0) 1 1 Try.underlying100 hiB hzB0 hzB1 hzB2 rfl (by decide) enB_len one_B (.slice Av X.length cv) X [at_ m k] rfl (ho.out.alloc _) ⟨wr.heap.size, 0, none⟩ 1 1 (by first | rfl | (simp; rfl) | (simp [go_sem]; done)) rfl (news_new (RowB.new _ _ _)) (by decide) ?c1 ?c2 ?c3 ?_)
          case c1 => have := hlen.out; unfold maxLen; omega
          case c2 => have := hlen.out; omega
          case c3 => go_size
          intro k2 c2 w7 ho7 hg7 hat7 hlt7
          have hrow : ∀ g, (Value.slice Av X.length cv).ownBlock = some g → w.heap.size + 1 ≤ g := fun g hg => (ho.out.block g hg).1
          have hg8 : wr.grownBy w7 (Value.slice Av X.length cv).ownBlock := below_grown (w := wr) (by go_grown) hg7
          have rb := rb.grown hg8 (fun g hg => by have := hrow g hg; omega)
          have hbn := Lib.hid (hb.out.grown hg8 hb.out.size (fun g hg => by have := hrow g hg; omega))
          have hoN := Lib.hid (show OwnS w7 (w.heap.size + 1) w7.heap.size 5 1 enB (.slice (some ⟨k2, 0, none⟩) (X.length + 1) c2) (l ++ m.take (k + 1)) from by rw [HS.out]; exact ho7)
          have hlN : Hid ((l ++ m.take (k + 1)).length = n + (k + 1)) := Lib.hid (by rw [HS.out, List.length_append, hlen.out, List.length_singleton]; omega)
          clear hg7 hg8 hat7 ho7 hrow hb ho hlen
          go_wp2_with fail
          go_roundw
          case rel => exact ⟨k + 1, by omega, by go_num, hbn, rb, hoN, hlN⟩
          case measure => simp [intOf]; omega
        · obtain rfl : n = k := by omega
          have hm0 : m.take n = m := by rw [← HM.out]; exact List.take_length
          have hkey := key_nums (b := (l, m)) HX1.out HX2.out
          have hkl := key_len (l, m)
          have o := ho.out
          rw [hm0, ← hkey] at o
          obtain ⟨Av, cv, hvl, _⟩ := ho.out.form enB_len
          subst hvl
          have hLen : (l ++ List.take n m).length = (keyP (l, m)).length := by rw [hkl, hm0]; simp
          rw [hLen] at o ⊢
          obtain ⟨b9, rfl⟩ : ∃ b9, Av = some ⟨b9, 0, none⟩ := by
            rcases o.cases_ with ⟨-, e⟩ | ⟨g, c, r, e, -⟩
            · exact absurd (congrArg List.length e) (by rw [nums_len, hkl]; simp only [HL.out, HM.out, List.length_nil]; omega)
            · simp only [Value.slice.injEq] at e; exact ⟨g, e.1⟩
          have qc := convL wr _ b9 0 cv _ (o.rd enB_len)
          clear hm0 hkey hkl o hLen
          go_wp2_with fail
          go_ret
          exact ⟨rfl, hb.out⟩
end Go.Proofs.Ytfgkkmhafdbicaa.Bd9

set_option linter.unusedVariables false
set_option linter.unusedSimpArgs false
namespace Go.Proofs.Ytfgkkmhafdbicaa.Bd10
open Go.ChangeShapes Go.WideShapes Go.ChangeAt Go.RowKit Base Ints Own Clone PlP Bd1

theorem eq_at {a b : List Int} (hl : a.length = b.length) : decide (a = b) = decide (∀ i, i < a.length → at_ a i = at_ b i) :=
  decide_eq_decide.2 ⟨fun h i _ => by rw [h], list_ext hl⟩
set_option maxHeartbeats 4000000 in
set_option maxRecDepth 100000 in
theorem same_s (a b : Bd) (n : Nat) (h1 : a.1.length = n) (h2 : a.2.length = n) (h3 : b.1.length = n) (h4 : b.2.length = n) (hn : 0 < n ∧ n ≤ 1000) (A1 A2 A3 A4 : Option Addr) (c1 c2 c3 c4 B : Nat) (w : World) (hB : B ≤ w.heap.size)
    (r1 : RdS w B 1 enI A1 a.1) (r2 : RdS w B 1 enI A2 a.2) (r3 : RdS w B 1 enI A3 b.1) (r4 : RdS w B 1 enI A4 b.2) (x : Bool) (hx : decide (a = b) = x) :
    Calls Try.prog 62 #[.agg #[.slice A1 n c1, .slice A2 n c2], .agg #[.slice A3 n c3, .slice A4 n c4]] w fun e w' => e = .returned (.bool x) ∧ Below w.heap.size w w' := by
  obtain ⟨l, m⟩ := a
  obtain ⟨p, q⟩ := b
  simp only at *
  have HX : Hid (decide ((∀ i, i < n → at_ l i = at_ p i) ∧ (∀ i, i < n → at_ m i = at_ q i)) = x) := Lib.hid (by
    rw [← hx]
    refine decide_eq_decide.2 ⟨fun h => ?_, fun h => ?_⟩
    · exact Prod.ext (list_ext (by simp only; omega) (fun i hi => h.1 i (by simp only at hi; omega))) (list_ext (by simp only; omega) (fun i hi => h.2 i (by simp only at hi; omega)))
    · simp only [Prod.mk.injEq] at h
      rw [h.1, h.2]
      exact ⟨fun _ _ => rfl, fun _ _ => rfl⟩)
  have H1 := Lib.hid h1
  have H2 := Lib.hid h2
  have H3 := Lib.hid h3
  have H4 := Lib.hid h4
  have R1 := Lib.hid r1
  have R2 := Lib.hid r2
  have R3 := Lib.hid r3
  have R4 := Lib.hid r4
  clear h1 h2 h3 h4 r1 r2 r3 r4 hx
  go_enter Try.func62, Try.ntmps62
  go_upto_region 1 with (fail)
  refine wp_gen (fun W' => Below w.heap.size w W' ∧ RowB W' w.heap.size 34 [.slice A1 n c1, .slice A2 n c2] ∧ RowB W' (w.heap.size + 1) 34 [.slice A3 n c3, .slice A4 n c4]) ⟨by go_grown, RowB.alloc (RowB.new _ _ _) _, RowB.new' _ _ _ (by first | simp | go_size | rfl)⟩ ?_
  rintro w1 ⟨hbW, ra, rb⟩
  obtain ⟨y0, y1⟩ := ra.c2
  obtain ⟨z0, z1⟩ := rb.c2
  have hl1 := ra.lt
  have hl2 := rb.lt
  go_wp2_with fail
  go_loopw [5] (fun i wr => ∃ k : Nat, k ≤ n ∧ i = .int .i64 (k : Int) ∧ Hid (Below w.heap.size w wr) ∧ RowB wr w.heap.size 34 [.slice A1 n c1, .slice A2 n c2] ∧ RowB wr (w.heap.size + 1) 34 [.slice A3 n c3, .slice A4 n c4] ∧ Hid (∀ i, i < k → at_ l i = at_ p i)) (fun i _ => n - (intOf i).toNat)
  case atStart => exact ⟨0, Nat.zero_le _, by first | rfl | trivial, Lib.hid hbW, ra, rb, Lib.hid (fun i h => absurd h (Nat.not_lt_zero _))⟩
  case round =>
    obtain ⟨k, hk, rfl, hb, ra, rb, hsame⟩ := hrel
    clear y0 y1 z0 z1 hl1 hl2
    obtain ⟨y0, y1⟩ := ra.c2
    obtain ⟨z0, z1⟩ := rb.c2
    have hl1 := ra.lt
    have hl2 := rb.lt
    by_cases hlt : k < n
    · obtain ⟨b1, o1, rfl, hb1', hc1⟩ := at_rd (R1.out.below hb.out hB) (i := k) (by rw [H1.out]; exact hlt)
      obtain ⟨b2, o2, rfl, hb2', hc2⟩ := at_rd (R3.out.below hb.out hB) (i := k) (by rw [H3.out]; exact hlt)
      have hkn : (k : Int) < (n : Int) := by omega
      have hwk : IntKind.i64.wrap ((k : Int) + 1) = (k : Int) + 1 := IntWalk.i64_in _ (by omega)
      by_cases hv : at_ l k = at_ p k
      · have e1 : (at_ l k != at_ p k) = false := by simp [hv]
        have hsN := Lib.hid (show ∀ i, i < k + 1 → at_ l i = at_ p i from fun i hi => by
          by_cases e : i = k
          · rw [e]; exact hv
          · exact hsame.out i (by omega))
        clear hv
        go_wp2_with fail
        go_quiet (fail)
        go_wp2_with fail
        go_roundw
        case rel => exact ⟨k + 1, by omega, by go_num, Lib.hid (below_drewN hb.out _), ra.drewN _, rb.drewN _, hsN⟩
        case measure => simp [intOf]; omega
      · have e1 : (at_ l k != at_ p k) = true := by simp [hv]
        obtain rfl : x = false := by rw [← HX.out]; exact decide_eq_false (fun h => hv (h.1 k hlt))
        clear hv
        go_wp2_with fail
        go_quiet (fail)
        go_wp2_with fail
        go_ret
        exact ⟨rfl, below_drewN hb.out _⟩
    · obtain rfl : n = k := by omega
      have HP := hsame
      clear hsame
      go_wp2_with fail
      go_loopw [6] (fun i wr => ∃ k : Nat, k ≤ n ∧ i = .int .i64 (k : Int) ∧ Hid (Below w.heap.size w wr) ∧ RowB wr w.heap.size 34 [.slice A1 n c1, .slice A2 n c2] ∧ RowB wr (w.heap.size + 1) 34 [.slice A3 n c3, .slice A4 n c4] ∧ Hid (∀ i, i < k → at_ m i = at_ q i)) (fun i _ => n - (intOf i).toNat)
      case atStart => exact ⟨0, Nat.zero_le _, by first | rfl | trivial, hb, ra, rb, Lib.hid (fun i h => absurd h (Nat.not_lt_zero _))⟩
      case round =>
        obtain ⟨k, hk, rfl, hb, ra, rb, hsame⟩ := hrel
        clear y0 y1 z0 z1 hl1 hl2
        obtain ⟨y0, y1⟩ := ra.c2
        obtain ⟨z0, z1⟩ := rb.c2
        have hl1 := ra.lt
        have hl2 := rb.lt
        by_cases hlt : k < n
        · obtain ⟨b1, o1, rfl, hb1', hc1⟩ := at_rd (R2.out.below hb.out hB) (i := k) (by rw [H2.out]; exact hlt)
          obtain ⟨b2, o2, rfl, hb2', hc2⟩ := at_rd (R4.out.below hb.out hB) (i := k) (by rw [H4.out]; exact hlt)
          have hkn : (k : Int) < (n : Int) := by omega
          have hwk : IntKind.i64.wrap ((k : Int) + 1) = (k : Int) + 1 := IntWalk.i64_in _ (by omega)
          by_cases hv : at_ m k = at_ q k
          · have e1 : (at_ m k != at_ q k) = false := by simp [hv]
            have hsN := Lib.hid (show ∀ i, i < k + 1 → at_ m i = at_ q i from fun i hi => by
              by_cases e : i = k
              · rw [e]; exact hv
              · exact hsame.out i (by omega))
            clear hv
            go_wp2_with fail
            go_quiet (fail)
            go_wp2_with fail
            go_roundw
            case rel => exact ⟨k + 1, by omega, by go_num, Lib.hid (below_drewN hb.out _), ra.drewN _, rb.drewN _, hsN⟩
            case measure => simp [intOf]; omega
          · have e1 : (at_ m k != at_ q k) = true := by simp [hv]
            obtain rfl : x = false := by rw [← HX.out]; exact decide_eq_false (fun h => hv (h.2 k hlt))
            clear hv
            go_wp2_with fail
            go_quiet (fail)
            go_wp2_with fail
            go_ret
            exact ⟨rfl, below_drewN hb.out _⟩
        · obtain rfl : n = k := by omega
          obtain rfl : x = true := by rw [← HX.out]; exact decide_eq_true ⟨HP.out, hsame.out⟩
          go_wp2_with fail
          go_ret
          exact ⟨rfl, hb.out⟩
end Go.Proofs.Ytfgkkmhafdbicaa.Bd10
