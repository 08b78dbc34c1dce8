/-
  A board after a step: of the program. Conditions: each theorem's own.
  A board after a step: of the reference. Conditions: each theorem's own.
-/
import Derived.Test.YtfgkkmhafdbicaaBd4
import Derived.Test.YtfgkkmhafdbicaaBd6
import Derived.Test.YtfgkkmhafdbicaaInv
import Derived.StillTailTactics
import Derived.Deep.DeepCutAuto

set_option linter.unusedVariables false
set_option linter.unusedSimpArgs false
namespace Go.Proofs.Ytfgkkmhafdbicaa.Bd7
open Go.ChangeShapes Go.WideShapes Go.ChangeAt Go.RowKit Base Ints Own Clone RelG PlP Bd1 Bd6

/-- A row of numbers with cells to spare. -/
def RowI (w : World) (g : Nat) (l : List Int) (r : List Value) : Prop := RowB w g 2 (l.flatMap enI ++ r)
theorem flatI (l : List Int) : l.flatMap enI = l.map (fun x => Value.int .i64 x) := by
  induction l with
  | nil => rfl
  | cons x l ih => rw [List.flatMap_cons, ih]; rfl
theorem RowI.at_ {w : World} {g : Nat} {l : List Int} {r : List Value} (h : RowI w g l r) {i : Nat} (hi : i < l.length) : w.cell? ⟨g, i, none⟩ = some (.int .i64 (PlP.at_ l i)) := by
  have := RowB.cell h i
  rw [this, flatI, List.getElem?_append_left (by simpa using hi), List.getElem?_map, at_get hi]; rfl
theorem RowI.put {w : World} {g : Nat} {l : List Int} {r : List Value} (h : RowI w g l r) {i : Nat} (hi : i < l.length) (x : Int) : RowI (w.setCell ⟨g, i, none⟩ (.int .i64 x)) g (l.set i x) r := by
  have := RowB.set h i (.int .i64 x)
  unfold RowI
  rw [flatI] at this ⊢
  rw [List.set_append_left _ _ (by simpa using hi), ← List.map_set] at this
  exact this
theorem RowI.of {w : World} {lo hi : Nat} {u : Value} {l : List Int} (h : OwnS w lo hi 2 1 enI u l) (hl : 0 < l.length) :
    ∃ (g c : Nat) (r : List Value), u = .slice (some ⟨g, 0, none⟩) l.length c ∧ lo ≤ g ∧ g < hi ∧ c ≤ maxLen ∧ l.length + r.length = c ∧ RowI w g l r := by
  rcases h.cases_ with ⟨-, rfl⟩ | ⟨g, c, r, h1, h2, h3, h4, h5, h6, h7⟩
  · simp at hl
  · exact ⟨g, c, r, h1, h2, h3, h6, by omega, h4⟩
theorem RowI.own {w : World} {lo hi g c : Nat} {l : List Int} {r : List Value} (h : RowI w g l r) (hlo : lo ≤ g) (hhi : g < hi) (hc : l.length + r.length = c) (hm : c ≤ maxLen) :
    OwnS w lo hi 2 1 enI (.slice (some ⟨g, 0, none⟩) l.length c) l :=
  OwnS.mk_ enI_len h hlo hhi (by omega) hm (by omega)

/-- What stands in memory while the step is made. -/
structure St (w W : World) (vs ss : List Value) (gv gs gr g7 a c n ca cc : Nat) (l m : List Int) (ra rc : List Value) : Prop where
  bel : Below w.heap.size w W
  rv : RowB W gv 32 vs
  rs : RowB W gs 71 ss
  rr : RowB W gr 34 [.slice none 0 0, .slice none 0 0]
  r7 : RowB W g7 34 [.slice (some ⟨a, 0, none⟩) n ca, .slice (some ⟨c, 0, none⟩) n cc]
  hl : RowI W a l ra
  hm : RowI W c m rc
  ll : l.length = n
  lm : m.length = n
  ne : (a ≠ c ∧ a ≠ gv ∧ a ≠ gs ∧ a ≠ gr ∧ a ≠ g7) ∧ (c ≠ gv ∧ c ≠ gs ∧ c ≠ gr ∧ c ≠ g7)
  ge : w.heap.size ≤ a ∧ w.heap.size ≤ c
section
variable {w W : World} {vs ss : List Value} {gv gs gr g7 a c n ca cc : Nat} {l m : List Int} {ra rc : List Value}
theorem St.putA (h : St w W vs ss gv gs gr g7 a c n ca cc l m ra rc) {i : Nat} (hi : i < n) (x y : Int) (hx : PlP.at_ l i + y = x) : St w (W.setCell ⟨a, i, none⟩ (.int .i64 x)) vs ss gv gs gr g7 a c n ca cc (inc l i y) m ra rc := by
  obtain ⟨h1, h2, h3, h4, h5, h6, h7, h8, h9, h10, h11⟩ := h
  have k := h10
  obtain ⟨⟨n1, n2, n3, n4, n5⟩, -⟩ := k
  have hset : inc l i y = l.set i x := by unfold inc; rw [hx]
  exact ⟨h1.setCell (p := ⟨a, i, none⟩) h11.1 _, h2.other (p := ⟨a, i, none⟩) (Ne.symm n2) _, h3.other (p := ⟨a, i, none⟩) (Ne.symm n3) _, h4.other (p := ⟨a, i, none⟩) (Ne.symm n4) _, h5.other (p := ⟨a, i, none⟩) (Ne.symm n5) _, by rw [hset]; exact h6.put (by omega) _, RowB.other h7 (p := ⟨a, i, none⟩) (Ne.symm n1) _, by rw [hset, List.length_set]; exact h8, h9, h10, h11⟩
theorem St.putC (h : St w W vs ss gv gs gr g7 a c n ca cc l m ra rc) {i : Nat} (hi : i < n) (x y : Int) (hx : PlP.at_ m i + y = x) : St w (W.setCell ⟨c, i, none⟩ (.int .i64 x)) vs ss gv gs gr g7 a c n ca cc l (inc m i y) ra rc := by
  obtain ⟨h1, h2, h3, h4, h5, h6, h7, h8, h9, h10, h11⟩ := h
  have hset : inc m i y = m.set i x := by unfold inc; rw [hx]
  have k := h10
  obtain ⟨⟨n1, -⟩, n2, n3, n4, n5⟩ := k
  exact ⟨h1.setCell (p := ⟨c, i, none⟩) h11.2 _, h2.other (p := ⟨c, i, none⟩) (Ne.symm n2) _, h3.other (p := ⟨c, i, none⟩) (Ne.symm n3) _, h4.other (p := ⟨c, i, none⟩) (Ne.symm n4) _, h5.other (p := ⟨c, i, none⟩) (Ne.symm n5) _, RowB.other h6 (p := ⟨c, i, none⟩) n1 _, by rw [hset]; exact h7.put (by omega) _, h8, by rw [hset, List.length_set]; exact h9, h10, h11⟩
end
/-- A step that can be made. -/
def StOk (v : Vr) (s : Stp) : Prop := (0 ≤ s.1 ∧ s.1 ≤ v.p) ∧ (-1 ≤ s.2.1 ∧ s.2.1 < v.p) ∧ (s.2.2.2 = true → 0 ≤ s.2.1)
theorem inc_bd {l : List Int} {i : Nat} {x : Int} {k : Int} (h : ∀ j, -k ≤ at_ l j ∧ at_ l j ≤ 1000 + k) (hx : -1 ≤ x ∧ x ≤ 1) (hi : i < l.length) : ∀ j, -(k + 1) ≤ at_ (inc l i x) j ∧ at_ (inc l i x) j ≤ 1000 + (k + 1) := by
  intro j
  rw [inc_at l i j x hi]
  have h1 := h i
  have h2 := h j
  split <;> omega
theorem sd_bd {v : Vr} {b : Bd} (hb : Ok v b) : (∀ j, -0 ≤ at_ b.1 j ∧ at_ b.1 j ≤ 1000 + 0) ∧ ∀ j, -0 ≤ at_ b.2 j ∧ at_ b.2 j ≤ 1000 + 0 := by
  have hv := hb.v1
  exact ⟨fun j => by have := hb.own.nn j; have := (sum_nn _ hb.own.nn).2 j; have := hb.own.sum; omega, fun j => by have := hb.oth.nn j; have := (sum_nn _ hb.oth.nn).2 j; have := hb.oth.sum; omega⟩

set_option maxHeartbeats 4000000 in
set_option maxRecDepth 100000 in
theorem after_i (v : Vr) (b : Bd) (hb : Ok v b) (Ao At : Option Addr) (co ct B : Nat) (s : Stp) (hs : StOk v s) (w : World) (hB : B ≤ w.heap.size) (ho : RdS w B 1 enI Ao b.1) (ht : RdS w B 1 enI At b.2) (hA : Ao = none → co = 0) (hT : At = none → ct = 0) :
    Calls Try.prog 93 #[.agg #[.int .i64 v.p, .int .i64 v.c, .int .i64 v.h, .int .i64 v.s], .agg #[.slice Ao b.1.length co, .slice At b.2.length ct], .agg #[.int .i64 s.1, .int .i64 s.2.1, .int .i64 s.2.2.1, .bool s.2.2.2]] w fun e w' => BoardR (afterP v b s).1 (afterP v b s).2 w e w' := by
  have hv := hb.v1
  have HS1 := Lib.hid (sd_bd hb).1
  have HS2 := Lib.hid (sd_bd hb).2
  have hl1 := hb.own.len
  have hl2 := hb.oth.len
  obtain ⟨P, hP⟩ : ∃ P : Nat, v.p = (P : Int) := ⟨v.p.toNat, by omega⟩
  have hP24 : P ≤ 24 := by omega
  have CB := Lib.hid (fun (w9 : World) (h : Below w.heap.size w w9) => clone_i b.1 b.2 Ao At co ct B w9 (Nat.le_trans hB h.size) (ho.below h hB) (ht.below h hB) hA hT (by omega) (by omega))
  obtain ⟨F0, T, d, hit⟩ := s
  obtain ⟨⟨hf0, hf1⟩, ⟨ht0, ht1⟩, hh⟩ := hs
  simp only at hf0 hf1 ht0 ht1 hh
  obtain ⟨f, rfl⟩ := Int.eq_ofNat_of_zero_le hf0
  obtain ⟨R, hR⟩ : ∃ r, afterP v b ((f : Int), T, d, hit) = r := ⟨_, rfl⟩
  have HR := Lib.hid hR
  simp only
  rw [hR]
  obtain ⟨p, c, h, s⟩ := v
  obtain ⟨l, m⟩ := b
  simp only at *
  subst hP
  obtain ⟨n, hn⟩ : ∃ n, P + 1 = n := ⟨_, rfl⟩
  have eln : l.length = n := by omega
  have emn : m.length = n := by omega
  have HN := Lib.hid eln
  have HM := Lib.hid emn
  clear hb ho ht hR hf0 hA hT hl1 hl2 eln emn
  go_enter Try.func93, Try.ntmps93
  go_upto_region 1 with (fail)
  refine wp_gen (fun W' => Below w.heap.size w W' ∧ RowB W' w.heap.size 32 [.int .i64 (P : Int), .int .i64 c, .int .i64 h, .int .i64 s] ∧ RowB W' (w.heap.size + 1) 34 [.slice Ao l.length co, .slice At m.length ct] ∧ RowB W' (w.heap.size + 2) 71 [.int .i64 (f : Int), .int .i64 T, .int .i64 d, .bool hit] ∧ RowB W' (w.heap.size + 3) 34 [.slice none 0 0, .slice none 0 0]) ⟨by go_grown, (((RowB.new _ _ _).alloc _).alloc _).alloc _, RowB.alloc (RowB.alloc (RowB.new' _ _ _ (by first | simp | go_size | rfl)) _) _, RowB.alloc (RowB.new' _ _ _ (by first | simp | go_size | rfl)) _, RowB.new' _ _ _ (by first | simp | go_size | rfl)⟩ ?_
  rintro w1 ⟨hbW, rv, rb, rs, rr⟩
  obtain ⟨r0, r1⟩ := rb.c2
  have hl2 := rb.lt
  have hl3 := rr.lt
  go_wp2_with fail
  refine (CB.out w1 hbW).mono ?_
  rintro e w2 ⟨A1, c1, A2, c2, rfl, o1, o2, hap, hb2⟩
  have eln := HN.out
  have emn := HM.out
  obtain ⟨a, ca, ra, h1, a1, a2, a3, a4, hra⟩ := RowI.of o1 (by omega)
  obtain ⟨g, cc, rc, h2, b1, b2, b3, b4, hrc⟩ := RowI.of o2 (by omega)
  simp only [Value.slice.injEq, true_and] at h1 h2
  obtain ⟨rfl, rfl⟩ := h1
  obtain ⟨rfl, rfl⟩ := h2
  have hag : a ≠ g := fun h => hap a rfl (by rw [h]; rfl)
  have rv := rv.below hb2 rv.lt
  have rs := rs.below hb2 rs.lt
  have rr := rr.below hb2 rr.lt
  have hbW := hbW.trans (hb2.mono hbW.size)
  have hs2 := hb2.size
  clear r0 r1 hl2 o1 o2 hap hb2 rb CB
  rw [eln, emn]
  clear eln emn
  go_upto_region 2 with (fail)
  refine wp_gen (fun W' => St w W' [.int .i64 (P : Int), .int .i64 c, .int .i64 h, .int .i64 s] [.int .i64 (f : Int), .int .i64 T, .int .i64 d, .bool hit] w.heap.size (w.heap.size + 2) (w.heap.size + 3) w2.heap.size a g n c1 c2 l m ra rc) ?_ ?_
  · have hl0 := rv.lt
    exact ⟨hbW.alloc hbW.size _, rv.alloc _, rs.alloc _, rr.alloc _, RowB.new _ _ _, RowB.alloc hra _, RowB.alloc hrc _, HN.out, HM.out, ⟨⟨hag, by omega, by omega, by omega, by omega⟩, by omega, by omega, by omega, by omega⟩, by omega, by omega⟩
  intro w3 K3
  clear rv rs rr hra hrc hbW
  obtain ⟨q0, q1, q2, q3⟩ := K3.rv.c4
  obtain ⟨s0, s1, s2, s3⟩ := K3.rs.c4
  obtain ⟨z0, z1⟩ := K3.r7.c2
  have fa := RowB.frozen K3.hl
  have fc := RowB.frozen K3.hm
  have hl0 := K3.rv.lt
  have hl1 := K3.rs.lt
  have hl2 := K3.r7.lt
  have hl4 := RowB.lt K3.hl
  have hl5 := RowB.lt K3.hm
  have hfn : f < n := by omega
  have hfi : (f : Int) < (n : Int) := by omega
  have hca := RowI.at_ K3.hl (i := f) (by rw [K3.ll]; exact hfn)
  have hw1 : IntKind.i64.wrap (at_ l f - 1) = at_ l f - 1 := by have := HS1.out f; exact IntWalk.i64_in _ (by omega)
  go_upto_region 3 with (fail)
  refine wp_gen (fun W' => St w W' [.int .i64 (P : Int), .int .i64 c, .int .i64 h, .int .i64 s] [.int .i64 (f : Int), .int .i64 T, .int .i64 d, .bool hit] w.heap.size (w.heap.size + 2) (w.heap.size + 3) w2.heap.size a g n c1 c2 (inc l f (-1)) m ra rc) (K3.putA hfn _ (-1) rfl) ?_
  intro w4 K4
  clear q0 q1 q2 q3 s0 s1 s2 s3 z0 z1 fa fc hl0 hl1 hl2 hl4 hl5 hca hw1 K3
  obtain ⟨q0, q1, q2, q3⟩ := K4.rv.c4
  obtain ⟨s0, s1, s2, s3⟩ := K4.rs.c4
  obtain ⟨z0, z1⟩ := K4.r7.c2
  have fa := RowB.frozen K4.hl
  have fc := RowB.frozen K4.hm
  have hl0 := K4.rv.lt
  have hl1 := K4.rs.lt
  have hl2 := K4.r7.lt
  have hl4 := RowB.lt K4.hl
  have hl5 := RowB.lt K4.hm
  by_cases gT : 0 ≤ T
  · obtain ⟨t, rfl⟩ := Int.eq_ofNat_of_zero_le gT
    have htn : t < n := by omega
    have hti : (t : Int) < (n : Int) := by omega
    have hca := RowI.at_ K4.hl (i := t) (by rw [K4.ll]; exact htn)
    have hw1 : IntKind.i64.wrap (at_ (inc l f (-1)) t + 1) = at_ (inc l f (-1)) t + 1 := by
      have := inc_bd (k := 0) HS1.out (x := -1) (by omega) (i := f) (by rw [HN.out]; exact hfn) t
      exact IntWalk.i64_in _ (by omega)
    go_upto_region 5 with (fail)
    refine wp_gen (fun W' => St w W' [.int .i64 (P : Int), .int .i64 c, .int .i64 h, .int .i64 s] [.int .i64 (f : Int), .int .i64 (t : Int), .int .i64 d, .bool hit] w.heap.size (w.heap.size + 2) (w.heap.size + 3) w2.heap.size a g n c1 c2 (inc (inc l f (-1)) t 1) m ra rc) (K4.putA htn _ 1 rfl) ?_
    intro w5 K5
    clear q0 q1 q2 q3 s0 s1 s2 s3 z0 z1 fa fc hl0 hl1 hl2 hl4 hl5 hca hw1 K4
    obtain ⟨q0, q1, q2, q3⟩ := K5.rv.c4
    obtain ⟨s0, s1, s2, s3⟩ := K5.rs.c4
    obtain ⟨z0, z1⟩ := K5.r7.c2
    have fa := RowB.frozen K5.hl
    have fc := RowB.frozen K5.hm
    have hl0 := K5.rv.lt
    have hl1 := K5.rs.lt
    have hl2 := K5.r7.lt
    have hl4 := RowB.lt K5.hl
    have hl5 := RowB.lt K5.hm
    cases hit
    case true =>
      obtain ⟨j, hj⟩ : ∃ j : Nat, (P : Int) - 1 - (t : Int) = (j : Int) := ⟨((P : Int) - 1 - (t : Int)).toNat, by omega⟩
      have ej : ((P : Int) - 1 - (t : Int)).toNat = j := by omega
      obtain rfl : R = (inc (inc l f (-1)) t 1, inc (inc m j (-1)) P 1) := by rw [← HR.out]; simp [afterP, ej]
      clear ej
      have hjn : j < n := by omega
      have hji : (j : Int) < (n : Int) := by omega
      have hcc := RowI.at_ K5.hm (i := j) (by rw [K5.lm]; exact hjn)
      have hw1 : IntKind.i64.wrap (at_ m j - 1) = at_ m j - 1 := by have := HS2.out j; exact IntWalk.i64_in _ (by omega)
      have hw2 : IntKind.i64.wrap ((P : Int) - 1) = (P : Int) - 1 := IntWalk.i64_in _ (by omega)
      have hw3 : IntKind.i64.wrap ((P : Int) - 1 - (t : Int)) = (j : Int) := by rw [hj]; exact IntWalk.i64_in _ (by omega)
      go_upto_region 7 with (fail)
      refine wp_gen (fun W' => St w W' [.int .i64 (P : Int), .int .i64 c, .int .i64 h, .int .i64 s] [.int .i64 (f : Int), .int .i64 (t : Int), .int .i64 d, .bool true] w.heap.size (w.heap.size + 2) (w.heap.size + 3) w2.heap.size a g n c1 c2 (inc (inc l f (-1)) t 1) (inc m j (-1)) ra rc) (K5.putC hjn _ (-1) rfl) ?_
      intro w6 K6
      clear q0 q1 q2 q3 s0 s1 s2 s3 z0 z1 fa fc hl0 hl1 hl2 hl4 hl5 hcc hw1 hw2 hw3 K5
      obtain ⟨q0, q1, q2, q3⟩ := K6.rv.c4
      obtain ⟨s0, s1, s2, s3⟩ := K6.rs.c4
      obtain ⟨z0, z1⟩ := K6.r7.c2
      have fa := RowB.frozen K6.hl
      have fc := RowB.frozen K6.hm
      have hl0 := K6.rv.lt
      have hl1 := K6.rs.lt
      have hl2 := K6.r7.lt
      have hl4 := RowB.lt K6.hl
      have hl5 := RowB.lt K6.hm
      have hPn : P < n := by omega
      have hPi : (P : Int) < (n : Int) := by omega
      have hcc := RowI.at_ K6.hm (i := P) (by rw [K6.lm]; exact hPn)
      have hw1 : IntKind.i64.wrap (at_ (inc m j (-1)) P + 1) = at_ (inc m j (-1)) P + 1 := by
        have := inc_bd (k := 0) HS2.out (x := -1) (by omega) (i := j) (by rw [HM.out]; exact hjn) P
        exact IntWalk.i64_in _ (by omega)
      go_upto_region 8 with (fail)
      refine wp_gen (fun W' => St w W' [.int .i64 (P : Int), .int .i64 c, .int .i64 h, .int .i64 s] [.int .i64 (f : Int), .int .i64 (t : Int), .int .i64 d, .bool true] w.heap.size (w.heap.size + 2) (w.heap.size + 3) w2.heap.size a g n c1 c2 (inc (inc l f (-1)) t 1) (inc (inc m j (-1)) P 1) ra rc) (K6.putC hPn _ 1 rfl) ?_
      intro w7 K7
      clear q0 q1 q2 q3 s0 s1 s2 s3 z0 z1 fa fc hl0 hl1 hl2 hl4 hl5 hcc hw1 K6
      obtain ⟨q0, q1, q2, q3⟩ := K7.rv.c4
      obtain ⟨s0, s1, s2, s3⟩ := K7.rs.c4
      obtain ⟨z0, z1⟩ := K7.r7.c2
      have fa := RowB.frozen K7.hl
      have fc := RowB.frozen K7.hm
      have hl0 := K7.rv.lt
      have hl1 := K7.rs.lt
      have hl2 := K7.r7.lt
      have hl4 := RowB.lt K7.hl
      have hl5 := RowB.lt K7.hm
      have rr := K7.rr
      have y0 := rr.c2.1
      have y1 := rr.c2.2
      have fr := rr.frozen
      have hl6 := rr.lt
      go_wp2_with fail
      refine bp_gen (fun W' => Below w.heap.size w W' ∧ RowB W' (w.heap.size + 3) 34 [.slice (some ⟨a, 0, none⟩) n c1, .slice (some ⟨g, 0, none⟩) n c2] ∧ RowI W' a (inc (inc l f (-1)) t 1) ra ∧ RowI W' g (inc (inc m j (-1)) P 1) rc) ⟨below_two K7.bel (by omega) _ _, two_ rr _ _, oth2 K7.hl K7.ne.1.2.2.2.1 _ _, oth2 K7.hm K7.ne.2.2.2.1 _ _⟩ ?_
      rintro W' ⟨hb, rr, hl, hm⟩
      obtain ⟨z0, z1⟩ := rr.c2
      refine bodyPost_ret (v := .agg #[.slice (some ⟨a, 0, none⟩) n c1, .slice (some ⟨g, 0, none⟩) n c2]) (by simp [results, Try.results93, go_sem, z0, z1]) rfl ?_
      have k1 := K7.ll
      have k2 := K7.lm
      have k3 := HN.out
      have k4 := HM.out
      exact ⟨some ⟨a, 0, none⟩, c1, some ⟨g, 0, none⟩, c2, by simp only [k1, k2], hl.own K7.ge.1 (RowB.lt hl) (by omega) a3, hm.own K7.ge.2 (RowB.lt hm) (by omega) b3, fun k hk hk2 => hag (by simp [Value.ownBlock] at hk hk2; omega), hb⟩
    case false =>
      obtain rfl : R = (inc (inc l f (-1)) t 1, m) := by rw [← HR.out]; simp [afterP]
      have rr := K5.rr
      have y0 := rr.c2.1
      have y1 := rr.c2.2
      have fr := rr.frozen
      have hl6 := rr.lt
      go_wp2_with fail
      refine bp_gen (fun W' => Below w.heap.size w W' ∧ RowB W' (w.heap.size + 3) 34 [.slice (some ⟨a, 0, none⟩) n c1, .slice (some ⟨g, 0, none⟩) n c2] ∧ RowI W' a (inc (inc l f (-1)) t 1) ra ∧ RowI W' g (m) rc) ⟨below_two K5.bel (by omega) _ _, two_ rr _ _, oth2 K5.hl K5.ne.1.2.2.2.1 _ _, oth2 K5.hm K5.ne.2.2.2.1 _ _⟩ ?_
      rintro W' ⟨hb, rr, hl, hm⟩
      obtain ⟨z0, z1⟩ := rr.c2
      refine bodyPost_ret (v := .agg #[.slice (some ⟨a, 0, none⟩) n c1, .slice (some ⟨g, 0, none⟩) n c2]) (by simp [results, Try.results93, go_sem, z0, z1]) rfl ?_
      have k1 := K5.ll
      have k2 := K5.lm
      have k3 := HN.out
      have k4 := HM.out
      exact ⟨some ⟨a, 0, none⟩, c1, some ⟨g, 0, none⟩, c2, by simp only [k1, k2], hl.own K5.ge.1 (RowB.lt hl) (by omega) a3, hm.own K5.ge.2 (RowB.lt hm) (by omega) b3, fun k hk hk2 => hag (by simp [Value.ownBlock] at hk hk2; omega), hb⟩
  · cases hit
    case true => exact absurd (hh rfl) gT
    case false =>
      obtain rfl : R = (inc l f (-1), m) := by rw [← HR.out]; simp [afterP, gT]
      have rr := K4.rr
      have y0 := rr.c2.1
      have y1 := rr.c2.2
      have fr := rr.frozen
      have hl6 := rr.lt
      go_wp2_with fail
      refine bp_gen (fun W' => Below w.heap.size w W' ∧ RowB W' (w.heap.size + 3) 34 [.slice (some ⟨a, 0, none⟩) n c1, .slice (some ⟨g, 0, none⟩) n c2] ∧ RowI W' a (inc l f (-1)) ra ∧ RowI W' g (m) rc) ⟨below_two K4.bel (by omega) _ _, two_ rr _ _, oth2 K4.hl K4.ne.1.2.2.2.1 _ _, oth2 K4.hm K4.ne.2.2.2.1 _ _⟩ ?_
      rintro W' ⟨hb, rr, hl, hm⟩
      obtain ⟨z0, z1⟩ := rr.c2
      refine bodyPost_ret (v := .agg #[.slice (some ⟨a, 0, none⟩) n c1, .slice (some ⟨g, 0, none⟩) n c2]) (by simp [results, Try.results93, go_sem, z0, z1]) rfl ?_
      have k1 := K4.ll
      have k2 := K4.lm
      have k3 := HN.out
      have k4 := HM.out
      exact ⟨some ⟨a, 0, none⟩, c1, some ⟨g, 0, none⟩, c2, by simp only [k1, k2], hl.own K4.ge.1 (RowB.lt hl) (by omega) a3, hm.own K4.ge.2 (RowB.lt hm) (by omega) b3, fun k hk hk2 => hag (by simp [Value.ownBlock] at hk hk2; omega), hb⟩
end Go.Proofs.Ytfgkkmhafdbicaa.Bd7

set_option linter.unusedVariables false
set_option linter.unusedSimpArgs false
namespace Go.Proofs.Ytfgkkmhafdbicaa.Bd7S
open Go.ChangeShapes Go.WideShapes Go.ChangeAt Go.RowKit Base Ints Own Clone RelG PlP Bd1 Bd6 Bd7 RegInv

/-- What stands in memory while the step is made. -/
structure Sr (w W : World) (vs ss : List Value) (gv gs gr a c n : Nat) (l m : List Int) (ra rc : List Value) : Prop where
  bel : Below w.heap.size w W
  rv : RowB W gv 32 vs
  rs : RowB W gs 71 ss
  rr : RowB W gr 34 [.slice none 0 0, .slice none 0 0]
  hl : RowI W a l ra
  hm : RowI W c m rc
  ll : l.length = n
  lm : m.length = n
  ne : (a ≠ c ∧ a ≠ gv ∧ a ≠ gs ∧ a ≠ gr) ∧ (c ≠ gv ∧ c ≠ gs ∧ c ≠ gr)
  ge : w.heap.size ≤ a ∧ w.heap.size ≤ c
section
variable {w W : World} {vs ss : List Value} {gv gs gr a c n : Nat} {l m : List Int} {ra rc : List Value}
theorem Sr.drew (h : Sr w W vs ss gv gs gr a c n l m ra rc) : Sr w W.drew vs ss gv gs gr a c n l m ra rc :=
  ⟨h.bel.drew, h.rv.drew, h.rs.drew, h.rr.drew, RowB.drew h.hl, RowB.drew h.hm, h.ll, h.lm, h.ne, h.ge⟩
theorem Sr.putA (h : Sr w W vs ss gv gs gr a c n l m ra rc) {i : Nat} (hi : i < n) (x y : Int) (hx : PlP.at_ l i + y = x) : Sr w (W.setCell ⟨a, i, none⟩ (.int .i64 x)) vs ss gv gs gr a c n (inc l i y) m ra rc := by
  obtain ⟨h1, h2, h3, h4, h6, h7, h8, h9, h10, h11⟩ := h
  have k := h10
  obtain ⟨⟨n1, n2, n3, n4⟩, -⟩ := k
  have hset : inc l i y = l.set i x := by unfold inc; rw [hx]
  exact ⟨h1.setCell (p := ⟨a, i, none⟩) h11.1 _, h2.other (p := ⟨a, i, none⟩) (Ne.symm n2) _, h3.other (p := ⟨a, i, none⟩) (Ne.symm n3) _, h4.other (p := ⟨a, i, none⟩) (Ne.symm n4) _, by rw [hset]; exact h6.put (by omega) _, RowB.other h7 (p := ⟨a, i, none⟩) (Ne.symm n1) _, by rw [hset, List.length_set]; exact h8, h9, h10, h11⟩
theorem Sr.putC (h : Sr w W vs ss gv gs gr a c n l m ra rc) {i : Nat} (hi : i < n) (x y : Int) (hx : PlP.at_ m i + y = x) : Sr w (W.setCell ⟨c, i, none⟩ (.int .i64 x)) vs ss gv gs gr a c n l (inc m i y) ra rc := by
  obtain ⟨h1, h2, h3, h4, h6, h7, h8, h9, h10, h11⟩ := h
  have hset : inc m i y = m.set i x := by unfold inc; rw [hx]
  have k := h10
  obtain ⟨⟨n1, -⟩, n2, n3, n4⟩ := k
  exact ⟨h1.setCell (p := ⟨c, i, none⟩) h11.2 _, h2.other (p := ⟨c, i, none⟩) (Ne.symm n2) _, h3.other (p := ⟨c, i, none⟩) (Ne.symm n3) _, h4.other (p := ⟨c, i, none⟩) (Ne.symm n4) _, RowB.other h6 (p := ⟨c, i, none⟩) n1 _, by rw [hset]; exact h7.put (by omega) _, h8, by rw [hset, List.length_set]; exact h9, h10, h11⟩
end
structure ApF (w : World) (Ao At : Option Addr) (co ct : Nat) (l m : List Int) (vs ss : List Value) (L : Nat → Prop) (v7 v8 v10 v11 v12 v13 v14 v15 : Value) (w' : World) : Prop where
  bel : Below w.heap.size w w'
  rv : RowB w' w.heap.size 32 vs
  rb : RowB w' (w.heap.size + 1) 34 [.slice Ao l.length co, .slice At m.length ct]
  rs : RowB w' (w.heap.size + 2) 71 ss
  rr : RowB w' (w.heap.size + 3) 34 [.slice none 0 0, .slice none 0 0]
  f0 : L 0 → v10 = .pointer (some ⟨w.heap.size + 1, 0, none⟩)
  f1 : L 1 → v11 = .slice Ao l.length co
  f2 : L 2 → ∃ (A1 : Option Addr) (c1 : Nat), v12 = .slice A1 l.length c1 ∧ OwnS w' (w.heap.size + 4) w'.heap.size 2 1 enI (.slice A1 l.length c1) l
  f3 : L 3 → v13 = .pointer (some ⟨w.heap.size + 1, 1, none⟩)
  f4 : L 4 → v14 = .slice At m.length ct
  f5 : L 5 → (∃ (A1 : Option Addr) (c1 : Nat), v15 = .slice A1 m.length c1 ∧ OwnS w' (w.heap.size + 4) w'.heap.size 2 1 enI (.slice A1 m.length c1) m) ∧ (L 2 → Own.Apart v12 v15)
  f6 : L 6 → v7 = v12
  f7 : L 7 → v8 = v15

set_option maxHeartbeats 4000000 in
set_option maxRecDepth 100000 in
theorem after_s (v : Vr) (b : Bd) (hb : Ok v b) (Ao At : Option Addr) (co ct B : Nat) (s : Stp) (hs : StOk v s) (w : World) (hB : B ≤ w.heap.size) (ho : RdS w B 1 enI Ao b.1) (ht : RdS w B 1 enI At b.2) (hA : Ao = none → co = 0) (hT : At = none → ct = 0) :
    Calls Try.prog 89 #[.agg #[.int .i64 v.p, .int .i64 v.c, .int .i64 v.h, .int .i64 v.s], .agg #[.slice Ao b.1.length co, .slice At b.2.length ct], .agg #[.int .i64 s.1, .int .i64 s.2.1, .int .i64 s.2.2.1, .bool s.2.2.2]] w fun e w' => BoardR (afterP v b s).1 (afterP v b s).2 w e w' := by
  have hv := hb.v1
  have HS1 := Lib.hid (sd_bd hb).1
  have HS2 := Lib.hid (sd_bd hb).2
  have hl1 := hb.own.len
  have hl2 := hb.oth.len
  obtain ⟨P, hP⟩ : ∃ P : Nat, v.p = (P : Int) := ⟨v.p.toNat, by omega⟩
  have hP24 : P ≤ 24 := by omega
  have CL_l := Lib.hid (fun (w9 : World) (h : Below w.heap.size w w9) => own02 Ao co B b.1 w9 (Nat.le_trans hB h.size) (ho.below h hB) hA (by omega))
  have CL_m := Lib.hid (fun (w9 : World) (h : Below w.heap.size w w9) => own02 At ct B b.2 w9 (Nat.le_trans hB h.size) (ht.below h hB) hT (by omega))
  obtain ⟨F0, T, d, hit⟩ := s
  obtain ⟨⟨hf0, hf1⟩, ⟨ht0, ht1⟩, hh⟩ := hs
  simp only at hf0 hf1 ht0 ht1 hh
  obtain ⟨f, rfl⟩ := Int.eq_ofNat_of_zero_le hf0
  obtain ⟨R, hR⟩ : ∃ r, afterP v b ((f : Int), T, d, hit) = r := ⟨_, rfl⟩
  have HR := Lib.hid hR
  simp only
  rw [hR]
  obtain ⟨p, c, h, s⟩ := v
  obtain ⟨l, m⟩ := b
  simp only at *
  subst hP
  obtain ⟨n, hn⟩ : ∃ n, P + 1 = n := ⟨_, rfl⟩
  have eln : l.length = n := by omega
  have emn : m.length = n := by omega
  have HN := Lib.hid eln
  have HM := Lib.hid emn
  clear hb ho ht hR hf0 hA hT hl1 hl2 eln emn
  go_enter Try.func89, Try.ntmps89
  go_upto_region 1 with (fail)
  refine wp_gen (fun W' => Below w.heap.size w W' ∧ RowB W' w.heap.size 32 [.int .i64 (P : Int), .int .i64 c, .int .i64 h, .int .i64 s] ∧ RowB W' (w.heap.size + 1) 34 [.slice Ao l.length co, .slice At m.length ct] ∧ RowB W' (w.heap.size + 2) 71 [.int .i64 (f : Int), .int .i64 T, .int .i64 d, .bool hit] ∧ RowB W' (w.heap.size + 3) 34 [.slice none 0 0, .slice none 0 0]) ⟨by go_grown, (((RowB.new _ _ _).alloc _).alloc _).alloc _, RowB.alloc (RowB.alloc (RowB.new' _ _ _ (by first | simp | go_size | rfl)) _) _, RowB.alloc (RowB.new' _ _ _ (by first | simp | go_size | rfl)) _, RowB.new' _ _ _ (by first | simp | go_size | rfl)⟩ ?_
  rintro w1 ⟨hbW, rv, rb, rs, rr⟩
  refine region_inv (fun a0 L a w' => ∃ v7 v8 v10 v11 v12 v13 v14 v15 : Value, a = ((((((((a0.put (some 7) v7).put (some 8) v8).put (some 10) v10).put (some 11) v11).put (some 12) v12).put (some 13) v13).put (some 14) v14).put (some 15) v15) ∧ ApF w Ao At co ct l m [.int .i64 (P : Int), .int .i64 c, .int .i64 h, .int .i64 s] [.int .i64 (f : Int), .int .i64 T, .int .i64 d, .bool hit] L v7 v8 v10 v11 v12 v13 v14 v15 w') (by kernel_rfl) (by kernel_rfl) ?h0 ?hst ?fin
  case h0 =>
    exact ⟨_, _, _, _, _, _, _, _, by simp only [Act.put, List.setIfInBounds_toArray, List.set_cons_zero, List.set_cons_succ]; exact rfl, ⟨hbW.drew, rv.drew, rb.drew, rs.drew, rr.drew, fun h => (h : False).elim, fun h => (h : False).elim, fun h => (h : False).elim, fun h => (h : False).elim, fun h => (h : False).elim, fun h => (h : False).elim, fun h => (h : False).elim, fun h => (h : False).elim⟩⟩
  case hst =>
    refine StepsFrom.cons rfl (fun L a w' hI hno hdep hcl K hK => ?_) ?_
    · obtain ⟨v7, v8, v10, v11, v12, v13, v14, v15, ha, F⟩ := hI
      subst ha
      simp only [Act.put, List.setIfInBounds_toArray, List.set_cons_zero, List.set_cons_succ]
      go_simp
      exact hK.out _ _ ⟨v7, v8, _, v11, v12, v13, v14, v15, by simp only [Act.put, List.setIfInBounds_toArray, List.set_cons_zero, List.set_cons_succ], ⟨F.bel, F.rv, F.rb, F.rs, F.rr, fun _ => rfl, fun h => F.f1 (h.resolve_left (by decide)), fun h => F.f2 (h.resolve_left (by decide)), fun h => F.f3 (h.resolve_left (by decide)), fun h => F.f4 (h.resolve_left (by decide)), fun h => ⟨(F.f5 (h.resolve_left (by decide))).1, fun h2 => (F.f5 (h.resolve_left (by decide))).2 (h2.resolve_left (by decide))⟩, fun h => F.f6 (h.resolve_left (by decide)), fun h => F.f7 (h.resolve_left (by decide))⟩⟩
    refine StepsFrom.cons rfl (fun L a w' hI hno hdep hcl K hK => ?_) ?_
    · obtain ⟨v7, v8, v10, v11, v12, v13, v14, v15, ha, F⟩ := hI
      have r0 := F.rb.c2.1
      have r1 := F.rb.c2.2
      have hl := F.rb.lt
      have e3 := F.f0 (hdep 0 (by kernel_rfl))
      subst ha
      simp only [Act.put, List.setIfInBounds_toArray, List.set_cons_zero, List.set_cons_succ, e3]
      go_simp
      exact hK.out _ _ ⟨v7, v8, v10, _, v12, v13, v14, v15, by simp only [Act.put, List.setIfInBounds_toArray, List.set_cons_zero, List.set_cons_succ, e3], ⟨F.bel, F.rv, F.rb, F.rs, F.rr, fun h => F.f0 (h.resolve_left (by decide)), fun _ => rfl, fun h => F.f2 (h.resolve_left (by decide)), fun h => F.f3 (h.resolve_left (by decide)), fun h => F.f4 (h.resolve_left (by decide)), fun h => ⟨(F.f5 (h.resolve_left (by decide))).1, fun h2 => (F.f5 (h.resolve_left (by decide))).2 (h2.resolve_left (by decide))⟩, fun h => F.f6 (h.resolve_left (by decide)), fun h => F.f7 (h.resolve_left (by decide))⟩⟩
    refine StepsFrom.cons rfl (fun L a w' hI hno hdep hcl K hK => ?_) ?_
    · obtain ⟨v7, v8, v10, v11, v12, v13, v14, v15, ha, F⟩ := hI
      have e4 := F.f1 (hdep 1 (by kernel_rfl))
      have hge := F.rr.lt
      subst ha
      simp only [Act.put, List.setIfInBounds_toArray, List.set_cons_zero, List.set_cons_succ, e4]
      go_simp
      refine (CL_l.out w' F.bel).mono ?_
      rintro e w2 ⟨⟨vv, rfl, ho⟩, hb⟩
      obtain ⟨A1, c1, rfl, -⟩ := ho.form enI_len
      exact hK.out _ _ ⟨v7, v8, v10, v11, _, v13, v14, v15, by simp only [Act.put, List.setIfInBounds_toArray, List.set_cons_zero, List.set_cons_succ, e4], ⟨F.bel.trans (hb.mono F.bel.size), F.rv.below hb F.rv.lt, F.rb.below hb F.rb.lt, F.rs.below hb F.rs.lt, F.rr.below hb F.rr.lt, fun h => F.f0 (h.resolve_left (by decide)), fun h => F.f1 (h.resolve_left (by decide)), fun _ => ⟨A1, c1, rfl, ho.less (by omega)⟩, fun h => F.f3 (h.resolve_left (by decide)), fun h => F.f4 (h.resolve_left (by decide)), fun h => by obtain ⟨⟨A2, c2, h1, h2⟩, h3⟩ := F.f5 (h.resolve_left (by decide)); exact ⟨⟨A2, c2, h1, (h2.below hb (Nat.le_refl _)).more hb.size⟩, fun _ => by rw [h1]; exact fun k hk hk2 => by have := h2.2 k hk2; have := (ho.block k hk).1; omega⟩, fun h => absurd (hcl 6 2 (by kernel_rfl) (h.resolve_left (by decide))) hno, fun h => absurd (hcl 7 2 (by kernel_rfl) (h.resolve_left (by decide))) hno⟩⟩
    refine StepsFrom.cons rfl (fun L a w' hI hno hdep hcl K hK => ?_) ?_
    · obtain ⟨v7, v8, v10, v11, v12, v13, v14, v15, ha, F⟩ := hI
      subst ha
      simp only [Act.put, List.setIfInBounds_toArray, List.set_cons_zero, List.set_cons_succ]
      go_simp
      exact hK.out _ _ ⟨v7, v8, v10, v11, v12, _, v14, v15, by simp only [Act.put, List.setIfInBounds_toArray, List.set_cons_zero, List.set_cons_succ], ⟨F.bel, F.rv, F.rb, F.rs, F.rr, fun h => F.f0 (h.resolve_left (by decide)), fun h => F.f1 (h.resolve_left (by decide)), fun h => F.f2 (h.resolve_left (by decide)), fun _ => rfl, fun h => F.f4 (h.resolve_left (by decide)), fun h => ⟨(F.f5 (h.resolve_left (by decide))).1, fun h2 => (F.f5 (h.resolve_left (by decide))).2 (h2.resolve_left (by decide))⟩, fun h => F.f6 (h.resolve_left (by decide)), fun h => F.f7 (h.resolve_left (by decide))⟩⟩
    refine StepsFrom.cons rfl (fun L a w' hI hno hdep hcl K hK => ?_) ?_
    · obtain ⟨v7, v8, v10, v11, v12, v13, v14, v15, ha, F⟩ := hI
      have r0 := F.rb.c2.1
      have r1 := F.rb.c2.2
      have hl := F.rb.lt
      have e6 := F.f3 (hdep 3 (by kernel_rfl))
      subst ha
      simp only [Act.put, List.setIfInBounds_toArray, List.set_cons_zero, List.set_cons_succ, e6]
      go_simp
      exact hK.out _ _ ⟨v7, v8, v10, v11, v12, v13, _, v15, by simp only [Act.put, List.setIfInBounds_toArray, List.set_cons_zero, List.set_cons_succ, e6], ⟨F.bel, F.rv, F.rb, F.rs, F.rr, fun h => F.f0 (h.resolve_left (by decide)), fun h => F.f1 (h.resolve_left (by decide)), fun h => F.f2 (h.resolve_left (by decide)), fun h => F.f3 (h.resolve_left (by decide)), fun _ => rfl, fun h => ⟨(F.f5 (h.resolve_left (by decide))).1, fun h2 => (F.f5 (h.resolve_left (by decide))).2 (h2.resolve_left (by decide))⟩, fun h => F.f6 (h.resolve_left (by decide)), fun h => F.f7 (h.resolve_left (by decide))⟩⟩
    refine StepsFrom.cons rfl (fun L a w' hI hno hdep hcl K hK => ?_) ?_
    · obtain ⟨v7, v8, v10, v11, v12, v13, v14, v15, ha, F⟩ := hI
      have e7 := F.f4 (hdep 4 (by kernel_rfl))
      have hge := F.rr.lt
      subst ha
      simp only [Act.put, List.setIfInBounds_toArray, List.set_cons_zero, List.set_cons_succ, e7]
      go_simp
      refine (CL_m.out w' F.bel).mono ?_
      rintro e w2 ⟨⟨vv, rfl, ho⟩, hb⟩
      obtain ⟨A1, c1, rfl, -⟩ := ho.form enI_len
      exact hK.out _ _ ⟨v7, v8, v10, v11, v12, v13, v14, _, by simp only [Act.put, List.setIfInBounds_toArray, List.set_cons_zero, List.set_cons_succ, e7], ⟨F.bel.trans (hb.mono F.bel.size), F.rv.below hb F.rv.lt, F.rb.below hb F.rb.lt, F.rs.below hb F.rs.lt, F.rr.below hb F.rr.lt, fun h => F.f0 (h.resolve_left (by decide)), fun h => F.f1 (h.resolve_left (by decide)), fun h => by obtain ⟨A2, c2, h1, h2⟩ := F.f2 (h.resolve_left (by decide)); exact ⟨A2, c2, h1, (h2.below hb (Nat.le_refl _)).more hb.size⟩, fun h => F.f3 (h.resolve_left (by decide)), fun h => F.f4 (h.resolve_left (by decide)), fun _ => ⟨⟨A1, c1, rfl, ho.less (by omega)⟩, fun h2 => by obtain ⟨A2, c2, h1, h3⟩ := F.f2 (h2.resolve_left (by decide)); rw [h1]; exact fun k hk hk2 => by have := h3.2 k hk; have := (ho.block k hk2).1; omega⟩, fun h => absurd (hcl 6 5 (by kernel_rfl) (h.resolve_left (by decide))) hno, fun h => absurd (hcl 7 5 (by kernel_rfl) (h.resolve_left (by decide))) hno⟩⟩
    refine StepsFrom.cons rfl (fun L a w' hI hno hdep hcl K hK => ?_) ?_
    · obtain ⟨v7, v8, v10, v11, v12, v13, v14, v15, ha, F⟩ := hI
      subst ha
      simp only [Act.put, List.setIfInBounds_toArray, List.set_cons_zero, List.set_cons_succ]
      go_simp
      exact hK.out _ _ ⟨v12, v8, v10, v11, v12, v13, v14, v15, by simp only [Act.put, List.setIfInBounds_toArray, List.set_cons_zero, List.set_cons_succ], ⟨F.bel, F.rv, F.rb, F.rs, F.rr, fun h => F.f0 (h.resolve_left (by decide)), fun h => F.f1 (h.resolve_left (by decide)), fun h => F.f2 (h.resolve_left (by decide)), fun h => F.f3 (h.resolve_left (by decide)), fun h => F.f4 (h.resolve_left (by decide)), fun h => ⟨(F.f5 (h.resolve_left (by decide))).1, fun h2 => (F.f5 (h.resolve_left (by decide))).2 (h2.resolve_left (by decide))⟩, fun _ => rfl, fun h => F.f7 (h.resolve_left (by decide))⟩⟩
    refine StepsFrom.cons rfl (fun L a w' hI hno hdep hcl K hK => ?_) ?_
    · obtain ⟨v7, v8, v10, v11, v12, v13, v14, v15, ha, F⟩ := hI
      subst ha
      simp only [Act.put, List.setIfInBounds_toArray, List.set_cons_zero, List.set_cons_succ]
      go_simp
      exact hK.out _ _ ⟨v7, v15, v10, v11, v12, v13, v14, v15, by simp only [Act.put, List.setIfInBounds_toArray, List.set_cons_zero, List.set_cons_succ], ⟨F.bel, F.rv, F.rb, F.rs, F.rr, fun h => F.f0 (h.resolve_left (by decide)), fun h => F.f1 (h.resolve_left (by decide)), fun h => F.f2 (h.resolve_left (by decide)), fun h => F.f3 (h.resolve_left (by decide)), fun h => F.f4 (h.resolve_left (by decide)), fun h => ⟨(F.f5 (h.resolve_left (by decide))).1, fun h2 => (F.f5 (h.resolve_left (by decide))).2 (h2.resolve_left (by decide))⟩, fun h => F.f6 (h.resolve_left (by decide)), fun _ => rfl⟩⟩
    exact StepsFrom.nil (by decide)
  case fin =>
    rintro L a' w3 ⟨v7, v8, v10, v11, v12, v13, v14, v15, rfl, Fx⟩ hL
    obtain ⟨⟨A2, c2, e8, o2⟩, hap⟩ := Fx.f5 (hL 5 (by decide))
    obtain ⟨A1, c1, e5, o1⟩ := Fx.f2 (hL 2 (by decide))
    have hap := hap (hL 2 (by decide))
    have f6 := Fx.f6 (hL 6 (by decide))
    have f7 := Fx.f7 (hL 7 (by decide))
    subst f6 f7
    subst e8 e5
    have eln := HN.out
    have emn := HM.out
    obtain ⟨a, ca, ra, h1, a1, a2, a3, a4, hra⟩ := RowI.of o1 (by omega)
    obtain ⟨g, cc, rc, h2, b1, b2, b3, b4, hrc⟩ := RowI.of o2 (by omega)
    simp only [Value.slice.injEq, true_and] at h1 h2
    obtain ⟨rfl, rfl⟩ := h1
    obtain ⟨rfl, rfl⟩ := h2
    have hag : a ≠ g := fun h => hap a rfl (by rw [h]; rfl)
    have K3 : Sr w w3 [.int .i64 (P : Int), .int .i64 c, .int .i64 h, .int .i64 s] [.int .i64 (f : Int), .int .i64 T, .int .i64 d, .bool hit] w.heap.size (w.heap.size + 2) (w.heap.size + 3) a g n l m ra rc := ⟨Fx.bel, Fx.rv, Fx.rs, Fx.rr, hra, hrc, eln, emn, ⟨⟨hag, by omega, by omega, by omega⟩, by omega, by omega, by omega⟩, by omega, by omega⟩
    clear Fx hL o1 o2 hap hra hrc rv rb rs rr hbW
    simp only [Act.put, List.setIfInBounds_toArray, List.set_cons_zero, List.set_cons_succ, eln, emn]
    clear eln emn
    obtain ⟨q0, q1, q2, q3⟩ := K3.rv.c4
    obtain ⟨s0, s1, s2, s3⟩ := K3.rs.c4
    have fa := RowB.frozen K3.hl
    have fc := RowB.frozen K3.hm
    have hl0 := K3.rv.lt
    have hl1 := K3.rs.lt
    have hl4 := RowB.lt K3.hl
    have hl5 := RowB.lt K3.hm
    have hfn : f < n := by omega
    have hfi : (f : Int) < (n : Int) := by omega
    have hca := RowI.at_ K3.hl (i := f) (by rw [K3.ll]; exact hfn)
    have hw1 : IntKind.i64.wrap (at_ l f - 1) = at_ l f - 1 := by have := HS1.out f; exact IntWalk.i64_in _ (by omega)
    go_wp2_with fail
    go_still_tail 10, (by kernel_rfl)
    go_upto_region 3 with (fail)
    refine wp_gen (fun W' => Sr w W' [.int .i64 (P : Int), .int .i64 c, .int .i64 h, .int .i64 s] [.int .i64 (f : Int), .int .i64 T, .int .i64 d, .bool hit] w.heap.size (w.heap.size + 2) (w.heap.size + 3) a g n (inc l f (-1)) m ra rc) (K3.drew.putA hfn _ (-1) rfl) ?_
    intro w4 K4
    clear q0 q1 q2 q3 s0 s1 s2 s3 fa fc hl0 hl1 hl4 hl5 hca hw1 K3
    obtain ⟨q0, q1, q2, q3⟩ := K4.rv.c4
    obtain ⟨s0, s1, s2, s3⟩ := K4.rs.c4
    have fa := RowB.frozen K4.hl
    have fc := RowB.frozen K4.hm
    have hl0 := K4.rv.lt
    have hl1 := K4.rs.lt
    have hl4 := RowB.lt K4.hl
    have hl5 := RowB.lt K4.hm
    by_cases gT : 0 ≤ T
    · obtain ⟨t, rfl⟩ := Int.eq_ofNat_of_zero_le gT
      have htn : t < n := by omega
      have hti : (t : Int) < (n : Int) := by omega
      have hca := RowI.at_ K4.hl (i := t) (by rw [K4.ll]; exact htn)
      have hw1 : IntKind.i64.wrap (at_ (inc l f (-1)) t + 1) = at_ (inc l f (-1)) t + 1 := by
        have := inc_bd (k := 0) HS1.out (x := -1) (by omega) (i := f) (by rw [HN.out]; exact hfn) t
        exact IntWalk.i64_in _ (by omega)
      go_wp2_with fail
      go_still_tail 10, (by kernel_rfl)
      go_upto_region 5 with (fail)
      refine wp_gen (fun W' => Sr w W' [.int .i64 (P : Int), .int .i64 c, .int .i64 h, .int .i64 s] [.int .i64 (f : Int), .int .i64 (t : Int), .int .i64 d, .bool hit] w.heap.size (w.heap.size + 2) (w.heap.size + 3) a g n (inc (inc l f (-1)) t 1) m ra rc) (K4.drew.putA htn _ 1 rfl) ?_
      intro w5 K5
      clear q0 q1 q2 q3 s0 s1 s2 s3 fa fc hl0 hl1 hl4 hl5 hca hw1 K4
      obtain ⟨q0, q1, q2, q3⟩ := K5.rv.c4
      obtain ⟨s0, s1, s2, s3⟩ := K5.rs.c4
      have fa := RowB.frozen K5.hl
      have fc := RowB.frozen K5.hm
      have hl0 := K5.rv.lt
      have hl1 := K5.rs.lt
      have hl4 := RowB.lt K5.hl
      have hl5 := RowB.lt K5.hm
      cases hit
      case true =>
        obtain ⟨j, hj⟩ : ∃ j : Nat, (P : Int) - 1 - (t : Int) = (j : Int) := ⟨((P : Int) - 1 - (t : Int)).toNat, by omega⟩
        have ej : ((P : Int) - 1 - (t : Int)).toNat = j := by omega
        obtain rfl : R = (inc (inc l f (-1)) t 1, inc (inc m j (-1)) P 1) := by rw [← HR.out]; simp [afterP, ej]
        clear ej
        have hjn : j < n := by omega
        have hji : (j : Int) < (n : Int) := by omega
        have hcc := RowI.at_ K5.hm (i := j) (by rw [K5.lm]; exact hjn)
        have hw1 : IntKind.i64.wrap (at_ m j - 1) = at_ m j - 1 := by have := HS2.out j; exact IntWalk.i64_in _ (by omega)
        have hw2 : IntKind.i64.wrap ((P : Int) - 1) = (P : Int) - 1 := IntWalk.i64_in _ (by omega)
        have hw3 : IntKind.i64.wrap ((P : Int) - 1 - (t : Int)) = (j : Int) := by rw [hj]; exact IntWalk.i64_in _ (by omega)
        go_upto_region 8 with (fail)
        refine wp_gen (fun W' => Sr w W' [.int .i64 (P : Int), .int .i64 c, .int .i64 h, .int .i64 s] [.int .i64 (f : Int), .int .i64 (t : Int), .int .i64 d, .bool true] w.heap.size (w.heap.size + 2) (w.heap.size + 3) a g n (inc (inc l f (-1)) t 1) (inc m j (-1)) ra rc) (K5.putC hjn _ (-1) rfl) ?_
        intro w6 K6
        clear q0 q1 q2 q3 s0 s1 s2 s3 fa fc hl0 hl1 hl4 hl5 hcc hw1 hw2 hw3 K5
        obtain ⟨q0, q1, q2, q3⟩ := K6.rv.c4
        obtain ⟨s0, s1, s2, s3⟩ := K6.rs.c4
        have fa := RowB.frozen K6.hl
        have fc := RowB.frozen K6.hm
        have hl0 := K6.rv.lt
        have hl1 := K6.rs.lt
        have hl4 := RowB.lt K6.hl
        have hl5 := RowB.lt K6.hm
        have hPn : P < n := by omega
        have hPi : (P : Int) < (n : Int) := by omega
        have hcc := RowI.at_ K6.hm (i := P) (by rw [K6.lm]; exact hPn)
        have hw1 : IntKind.i64.wrap (at_ (inc m j (-1)) P + 1) = at_ (inc m j (-1)) P + 1 := by
          have := inc_bd (k := 0) HS2.out (x := -1) (by omega) (i := j) (by rw [HM.out]; exact hjn) P
          exact IntWalk.i64_in _ (by omega)
        go_wp2_with fail
        go_still_tail 10, (by kernel_rfl)
        go_upto_region 9 with (fail)
        refine wp_gen (fun W' => Sr w W' [.int .i64 (P : Int), .int .i64 c, .int .i64 h, .int .i64 s] [.int .i64 (f : Int), .int .i64 (t : Int), .int .i64 d, .bool true] w.heap.size (w.heap.size + 2) (w.heap.size + 3) a g n (inc (inc l f (-1)) t 1) (inc (inc m j (-1)) P 1) ra rc) (K6.drew.putC hPn _ 1 rfl) ?_
        intro w7 K7
        clear q0 q1 q2 q3 s0 s1 s2 s3 fa fc hl0 hl1 hl4 hl5 hcc hw1 K6
        obtain ⟨q0, q1, q2, q3⟩ := K7.rv.c4
        obtain ⟨s0, s1, s2, s3⟩ := K7.rs.c4
        have fa := RowB.frozen K7.hl
        have fc := RowB.frozen K7.hm
        have hl0 := K7.rv.lt
        have hl1 := K7.rs.lt
        have hl4 := RowB.lt K7.hl
        have hl5 := RowB.lt K7.hm
        have rr := K7.rr
        have y0 := rr.c2.1
        have y1 := rr.c2.2
        have fr := rr.frozen
        have hl6 := rr.lt
        go_wp2_with fail
        refine bp_gen (fun W' => Below w.heap.size w W' ∧ RowB W' (w.heap.size + 3) 34 [.slice (some ⟨a, 0, none⟩) n c1, .slice (some ⟨g, 0, none⟩) n c2] ∧ RowI W' a (inc (inc l f (-1)) t 1) ra ∧ RowI W' g (inc (inc m j (-1)) P 1) rc) ⟨below_two K7.bel (by omega) _ _, two_ rr _ _, oth2 K7.hl K7.ne.1.2.2.2 _ _, oth2 K7.hm K7.ne.2.2.2 _ _⟩ ?_
        rintro W' ⟨hb, rr, hl, hm⟩
        obtain ⟨z0, z1⟩ := rr.c2
        refine bodyPost_ret (v := .agg #[.slice (some ⟨a, 0, none⟩) n c1, .slice (some ⟨g, 0, none⟩) n c2]) (by simp [results, Try.results89, go_sem, z0, z1]) rfl ?_
        have k1 := K7.ll
        have k2 := K7.lm
        have k3 := HN.out
        have k4 := HM.out
        exact ⟨some ⟨a, 0, none⟩, c1, some ⟨g, 0, none⟩, c2, by simp only [k1, k2], hl.own K7.ge.1 (RowB.lt hl) (by omega) a3, hm.own K7.ge.2 (RowB.lt hm) (by omega) b3, fun k hk hk2 => hag (by simp [Value.ownBlock] at hk hk2; omega), hb⟩
      case false =>
        obtain rfl : R = (inc (inc l f (-1)) t 1, m) := by rw [← HR.out]; simp [afterP]
        have rr := K5.rr
        have y0 := rr.c2.1
        have y1 := rr.c2.2
        have fr := rr.frozen
        have hl6 := rr.lt
        go_wp2_with fail
        refine bp_gen (fun W' => Below w.heap.size w W' ∧ RowB W' (w.heap.size + 3) 34 [.slice (some ⟨a, 0, none⟩) n c1, .slice (some ⟨g, 0, none⟩) n c2] ∧ RowI W' a (inc (inc l f (-1)) t 1) ra ∧ RowI W' g (m) rc) ⟨below_two K5.bel (by omega) _ _, two_ rr _ _, oth2 K5.hl K5.ne.1.2.2.2 _ _, oth2 K5.hm K5.ne.2.2.2 _ _⟩ ?_
        rintro W' ⟨hb, rr, hl, hm⟩
        obtain ⟨z0, z1⟩ := rr.c2
        refine bodyPost_ret (v := .agg #[.slice (some ⟨a, 0, none⟩) n c1, .slice (some ⟨g, 0, none⟩) n c2]) (by simp [results, Try.results89, go_sem, z0, z1]) rfl ?_
        have k1 := K5.ll
        have k2 := K5.lm
        have k3 := HN.out
        have k4 := HM.out
        exact ⟨some ⟨a, 0, none⟩, c1, some ⟨g, 0, none⟩, c2, by simp only [k1, k2], hl.own K5.ge.1 (RowB.lt hl) (by omega) a3, hm.own K5.ge.2 (RowB.lt hm) (by omega) b3, fun k hk hk2 => hag (by simp [Value.ownBlock] at hk hk2; omega), hb⟩
    · cases hit
      case true => exact absurd (hh rfl) gT
      case false =>
        obtain rfl : R = (inc l f (-1), m) := by rw [← HR.out]; simp [afterP, gT]
        have rr := K4.rr
        have y0 := rr.c2.1
        have y1 := rr.c2.2
        have fr := rr.frozen
        have hl6 := rr.lt
        go_wp2_with fail
        refine bp_gen (fun W' => Below w.heap.size w W' ∧ RowB W' (w.heap.size + 3) 34 [.slice (some ⟨a, 0, none⟩) n c1, .slice (some ⟨g, 0, none⟩) n c2] ∧ RowI W' a (inc l f (-1)) ra ∧ RowI W' g (m) rc) ⟨below_two K4.bel (by omega) _ _, two_ rr _ _, oth2 K4.hl K4.ne.1.2.2.2 _ _, oth2 K4.hm K4.ne.2.2.2 _ _⟩ ?_
        rintro W' ⟨hb, rr, hl, hm⟩
        obtain ⟨z0, z1⟩ := rr.c2
        refine bodyPost_ret (v := .agg #[.slice (some ⟨a, 0, none⟩) n c1, .slice (some ⟨g, 0, none⟩) n c2]) (by simp [results, Try.results89, go_sem, z0, z1]) rfl ?_
        have k1 := K4.ll
        have k2 := K4.lm
        have k3 := HN.out
        have k4 := HM.out
        exact ⟨some ⟨a, 0, none⟩, c1, some ⟨g, 0, none⟩, c2, by simp only [k1, k2], hl.own K4.ge.1 (RowB.lt hl) (by omega) a3, hm.own K4.ge.2 (RowB.lt hm) (by omega) b3, fun k hk hk2 => hag (by simp [Value.ownBlock] at hk hk2; omega), hb⟩
end Go.Proofs.Ytfgkkmhafdbicaa.Bd7S
