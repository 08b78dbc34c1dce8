/-
  impl.readStep: what it returns. Conditions: each theorem's own.
-/
import Derived.Test.YtlfdcefgelpgmaaGreatDoorTxW
import Derived.Deep.CutRange
set_option linter.unusedVariables false
set_option linter.unusedSimpArgs false
namespace Go.Proofs.YtlfdcefgelpgmaaGreatDoor.TxI
open Go.ChangeShapes Go.WideShapes Go.ChangeAt Go.RowKit Base Ints JoinN PlP TxP Num Bd1

def optS : Option Stp → Stp × Bool
  | some s => (s, true)
  | none => ((0, 0, 0, false), false)
def stpV (s : Stp) : Value := .agg #[.int .i64 s.1, .int .i64 s.2.1, .int .i64 s.2.2.1, .bool s.2.2.2]
theorem gI_eq {v : Vr} {t l r q : By} {one o1 hp o2 o3 hit : Bool} {n1 n2 n3 : Int} (h1 : Lib.cut t [47] = (l, r, one)) (h2 : rdDec l = (n1, o1)) (h3 : Lib.hasPrefix r [111, 102, 102] = hp) (h4 : Lib.trimPrefix r [111, 102, 102] = q)
    (h5 : rdDec (Lib.trimSuffix (Lib.trimPrefix q [40]) [41]) = (n2, o2)) (h6 : rdDec (Lib.trimSuffix r [42]) = (n3, o3)) (h7 : Lib.hasSuffix r [42] = hit) {F1 T : Int} (hF : IntKind.i64.wrap (n1 - 1) = F1) (hT : IntKind.i64.wrap (n3 - 1) = T) :
    gI v t = if one = false then none else if ¬ l = [98, 97, 114] ∧ o1 = false then none else
      if hp = true then (if q = [] then some (if l = [98, 97, 114] then v.p else F1, -1, IntKind.i64.wrap ((if l = [98, 97, 114] then v.p else F1) + 1), false) else if o2 = true then some (if l = [98, 97, 114] then v.p else F1, -1, n2, false) else none)
      else if o3 = true then some (if l = [98, 97, 114] then v.p else F1, T, IntKind.i64.wrap ((if l = [98, 97, 114] then v.p else F1) - T), hit) else none := by
  unfold gI
  rw [h1]
  simp only [h2, h3, h6, h7, hF, hT]
  have e1 : hp = true → r.drop 3 = q := fun h => by
    rw [← h4]
    unfold Lib.trimPrefix
    rw [h3, if_pos h]
    rfl
  split
  · rfl
  · split
    · rfl
    · split
      · rename_i hh
        unfold inner
        rw [e1 hh, h5]
      · rfl
theorem rd_none {v : Vr} {t : By} (h : gI v t = none) : optS (rdI v t) = ((0, 0, 0, false), false) := by unfold rdI; rw [h]; rfl
theorem rd_yes {v : Vr} {t : By} {s : Stp} (h : gI v t = some s) (h1 : plainB v s = true) (h2 : stpT v s = t) : optS (rdI v t) = (s, true) := by unfold rdI; rw [h]; simp only; rw [if_pos ⟨h1, h2⟩]; rfl
theorem rd_no1 {v : Vr} {t : By} {s : Stp} (h : gI v t = some s) (h1 : plainB v s = false) : optS (rdI v t) = ((0, 0, 0, false), false) := by unfold rdI; rw [h]; simp only; rw [if_neg (fun h' => by rw [h1] at h'; simp at h')]; rfl
theorem rd_no2 {v : Vr} {t : By} {s : Stp} (h : gI v t = some s) (h2 : ¬ stpT v s = t) : optS (rdI v t) = ((0, 0, 0, false), false) := by unfold rdI; rw [h]; simp only; rw [if_neg (fun h' => h2 h'.2)]; rfl
/-- The boxes of readStep: a variant, the result, the step under way. -/
structure Br0 (w wr : World) (v : Vr) : Prop where
  bel : Below w.heap.size w wr
  rv : RowB wr w.heap.size 25 [.int .i64 v.p, .int .i64 v.c, .int .i64 v.h, .int .i64 v.s]
  r0 : RowB wr (w.heap.size + 1) 91 [.int .i64 0, .int .i64 0, .int .i64 0, .bool false]
  env : Env wr
theorem Br0.below {w wr w' : World} {v : Vr} (k : Br0 w wr v) (hb : Below wr.heap.size wr w') : Br0 w w' v :=
  ⟨k.bel.trans (hb.mono k.bel.size), k.rv.below hb k.rv.lt, k.r0.below hb k.r0.lt, k.env.below hb⟩
structure Br (w wr : World) (v : Vr) (gs : Nat) (cs : List Value) : Prop where
  k0 : Br0 w wr v
  rs : RowB wr gs 91 cs
  hg : w.heap.size + 2 ≤ gs
theorem Br.below {w wr w' : World} {v : Vr} {gs : Nat} {cs : List Value} (k : Br w wr v gs cs) (hb : Below wr.heap.size wr w') : Br w w' v gs cs :=
  ⟨k.k0.below hb, k.rs.below hb k.rs.lt, k.hg⟩
theorem Br.set {w wr : World} {v : Vr} {gs : Nat} {cs : List Value} (k : Br w wr v gs cs) (E : Env w) (j : Nat) (u : Value) : Br w (wr.setCell ⟨gs, j, none⟩ u) v gs (cs.set j u) :=
  ⟨⟨k.k0.bel.setCell (p := ⟨gs, j, none⟩) (by have := k.hg; show w.heap.size ≤ gs; omega) u, k.k0.rv.other (p := ⟨gs, j, none⟩) (by have := k.hg; show w.heap.size ≠ gs; omega) u, k.k0.r0.other (p := ⟨gs, j, none⟩) (by have := k.hg; show w.heap.size + 1 ≠ gs; omega) u, E.below (k.k0.bel.setCell (p := ⟨gs, j, none⟩) (by have := k.hg; show w.heap.size ≤ gs; omega) u)⟩, k.rs.set j u, k.hg⟩
theorem four {W : World} {g : Nat} {t : TypeId} {a b c d : Value} (h : RowB W g t [a, b, c, d]) (u v x y : Value) : RowB ((((W.setCell ⟨g, 0, none⟩ u).setCell ⟨g, 1, none⟩ v).setCell ⟨g, 2, none⟩ x).setCell ⟨g, 3, none⟩ y) g t [u, v, x, y] :=
  (((h.set 0 u).set 1 v).set 2 x).set 3 y
theorem below_four {B : Nat} {w W : World} (h : Below B w W) {g : Nat} (hg : B ≤ g) (u v x y : Value) : Below B w ((((W.setCell ⟨g, 0, none⟩ u).setCell ⟨g, 1, none⟩ v).setCell ⟨g, 2, none⟩ x).setCell ⟨g, 3, none⟩ y) :=
  (((h.setCell (p := ⟨g, 0, none⟩) hg _).setCell (p := ⟨g, 1, none⟩) hg _).setCell (p := ⟨g, 2, none⟩) hg _).setCell (p := ⟨g, 3, none⟩) hg _

set_option maxHeartbeats 4000000 in
set_option maxRecDepth 100000 in
theorem rstep_i (v : Vr) (hv : okV v = true) (t : By) (hl : t.length ≤ 4194304) (w : World) (E : Env w) : Calls Tryz.prog 102 #[.agg #[.int .i64 v.p, .int .i64 v.c, .int .i64 v.h, .int .i64 v.s], .string (bs t)] w fun e w' => e = .returned (.tuple #[stpV (optS (rdI v t)).1, .bool (optS (rdI v t)).2]) ∧ Below w.heap.size w w' := by
  obtain ⟨⟨l, r, one⟩, h1⟩ : ∃ z, Lib.cut t [47] = z := ⟨_, rfl⟩
  obtain ⟨⟨n1, o1⟩, h2⟩ : ∃ z, rdDec l = z := ⟨_, rfl⟩
  obtain ⟨hp, h3⟩ : ∃ z, Lib.hasPrefix r [111, 102, 102] = z := ⟨_, rfl⟩
  obtain ⟨q, h4⟩ : ∃ z, Lib.trimPrefix r [111, 102, 102] = z := ⟨_, rfl⟩
  obtain ⟨q1, h40⟩ : ∃ z, Lib.trimPrefix q [40] = z := ⟨_, rfl⟩
  obtain ⟨q2, h41⟩ : ∃ z, Lib.trimSuffix q1 [41] = z := ⟨_, rfl⟩
  obtain ⟨⟨n2, o2⟩, h5⟩ : ∃ z, rdDec q2 = z := ⟨_, rfl⟩
  obtain ⟨to_, h60⟩ : ∃ z, Lib.trimSuffix r [42] = z := ⟨_, rfl⟩
  obtain ⟨⟨n3, o3⟩, h6⟩ : ∃ z, rdDec to_ = z := ⟨_, rfl⟩
  obtain ⟨hit, h7⟩ : ∃ z, Lib.hasSuffix r [42] = z := ⟨_, rfl⟩
  obtain ⟨F1, hF⟩ : ∃ z, IntKind.i64.wrap (n1 - 1) = z := ⟨_, rfl⟩
  obtain ⟨T, hT⟩ : ∃ z, IntKind.i64.wrap (n3 - 1) = z := ⟨_, rfl⟩
  have hG := gI_eq (v := v) (n2 := n2) (o2 := o2) (n3 := n3) (o3 := o3) (F1 := F1) (T := T) h1 h2 h3 h4 (by rw [h40, h41]; exact h5) (by rw [h60]; exact h6) h7 hF hT
  have hc := cut_len t [47]
  rw [h1] at hc
  simp only at hc
  have l1 := trp_len r [111, 102, 102]
  have l2 := trp_len q [40]
  have l3 := trs_len q1 [41]
  have l4 := trs_len r [42]
  rw [h4] at l1
  rw [h40] at l2
  rw [h41] at l3
  rw [h60] at l4
  have C1 := Lib.hid (fun (w9 : World) (E9 : Env w9) => cut_w t [47] hl w9 E9)
  have C2 := Lib.hid (fun (w9 : World) (E9 : Env w9) => rdd_w l (by omega) w9 E9)
  have C3 := Lib.hid (fun (w9 : World) => cpre_w r [111, 102, 102] w9)
  have C4 := Lib.hid (fun (w9 : World) => tpre_w q [40] w9)
  have C5 := Lib.hid (fun (w9 : World) => tsuf_w q1 [41] (by omega) w9)
  have C6 := Lib.hid (fun (w9 : World) (E9 : Env w9) => rdd_w q2 (by omega) w9 E9)
  have C7 := Lib.hid (fun (w9 : World) => csuf_w r [42] (by omega) w9)
  have C8 := Lib.hid (fun (w9 : World) (E9 : Env w9) => rdd_w to_ (by omega) w9 E9)
  rw [h1] at C1
  rw [h2] at C2
  rw [h3, h4] at C3
  rw [h40] at C4
  rw [h41] at C5
  rw [h5] at C6
  rw [h60, h7] at C7
  rw [h6] at C8
  have b1 := rd_bd l
  have b2 := rd_bd q2
  have b3 := rd_bd to_
  rw [h2] at b1
  rw [h5] at b2
  rw [h6] at b3
  simp only at b1 b2 b3 C1 C2 C3 C6 C7 C8
  have bF : -9223372036854775808 ≤ F1 ∧ F1 ≤ 9223372036854775807 := by rw [← hF, IntKind.wrap_i64]; omega
  have bT : -9223372036854775808 ≤ T ∧ T ≤ 9223372036854775807 := by rw [← hT, IntKind.wrap_i64]; omega
  obtain ⟨R, hR⟩ : ∃ z, optS (rdI v t) = z := ⟨_, rfl⟩
  have HG := Lib.hid hG
  have HR := Lib.hid hR
  have HFT := Lib.hid (And.intro hF hT)
  have HV := Lib.hid hv
  rw [hR]
  clear h1 h2 h3 h4 h40 h41 h5 h60 h6 h7 hG hR l1 l2 l3 l4 hc hl b1 b2 b3 bF bT hF hT hv
  go_enter Tryz.func102, Tryz.ntmps102
  go_upto_region 1 with (fail)
  refine wp_gen (fun W' => Br0 w W' v) ⟨by go_grown, (RowB.new _ _ _).alloc _, RowB.new' _ _ _ (by simp), E.below (by go_grown)⟩ ?_
  intro w1 K
  go_wp2_with fail
  refine (C1.out w1 K.env).mono ?_
  rintro e w2 ⟨rfl, hb⟩
  have K := K.below hb
  clear hb
  cases one
  case false =>
    obtain ⟨y0, y1, y2, y3⟩ := K.r0.c4
    have hl0 := K.r0.lt
    have fr := K.r0.frozen
    obtain ⟨q0, q1, q2, q3⟩ := K.rv.c4
    have hlv := K.rv.lt
    have hR : R = ((0, 0, 0, false), false) := by rw [← HR.out]; exact rd_none (by rw [HG.out]; rfl)
    subst hR
    clear HR HG
    go_wp2_with fail
    refine bp_gen (fun W' => Below w.heap.size w W' ∧ RowB W' (w.heap.size + 1) 91 [.int .i64 0, .int .i64 0, .int .i64 0, .bool false]) ⟨below_four K.bel (by omega) _ _ _ _, four K.r0 _ _ _ _⟩ ?_
    rintro w8 ⟨hb8, r8⟩
    obtain ⟨z0, z1, z2, z3⟩ := r8.c4
    refine bodyPost_ret (v := .tuple #[.agg #[.int .i64 0, .int .i64 0, .int .i64 0, .bool false], .bool false]) (by simp [results, Tryz.results102, go_sem, z0, z1, z2, z3]) rfl ?_
    exact ⟨rfl, hb8⟩
  obtain ⟨y0, y1, y2, y3⟩ := K.r0.c4
  have hl0 := K.r0.lt
  have fr := K.r0.frozen
  obtain ⟨q0, q1, q2, q3⟩ := K.rv.c4
  have hlv := K.rv.lt
  go_upto_region 5 with (fail)
  refine wp_gen (fun W' => Br w W' v w2.heap.size [.int .i64 v.p, .int .i64 0, .int .i64 0, .bool false]) ?_ ?_
  · exact ⟨⟨K.bel.alloc K.bel.size _, K.rv.alloc _, K.r0.alloc _, K.env.below ((Below.refl _ _).alloc (Nat.le_refl _) _)⟩, RowB.new _ _ _, hl0⟩
  clear y0 y1 y2 y3 hl0 fr q0 q1 q2 q3 hlv
  intro w3 K
  obtain ⟨gs, hgs⟩ : ∃ g, w2.heap.size = g := ⟨_, rfl⟩
  rw [hgs] at K ⊢
  clear hgs
  obtain ⟨x0, x1, x2, x3⟩ := K.rs.c4
  have hls := K.rs.lt
  have frs := K.rs.frozen
  obtain ⟨y0, y1, y2, y3⟩ := K.k0.r0.c4
  have hl0 := K.k0.r0.lt
  have fr := K.k0.r0.frozen
  obtain ⟨q0, q1, q2, q3⟩ := K.k0.rv.c4
  have hlv := K.k0.rv.lt
  obtain ⟨bq, hbq⟩ : ∃ b, ((bs l).toList == [98, 97, 114]) = b := ⟨_, rfl⟩
  have hlb : if bq = true then l = [98, 97, 114] else ¬ l = [98, 97, 114] := by rw [← hbq, ByteArray.toList_eq, bs_data]; by_cases h : l = [98, 97, 114] <;> simp [h]
  have HLB := Lib.hid hlb
  clear hlb
  go_upto_if 33 with fail
  clear hbq
  go_cut [10, 11] from 32 (fun s10 s11 wx => ∃ f, Br w wx v gs [.int .i64 f, .int .i64 0, .int .i64 0, .bool false] ∧ Hid (gI v t = if hp = true then (if q = [] then some (f, -1, IntKind.i64.wrap (f + 1), false) else if o2 = true then some (f, -1, n2, false) else none) else if o3 = true then some (f, T, IntKind.i64.wrap (f - T), hit) else none))
  case first =>
    cases bq
    case true =>
      have hlb : l = [98, 97, 114] := HLB.out
      have HG1 : Hid (gI v t = if hp = true then (if q = [] then some (v.p, -1, IntKind.i64.wrap (v.p + 1), false) else if o2 = true then some (v.p, -1, n2, false) else none) else if o3 = true then some (v.p, T, IntKind.i64.wrap (v.p - T), hit) else none) := by
        show _ = _
        rw [HG.out, if_neg (by simp), if_neg (fun h => h.1 hlb)]
        simp only [if_pos hlb]
      clear HG hlb
      go_wp2_with fail
      go_meet
      exact ⟨v.p, K, HG1⟩
    case false =>
      have hlb : ¬ l = [98, 97, 114] := HLB.out
      go_wp2_with fail
      refine (C2.out _ K.k0.env).mono ?_
      rintro e w4 ⟨rfl, hb⟩
      have K := K.below hb
      clear y0 y1 y2 y3 hl0 fr q0 q1 q2 q3 hlv
      clear x0 x1 x2 x3 hls frs
      clear hb
      obtain ⟨x0, x1, x2, x3⟩ := K.rs.c4
      have hls := K.rs.lt
      have frs := K.rs.frozen
      obtain ⟨y0, y1, y2, y3⟩ := K.k0.r0.c4
      have hl0 := K.k0.r0.lt
      have fr := K.k0.r0.frozen
      obtain ⟨q0, q1, q2, q3⟩ := K.k0.rv.c4
      have hlv := K.k0.rv.lt
      cases o1
      case false =>
        have hR : R = ((0, 0, 0, false), false) := by rw [← HR.out]; exact rd_none (by rw [HG.out, if_neg (by simp), if_pos ⟨hlb, rfl⟩])
        subst hR
        clear HR HG
        go_wp2_with fail
        refine bp_gen (fun W' => Below w.heap.size w W' ∧ RowB W' (w.heap.size + 1) 91 [.int .i64 0, .int .i64 0, .int .i64 0, .bool false]) ⟨below_four K.k0.bel (by omega) _ _ _ _, four K.k0.r0 _ _ _ _⟩ ?_
        rintro w8 ⟨hb8, r8⟩
        obtain ⟨z0, z1, z2, z3⟩ := r8.c4
        refine bodyPost_ret (v := .tuple #[.agg #[.int .i64 0, .int .i64 0, .int .i64 0, .bool false], .bool false]) (by simp [results, Tryz.results102, go_sem, z0, z1, z2, z3]) rfl ?_
        exact ⟨rfl, hb8⟩
      have HG1 : Hid (gI v t = if hp = true then (if q = [] then some (F1, -1, IntKind.i64.wrap (F1 + 1), false) else if o2 = true then some (F1, -1, n2, false) else none) else if o3 = true then some (F1, T, IntKind.i64.wrap (F1 - T), hit) else none) := by
        show _ = _
        rw [HG.out, if_neg (by simp), if_neg (by simp)]
        simp only [if_neg hlb]
      clear HG hlb
      have hF1 := HFT.out.1
      go_wp2_with fail
      go_meet
      exact ⟨F1, K.set E 0 _, HG1⟩
  case rest =>
    obtain ⟨f, K, HG⟩ := hcut
    clear x0 x1 x2 x3 hls frs y0 y1 y2 y3 hl0 fr q0 q1 q2 q3 hlv
    obtain ⟨x0, x1, x2, x3⟩ := K.rs.c4
    have hls := K.rs.lt
    have frs := K.rs.frozen
    obtain ⟨y0, y1, y2, y3⟩ := K.k0.r0.c4
    have hl0 := K.k0.r0.lt
    have fr := K.k0.r0.frozen
    obtain ⟨q0, q1, q2, q3⟩ := K.k0.rv.c4
    have hlv := K.k0.rv.lt
    obtain ⟨D1, hD1⟩ : ∃ z, IntKind.i64.wrap (f + 1) = z := ⟨_, rfl⟩
    obtain ⟨D3, hD3⟩ : ∃ z, IntKind.i64.wrap (f - T) = z := ⟨_, rfl⟩
    rw [hD1, hD3] at HG
    have HD := Lib.hid (And.intro hD1 hD3)
    clear hD1 hD3
    go_wp2_with fail
    refine (C3.out _).mono ?_
    rintro e w3 ⟨rfl, rfl⟩
    go_upto_if 50 with fail
    go_cut [14, 15, 16, 17, 18, 19] from 50 (fun s14 s15 s16 s17 s18 s19 wx => ∃ (t1 d1 : Int) (h1 : Bool), Br w wx v gs [.int .i64 f, .int .i64 t1, .int .i64 d1, .bool h1] ∧ Hid (gI v t = some (f, t1, d1, h1)))
    case first =>
      cases hp
      case false =>
        have HG4 : Hid (gI v t = if o3 = true then some (f, T, D3, hit) else none) := HG.out
        clear HG
        go_wp2_with fail
        refine (C7.out _).mono ?_
        rintro e w3 ⟨rfl, rfl⟩
        go_wp2_with fail
        refine (C8.out _ K.k0.env).mono ?_
        rintro e w4 ⟨rfl, hb⟩
        have K := K.below hb
        clear y0 y1 y2 y3 hl0 fr q0 q1 q2 q3 hlv
        clear x0 x1 x2 x3 hls frs
        clear hb
        obtain ⟨x0, x1, x2, x3⟩ := K.rs.c4
        have hls := K.rs.lt
        have frs := K.rs.frozen
        obtain ⟨y0, y1, y2, y3⟩ := K.k0.r0.c4
        have hl0 := K.k0.r0.lt
        have fr := K.k0.r0.frozen
        obtain ⟨q0, q1, q2, q3⟩ := K.k0.rv.c4
        have hlv := K.k0.rv.lt
        cases o3
        case false =>
          have hR : R = ((0, 0, 0, false), false) := by rw [← HR.out]; exact rd_none HG4.out
          subst hR
          clear HR HG4
          go_wp2_with fail
          refine bp_gen (fun W' => Below w.heap.size w W' ∧ RowB W' (w.heap.size + 1) 91 [.int .i64 0, .int .i64 0, .int .i64 0, .bool false]) ⟨below_four K.k0.bel (by omega) _ _ _ _, four K.k0.r0 _ _ _ _⟩ ?_
          rintro w8 ⟨hb8, r8⟩
          obtain ⟨z0, z1, z2, z3⟩ := r8.c4
          refine bodyPost_ret (v := .tuple #[.agg #[.int .i64 0, .int .i64 0, .int .i64 0, .bool false], .bool false]) (by simp [results, Tryz.results102, go_sem, z0, z1, z2, z3]) rfl ?_
          exact ⟨rfl, hb8⟩
        have hT1 := HFT.out.2
        have hD3 := HD.out.2
        go_upto_region 24 with (fail)
        refine wp_gen (fun W' => Br w W' v gs [.int .i64 f, .int .i64 0, .int .i64 0, .bool hit]) (K.set E 3 _) ?_
        clear y0 y1 y2 y3 hl0 fr q0 q1 q2 q3 hlv
        clear x0 x1 x2 x3 hls frs
        intro w5 K
        obtain ⟨x0, x1, x2, x3⟩ := K.rs.c4
        have hls := K.rs.lt
        have frs := K.rs.frozen
        obtain ⟨y0, y1, y2, y3⟩ := K.k0.r0.c4
        have hl0 := K.k0.r0.lt
        have fr := K.k0.r0.frozen
        obtain ⟨q0, q1, q2, q3⟩ := K.k0.rv.c4
        have hlv := K.k0.rv.lt
        go_upto_region 25 with (fail)
        refine wp_gen (fun W' => Br w W' v gs [.int .i64 f, .int .i64 T, .int .i64 0, .bool hit]) (K.set E 1 _) ?_
        clear y0 y1 y2 y3 hl0 fr q0 q1 q2 q3 hlv
        clear x0 x1 x2 x3 hls frs
        intro w5 K
        obtain ⟨x0, x1, x2, x3⟩ := K.rs.c4
        have hls := K.rs.lt
        have frs := K.rs.frozen
        obtain ⟨y0, y1, y2, y3⟩ := K.k0.r0.c4
        have hl0 := K.k0.r0.lt
        have fr := K.k0.r0.frozen
        obtain ⟨q0, q1, q2, q3⟩ := K.k0.rv.c4
        have hlv := K.k0.rv.lt
        go_wp2_with fail
        go_meet
        exact ⟨T, D3, hit, K.set E 2 _, HG4⟩
      have HG4 : Hid (gI v t = if q = [] then some (f, -1, D1, false) else if o2 = true then some (f, -1, n2, false) else none) := HG.out
      clear HG
      have hD1 := HD.out.1
      go_upto_region 13 with (fail)
      refine wp_gen (fun W' => Br w W' v gs [.int .i64 f, .int .i64 (-1), .int .i64 0, .bool false]) (K.set E 1 _) ?_
      clear y0 y1 y2 y3 hl0 fr q0 q1 q2 q3 hlv
      clear x0 x1 x2 x3 hls frs
      intro w5 K
      obtain ⟨x0, x1, x2, x3⟩ := K.rs.c4
      have hls := K.rs.lt
      have frs := K.rs.frozen
      obtain ⟨y0, y1, y2, y3⟩ := K.k0.r0.c4
      have hl0 := K.k0.r0.lt
      have fr := K.k0.r0.frozen
      obtain ⟨q0, q1, q2, q3⟩ := K.k0.rv.c4
      have hlv := K.k0.rv.lt
      go_upto_region 14 with (fail)
      refine wp_gen (fun W' => Br w W' v gs [.int .i64 f, .int .i64 (-1), .int .i64 D1, .bool false]) (K.set E 2 _) ?_
      clear y0 y1 y2 y3 hl0 fr q0 q1 q2 q3 hlv
      clear x0 x1 x2 x3 hls frs
      intro w5 K
      obtain ⟨x0, x1, x2, x3⟩ := K.rs.c4
      have hls := K.rs.lt
      have frs := K.rs.frozen
      obtain ⟨y0, y1, y2, y3⟩ := K.k0.r0.c4
      have hl0 := K.k0.r0.lt
      have fr := K.k0.r0.frozen
      obtain ⟨q0, q1, q2, q3⟩ := K.k0.rv.c4
      have hlv := K.k0.rv.lt
      by_cases hq : q = []
      · have hg5 : gI v t = some (f, -1, D1, false) := by rw [HG4.out, if_pos hq]
        have HG5 := Lib.hid hg5
        have e1 : ((bs q).toList == []) = true := by rw [ByteArray.toList_eq, bs_data, hq]; rfl
        have e0 : (bs q).toList.isEmpty = true := by rw [ByteArray.toList_eq, bs_data, hq]; rfl
        clear hq hg5 HG4
        go_wp2_with fail
        go_meet
        exact ⟨-1, D1, false, K, HG5⟩
      have HG5 : Hid (gI v t = if o2 = true then some (f, -1, n2, false) else none) := by show _ = _; rw [HG4.out, if_neg hq]
      have e0 : (bs q).toList.isEmpty = false := by rw [ByteArray.toList_eq, bs_data]; cases q with | nil => exact absurd rfl hq | cons x l => rfl
      clear hq HG4
      go_wp2_with fail
      refine (C4.out _).mono ?_
      rintro e w3 ⟨rfl, rfl⟩
      go_wp2_with fail
      refine (C5.out _).mono ?_
      rintro e w3 ⟨rfl, rfl⟩
      go_wp2_with fail
      refine (C6.out _ K.k0.env).mono ?_
      rintro e w4 ⟨rfl, hb⟩
      have K := K.below hb
      clear y0 y1 y2 y3 hl0 fr q0 q1 q2 q3 hlv
      clear x0 x1 x2 x3 hls frs
      clear hb
      obtain ⟨x0, x1, x2, x3⟩ := K.rs.c4
      have hls := K.rs.lt
      have frs := K.rs.frozen
      obtain ⟨y0, y1, y2, y3⟩ := K.k0.r0.c4
      have hl0 := K.k0.r0.lt
      have fr := K.k0.r0.frozen
      obtain ⟨q0, q1, q2, q3⟩ := K.k0.rv.c4
      have hlv := K.k0.rv.lt
      cases o2
      case false =>
        have hR : R = ((0, 0, 0, false), false) := by rw [← HR.out]; exact rd_none HG5.out
        subst hR
        clear HR HG5
        go_wp2_with fail
        refine bp_gen (fun W' => Below w.heap.size w W' ∧ RowB W' (w.heap.size + 1) 91 [.int .i64 0, .int .i64 0, .int .i64 0, .bool false]) ⟨below_four K.k0.bel (by omega) _ _ _ _, four K.k0.r0 _ _ _ _⟩ ?_
        rintro w8 ⟨hb8, r8⟩
        obtain ⟨z0, z1, z2, z3⟩ := r8.c4
        refine bodyPost_ret (v := .tuple #[.agg #[.int .i64 0, .int .i64 0, .int .i64 0, .bool false], .bool false]) (by simp [results, Tryz.results102, go_sem, z0, z1, z2, z3]) rfl ?_
        exact ⟨rfl, hb8⟩
      go_wp2_with fail
      go_meet
      exact ⟨-1, n2, false, K.set E 2 _, HG5⟩
    case rest =>
      obtain ⟨t1, d1, h1, K, HG5⟩ := hcut
      clear x0 x1 x2 x3 hls frs y0 y1 y2 y3 hl0 fr q0 q1 q2 q3 hlv HG C1 C2 C3 C4 C5 C6 C7 C8 HD HFT HLB
      obtain ⟨x0, x1, x2, x3⟩ := K.rs.c4
      have hls := K.rs.lt
      have frs := K.rs.frozen
      obtain ⟨y0, y1, y2, y3⟩ := K.k0.r0.c4
      have hl0 := K.k0.r0.lt
      have fr := K.k0.r0.frozen
      obtain ⟨q0, q1, q2, q3⟩ := K.k0.rv.c4
      have hlv := K.k0.rv.lt
      have hG : gI v t = some (f, t1, d1, h1) := HG5.out
      have HG2 := Lib.hid hG
      clear hG
      by_cases hpl : plainB v (f, t1, d1, h1) = true
      case neg =>
        have hpl : plainB v (f, t1, d1, h1) = false := by simpa using hpl
        have hR : R = ((0, 0, 0, false), false) := by rw [← HR.out]; exact rd_no1 HG2.out hpl
        subst hR
        have CP := Lib.hid (fun w9 => plain_i v HV.out (f, t1, d1, h1) false hpl w9)
        simp only at CP
        clear hpl HR HG2
        go_wp2_with fail
        refine (CP.out _).mono ?_
        rintro e w5 ⟨rfl, hb⟩
        have K := K.below hb
        clear y0 y1 y2 y3 hl0 fr q0 q1 q2 q3 hlv
        clear x0 x1 x2 x3 hls frs
        clear hb
        obtain ⟨x0, x1, x2, x3⟩ := K.rs.c4
        have hls := K.rs.lt
        have frs := K.rs.frozen
        obtain ⟨y0, y1, y2, y3⟩ := K.k0.r0.c4
        have hl0 := K.k0.r0.lt
        have fr := K.k0.r0.frozen
        obtain ⟨q0, q1, q2, q3⟩ := K.k0.rv.c4
        have hlv := K.k0.rv.lt
        go_wp2_with fail
        refine bp_gen (fun W' => Below w.heap.size w W' ∧ RowB W' (w.heap.size + 1) 91 [.int .i64 0, .int .i64 0, .int .i64 0, .bool false]) ⟨below_four K.k0.bel (by omega) _ _ _ _, four K.k0.r0 _ _ _ _⟩ ?_
        rintro w8 ⟨hb8, r8⟩
        obtain ⟨z0, z1, z2, z3⟩ := r8.c4
        refine bodyPost_ret (v := .tuple #[.agg #[.int .i64 0, .int .i64 0, .int .i64 0, .bool false], .bool false]) (by simp [results, Tryz.results102, go_sem, z0, z1, z2, z3]) rfl ?_
        exact ⟨rfl, hb8⟩
      have CP := Lib.hid (fun w9 => plain_i v HV.out (f, t1, d1, h1) true hpl w9)
      have CT := Lib.hid (fun (w9 : World) (E9 : Env w9) => step_i v HV.out (f, t1, d1, h1) hpl w9 E9.tab)
      simp only at CP CT
      have HPL := Lib.hid hpl
      clear hpl
      obtain ⟨tx, htx⟩ : ∃ x, stpT v (f, t1, d1, h1) = x := ⟨_, rfl⟩
      rw [htx] at CT
      have HTX := Lib.hid htx
      clear htx
      go_wp2_with fail
      refine (CP.out _).mono ?_
      rintro e w5 ⟨rfl, hb⟩
      have K := K.below hb
      clear y0 y1 y2 y3 hl0 fr q0 q1 q2 q3 hlv
      clear x0 x1 x2 x3 hls frs
      clear hb
      obtain ⟨x0, x1, x2, x3⟩ := K.rs.c4
      have hls := K.rs.lt
      have frs := K.rs.frozen
      obtain ⟨y0, y1, y2, y3⟩ := K.k0.r0.c4
      have hl0 := K.k0.r0.lt
      have fr := K.k0.r0.frozen
      obtain ⟨q0, q1, q2, q3⟩ := K.k0.rv.c4
      have hlv := K.k0.rv.lt
      go_wp2_with fail
      refine (CT.out _ K.k0.env).mono ?_
      rintro e w6 ⟨rfl, hb⟩
      have K := K.below hb
      clear y0 y1 y2 y3 hl0 fr q0 q1 q2 q3 hlv
      clear x0 x1 x2 x3 hls frs
      clear hb
      obtain ⟨x0, x1, x2, x3⟩ := K.rs.c4
      have hls := K.rs.lt
      have frs := K.rs.frozen
      obtain ⟨y0, y1, y2, y3⟩ := K.k0.r0.c4
      have hl0 := K.k0.r0.lt
      have fr := K.k0.r0.frozen
      obtain ⟨q0, q1, q2, q3⟩ := K.k0.rv.c4
      have hlv := K.k0.rv.lt
      by_cases heq : tx = t
      · have hR : R = ((f, t1, d1, h1), true) := by rw [← HR.out]; exact rd_yes HG2.out HPL.out (HTX.out.trans heq)
        subst hR
        have e1 : ((bs tx).toList == (bs t).toList) = true := by rw [bs_eq]; exact decide_eq_true heq
        have e2 : ((bs tx).toList != (bs t).toList) = false := by simp only [bne, e1]; rfl
        clear heq HR HG2 HPL HTX CP CT
        go_wp2_with fail
        refine bp_gen (fun W' => Below w.heap.size w W' ∧ RowB W' (w.heap.size + 1) 91 [.int .i64 f, .int .i64 t1, .int .i64 d1, .bool h1]) ⟨below_four K.k0.bel (by omega) _ _ _ _, four K.k0.r0 _ _ _ _⟩ ?_
        rintro w8 ⟨hb8, r8⟩
        obtain ⟨z0, z1, z2, z3⟩ := r8.c4
        refine bodyPost_ret (v := .tuple #[.agg #[.int .i64 f, .int .i64 t1, .int .i64 d1, .bool h1], .bool true]) (by simp [results, Tryz.results102, go_sem, z0, z1, z2, z3]) rfl ?_
        exact ⟨rfl, hb8⟩
      · have hR : R = ((0, 0, 0, false), false) := by rw [← HR.out]; exact rd_no2 HG2.out (fun h => heq (HTX.out.symm.trans h))
        subst hR
        have e1 : ((bs tx).toList == (bs t).toList) = false := by rw [bs_eq]; exact decide_eq_false heq
        have e2 : ((bs tx).toList != (bs t).toList) = true := by simp only [bne, e1]; rfl
        clear heq HR HG2 HPL HTX CP CT
        go_wp2_with fail
        refine bp_gen (fun W' => Below w.heap.size w W' ∧ RowB W' (w.heap.size + 1) 91 [.int .i64 0, .int .i64 0, .int .i64 0, .bool false]) ⟨below_four K.k0.bel (by omega) _ _ _ _, four K.k0.r0 _ _ _ _⟩ ?_
        rintro w8 ⟨hb8, r8⟩
        obtain ⟨z0, z1, z2, z3⟩ := r8.c4
        refine bodyPost_ret (v := .tuple #[.agg #[.int .i64 0, .int .i64 0, .int .i64 0, .bool false], .bool false]) (by simp [results, Tryz.results102, go_sem, z0, z1, z2, z3]) rfl ?_
        exact ⟨rfl, hb8⟩
end Go.Proofs.YtlfdcefgelpgmaaGreatDoor.TxI
