/-
  The draw of a list of verdicts and a player, as a function of the code. Conditions: each theorem's own.
-/
import Derived.Test.YtahpdboehpicoaaDoorDrawD
import Derived.Test.YtahpdboehpicoaaDoorInv
import Derived.Test.YtahpdboehpicoaaDoorBase2
set_option linter.unusedVariables false
namespace Go.Proofs.YtahpdboehpicoaaDoor.DrawVX
open Go.ChangeShapes Go.WideShapes Go.ChangeAt Go.RowKit Base Base2 Ints Own Draw DrawD RegInv
variable {w0 w w' : World} {B g cp : Nat} {A : Option Addr} {xs : List Int} {st st' : Nat × Int}
theorem grown_own {a b c : World} {row row' : Option Nat} (h : a.grownBy b row) (k : b.grownBy c row') (hk : ∀ i, row' = some i → a.heap.size ≤ i) : a.grownBy c row :=
  ⟨k.os.trans h.os, k.tape.trans h.tape, k.output.trans h.output, Nat.le_trans h.size k.size, fun i hi hr => (k.block i (Nat.lt_of_lt_of_le hi h.size) (fun e => by have := hk i e.symm; omega)).trans (h.block i hi hr)⟩
theorem infoV : (Tryd.prog.info? 25).map (fun i => (i.zero, i.size, i.bytes)) = some (some (.agg #[.int .i64 0, .int .i64 0, .int .i64 0, .int .i64 0]), 4, 32) := by kernel_rfl
theorem one_V (x : Int × Int × Int × Int) : ∀ u ∈ enI4 x, u.oneCell' = true := by intro u hu; simp [enI4] at hu; rcases hu with rfl | rfl | rfl | rfl <;> rfl
def lossD (a : Int) (m : Nat) : Int := ([0, 20000, 50000, 100000, a * 1000] : List Int).getD m 0
def badD (m : Nat) : Int := ([-1, 1000001] : List Int).getD m 0
abbrev V4 := Int × Int × Int × Int
/-- j verdicts more. -/
def vl (xs : List Int) : Nat → Nat × Int → List V4 → List V4 × (Nat × Int)
  | 0, s, ls => (ls, s)
  | j + 1, s, ls =>
    let r1 := nx xs s 150
    let r2 := nx xs r1.2 5
    let r3 := nx xs r2.2 2
    let r4 := nx xs r3.2 400
    vl xs j r4.2 (ls ++ [((ls.length : Int), r3.1, lossD r1.1 r2.1.toNat, (r4.1 - 200) * 500)])
def plD (xs : List Int) (s : Nat × Int) (ls : List V4) : List V4 × Int := (ls, (nx xs s 2).1 + (nx xs (nx xs s 2).2 24).1 / 23)
def hdD (u : Int) : List V4 → List V4
  | [] => []
  | x :: r => (x.1, x.2.1, u, x.2.2.2) :: r
def finD (xs : List Int) (L : List V4 × (Nat × Int)) : List V4 × Int :=
  if 0 < L.1.length then
    (if (nx xs L.2 12).1 = 0 then plD xs (nx xs (nx xs L.2 12).2 2).2 (hdD (badD (nx xs (nx xs L.2 12).2 2).1.toNat) L.1) else plD xs (nx xs L.2 12).2 L.1)
  else plD xs L.2 L.1
def drawF (xs : List Int) : List V4 × Int := finD xs (vl xs (nx xs (st0 xs) 8).1.toNat (nx xs (st0 xs) 8).2 [])
/-- j verdicts more lead to the end R. -/
def VLr (xs : List Int) (j : Nat) (s : Nat × Int) (ls : List V4) (R : List V4 × (Nat × Int)) : Prop := vl xs j s ls = R
theorem vl_step {xs : List Int} {j m : Nat} {s s1 s2 s3 s4 : Nat × Int} {a p u : Int} {ls : List V4} {R : List V4 × (Nat × Int)} (h : VLr xs (j + 1) s ls R) (n1 : Nx xs s 150 a s1) (n2 : Nx xs s1 5 (m : Int) s2) (n3 : Nx xs s2 2 p s3) (n4 : Nx xs s3 400 u s4) :
    VLr xs j s4 (ls ++ [((ls.length : Int), p, lossD a m, (u - 200) * 500)]) R := by
  unfold VLr Nx at *
  rw [← h]
  simp only [vl, n1, n2, n3, n4, Int.toNat_natCast]
theorem vl_end {xs : List Int} {s : Nat × Int} {ls : List V4} {R : List V4 × (Nat × Int)} (h : VLr xs 0 s ls R) : R = (ls, s) := h.symm
theorem vl_zero {xs : List Int} {x : Int} {s1 : Nat × Int} (n1 : Nx xs (st0 xs) 8 x s1) : VLr xs x.toNat s1 [] (vl xs (nx xs (st0 xs) 8).1.toNat (nx xs (st0 xs) 8).2 []) := by
  unfold VLr Nx at *
  rw [n1]
theorem pl_eq {xs : List Int} {s s1 s2 : Nat × Int} {p q : Int} {ls : List V4} (n1 : Nx xs s 2 p s1) (n2 : Nx xs s1 24 q s2) : plD xs s ls = (ls, p + q / 23) := by
  unfold plD Nx at *
  rw [n1]; simp only [n2]
theorem fin0 {xs : List Int} {s s1 s2 : Nat × Int} {p q : Int} {ls : List V4} (hl : ¬ 0 < ls.length) (n1 : Nx xs s 2 p s1) (n2 : Nx xs s1 24 q s2) : finD xs (ls, s) = (ls, p + q / 23) := by
  unfold finD; rw [if_neg hl]; exact pl_eq n1 n2
theorem fin1 {xs : List Int} {s s0 s1 s2 : Nat × Int} {t p q : Int} {ls : List V4} (hl : 0 < ls.length) (n0 : Nx xs s 12 t s0) (ht : ¬ t = 0) (n1 : Nx xs s0 2 p s1) (n2 : Nx xs s1 24 q s2) : finD xs (ls, s) = (ls, p + q / 23) := by
  unfold finD; rw [if_pos hl]
  have e : nx xs s 12 = (t, s0) := n0
  simp only [e]
  rw [if_neg ht]; exact pl_eq n1 n2
theorem fin2 {xs : List Int} {s s0 sd s1 s2 : Nat × Int} {m : Nat} {p q : Int} {x : V4} {rest : List V4} (n0 : Nx xs s 12 0 s0) (nd : Nx xs s0 2 (m : Int) sd) (n1 : Nx xs sd 2 p s1) (n2 : Nx xs s1 24 q s2) : finD xs (x :: rest, s) = ((x.1, x.2.1, badD m, x.2.2.2) :: rest, p + q / 23) := by
  unfold finD; rw [if_pos (by simp)]
  have e : nx xs s 12 = (0, s0) := n0
  have e' : nx xs s0 2 = ((m : Int), sd) := nd
  simp only [e, e']
  rw [if_pos trivial, Int.toNat_natCast]; exact pl_eq n1 n2
theorem pickV {W : World} {b : Nat} {e : TypeId} {zs : List Int} (h : RowB W b e (zs.map (Value.int .i64))) {m : Nat} (hm : m < zs.length) : W.cell? ⟨b, m, none⟩ = some (.int .i64 (zs.getD m 0)) := by
  rw [h.cell, List.getElem?_map, List.getD_eq_getElem?_getD, List.getElem?_eq_getElem hm]; rfl
/-- Verdicts under way: every player is 0 or 1. -/
structure Vd (w0 w : World) (B g : Nat) (A : Option Addr) (cp : Nat) (xs : List Int) (st : Nat × Int) (v : Value) (ls : List (Int × Int × Int × Int)) (W : World) : Prop where
  D : Dx w0 B g A cp xs st W
  gr : w.grownBy W (some g)
  o : OwnS W w.heap.size W.heap.size 25 4 enI4 v ls
  lt : g < w.heap.size
  pl : ∀ x ∈ ls, (x.2.1 = 0 ∨ x.2.1 = 1) ∧ 0 ≤ x.1 ∧ x.1 ≤ 7
section
variable {v : Value} {ls : List (Int × Int × Int × Int)} {W W' : World}
theorem Vd.grown (h : Vd w0 w B g A cp xs st v ls W) (hD : Dx w0 B g A cp xs st' W') (hg : W.grownBy W' (some g)) : Vd w0 w B g A cp xs st' v ls W' :=
  ⟨hD, grownBy_trans h.gr hg, (h.o.grown hg (fun k hk => by simp at hk; have := h.lt; omega)).more hg.size, h.lt, h.pl⟩
theorem Vd.alloc (h : Vd w0 w B g A cp xs st v ls W) (o : Obj) : Vd w0 w B g A cp xs st v ls (W.alloc o) :=
  ⟨h.D.alloc _, grownBy_trans h.gr (World.grownBy_alloc _ _ _), (h.o.alloc _).more (by simp), h.lt, h.pl⟩
theorem Vd.app (h : Vd w0 w B g A cp xs st v ls W) {k c n : Nat} {ys : List (Int × Int × Int × Int)} (ho : OwnS W' w.heap.size W'.heap.size 25 4 enI4 (.slice (some ⟨k, 0, none⟩) n c) ys) (hg : W.grownBy W' v.ownBlock) (hat : v.ownBlock = some k ∨ k = W.heap.size) (hp : ∀ x ∈ ys, (x.2.1 = 0 ∨ x.2.1 = 1) ∧ 0 ≤ x.1 ∧ x.1 ≤ 7) :
    Vd w0 w B g A cp xs st (.slice (some ⟨k, 0, none⟩) n c) ys W' := by
  have hb := h.o.block
  have hl := h.lt
  have hB := h.D.base
  exact ⟨h.D.grown hg (fun i hi => by have := hb i hi; omega) (fun i hi => by have := hb i hi; omega), grown_own h.gr hg (fun i hi => (hb i hi).1), ho, h.lt, hp⟩
end
/-- The first verdict's loss is written. -/
theorem Vd.head {w0 w : World} {B g : Nat} {A : Option Addr} {cp : Nat} {xs : List Int} {st : Nat × Int} {Av : Option Addr} {c : Nat} {ls : List (Int × Int × Int × Int)} {W : World} (h : Vd w0 w B g A cp xs st (.slice Av ls.length c) ls W) (hl : 0 < ls.length) (u : Int) :
    ∃ b x rest, Av = some ⟨b, 0, none⟩ ∧ ls = x :: rest ∧ W.cell? ⟨b, 0, none⟩ = some (.int .i64 x.1) ∧ W.cell? ⟨b, 1, none⟩ = some (.int .i64 x.2.1) ∧ W.cell? ⟨b, 2, none⟩ = some (.int .i64 x.2.2.1) ∧ W.cell? ⟨b, 3, none⟩ = some (.int .i64 x.2.2.2) ∧ (∀ o, W.frozen? ⟨b, o, none⟩ = false) ∧ b < W.heap.size ∧
      Vd w0 w B g A cp xs st (.slice (some ⟨b, 0, none⟩) (x :: rest).length c) ((x.1, x.2.1, u, x.2.2.2) :: rest) (W.setCell ⟨b, 2, none⟩ (.int .i64 u)) := by
  have hlt := h.lt
  have hB := h.D.base
  rcases h.o.cases_ with ⟨h1, h2⟩ | ⟨gg, cap, rs, h1, glo, ghi, row, hnc, hcm, hlen⟩
  · rw [h2] at hl; simp at hl
  · simp only [Value.slice.injEq] at h1
    obtain ⟨rfl, -, rfl⟩ := h1
    match ls, hl with
    | x :: rest, _ =>
      refine ⟨gg, x, rest, rfl, rfl, row.cell 0, row.cell 1, row.cell 2, row.cell 3, row.frozen, row.lt, h.D.set (by omega) (by omega) _, grown_new h.gr glo _, ?_, h.lt, ?_⟩
      · have h3 := row.set 2 (.int .i64 u)
        have h4 : (((x :: rest).flatMap enI4 ++ rs).set 2 (.int .i64 u)) = ((x.1, x.2.1, u, x.2.2.2) :: rest).flatMap enI4 ++ rs := by rfl
        rw [h4] at h3
        rw [World.size_setCell]
        exact OwnS.mk_ (xs := (x.1, x.2.1, u, x.2.2.2) :: rest) enI4_len h3 glo ghi hnc hcm hlen
      · intro y hy
        rcases List.mem_cons.1 hy with rfl | hy
        · exact h.pl x (List.mem_cons_self ..)
        · exact h.pl y (List.mem_cons_of_mem _ hy)

/-- The end of the draw: the list and the player that follow from the code. -/
def Drawn (w : World) (xs : List Int) (e : Ending) (w' : World) : Prop :=
  ∃ A' c, e = .returned (.tuple #[.slice A' (drawF xs).1.length c, .int .i64 (drawF xs).2]) ∧ OwnS w' w.heap.size w'.heap.size 25 4 enI4 (.slice A' (drawF xs).1.length c) (drawF xs).1 ∧ (drawF xs).1.length ≤ 7 ∧ (∀ x ∈ (drawF xs).1, (x.2.1 = 0 ∨ x.2.1 = 1) ∧ 0 ≤ x.1 ∧ x.1 ≤ 7) ∧ Below w.heap.size w w'
theorem drawn_mk {w w' : World} {xs : List Int} {e : Ending} {A' : Option Addr} {c : Nat} {ls : List V4} {p : Int} (hF : drawF xs = (ls, p)) (he : e = .returned (.tuple #[.slice A' ls.length c, .int .i64 p])) (ho : OwnS w' w.heap.size w'.heap.size 25 4 enI4 (.slice A' ls.length c) ls) (hl : ls.length ≤ 7) (hp : ∀ x ∈ ls, (x.2.1 = 0 ∨ x.2.1 = 1) ∧ 0 ≤ x.1 ∧ x.1 ≤ 7) (hb : Below w.heap.size w w') : Drawn w xs e w' := by
  unfold Drawn
  rw [hF]
  exact ⟨A', c, he, ho, hl, hp, hb⟩

set_option maxHeartbeats 4000000 in
set_option maxRecDepth 100000 in
theorem draw {w : World} {cp : Nat} {A : Option Addr} {xs : List Int} (hr : RdS w w.heap.size 1 enB A xs) (hw : ∀ x ∈ xs, (Lit.int .u8 x).wf = true) :
    Calls Tryd.prog 9 #[.slice A xs.length cp] w fun e w' => Drawn w xs e w' := by
  obtain ⟨i4, hi4, hz0, hz1, hz2⟩ := info_parts infoV
  go_enter Tryd.func9, Tryd.ntmps9
  go_wp2_with fail
  refine (newX hr hw).mono ?_
  rintro e w1 ⟨rfl, h1⟩
  have h1s := h1.bel.size
  have K0 : Vd w w1 w.heap.size w.heap.size A cp xs (st0 xs) (.slice (some ⟨w1.heap.size, 0, none⟩) 0 0) [] (w1.alloc (.cells #[] 25 )) :=
    ⟨h1.alloc _, World.grownBy_alloc _ _ _, (RowB.new w1 25 []).own (xs := ([] : List (Int × Int × Int × Int))) (en := enI4) enI4_len (Nat.le_refl _) (by simp) (by decide), h1.lt, by simp⟩
  clear hr hw
  obtain ⟨g, hg0⟩ : ∃ g, w.heap.size = g := ⟨_, rfl⟩
  have HGG := Lib.hid hg0
  rw [hg0] at K0 h1s ⊢
  clear hg0
  go_wp2_with fail
  refine (nextX K0.D 8 (by decide)).mono ?_
  rintro e w2 ⟨x, s1, ⟨rfl, x0, x1, -, n1⟩, h2, hg2, -⟩
  have x1 := x1 (by decide)
  have HV := vl_zero n1
  obtain ⟨R, hR⟩ : ∃ R, vl xs (nx xs (st0 xs) 8).1.toNat (nx xs (st0 xs) 8).2 [] = R := ⟨_, rfl⟩
  rw [hR] at HV
  have HR : Hid (drawF xs = finD xs R) := by rw [← hR]; exact rfl
  clear hR n1
  have K1 := K0.grown h2 hg2
  clear K0 hg2 h2 h1
  go_wp2_with fail
  go_loopw [5, 6] (fun v' i wr => ∃ (v : Value) (ls : List (Int × Int × Int × Int)) (j : Nat) (st : Nat × Int), v = v' ∧ i = .int .i64 (j : Int) ∧ ls.length + j ≤ 7 ∧ Vd w w1 g g A cp xs st v ls wr ∧ VLr xs j st ls R) (fun _ i _ => (intOf i).toNat)
  case atStart => exact ⟨_, [], x.toNat, _, rfl, by rw [Int.toNat_of_nonneg (by omega)], by simp; omega, K1, HV⟩
  case round =>
    obtain ⟨v, ls, j, s1, rfl, rfl, hj, K, V⟩ := hrel
    clear K1 HV
    by_cases j0 : 0 < j
    · obtain ⟨j, rfl⟩ : ∃ i, j = i + 1 := ⟨j - 1, by omega⟩
      obtain ⟨A5, c5, rfl, _⟩ := K.o.form enI4_len
      go_wp2_with fail
      refine (nextX K.D 150 (by decide)).mono ?_
      rintro e w3 ⟨a, t_a, ⟨rfl, a0, a1, -, n_a⟩, hD, hg, -⟩
      have a1 := a1 (by decide)
      have K := K.grown hD hg
      clear hD hg
      go_wp2_with fail
      refine (nextX (K.D.alloc _) 5 (by decide)).mono ?_
      rintro e w4 ⟨d, t_d, ⟨rfl, d0, d1, -, n_d⟩, hD, hg, -⟩
      have d1 := d1 (by decide)
      have hlg := K.D.lt
      have rb := (RowB.new w3 2 [.int .i64 0, .int .i64 20000, .int .i64 50000, .int .i64 100000, .int .i64 (a * 1000)]).grown hg (fun k hk => by simp at hk; omega)
      have K := (K.alloc _).grown hD hg
      obtain ⟨m, rfl⟩ : ∃ m : Nat, d = m := ⟨d.toNat, by omega⟩
      have hlo := pickV (zs := [0, 20000, 50000, 100000, a * 1000]) rb (show m < _ from by simp; omega)
      rw [show ([0, 20000, 50000, 100000, a * 1000] : List Int).getD m 0 = lossD a m from rfl] at hlo
      clear hD hg rb hlg
      go_wp2_with fail
      refine (nextX K.D 2 (by decide)).mono ?_
      rintro e w5 ⟨p, t_p, ⟨rfl, p0, p1, -, n_p⟩, hD, hg, -⟩
      have p1 := p1 (by decide)
      have K := K.grown hD hg
      clear hD hg hlo
      go_wp2_with fail
      refine (nextX K.D 400 (by decide)).mono ?_
      rintro e w6 ⟨u, t_u, ⟨rfl, u0, u1, -, n_u⟩, hD, hg, -⟩
      have u1 := u1 (by decide)
      have K := K.grown hD hg
      clear hD hg
      have hgs := K.gr.size
      go_wp2_with (at_builtin; refine wpL_app rfl _ _ _ rfl w1.heap.size _ 25 i4 (.agg #[.int .i64 0, .int .i64 0, .int .i64 0, .int .i64 0]) 4 32 Tryd.underlying30 hi4 hz0 hz1 hz2 rfl (by decide) enI4_len one_V (.slice A5 ls.length c5) ls [((ls.length : Int), p, lossD a m, (u - 200) * 500)] rfl ((K.alloc _).o) ⟨w6.heap.size, 0, none⟩ 1 1 rfl rfl (news_new (RowB.new _ _ _)) (by decide) ?c1 ?c2 ?c3 ?_)
      case c1 => unfold maxLen; omega
      case c2 => omega
      case c3 => go_size
      intro k2 c2 w7 ho hg hat hlt7
      have K := (K.alloc _).app ho hg (hat.imp_right (fun h => by rw [World.size_alloc]; exact h)) (by
        intro x hx
        rcases List.mem_append.1 hx with h | h
        · exact K.pl x h
        · simp at h; subst h; exact ⟨by show p = 0 ∨ p = 1; omega, by show (0 : Int) ≤ (ls.length : Int); omega, by show (ls.length : Int) ≤ 7; omega⟩)
      clear ho hg hat
      go_wp2_with fail
      go_roundw
      case rel => exact ⟨_, _, j, _, rfl, by go_num, by simp; omega, K, vl_step V n_a n_d n_p n_u⟩
      case measure => simp [intOf] <;> omega
    · obtain rfl : j = 0 := by omega
      have HF : Hid (drawF xs = finD xs (ls, s1)) := Lib.hid (by rw [HR.out, vl_end V])
      clear V HR
      obtain ⟨A5, c5, rfl, _⟩ := K.o.form enI4_len
      have hl7 : ls.length ≤ 7 := by omega
      by_cases hl0 : 0 < ls.length
      case neg =>
        have h0 : decide ((0 : Int) < (ls.length : Int)) = false := decide_eq_false (by omega)
        go_wp2_with fail
        refine (nextX K.D 2 (by decide)).mono ?_
        rintro e w8 ⟨p, t_p, ⟨rfl, p0, p1, -, n_p⟩, hD, hg, -⟩
        have p1 := p1 (by decide)
        have K := K.grown hD hg
        clear hD hg
        go_wp2_with fail
        refine (nextX K.D 24 (by decide)).mono ?_
        rintro e w9 ⟨q, t_q, ⟨rfl, q0, q1, -, n_q⟩, hD, hg, -⟩
        have q1 := q1 (by decide)
        have K := K.grown hD hg
        clear hD hg
        have eq : Int.tdiv q 23 = q / 23 := by rw [Int.tdiv_eq_ediv_of_nonneg q0]
        have ew : IntKind.i64.wrap (p + q / 23) = p + q / 23 := IntWalk.i64_in _ (by omega)
        go_wp2_with fail
        go_ret2
        exact drawn_mk (HF.out.trans (fin0 hl0 n_p n_q)) rfl (K.o.less (by rw [HGG.out]; exact h1s)) hl7 K.pl (by have := K.D.bel; rw [← HGG.out] at this; exact this)
      have h0 : decide ((0 : Int) < (ls.length : Int)) = true := decide_eq_true (by omega)
      go_wp2_with fail
      refine (nextX K.D 12 (by decide)).mono ?_
      rintro e w3 ⟨t, t_t, ⟨rfl, t0, t1, -, n_t⟩, hD, hg, -⟩
      have K := K.grown hD hg
      clear hD hg
      by_cases ht : t = 0
      case neg =>
        have et : (t == 0) = false := by simp [ht]
        have HT := Lib.hid ht
        clear ht
        go_wp2_with fail
        refine (nextX K.D 2 (by decide)).mono ?_
        rintro e w8 ⟨p, t_p, ⟨rfl, p0, p1, -, n_p⟩, hD, hg, -⟩
        have p1 := p1 (by decide)
        have K := K.grown hD hg
        clear hD hg
        go_wp2_with fail
        refine (nextX K.D 24 (by decide)).mono ?_
        rintro e w9 ⟨q, t_q, ⟨rfl, q0, q1, -, n_q⟩, hD, hg, -⟩
        have q1 := q1 (by decide)
        have K := K.grown hD hg
        clear hD hg
        have eq : Int.tdiv q 23 = q / 23 := by rw [Int.tdiv_eq_ediv_of_nonneg q0]
        have ew : IntKind.i64.wrap (p + q / 23) = p + q / 23 := IntWalk.i64_in _ (by omega)
        go_wp2_with fail
        go_ret2
        exact drawn_mk (HF.out.trans (fin1 hl0 n_t HT.out n_p n_q)) rfl (K.o.less (by rw [HGG.out]; exact h1s)) hl7 K.pl (by have := K.D.bel; rw [← HGG.out] at this; exact this)
      subst ht
      go_wp2_with fail
      refine (nextX (K.D.alloc _) 2 (by decide)).mono ?_
      rintro e w4 ⟨d, t_d, ⟨rfl, d0, d1, -, n_d⟩, hD, hg, -⟩
      have d1 := d1 (by decide)
      have hlg := K.D.lt
      have rb := (RowB.new w3 2 [.int .i64 (-1), .int .i64 1000001]).grown hg (fun k hk => by simp at hk; omega)
      have K := (K.alloc _).grown hD hg
      obtain ⟨m, rfl⟩ : ∃ m : Nat, d = m := ⟨d.toNat, by omega⟩
      have hlo := pickV (zs := [-1, 1000001]) rb (show m < _ from by simp; omega)
      rw [show ([-1, 1000001] : List Int).getD m 0 = badD m from rfl] at hlo
      clear hD hg rb hlg
      obtain ⟨bk, x, rest, hA, rfl, c0, c1, c2, c3, hf, hl, hput⟩ := K.head hl0 (badD m)
      subst hA
      go_upto_region 10 with (fail)
      refine wp_gen (fun W' => Vd w w1 g g A cp xs t_d (.slice (some ⟨bk, 0, none⟩) (x :: rest).length c5) ((x.1, x.2.1, badD m, x.2.2.2) :: rest) W') hput ?_
      clear K c0 c1 c2 c3 hf hl hput hlo
      rintro w5 K
      go_wp2_with fail
      refine (nextX K.D 2 (by decide)).mono ?_
      rintro e w8 ⟨p, t_p, ⟨rfl, p0, p1, -, n_p⟩, hD, hg, -⟩
      have p1 := p1 (by decide)
      have K := K.grown hD hg
      clear hD hg
      go_wp2_with fail
      refine (nextX K.D 24 (by decide)).mono ?_
      rintro e w9 ⟨q, t_q, ⟨rfl, q0, q1, -, n_q⟩, hD, hg, -⟩
      have q1 := q1 (by decide)
      have K := K.grown hD hg
      clear hD hg
      have eq : Int.tdiv q 23 = q / 23 := by rw [Int.tdiv_eq_ediv_of_nonneg q0]
      have ew : IntKind.i64.wrap (p + q / 23) = p + q / 23 := IntWalk.i64_in _ (by omega)
      go_wp2_with fail
      go_ret2
      exact drawn_mk (HF.out.trans (fin2 n_t n_d n_p n_q)) rfl (K.o.less (by rw [HGG.out]; exact h1s)) hl7 K.pl (by have := K.D.bel; rw [← HGG.out] at this; exact this)
end Go.Proofs.YtahpdboehpicoaaDoor.DrawVX
