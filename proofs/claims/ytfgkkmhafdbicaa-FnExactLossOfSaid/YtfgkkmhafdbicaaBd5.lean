/-
  The legal steps with a die: of the program and of the reference. Conditions: each theorem's own.
-/
import Derived.Test.YtfgkkmhafdbicaaBd4S
set_option linter.unusedVariables false
set_option linter.unusedSimpArgs false
namespace Go.Proofs.Ytfgkkmhafdbicaa.Bd5
open Go.ChangeShapes Go.WideShapes Go.ChangeAt Go.RowKit Base Ints Own Clone RelG PlP Bd1 Bd2 Bd4

def enSt (s : Stp) : List Value := [.int .i64 s.1, .int .i64 s.2.1, .int .i64 s.2.2.1, .bool s.2.2.2]
theorem enSt_len (s : Stp) : (enSt s).length = 4 := rfl
theorem one_St (s : Stp) : ∀ u ∈ enSt s, u.oneCell' = true := by intro u hu; simp [enSt] at hu; rcases hu with rfl | rfl | rfl | rfl <;> rfl
theorem infoSt : (Try.prog.info? 71).map (fun i => (i.zero, i.size, i.bytes)) = some (some (.agg #[.int .i64 0, .int .i64 0, .int .i64 0, .bool false]), 4, 32) := by kernel_rfl
/-- What a function that makes a list of steps returns. -/
def StepsR (ss : List Stp) (w : World) (e : Ending) (w' : World) : Prop :=
  ∃ vv, e = .returned vv ∧ OwnS w' w.heap.size w'.heap.size 71 4 enSt vv ss ∧ Below w.heap.size w w'
theorem opt_list {s : Stp} {ok : Bool} {t : Option Stp} (h : opt s ok = t) : t.toList = if ok = true then [s] else [] := by
  subst h; unfold opt; cases ok <;> rfl
theorem lgU_step (v : Vr) (b : Bd) (d : Int) {P k f : Nat} (hP : v.p = (P : Int)) (h : f + k = P) : lgU v b d (k + 1) = lgU v b d k ++ (stepP v b (f : Int) d).toList := by
  simp only [lgU]
  rw [show v.p - (k : Int) = (f : Int) from by omega]
/-- The reference looks at the board's end in every step. -/
def lgX (v : Vr) (b : Bd) (d : Int) : Nat → List Stp
  | 0 => []
  | k + 1 => lgX v b d k ++ ((if over b then none else stepP v b (v.p - (k : Int)) d) : Option Stp).toList
theorem lgX_step (v : Vr) (b : Bd) (d : Int) {P k f : Nat} (hP : v.p = (P : Int)) (h : f + k = P) : lgX v b d (k + 1) = lgX v b d k ++ ((if over b then none else stepP v b (f : Int) d) : Option Stp).toList := by
  simp only [lgX]
  rw [show v.p - (k : Int) = (f : Int) from by omega]
theorem lgX_end (v : Vr) (b : Bd) (d : Int) : ∀ k, lgX v b d k = if over b = true then [] else lgU v b d k := by
  intro k
  induction k with
  | zero => simp [lgX, lgU]
  | succ k ih => simp only [lgX, lgU, ih]; split <;> simp

set_option maxHeartbeats 4000000 in
set_option maxRecDepth 100000 in
theorem legal_i (v : Vr) (b : Bd) (hb : Ok v b) (Ao At : Option Addr) (co ct B : Nat) (d : Int) (hd : 1 ≤ d ∧ d ≤ 6) (w : World) (hB : B ≤ w.heap.size) (ho : RdS w B 1 enI Ao b.1) (ht : RdS w B 1 enI At b.2) :
    Calls Try.prog 92 #[.agg #[.int .i64 v.p, .int .i64 v.c, .int .i64 v.h, .int .i64 v.s], .agg #[.slice Ao b.1.length co, .slice At b.2.length ct], .int .i64 d] w fun e w' => StepsR (legalP v b d) w e w' := by
  obtain ⟨i4, hi4, hz0, hz1, hz2⟩ := info_parts infoSt
  have hv := hb.v1
  have HO := Lib.hid ho
  have HT := Lib.hid ht
  obtain ⟨P, hP⟩ : ∃ P : Nat, v.p = (P : Int) := ⟨v.p.toNat, by omega⟩
  have HP := Lib.hid hP
  have hP24 : P ≤ 24 := by omega
  obtain ⟨ov, hov⟩ : ∃ a, over b = a := ⟨_, rfl⟩
  have HOV := Lib.hid hov
  have hLG : legalP v b d = if ov = true then [] else lgU v b d (P + 1) := by unfold legalP; rw [hov, show v.p.toNat = P from by omega]
  have HLG := Lib.hid hLG
  obtain ⟨LG, hL⟩ : ∃ l, legalP v b d = l := ⟨_, rfl⟩
  rw [hL] at HLG ⊢
  have CS := Lib.hid (fun (f : Nat) (hf : f ≤ P) (w9 : World) (h : Below w.heap.size w w9) => step_i v b hb Ao At co ct B f d (by omega) hd w9 (Nat.le_trans hB h.size) (HO.out.below h hB) (HT.out.below h hB))
  have CO := Lib.hid (fun (w9 : World) (h : Below w.heap.size w w9) => over_i v b hb Ao At co ct B w9 (Nat.le_trans hB h.size) (HO.out.below h hB) (HT.out.below h hB) ov hov)
  clear hb ho ht hov hLG hL hP
  go_enter Try.func92, Try.ntmps92
  go_upto_region 1 with (fail)
  refine wp_gen (fun W' => Below w.heap.size w W' ∧ RowB W' w.heap.size 32 [.int .i64 v.p, .int .i64 v.c, .int .i64 v.h, .int .i64 v.s] ∧ RowB W' (w.heap.size + 1) 34 [.slice Ao b.1.length co, .slice At b.2.length ct]) ⟨by go_grown, (RowB.new _ _ _).alloc _, RowB.new' _ _ _ (by simp)⟩ ?_
  rintro w1 ⟨hbW, rv, rb⟩
  obtain ⟨q0, q1, q2, q3⟩ := rv.c4
  obtain ⟨r0, r1⟩ := rb.c2
  have hl1 := rv.lt
  have hl2 := rb.lt
  go_wp2_with fail
  refine (CO.out w1 hbW).mono ?_
  rintro e w2 ⟨rfl, hb2⟩
  have rv := rv.below hb2 rv.lt
  have rb := rb.below hb2 rb.lt
  have hbW := hbW.trans (hb2.mono hbW.size)
  clear q0 q1 q2 q3 r0 r1 hl1 hl2 hb2
  obtain ⟨q0, q1, q2, q3⟩ := rv.c4
  obtain ⟨r0, r1⟩ := rb.c2
  have hl1 := rv.lt
  have hl2 := rb.lt
  cases ov
  case true =>
    obtain rfl : LG = [] := by rw [HLG.out]; rfl
    go_wp2_with fail
    go_ret
    exact ⟨_, rfl, OwnS.nil_ _ _ _ _ _ _, hbW⟩
  have hT0 : Hid (lgU v b d (P + 1) = LG) := Lib.hid (by rw [HLG.out]; rfl)
  have hT1 : Hid (∀ f : Int, (stepP v b f d) = stepP v b f d) := Lib.hid (fun _ => rfl)
  go_wp2_with fail
  go_loopw [7, 8] (fun vl i wr => ∃ (FF_ k : Nat), FF_ + k = P + 1 ∧ i = .int .i64 ((FF_ : Int) - 1) ∧ Hid (Below w.heap.size w wr) ∧ RowB wr w.heap.size 32 [.int .i64 v.p, .int .i64 v.c, .int .i64 v.h, .int .i64 v.s] ∧ RowB wr (w.heap.size + 1) 34 [.slice Ao b.1.length co, .slice At b.2.length ct] ∧ Hid (OwnS wr (w.heap.size + 2) wr.heap.size 71 4 enSt vl (lgU v b d k)) ∧ Hid ((lgU v b d k).length ≤ k)) (fun _ i _ => (intOf i + 1).toNat)
  case atStart => exact ⟨P + 1, 0, by omega, by rw [HP.out, show (((P + 1 : Nat) : Int) - 1) = (P : Int) from by omega], Lib.hid hbW, rv, rb, Lib.hid (OwnS.nil_ _ _ _ _ _ _), Lib.hid (by show ([] : List Stp).length ≤ 0; simp)⟩
  case round =>
    obtain ⟨FF_, k, hFk, rfl, hb, rv, rb, ho, hlen⟩ := hrel
    clear q0 q1 q2 q3 r0 r1 hl1 hl2
    obtain ⟨q0, q1, q2, q3⟩ := rv.c4
    obtain ⟨r0, r1⟩ := rb.c2
    have hl1 := rv.lt
    have hl2 := rb.lt
    by_cases hF : 0 < FF_
    · obtain ⟨f, rfl⟩ : ∃ f, FF_ = f + 1 := ⟨FF_ - 1, by omega⟩
      have ef : (((f + 1 : Nat) : Int) - 1) = (f : Int) := by omega
      rw [ef]
      obtain ⟨Av, cv, hvl, _⟩ := ho.out.form enSt_len
      have hsz : w.heap.size + 2 ≤ wr.heap.size := by omega
      have HLK := Lib.hid (lgU_step v b d (P := P) (k := k) (f := f) HP.out (by omega))
      clear ef
      subst hvl
      go_wp2_with fail
      refine (CS.out f (by omega) wr hb.out).mono ?_
      rintro e w5 ⟨s, ok, rfl, hopt, hb5⟩
      have HOPT := Lib.hid (opt_list hopt)
      clear hopt
      have rv := rv.below hb5 rv.lt
      have rb := rb.below hb5 rb.lt
      have ho := Lib.hid ((ho.out.below hb5 (Nat.le_refl _)).more hb5.size)
      have hbn := Lib.hid (hb.out.trans (hb5.mono hb.out.size))
      have hs5 := hb5.size
      clear hb hb5 q0 q1 q2 q3 r0 r1 hl1 hl2
      obtain ⟨q0, q1, q2, q3⟩ := rv.c4
      obtain ⟨r0, r1⟩ := rb.c2
      have hl1 := rv.lt
      have hl2 := rb.lt
      have hlk := hlen.out
      cases ok
      case false =>
        have HN : Hid (lgU v b d (k + 1) = lgU v b d k) := Lib.hid (by rw [HLK.out, HOPT.out]; simp)
        go_wp2_with fail
        go_roundw
        case rel => exact ⟨f, k + 1, by omega, by first | rfl | trivial | go_num, Lib.hid (hbn.out.alloc hbn.out.size _), rv.alloc _, rb.alloc _, Lib.hid (by rw [HN.out]; exact (ho.out.alloc _).more (by simp)), Lib.hid (by rw [HN.out]; omega)⟩
        case measure => simp [intOf] <;> omega
      case true =>
        have HN : Hid (lgU v b d (k + 1) = lgU v b d k ++ [s]) := Lib.hid (by rw [HLK.out, HOPT.out]; simp)
        have hnl := Lib.hid (show (lgU v b d (k + 1)).length ≤ k + 1 from by rw [HN.out, List.length_append]; simp; omega)
        go_wp2_with (at_builtin; refine wpL_app rfl _ _ _ rfl (w.heap.size + 2) _ 71 i4 (.agg #[.int .i64 0, .int .i64 0, .int .i64 0, .bool false]) 4 32 Try.underlying42 hi4 hz0 hz1 hz2 rfl (by decide) enSt_len one_St (.slice Av (lgU v b d k).length cv) (lgU v b d k) [s] rfl ((ho.out.alloc _).alloc _) ⟨(w5.alloc (.cells #[.int .i64 s.1, .int .i64 s.2.1, .int .i64 s.2.2.1, .bool s.2.2.2] 71)).heap.size, 0, none⟩ 1 1 (by first | rfl | (simp; rfl) | (simp [go_sem]; done)) rfl (news_new (RowB.new _ _ _)) (by decide) ?c1 ?c2 ?c3 ?_)
        case c1 => unfold maxLen; omega
        case c2 => omega
        case c3 => go_size
        intro k2 c2 w7 ho7 hg7 hat7 hlt7
        have hrow : ∀ g, (Value.slice Av (lgU v b d k).length cv).ownBlock = some g → w.heap.size + 2 ≤ g := fun g hg => (ho.out.block g hg).1
        have hg8 : w5.grownBy w7 (Value.slice Av (lgU v b d k).length cv).ownBlock := below_grown (w := w5) (by go_grown) hg7
        have rv := rv.grown hg8 (fun g hg => by have := hrow g hg; omega)
        have rb := rb.grown hg8 (fun g hg => by have := hrow g hg; omega)
        have hbn := Lib.hid (hbn.out.grown hg8 hbn.out.size (fun g hg => by have := hrow g hg; omega))
        have hoN := Lib.hid (show OwnS w7 (w.heap.size + 2) w7.heap.size 71 4 enSt (.slice (some ⟨k2, 0, none⟩) ((lgU v b d k).length + 1) c2) (lgU v b d (k + 1)) from by rw [HN.out]; exact ho7)
        clear hg7 hg8 hat7 ho7 hrow
        go_wp2_with fail
        go_roundw
        case rel => exact ⟨f, k + 1, by omega, by first | rfl | trivial | go_num, hbn, rv, rb, hoN, hnl⟩
        case measure => simp [intOf] <;> omega
    · obtain rfl : FF_ = 0 := by omega
      obtain rfl : k = P + 1 := by omega
      have hEND : lgU v b d (P + 1) = LG := hT0.out
      have hoE := Lib.hid ho.out
      rw [hEND] at hoE
      clear hEND
      go_wp2_with fail
      go_ret
      exact ⟨_, rfl, hoE.out.less (by omega), hb.out⟩

set_option maxHeartbeats 4000000 in
set_option maxRecDepth 100000 in
theorem legal_s (v : Vr) (b : Bd) (hb : Ok v b) (Ao At : Option Addr) (co ct B : Nat) (d : Int) (hd : 1 ≤ d ∧ d ≤ 6) (w : World) (hB : B ≤ w.heap.size) (ho : RdS w B 1 enI Ao b.1) (ht : RdS w B 1 enI At b.2) :
    Calls Try.prog 88 #[.agg #[.int .i64 v.p, .int .i64 v.c, .int .i64 v.h, .int .i64 v.s], .agg #[.slice Ao b.1.length co, .slice At b.2.length ct], .int .i64 d] w fun e w' => StepsR (legalP v b d) w e w' := by
  obtain ⟨i4, hi4, hz0, hz1, hz2⟩ := info_parts infoSt
  have hv := hb.v1
  have HO := Lib.hid ho
  have HT := Lib.hid ht
  obtain ⟨P, hP⟩ : ∃ P : Nat, v.p = (P : Int) := ⟨v.p.toNat, by omega⟩
  have HP := Lib.hid hP
  have hP24 : P ≤ 24 := by omega
  obtain ⟨ov, hov⟩ : ∃ a, over b = a := ⟨_, rfl⟩
  have HOV := Lib.hid hov
  have hLG : legalP v b d = if ov = true then [] else lgU v b d (P + 1) := by unfold legalP; rw [hov, show v.p.toNat = P from by omega]
  have HLG := Lib.hid hLG
  obtain ⟨LG, hL⟩ : ∃ l, legalP v b d = l := ⟨_, rfl⟩
  rw [hL] at HLG ⊢
  have CS := Lib.hid (fun (f : Nat) (hf : f ≤ P) (w9 : World) (h : Below w.heap.size w w9) => step_s v b hb Ao At co ct B f d (by omega) hd w9 (Nat.le_trans hB h.size) (HO.out.below h hB) (HT.out.below h hB))
  have CO := Lib.hid (fun (w9 : World) (h : Below w.heap.size w w9) => over_i v b hb Ao At co ct B w9 (Nat.le_trans hB h.size) (HO.out.below h hB) (HT.out.below h hB) ov hov)
  clear hb ho ht hov hLG hL hP
  go_enter Try.func88, Try.ntmps88
  go_upto_region 1 with (fail)
  refine wp_gen (fun W' => Below w.heap.size w W' ∧ RowB W' w.heap.size 32 [.int .i64 v.p, .int .i64 v.c, .int .i64 v.h, .int .i64 v.s] ∧ RowB W' (w.heap.size + 1) 34 [.slice Ao b.1.length co, .slice At b.2.length ct]) ⟨by go_grown, (RowB.new _ _ _).alloc _, RowB.new' _ _ _ (by simp)⟩ ?_
  rintro w1 ⟨hbW, rv, rb⟩
  obtain ⟨q0, q1, q2, q3⟩ := rv.c4
  obtain ⟨r0, r1⟩ := rb.c2
  have hl1 := rv.lt
  have hl2 := rb.lt
  have hT0 : Hid ((if ov = true then [] else lgU v b d (P + 1)) = LG) := Lib.hid (by rw [HLG.out])
  go_wp2_with fail
  go_loopw [7, 8] (fun vl i wr => ∃ (FF_ k : Nat), FF_ + k = P + 1 ∧ i = .int .i64 ((FF_ : Int) - 1) ∧ Hid (Below w.heap.size w wr) ∧ RowB wr w.heap.size 32 [.int .i64 v.p, .int .i64 v.c, .int .i64 v.h, .int .i64 v.s] ∧ RowB wr (w.heap.size + 1) 34 [.slice Ao b.1.length co, .slice At b.2.length ct] ∧ Hid (OwnS wr (w.heap.size + 2) wr.heap.size 71 4 enSt vl (lgX v b d k)) ∧ Hid ((lgX v b d k).length ≤ k)) (fun _ i _ => (intOf i + 1).toNat)
  case atStart => exact ⟨P + 1, 0, by omega, by rw [HP.out, show (((P + 1 : Nat) : Int) - 1) = (P : Int) from by omega], Lib.hid (by first | exact hbW.alloc hbW.size _ | go_grown), rv.alloc _, rb.alloc _, Lib.hid (by rw [show lgX v b d 0 = [] from rfl]; exact (RowB.new _ _ []).own (xs := ([] : List Stp)) (en := enSt) enSt_len (by omega) (by simp) (by decide)), Lib.hid (by show ([] : List Stp).length ≤ 0; simp)⟩
  case round =>
    obtain ⟨FF_, k, hFk, rfl, hb, rv, rb, ho, hlen⟩ := hrel
    clear q0 q1 q2 q3 r0 r1 hl1 hl2
    obtain ⟨q0, q1, q2, q3⟩ := rv.c4
    obtain ⟨r0, r1⟩ := rb.c2
    have hl1 := rv.lt
    have hl2 := rb.lt
    by_cases hF : 0 < FF_
    · obtain ⟨f, rfl⟩ : ∃ f, FF_ = f + 1 := ⟨FF_ - 1, by omega⟩
      have ef : (((f + 1 : Nat) : Int) - 1) = (f : Int) := by omega
      rw [ef]
      obtain ⟨Av, cv, hvl, _⟩ := ho.out.form enSt_len
      have hsz : w.heap.size + 2 ≤ wr.heap.size := by omega
      have HLK := Lib.hid (lgX_step v b d (P := P) (k := k) (f := f) HP.out (by omega))
      clear ef
      subst hvl
      go_wp2_with fail
      refine (CS.out f (by omega) wr hb.out).mono ?_
      rintro e w5 ⟨s, ok, rfl, hopt, hb5⟩
      have HOPT := Lib.hid (opt_list hopt)
      clear hopt
      have rv := rv.below hb5 rv.lt
      have rb := rb.below hb5 rb.lt
      have ho := Lib.hid ((ho.out.below hb5 (Nat.le_refl _)).more hb5.size)
      have hbn := Lib.hid (hb.out.trans (hb5.mono hb.out.size))
      have hs5 := hb5.size
      clear hb hb5 q0 q1 q2 q3 r0 r1 hl1 hl2
      obtain ⟨q0, q1, q2, q3⟩ := rv.c4
      obtain ⟨r0, r1⟩ := rb.c2
      have hl1 := rv.lt
      have hl2 := rb.lt
      have hlk := hlen.out
      cases ok
      case false =>
        have HN : Hid (lgX v b d (k + 1) = lgX v b d k) := Lib.hid (by rw [HLK.out, HOPT.out]; simp)
        go_wp2_with fail
        go_roundw
        case rel => exact ⟨f, k + 1, by omega, by first | rfl | trivial | go_num, Lib.hid (hbn.out.alloc hbn.out.size _), rv.alloc _, rb.alloc _, Lib.hid (by rw [HN.out]; exact (ho.out.alloc _).more (by simp)), Lib.hid (by rw [HN.out]; omega)⟩
        case measure => simp [intOf] <;> omega
      case true =>
        have HN : Hid (lgX v b d (k + 1) = lgX v b d k ++ [s]) := Lib.hid (by rw [HLK.out, HOPT.out]; simp)
        have hnl := Lib.hid (show (lgX v b d (k + 1)).length ≤ k + 1 from by rw [HN.out, List.length_append]; simp; omega)
        go_wp2_with (at_builtin; refine wpL_app rfl _ _ _ rfl (w.heap.size + 2) _ 71 i4 (.agg #[.int .i64 0, .int .i64 0, .int .i64 0, .bool false]) 4 32 Try.underlying42 hi4 hz0 hz1 hz2 rfl (by decide) enSt_len one_St (.slice Av (lgX v b d k).length cv) (lgX v b d k) [s] rfl ((ho.out.alloc _).alloc _) ⟨(w5.alloc (.cells #[.int .i64 s.1, .int .i64 s.2.1, .int .i64 s.2.2.1, .bool s.2.2.2] 71)).heap.size, 0, none⟩ 1 1 (by first | rfl | (simp; rfl) | (simp [go_sem]; done)) rfl (news_new (RowB.new _ _ _)) (by decide) ?c1 ?c2 ?c3 ?_)
        case c1 => unfold maxLen; omega
        case c2 => omega
        case c3 => go_size
        intro k2 c2 w7 ho7 hg7 hat7 hlt7
        have hrow : ∀ g, (Value.slice Av (lgX v b d k).length cv).ownBlock = some g → w.heap.size + 2 ≤ g := fun g hg => (ho.out.block g hg).1
        have hg8 : w5.grownBy w7 (Value.slice Av (lgX v b d k).length cv).ownBlock := below_grown (w := w5) (by go_grown) hg7
        have rv := rv.grown hg8 (fun g hg => by have := hrow g hg; omega)
        have rb := rb.grown hg8 (fun g hg => by have := hrow g hg; omega)
        have hbn := Lib.hid (hbn.out.grown hg8 hbn.out.size (fun g hg => by have := hrow g hg; omega))
        have hoN := Lib.hid (show OwnS w7 (w.heap.size + 2) w7.heap.size 71 4 enSt (.slice (some ⟨k2, 0, none⟩) ((lgX v b d k).length + 1) c2) (lgX v b d (k + 1)) from by rw [HN.out]; exact ho7)
        clear hg7 hg8 hat7 ho7 hrow
        go_wp2_with fail
        go_roundw
        case rel => exact ⟨f, k + 1, by omega, by first | rfl | trivial | go_num, hbn, rv, rb, hoN, hnl⟩
        case measure => simp [intOf] <;> omega
    · obtain rfl : FF_ = 0 := by omega
      obtain rfl : k = P + 1 := by omega
      have hEND : lgX v b d (P + 1) = LG := (by rw [← hT0.out, ← HOV.out]; exact lgX_end v b d _)
      have hoE := Lib.hid ho.out
      rw [hEND] at hoE
      clear hEND
      go_wp2_with fail
      go_ret
      exact ⟨_, rfl, hoE.out.less (by omega), hb.out⟩
end Go.Proofs.Ytfgkkmhafdbicaa.Bd5
