/-
  RankRatings of the program: the insertion sort and what is built on it. Conditions: each theorem's own.
-/
import Derived.Test.YtjmckpaemmjcmaaRankC
set_option linter.unusedVariables false
namespace Go.Proofs.Ytjmckpaemmjcmaa.RankI
open Go.ChangeShapes Go.WideShapes Go.ChangeAt Go.RowKit Base Base2 Ints Own RankPlain RankC

def arr (l : List Nat) : List Int := l.map fun i => ((i : Nat) : Int)
/-- The order while entry i moves to place j. -/
def mid (xs : List (Int × Int)) (i j n : Nat) : List Nat := (rank xs i).take j ++ i :: ((rank xs i).drop j ++ (List.range n).drop (i + 1))
theorem arr_cell {w : World} {g : Nat} {e : TypeId} {l : List Nat} (h : RowB w g e ((arr l).flatMap enI)) {k v : Nat} (hk : l[k]? = some v) : w.cell? ⟨g, k, none⟩ = some (.int .i64 (v : Int)) := by
  rw [h.cell]
  have := flatMap_at enI_len (arr l) k (v : Int) (by unfold arr; rw [List.getElem?_map, hk]; rfl) 0 _ rfl
  simpa using this
theorem arr_set {w : World} {g : Nat} {e : TypeId} {l : List Nat} (h : RowB w g e ((arr l).flatMap enI)) (k v : Nat) : RowB (w.setCell ⟨g, k, none⟩ (.int .i64 (v : Int))) g e ((arr (l.set k v)).flatMap enI) := by
  have hs : ∀ (ys : List Int) (i : Nat) (y : Int), (ys.flatMap enI).set i (.int .i64 y) = (ys.set i y).flatMap enI := by
    intro ys
    induction ys with
    | nil => intro i y; rfl
    | cons x ys ih => intro i y; cases i with
      | zero => rfl
      | succ i => simp only [List.flatMap_cons, enI, List.cons_append, List.nil_append, List.set_cons_succ]; exact congrArg _ (ih i y)
  have := h.set k (.int .i64 (v : Int))
  rw [hs] at this
  unfold arr
  rw [List.map_set]
  exact this
theorem range_drop {n i : Nat} (h : i < n) : (List.range n).drop i = i :: (List.range n).drop (i + 1) := by
  rw [List.drop_eq_getElem_cons (by simpa using h)]
  simp
theorem mid_start (xs : List (Int × Int)) {i n : Nat} (h : i < n) : rank xs (min i n) ++ (List.range n).drop (min i n) = mid xs i i n := by
  have hl := rank_len xs i
  rw [Nat.min_eq_left (by omega), range_drop h]
  unfold mid
  rw [List.take_of_length_le (l := rank xs i) (by omega), List.drop_of_length_le (l := rank xs i) (by omega)]
  rfl
theorem grown_drewN {a b : World} {row : Option Nat} (h : a.grownBy b row) (n : Nat) : a.grownBy (b.drewN n) row := ⟨h.os, h.tape, h.output, h.size, h.block⟩
theorem grown_drew {a b : World} {row : Option Nat} (h : a.grownBy b row) : a.grownBy b.drew row := ⟨h.os, h.tape, h.output, h.size, h.block⟩
theorem grown_below {a b c : World} {row : Option Nat} (h : a.grownBy b row) (k : Below b.heap.size b c) : a.grownBy c row :=
  ⟨k.os.trans h.os, k.tape.trans h.tape, k.output.trans h.output, Nat.le_trans h.size k.size, fun i hi hr => (k.block i (Nat.lt_of_lt_of_le hi h.size)).trans (h.block i hi hr)⟩
theorem start_eq (xs : List (Int × Int)) (n : Nat) : rank xs (min 1 n) ++ (List.range n).drop (min 1 n) = List.range n := by
  cases n with
  | zero => rfl
  | succ n =>
    rw [Nat.min_eq_left (by omega)]
    have : rank xs 1 = [0] := rfl
    rw [this]
    have := range_drop (n := n + 1) (i := 0) (by omega)
    rw [List.drop_zero] at this
    rw [this]
    rfl
theorem mid_at (xs : List (Int × Int)) {i j n : Nat} (h : j ≤ i) : (mid xs i j n)[j]? = some i := by
  have hl := rank_len xs i
  unfold mid
  rw [List.getElem?_append_right (by rw [List.length_take]; omega), List.length_take, Nat.min_eq_left (by omega), Nat.sub_self]
  rfl
theorem mid_pre (xs : List (Int × Int)) {i j n : Nat} (h : j < i) : ∃ y, (rank xs i)[j]? = some y ∧ y < i ∧ (mid xs i (j + 1) n)[j]? = some y ∧ (rank xs i).getD j 0 = y := by
  have hl := rank_len xs i
  have hj : j < (rank xs i).length := by omega
  refine ⟨(rank xs i)[j], List.getElem?_eq_getElem hj, rank_lt xs i _ (List.getElem_mem hj), ?_, ?_⟩
  · unfold mid
    rw [List.getElem?_append_left (by rw [List.length_take]; omega), List.getElem?_take, if_pos (by omega)]
    exact List.getElem?_eq_getElem hj
  · rw [List.getD_eq_getElem?_getD, List.getElem?_eq_getElem hj]; rfl
theorem mid_swap (xs : List (Int × Int)) {i j n y : Nat} (h : j < i) (hy : (rank xs i)[j]? = some y) : ((mid xs i (j + 1) n).set (j + 1) y).set j i = mid xs i j n := by
  have hl := rank_len xs i
  have hj : j < (rank xs i).length := by omega
  have hyv : (rank xs i)[j] = y := by rw [List.getElem?_eq_getElem hj] at hy; simpa using hy
  unfold mid
  rw [List.take_succ_eq_append_getElem hj, hyv]
  conv => rhs; rw [List.drop_eq_getElem_cons hj, hyv]
  have hlt : ((rank xs i).take j).length = j := by rw [List.length_take]; omega
  generalize (rank xs i).take j = t at *
  generalize (rank xs i).drop (j + 1) = d
  subst hlt
  rw [List.append_assoc, List.set_append_right _ _ (by omega), List.set_append_right _ _ (by omega)]
  simp
theorem mid_end (xs : List (Int × Int)) {i j n : Nat} (h : i < n) (hp : pos xs i (rank xs i) i = j) : mid xs i j n = rank xs (min (i + 1) n) ++ (List.range n).drop (min (i + 1) n) := by
  have hl := rank_len xs i
  rw [Nat.min_eq_left (by omega)]
  show _ = insr xs i (rank xs i) ++ _
  unfold mid insr
  rw [hl, hp]
  simp

set_option maxHeartbeats 8000000 in
set_option maxRecDepth 100000 in
theorem insS (B : Nat) (A : Option Addr) (n c gb g cap : Nat) (xs : List (Int × Int)) (w : World) (hn : n = xs.length) (h8 : n ≤ 8) (hb : RowB w gb 35 [.slice A n c]) (hr : RdS w B 2 enI2 A xs) (hB : B ≤ gb) (hg : gb < g) (row : RowB w g 2 ((arr (List.range n)).flatMap enI)) :
    Calls Try.prog 54 #[.slice (some ⟨g, 0, none⟩) n cap, .int .i64 0, .int .i64 n, .func (.func 47) #[] #[.pointer (some ⟨gb, 0, none⟩)]] w fun e w' => (∃ v, e = .returned v) ∧ w.grownBy w' (some g) ∧ RowB w' g 2 ((arr (rank xs n)).flatMap enI) := by
  have hgw := row.lt
  have KEEP : Hid (∀ w' : World, w.grownBy w' (some g) → RowB w' gb 35 [.slice A n c] ∧ RdS w' B 2 enI2 A xs) := fun w' h => ⟨hb.grown h (fun k hk => by simp at hk; omega), hr.grown h (by omega) (fun k hk => by simp at hk; omega)⟩
  have HN := Lib.hid hn
  have HR0 : Hid (RowB w g 2 ((arr (rank xs (min 1 n) ++ (List.range n).drop (min 1 n))).flatMap enI)) := by rw [start_eq]; exact row
  clear hb hr row hn
  go_enter Try.func54, Try.ntmps54
  go_wp2_with fail
  go_loopw [8] (fun s wr => ∃ i : Nat, s = .int .i64 (i : Int) ∧ 1 ≤ i ∧ (i ≤ n ∨ i = 1) ∧ w.grownBy wr (some g) ∧ Hid (RowB wr g 2 ((arr (rank xs (min i n) ++ (List.range n).drop (min i n))).flatMap enI))) (fun s _ => n - (intOf s).toNat)
  case atStart => exact ⟨1, rfl, Nat.le_refl _, .inr rfl, grownBy_refl _ _, HR0⟩
  case round =>
    clear HR0
    obtain ⟨i, rfl, hi1, hin, hgr, HR⟩ := hrel
    by_cases hlt : i < n
    · have HR1 : Hid (RowB wr g 2 ((arr (mid xs i i n)).flatMap enI)) := by have := HR.out; rw [mid_start xs hlt] at this; exact this
      clear HR
      go_wp2_with fail
      go_loopw [9] (fun s wq => ∃ j : Nat, s = .int .i64 (j : Int) ∧ j ≤ i ∧ w.grownBy wq (some g) ∧ Hid (RowB wq g 2 ((arr (mid xs i j n)).flatMap enI)) ∧ Hid (pos xs i (rank xs i) i = pos xs i (rank xs i) j)) (fun s _ => (intOf s).toNat)
      case atStart => exact ⟨i, rfl, Nat.le_refl _, hgr, HR1, rfl⟩
      case round =>
        clear HR1 hgr
        obtain ⟨j, rfl, hj, hgr, HR, HP⟩ := hrel
        cases j with
        | zero =>
          have HE : Hid (RowB wr g 2 ((arr (rank xs (min (i + 1) n) ++ (List.range n).drop (min (i + 1) n))).flatMap enI)) := by have := HR.out; rw [mid_end xs hlt (j := 0) HP.out] at this; exact this
          have hd : decide ((0 : Int) < 0) = false := rfl
          go_wp2_with fail
          go_quiet (fail)
          go_wp2_with fail
          go_roundw
          case rel => exact ⟨i + 1, by go_num, by omega, .inl (by omega), grown_drewN hgr _, HE⟩
          case measure => simp [intOf]; omega
        | succ j =>
          obtain ⟨y, hy, hyi, hm, hg0⟩ := mid_pre xs (n := n) (show j < i by omega)
          have hcj := arr_cell HR.out (mid_at xs hj)
          have hcp := arr_cell HR.out hm
          have hlg := HR.out.lt
          have e1 : IntKind.i64.wrap ((j : Int) + 1 - 1) = (j : Int) := by rw [IntWalk.i64_in _ (by omega)]; omega
          have hd : (0 : Int) < (j : Int) + 1 := by omega
          have CL := fun w0 h1 h2 h3 => clo B A n c gb xs i y w0 HN.out hlt (by omega) h1 h2 h3
          have hlt0 := ordv_lt xs i y
          generalize ordv xs i y = o at *
          have CL := Lib.hid CL
          have HS : Hid (∀ v : World, Below wr.heap.size wr v → v.cell? ⟨g, j + 1, none⟩ = some (.int .i64 (i : Int)) ∧ v.cell? ⟨g, j, none⟩ = some (.int .i64 (y : Int))) := fun v hb => ⟨(hb.cell (p := ⟨g, j + 1, none⟩) hlg).trans hcj, (hb.cell (p := ⟨g, j, none⟩) hlg).trans hcp⟩
          have HY := Lib.hid hy
          have HG0 := Lib.hid hg0
          have hBs : B ≤ wr.heap.size := by omega
          have hb1 : (j : Int) + 1 < (n : Int) := by omega
          have hb3 : (0 : Int) ≤ (j : Int) + 1 := by omega
          have hb4 : (0 : Int) ≤ (j : Int) := by omega
          have e2 : IntKind.i64.wrap (j : Int) = (j : Int) := IntWalk.i64_in _ (by omega)
          have hb2' : (j : Int) < (n : Int) := by omega
          clear hy hm hg0
          cases hbf : bef xs i y
          case false =>
            rw [hbf] at hlt0
            have HE : Hid (RowB wr g 2 ((arr (rank xs (min (i + 1) n) ++ (List.range n).drop (min (i + 1) n))).flatMap enI)) := by
              have := HR.out
              rw [mid_end xs hlt (j := j + 1) (by rw [HP.out]; show (if bef xs i ((rank xs i).getD j 0) = true then _ else j + 1) = j + 1; rw [HG0.out, hbf]; rfl)] at this
              exact this
            clear hbf
            go_wp2_with fail
            clear hcj hcp
            go_region_held3 (fun v => v.cell? ⟨g, j + 1, none⟩ = some (.int .i64 (i : Int)) ∧ v.cell? ⟨g, j, none⟩ = some (.int .i64 (y : Int))) (exact HS.out _ (by go_grown)) (first | (go_at_call 47; refine (CL.out _ (by exact (KEEP.out _ hgr).1) (by exact (KEEP.out _ hgr).2) (by first | exact hBs | go_size)).mono ?_; rintro e w2 ⟨rfl, hb2⟩; have t2 : Below wr.heap.size wr w2 := Below.then_ (by go_grown) hb2 (by go_size)) | fail)
            go_wp2_with fail
            go_roundw
            case rel => exact ⟨i + 1, by go_num, by omega, .inl (by omega), grown_below hgr t2, HE.out.below t2 hlg⟩
            case measure => simp [intOf]; omega
          case true =>
            rw [hbf] at hlt0
            have hpos : pos xs i (rank xs i) i = pos xs i (rank xs i) j := by rw [HP.out]; show (if bef xs i ((rank xs i).getD j 0) = true then _ else j + 1) = _; rw [HG0.out, hbf]; rfl
            have HP2 := Lib.hid hpos
            clear hbf hpos
            have hlt1 : o < 0 := of_decide_eq_true hlt0
            go_wp2_with fail
            clear hcj hcp
            go_region_held3 (fun v => v.cell? ⟨g, j + 1, none⟩ = some (.int .i64 (i : Int)) ∧ v.cell? ⟨g, j, none⟩ = some (.int .i64 (y : Int))) (exact HS.out _ (by go_grown)) (first | (go_at_call 47; refine (CL.out _ (by exact (KEEP.out _ hgr).1) (by exact (KEEP.out _ hgr).2) (by first | exact hBs | go_size)).mono ?_; rintro e w2 ⟨rfl, hb2⟩; have t2 : Below wr.heap.size wr w2 := Below.then_ (by go_grown) hb2 (by go_size)) | fail)
            have row2 := HR.out.below t2 hlg
            have hgr2 := grown_below hgr t2
            obtain ⟨hcj, hcp⟩ := HS.out _ t2
            have hf2 := row2.frozen
            have RW : Hid (RowB ((w2.setCell ⟨g, j + 1, none⟩ (.int .i64 (y : Int))).setCell ⟨g, j, none⟩ (.int .i64 (i : Int))) g 2 ((arr (mid xs i j n)).flatMap enI)) := by
              have := arr_set (arr_set row2 (j + 1) y) j i
              rw [mid_swap xs (by omega) HY.out] at this
              exact this
            have GW := Lib.hid (grownBy_trans hgr2 (grownBy_trans (grownBy_setCell w2 g (j + 1) (.int .i64 (y : Int))) (grownBy_setCell _ g j (.int .i64 (i : Int)))))
            clear row2 hgr2 HR
            go_wp2_with fail
            go_region
            go_wp2_with fail
            go_roundw
            case rel => exact ⟨j, by go_num, by omega, grown_drew GW.out, RowB.drew RW.out, HP2.out⟩
            case measure => simp [intOf]
    · have HE : Hid (RowB wr g 2 ((arr (rank xs n)).flatMap enI)) := by
        have := HR.out
        rw [Nat.min_eq_right (by omega), List.drop_of_length_le (by simp), List.append_nil] at this
        exact this
      have hd : decide ((i : Int) < (n : Int)) = false := decide_eq_false (by omega)
      go_wp2_with fail
      go_returns
      exact ⟨⟨_, rfl⟩, hgr, HE.out⟩
end Go.Proofs.Ytjmckpaemmjcmaa.RankI
