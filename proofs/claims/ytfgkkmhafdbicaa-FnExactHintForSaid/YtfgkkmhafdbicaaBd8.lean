/-
  The orders of a roll's dice: of the program and of the reference. Conditions: each theorem's own.
-/
import Derived.Test.YtfgkkmhafdbicaaPlP
import Derived.Test.YtfgkkmhafdbicaaRelG
import Derived.Test.YtfgkkmhafdbicaaInts
import Derived.Deep.DeepCutAuto
set_option linter.unusedVariables false
set_option linter.unusedSimpArgs false
namespace Go.Proofs.Ytfgkkmhafdbicaa.Bd8
open Go.ChangeShapes Go.WideShapes Go.ChangeAt Go.RowKit Base Ints Own RelG PlP

/-- A value that fills one cell. -/
def en1 (v : Value) : List Value := [v]
theorem en1_len (v : Value) : (en1 v).length = 1 := rfl
theorem flat1 (rs : List Value) : rs.flatMap en1 = rs := by
  induction rs with
  | nil => rfl
  | cons x l ih => rw [List.flatMap_cons, ih]; rfl
/-- Lists of numbers, in slices. -/
abbrev RelI : Rel Value (List Int) := relV 1 enI
theorem sl_new {w : World} {g lo : Nat} {e : TypeId} {xs : List Int} (h : RowB w g e (xs.flatMap enI)) (hm : xs.length ≤ maxLen) (hg : lo ≤ g) : SlV 1 enI w (fun b => lo ≤ b) (.slice (some ⟨g, 0, none⟩) xs.length xs.length) xs :=
  (OwnV.of (RowB.own (lo := lo) (hi := w.heap.size) h enI_len hg h.lt hm) (Nat.le_refl _) (fun b hb _ => hb)).sl enI_len
theorem slg_new {α : Type} {K : Rel Value α} {w : World} {g n lo : Nat} {e : TypeId} {rs : List Value} {xs : List α} (h : RowB w g e rs) (hl : LsR K w (fun b => lo ≤ b) rs xs) (hn : xs.length = n) (hm : n ≤ maxLen) (hg : lo ≤ g) : SlG K 1 en1 w (fun b => lo ≤ b) (.slice (some ⟨g, 0, none⟩) n n) xs := by
  have h2 := hl.1
  have ho : OwnS w lo w.heap.size e 1 en1 (.slice (some ⟨g, 0, none⟩) rs.length rs.length) rs := RowB.own (by rw [flat1]; exact h) en1_len hg h.lt (by omega)
  have hv := (OwnV.of ho (Nat.le_refl _) (S := fun b => lo ≤ b) (fun b hb _ => hb)).sl en1_len
  obtain ⟨A, c, e1, h3, h4⟩ := hv
  simp only [Value.slice.injEq] at e1
  obtain ⟨rfl, -, rfl⟩ := e1
  exact ⟨_, _, rs, by rw [h2, hn], h3, hl, h4⟩
/-- What a function that makes lists of dice returns. -/
def OrdersR (xs : List (List Int)) (w : World) (e : Ending) (w' : World) : Prop :=
  ∃ vv, e = .returned vv ∧ SlG RelI 1 en1 w' (fun b => w.heap.size ≤ b) vv xs ∧ Below w.heap.size w w'

set_option maxHeartbeats 1000000 in
theorem orders_i (a b : Int) (w : World) : Calls Try.prog 82 #[.agg #[.int .i64 a, .int .i64 b]] w fun e w' => OrdersR (ordP a b) w e w' := by
  by_cases h : a = b
  · have HO : Hid (ordP a b = [[a, a, a, a]]) := Lib.hid (by unfold ordP; rw [if_pos h])
    have e1 : (a == b) = true := by simp [h]
    clear h
    go_enter Try.func82, Try.ntmps82
    go_wp2_with fail
    refine bp_gen (fun W' => Below w.heap.size w W' ∧ RowB W' (w.heap.size + 1) 2 [.int .i64 a, .int .i64 a, .int .i64 a, .int .i64 a] ∧ RowB W' (w.heap.size + 2) 24 [.slice (some ⟨w.heap.size + 1, 0, none⟩) 4 4]) ⟨by go_grown, RowB.alloc (RowB.new' _ _ _ (by first | simp | go_size | rfl)) _, RowB.new' _ _ _ (by first | simp | go_size | rfl)⟩ ?_
    rintro W' ⟨hb, h1, h2⟩
    go_ret
    refine ⟨_, rfl, ?_, hb⟩
    rw [HO.out]
    exact slg_new h2 (LsR.snoc (LsR.nil _ _ _) (sl_new (xs := [a, a, a, a]) h1 (show (4 : Nat) ≤ maxLen by decide) (by omega))) rfl (by decide) (by omega)
  · have HO : Hid (ordP a b = [[a, b], [b, a]]) := Lib.hid (by unfold ordP; rw [if_neg h])
    have e1 : (a == b) = false := by simp [h]
    clear h
    go_enter Try.func82, Try.ntmps82
    go_wp2_with fail
    refine bp_gen (fun W' => Below w.heap.size w W' ∧ RowB W' (w.heap.size + 1) 2 [.int .i64 a, .int .i64 b] ∧ RowB W' (w.heap.size + 2) 2 [.int .i64 b, .int .i64 a] ∧ RowB W' (w.heap.size + 3) 24 [.slice (some ⟨w.heap.size + 1, 0, none⟩) 2 2, .slice (some ⟨w.heap.size + 2, 0, none⟩) 2 2]) ⟨by go_grown, RowB.alloc (RowB.alloc (RowB.new' _ _ _ (by first | simp | go_size | rfl)) _) _, RowB.alloc (RowB.new' _ _ _ (by first | simp | go_size | rfl)) _, RowB.new' _ _ _ (by first | simp | go_size | rfl)⟩ ?_
    rintro W' ⟨hb, h1, h2, h3⟩
    go_ret
    refine ⟨_, rfl, ?_, hb⟩
    rw [HO.out]
    exact slg_new h3 (LsR.snoc (LsR.snoc (LsR.nil _ _ _) (sl_new (xs := [a, b]) h1 (show (2 : Nat) ≤ maxLen by decide) (by omega))) (sl_new (xs := [b, a]) h2 (show (2 : Nat) ≤ maxLen by decide) (by omega))) rfl (by decide) (by omega)

set_option maxHeartbeats 1000000 in
theorem orders_s (a b : Int) (w : World) : Calls Try.prog 60 #[.agg #[.int .i64 a, .int .i64 b]] w fun e w' => OrdersR (ordP a b) w e w' := by
  by_cases h : a = b
  · have HO : Hid (ordP a b = [[a, a, a, a]]) := Lib.hid (by unfold ordP; rw [if_pos h])
    have e1 : (a == b) = true := by simp [h]
    clear h
    go_enter Try.func60, Try.ntmps60
    go_wp2_with fail
    refine bp_gen (fun W' => Below w.heap.size w W' ∧ RowB W' (w.heap.size + 1) 2 [.int .i64 a, .int .i64 a, .int .i64 a, .int .i64 a] ∧ RowB W' (w.heap.size + 2) 24 [.slice (some ⟨w.heap.size + 1, 0, none⟩) 4 4]) ⟨by go_grown, RowB.alloc (RowB.new' _ _ _ (by first | simp | go_size | rfl)) _, RowB.new' _ _ _ (by first | simp | go_size | rfl)⟩ ?_
    rintro W' ⟨hb, h1, h2⟩
    go_ret
    refine ⟨_, rfl, ?_, hb⟩
    rw [HO.out]
    exact slg_new h2 (LsR.snoc (LsR.nil _ _ _) (sl_new (xs := [a, a, a, a]) h1 (show (4 : Nat) ≤ maxLen by decide) (by omega))) rfl (by decide) (by omega)
  · have HO : Hid (ordP a b = [[a, b], [b, a]]) := Lib.hid (by unfold ordP; rw [if_neg h])
    have e1 : (a == b) = false := by simp [h]
    clear h
    go_enter Try.func60, Try.ntmps60
    go_wp2_with fail
    refine bp_gen (fun W' => Below w.heap.size w W' ∧ RowB W' (w.heap.size + 1) 2 [.int .i64 a, .int .i64 b] ∧ RowB W' (w.heap.size + 2) 2 [.int .i64 b, .int .i64 a] ∧ RowB W' (w.heap.size + 3) 24 [.slice (some ⟨w.heap.size + 1, 0, none⟩) 2 2, .slice (some ⟨w.heap.size + 2, 0, none⟩) 2 2]) ⟨by go_grown, RowB.alloc (RowB.alloc (RowB.new' _ _ _ (by first | simp | go_size | rfl)) _) _, RowB.alloc (RowB.new' _ _ _ (by first | simp | go_size | rfl)) _, RowB.new' _ _ _ (by first | simp | go_size | rfl)⟩ ?_
    rintro W' ⟨hb, h1, h2, h3⟩
    go_ret
    refine ⟨_, rfl, ?_, hb⟩
    rw [HO.out]
    exact slg_new h3 (LsR.snoc (LsR.snoc (LsR.nil _ _ _) (sl_new (xs := [a, b]) h1 (show (2 : Nat) ≤ maxLen by decide) (by omega))) (sl_new (xs := [b, a]) h2 (show (2 : Nat) ≤ maxLen by decide) (by omega))) rfl (by decide) (by omega)
end Go.Proofs.Ytfgkkmhafdbicaa.Bd8
