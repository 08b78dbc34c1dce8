/-
  Plain lemmas on rows of structs: a made row, a row filled element by element. Conditions: each theorem's own.
-/
import Derived.Test.YtlfdcefgelpgmaaGreatDoorBase
set_option linter.unusedVariables false
namespace Go.Proofs.YtlfdcefgelpgmaaGreatDoor.Base2
open Go Go.RowKit Base

theorem made_rep2 (n : Nat) : (madeCells #[Value.int .i64 0, Value.int .i64 0] (n * 2)).toList = List.replicate (n * 2) (Value.int .i64 0) := by
  unfold madeCells
  rw [Array.toList_map, List.eq_replicate_iff]
  refine ⟨by simp, fun v hv => ?_⟩
  simp only [List.mem_map] at hv
  obtain ⟨j, _, rfl⟩ := hv
  have hj : j % 2 < 2 := Nat.mod_lt _ (by decide)
  show (#[Value.int .i64 0, Value.int .i64 0] : Array Value)[j % 2]! = _
  generalize j % 2 = r at hj
  match r, hj with
  | 0, _ => rfl
  | 1, _ => rfl
theorem mark_fill2 (P R : List Value) (x y : Int × Int) (i : Nat) (h : P.length = i) :
    (((P ++ (enI2 x ++ R)).set (i) (Value.int .i64 y.1)).set (i + 1) (Value.int .i64 y.2)) = P ++ (enI2 y ++ R) := by
  subst h
  simp [enI2]
theorem fill2 {xs : List (Int × Int)} {k mm : Nat} {p q : Int} (hk : xs[k]? = some (p, q)) :
    ((((xs.take k).flatMap enI2 ++ List.replicate ((mm + 1) * 2) (Value.int .i64 0)).set (k * 2) (Value.int .i64 p)).set (k * 2 + 1) (Value.int .i64 q)) = (xs.take (k + 1)).flatMap enI2 ++ List.replicate (mm * 2) (Value.int .i64 0) := by
  have hkl : k < xs.length := (List.getElem?_eq_some_iff.1 hk).1
  have hl : ((xs.take k).flatMap enI2).length = k * 2 := by rw [flatMap_len enI2_len, List.length_take]; congr 1; omega
  have e := mark_fill2 ((xs.take k).flatMap enI2) (List.replicate (mm * 2) (Value.int .i64 0)) (0, 0) (p, q) (k * 2) hl
  have er : List.replicate ((mm + 1) * 2) (Value.int .i64 0) = enI2 (0, 0) ++ List.replicate (mm * 2) (Value.int .i64 0) := by
    rw [show (mm + 1) * 2 = 2 + mm * 2 from by omega, ← List.replicate_append_replicate]
    rfl
  rw [take_succ xs k _ hk, List.flatMap_append, er, e]
  simp

theorem made_rep3 (n : Nat) : (madeCells #[Value.int .i64 0, Value.int .i64 0, Value.int .i64 0] (n * 3)).toList = List.replicate (n * 3) (Value.int .i64 0) := by
  unfold madeCells
  rw [Array.toList_map, List.eq_replicate_iff]
  refine ⟨by simp, fun v hv => ?_⟩
  simp only [List.mem_map] at hv
  obtain ⟨j, _, rfl⟩ := hv
  have hj : j % 3 < 3 := Nat.mod_lt _ (by decide)
  show (#[Value.int .i64 0, Value.int .i64 0, Value.int .i64 0] : Array Value)[j % 3]! = _
  generalize j % 3 = r at hj
  match r, hj with
  | 0, _ => rfl
  | 1, _ => rfl
  | 2, _ => rfl
theorem mark_fill3 (P R : List Value) (x y : Int × Int × Int) (i : Nat) (h : P.length = i) :
    ((((P ++ (enI3 x ++ R)).set (i) (Value.int .i64 y.1)).set (i + 1) (Value.int .i64 y.2.1)).set (i + 2) (Value.int .i64 y.2.2)) = P ++ (enI3 y ++ R) := by
  subst h
  simp [enI3]
theorem fill3 {xs : List (Int × Int × Int)} {k mm : Nat} {p q r : Int} (hk : xs[k]? = some (p, q, r)) :
    (((((xs.take k).flatMap enI3 ++ List.replicate ((mm + 1) * 3) (Value.int .i64 0)).set (k * 3) (Value.int .i64 p)).set (k * 3 + 1) (Value.int .i64 q)).set (k * 3 + 2) (Value.int .i64 r)) = (xs.take (k + 1)).flatMap enI3 ++ List.replicate (mm * 3) (Value.int .i64 0) := by
  have hkl : k < xs.length := (List.getElem?_eq_some_iff.1 hk).1
  have hl : ((xs.take k).flatMap enI3).length = k * 3 := by rw [flatMap_len enI3_len, List.length_take]; congr 1; omega
  have e := mark_fill3 ((xs.take k).flatMap enI3) (List.replicate (mm * 3) (Value.int .i64 0)) (0, 0, 0) (p, q, r) (k * 3) hl
  have er : List.replicate ((mm + 1) * 3) (Value.int .i64 0) = enI3 (0, 0, 0) ++ List.replicate (mm * 3) (Value.int .i64 0) := by
    rw [show (mm + 1) * 3 = 3 + mm * 3 from by omega, ← List.replicate_append_replicate]
    rfl
  rw [take_succ xs k _ hk, List.flatMap_append, er, e]
  simp

theorem made_rep4 (n : Nat) : (madeCells #[Value.int .i64 0, Value.int .i64 0, Value.int .i64 0, Value.int .i64 0] (n * 4)).toList = List.replicate (n * 4) (Value.int .i64 0) := by
  unfold madeCells
  rw [Array.toList_map, List.eq_replicate_iff]
  refine ⟨by simp, fun v hv => ?_⟩
  simp only [List.mem_map] at hv
  obtain ⟨j, _, rfl⟩ := hv
  have hj : j % 4 < 4 := Nat.mod_lt _ (by decide)
  show (#[Value.int .i64 0, Value.int .i64 0, Value.int .i64 0, Value.int .i64 0] : Array Value)[j % 4]! = _
  generalize j % 4 = r at hj
  match r, hj with
  | 0, _ => rfl
  | 1, _ => rfl
  | 2, _ => rfl
  | 3, _ => rfl
theorem mark_fill4 (P R : List Value) (x y : Int × Int × Int × Int) (i : Nat) (h : P.length = i) :
    (((((P ++ (enI4 x ++ R)).set (i) (Value.int .i64 y.1)).set (i + 1) (Value.int .i64 y.2.1)).set (i + 2) (Value.int .i64 y.2.2.1)).set (i + 3) (Value.int .i64 y.2.2.2)) = P ++ (enI4 y ++ R) := by
  subst h
  simp [enI4]
theorem fill4 {xs : List (Int × Int × Int × Int)} {k mm : Nat} {p q r s : Int} (hk : xs[k]? = some (p, q, r, s)) :
    ((((((xs.take k).flatMap enI4 ++ List.replicate ((mm + 1) * 4) (Value.int .i64 0)).set (k * 4) (Value.int .i64 p)).set (k * 4 + 1) (Value.int .i64 q)).set (k * 4 + 2) (Value.int .i64 r)).set (k * 4 + 3) (Value.int .i64 s)) = (xs.take (k + 1)).flatMap enI4 ++ List.replicate (mm * 4) (Value.int .i64 0) := by
  have hkl : k < xs.length := (List.getElem?_eq_some_iff.1 hk).1
  have hl : ((xs.take k).flatMap enI4).length = k * 4 := by rw [flatMap_len enI4_len, List.length_take]; congr 1; omega
  have e := mark_fill4 ((xs.take k).flatMap enI4) (List.replicate (mm * 4) (Value.int .i64 0)) (0, 0, 0, 0) (p, q, r, s) (k * 4) hl
  have er : List.replicate ((mm + 1) * 4) (Value.int .i64 0) = enI4 (0, 0, 0, 0) ++ List.replicate (mm * 4) (Value.int .i64 0) := by
    rw [show (mm + 1) * 4 = 4 + mm * 4 from by omega, ← List.replicate_append_replicate]
    rfl
  rw [take_succ xs k _ hk, List.flatMap_append, er, e]
  simp

end Go.Proofs.YtlfdcefgelpgmaaGreatDoor.Base2
