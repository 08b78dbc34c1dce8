/-
  impl.decimal and impl.joinNumbers. Conditions: each theorem's own.
-/
import Derived.Test.YtlfdcefgelpgmaaGreatDoorOwn
import Derived.Test.YtlfdcefgelpgmaaGreatDoorInts
import Derived.Test.YtlfdcefgelpgmaaGreatDoorShelf
import Derived.Laws.MakeOwn
import Derived.WalkKit
import Derived.Deep.QuietTactic
import Derived.Deep.RegionHeld3
set_option linter.unusedVariables false
namespace Go.Proofs.YtlfdcefgelpgmaaGreatDoor.JoinN
open Go.ChangeShapes Go.WideShapes Go.ChangeAt Go.RowKit Go.Sort Base Ints Own

theorem grow_bel (w : World) (k : Nat) (os : Array Obj) : Below w.heap.size w (grow (w.drewN k) os) :=
  ⟨rfl, rfl, rfl, by simp [grow], fun i hi => by
    show (w.heap ++ os)[i]? = w.heap[i]?
    exact Array.getElem?_append_left hi⟩
def TabOk (w : World) : Prop := Lib.TabIs Tryz.prog w "internal/strconv.uint64pow10" .u64 Lib.pow10Tab
theorem tab_glob : ∃ g, Tryz.prog.globalNamed "internal/strconv.uint64pow10" = some g := by
  have h : (Tryz.prog.globalNamed "internal/strconv.uint64pow10").isSome = true := by kernel_rfl
  exact Option.isSome_iff_exists.1 h
theorem TabOk.below {w w' : World} (h : TabOk w) (hb : Below w.heap.size w w') : TabOk w' := by
  obtain ⟨g, hg⟩ := tab_glob
  unfold TabOk Lib.TabIs at h ⊢
  rw [← h]
  unfold World.var? at h ⊢
  rw [hg] at h ⊢
  have hl : g < w.heap.size := by
    rcases Nat.lt_or_ge g w.heap.size with h1 | h1
    · exact h1
    · replace h : (match w.heap[g]? with | some (.cells cs _ _) => some cs | _ => none) = _ := h
      rw [Array.getElem?_eq_none h1] at h
      cases h
  show (match w'.heap[g]? with | some (.cells cs _ _) => some cs | _ => none) = (match w.heap[g]? with | some (.cells cs _ _) => some cs | _ => none)
  rw [hb.block g hl]


set_option maxHeartbeats 1000000 in
set_option maxRecDepth 100000 in
theorem decimal (n : Int) (h0 : -9223372036854775808 ≤ n) (h1 : n ≤ 9223372036854775807) (w : World) (ht : TabOk w) :
    Calls Tryz.prog 24 #[.int .i64 n] w fun e w' => e = .returned (.string ⟨(Lib.itoa n).toArray⟩) ∧ Below w.heap.size w w' := by
  go_enter Tryz.func24, Tryz.ntmps24
  go_wp2_with fail
  refine (Tryz.strconv_FormatInt_10 n h0 h1 _ ht).mono ?_
  rintro e w1 ⟨rfl, k, os, rfl⟩
  go_wp2_with fail
  go_ret
  exact ⟨rfl, grow_bel _ _ _⟩

def enT (x : Int) : List Value := [.string ⟨(Lib.itoa x).toArray⟩]
theorem enT_len (x : Int) : (enT x).length = 1 := rfl
theorem infoT : (Tryz.prog.info? 9).map (fun i => (i.zero, i.size, i.bytes)) = some (some (.string ⟨#[]⟩), 1, 16) := by kernel_rfl
end Go.Proofs.YtlfdcefgelpgmaaGreatDoor.JoinN
