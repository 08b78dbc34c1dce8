/-
  The law on ParseClock. Conditions: none beyond the given row's.
-/
import Derived.Test.YtdjopnhbcchedaaDoorPrsS
set_option linter.unusedVariables false
namespace Go.Proofs.YtdjopnhbcchedaaDoor.PrsLaw
open Go.ChangeShapes Go.WideShapes Go.ChangeAt Go.RowKit Base Fmt Prs PrsI PrsS

theorem parseLaw (s : ByteArray) (W : World) (hs : s.size ≤ maxLen) (E : Env W) :
    Calls Tryd.prog 4 #[.string s] W fun e w' => e = .returned (.bool true) ∧ Below W.heap.size W w' := by
  by_cases h : s.size ≤ 1048576
  case neg =>
    have hd : decide ((1048576 : Int) < (s.size : Int)) = true := decide_eq_true (by omega)
    go_enter Tryd.func4, Tryd.ntmps4
    go_wp2_with fail
    go_ret
    exact ⟨rfl, Below.refl _ _⟩
  have hd : decide ((1048576 : Int) < (s.size : Int)) = false := decide_eq_false (by omega)
  have PS := Lib.hid (parse_s s h W)
  have PI' := Lib.hid (fun w (hE : Env w) => parse_i s h w hE)
  obtain ⟨⟨a, b⟩, hR⟩ : ∃ z, prsS s.data.toList = z := ⟨_, rfl⟩
  rw [prs_eq, hR] at PI'
  rw [hR] at PS
  clear hR
  have e1 : (a != a) = false := by simp
  have e2 : (b != b) = false := by simp
  go_enter Tryd.func4, Tryd.ntmps4
  go_wp2_with fail
  refine PS.out.mono ?_
  rintro e w1 ⟨rfl, hb1⟩
  have E1 := E.below hb1
  go_wp2_with fail
  refine (PI'.out w1 E1).mono ?_
  rintro e w2 ⟨rfl, hb2⟩
  go_wp2_with fail
  go_ret
  exact ⟨rfl, hb1.trans (hb2.mono hb1.size)⟩
end Go.Proofs.YtdjopnhbcchedaaDoor.PrsLaw
