/-
  The law on the text of a time: a time is recovered from its text. Conditions: none beyond the given row's.
-/
import Derived.Test.YtdjopnhbcchedaaDoorPrsS
import Derived.Test.YtdjopnhbcchedaaDoorDraw
set_option linter.unusedVariables false
namespace Go.Proofs.YtdjopnhbcchedaaDoor.ClkText
open Go.ChangeShapes Go.WideShapes Go.ChangeAt Go.RowKit Base Fmt Prs PrsI PrsS Draw

theorem bigF (n cp : Nat) (A : Option Addr) (b : Bool) (hb : decide ((4096 : Int) < (n : Int)) = b) (w : World) (hn : n ≤ maxLen) : Calls Tryd.prog 10 #[.slice A n cp] w fun e w' => e = .returned (.bool b) ∧ w = w' := by
  subst hb
  unfold maxLen at hn
  go_enter Tryd.func10, Tryd.ntmps10
  go_wp2
  go_ret
  exact ⟨rfl, rfl⟩
theorem pickI {W : World} {b : Nat} {e : TypeId} {cs : List Value} (h : RowB W b e cs) (hi : ∀ u ∈ cs, ∃ x : Int, u = .int .i64 x) {m : Nat} (hm : m < cs.length) : ∃ x : Int, W.cell? ⟨b, m, none⟩ = some (.int .i64 x) := by
  obtain ⟨x, hx⟩ := hi _ (List.getElem_mem hm)
  exact ⟨x, by rw [h.cell, List.getElem?_eq_getElem hm, hx]⟩

/-- Some number is drawn. -/
def Some64 (w : World) (e : Ending) (w' : World) : Prop := ∃ n : Int, e = .returned (.int .i64 n) ∧ Below w.heap.size w w'
set_option maxHeartbeats 2000000 in
set_option maxRecDepth 100000 in
theorem draw {w : World} {cp : Nat} {A : Option Addr} {xs : List Int} (hr : RdS w w.heap.size 1 enB A xs) (hw : ∀ x ∈ xs, (Lit.int .u8 x).wf = true) :
    Calls Tryd.prog 11 #[.slice A xs.length cp] w fun e w' => Some64 w e w' := by
  go_enter Tryd.func11, Tryd.ntmps11
  go_wp2_with fail
  refine (new_ hr hw).mono ?_
  rintro e w1 ⟨rfl, D⟩
  go_wp2_with fail
  refine (next' D 1000000 (by decide)).mono ?_
  rintro e w2 ⟨⟨x, rfl, x0, x1, -⟩, D, hg, -⟩
  clear hg
  go_wp2_with fail
  refine (next' (D.alloc _) 10 (by decide)).mono ?_
  rintro e w3 ⟨⟨d, rfl, d0, d1, -⟩, D3, hg, -⟩
  have d1 := d1 (by decide)
  have hlg := D.lt
  have rb := (RowB.new w2 2 [.int .i64 0, .int .i64 999, .int .i64 1000, .int .i64 59999, .int .i64 60000, .int .i64 100000000, .int .i64 100000001, .int .i64 (-1), .int .i64 65004, .int .i64 x]).grown hg (fun k hk => by simp at hk; omega)
  obtain ⟨m, rfl⟩ : ∃ m : Nat, d = m := ⟨d.toNat, by omega⟩
  obtain ⟨lo, hlo⟩ := pickI rb (by simp) (show m < _ from by simp; omega)
  clear hg rb hlg
  go_wp2_with fail
  go_ret
  exact ⟨_, rfl, D3.bel⟩
theorem fmt_size (t : Int) : (fmtT t).size ≤ 11 := by
  by_cases h : 0 ≤ t ∧ t ≤ 100000000
  · obtain ⟨n, rfl⟩ : ∃ n : Nat, t = n := ⟨t.toNat, by omega⟩
    rw [← data_len, fmt_data (by omega)]
    unfold fmtL
    have h1 := (parse_dd (m := n / 60000) (by omega)).2.2.2
    simp only [List.length_append, ds_len, List.length_cons, List.length_nil]
    omega
  · unfold fmtT
    rw [if_neg h]
    decide

set_option maxHeartbeats 2000000 in
set_option maxRecDepth 100000 in
theorem clockText (Ac : Option Addr) (cpc : Nat) (cs : List Int) (W : World) (hr : RdS W W.heap.size 1 enB Ac cs) (hw : ∀ x ∈ cs, (Lit.int .u8 x).wf = true) (E : Env W) :
    Calls Tryd.prog 5 #[.slice Ac cs.length cpc] W fun e w' => e = .returned (.bool true) ∧ Below W.heap.size W w' := by
  cases hbig : decide ((4096 : Int) < (cs.length : Int))
  case true =>
    have HB := Lib.hid hbig; clear hbig
    go_enter Tryd.func5, Tryd.ntmps5
    go_wp2_with fail
    refine (bigF _ cpc Ac true HB.out _ hr.1).mono ?_
    rintro e w1 ⟨rfl, rfl⟩
    go_wp2_with fail
    go_ret
    exact ⟨rfl, Below.refl _ _⟩
  have HB := Lib.hid hbig; clear hbig
  go_enter Tryd.func5, Tryd.ntmps5
  go_wp2_with fail
  refine (bigF _ cpc Ac false HB.out _ hr.1).mono ?_
  rintro e w1 ⟨rfl, rfl⟩
  go_wp2_with fail
  refine (draw hr hw).mono ?_
  rintro e w1 ⟨n, rfl, hb1⟩
  have E1 := E.below hb1
  clear hr hw
  have FI := Lib.hid (fmt_i n w1 E1.tab)
  have FS := Lib.hid (fun w => fmt_s n w)
  have PT := prs_text n
  have FZ := fmt_size n
  obtain ⟨T, hT⟩ : ∃ T, fmtT n = T := ⟨_, rfl⟩
  rw [hT] at FI PT FZ
  simp only [hT] at FS
  clear hT
  have PII := Lib.hid (fun w (hE : Env w) => parse_i T (by omega) w hE)
  have e1 : (T.toList == T.toList) = true := by simp
  go_wp2_with fail
  refine FI.out.mono ?_
  rintro e w2 ⟨rfl, hb2⟩
  have E2 := E1.below hb2
  have hb2 := hb1.trans (hb2.mono hb1.size)
  rcases PT with ⟨h0, h1⟩ | ⟨h0, h1⟩
  · rw [h1] at PII
    have he : T.toList.isEmpty = true := by rw [ByteArray.toList_eq, h0]; rfl
    clear h0 h1
    go_wp2_with fail
    refine (PII.out w2 E2).mono ?_
    rintro e w3 ⟨rfl, hb3⟩
    have hb3 := hb2.trans (hb3.mono hb2.size)
    go_wp2_with fail
    refine (FS.out w3).mono ?_
    rintro e w4 ⟨rfl, hb4⟩
    have hb4 := hb3.trans (hb4.mono hb3.size)
    go_wp2_with fail
    go_ret
    exact ⟨rfl, hb4⟩
  · rw [h1] at PII
    have he : T.toList.isEmpty = false := by
      rw [ByteArray.toList_eq]
      cases hl : T.data.toList with
      | nil => exact absurd hl h0
      | cons x l => rfl
    have e2 : (n == n) = true := by simp
    clear h0 h1
    go_wp2_with fail
    refine (PII.out w2 E2).mono ?_
    rintro e w3 ⟨rfl, hb3⟩
    have hb3 := hb2.trans (hb3.mono hb2.size)
    go_wp2_with fail
    refine (FS.out w3).mono ?_
    rintro e w4 ⟨rfl, hb4⟩
    have hb4 := hb3.trans (hb4.mono hb3.size)
    go_wp2_with fail
    go_ret
    exact ⟨rfl, hb4⟩
end Go.Proofs.YtdjopnhbcchedaaDoor.ClkText
