/-
  impl.decimal and impl.readDecimal: what they return. Conditions: each theorem's own.
-/
import Derived.Test.YtlfdcefgelpgmaaGreatDoorTxM
import Derived.Test.YtlfdcefgelpgmaaGreatDoorJoinN
import Derived.ShapedOpen
import Derived.ChangeAgain
import Derived.Deep.RegionHeld3
import Derived.Lib.ParseIntBTie
set_option linter.unusedVariables false
set_option linter.unusedSimpArgs false
namespace Go.Proofs.YtlfdcefgelpgmaaGreatDoor.Num
open Go.ChangeShapes Go.WideShapes Go.ChangeAt Go.RowKit Base JoinN TxP

theorem var_below {w w' : World} {n : String} {cs : Array Value} (h : w.var? Tryz.prog n = some cs) (hb : Below w.heap.size w w') : w'.var? Tryz.prog n = some cs := by
  unfold World.var? at h ⊢
  cases hg : Tryz.prog.globalNamed n with
  | none => rw [hg] at h; simp at h
  | some g =>
    rw [hg] at h
    have hl : g < w.heap.size := by
      rcases Nat.lt_or_ge g w.heap.size with h1 | h1
      · exact h1
      · replace h : (match w.heap[g]? with | some (.cells cs _ _) => some cs | _ => none) = _ := h
        rw [Array.getElem?_eq_none h1] at h
        cases h
    show (match w'.heap[g]? with | some (.cells cs _ _) => some cs | _ => none) = _
    rw [hb.block g hl]
    exact h
/-- What the library's functions ask of the world. -/
structure Env (w : World) : Prop where
  tab : TabOk w
  syn : ∃ tp p, w.var? Tryz.prog "strconv.ErrSyntax" = some #[.iface tp p]
  rng : ∃ tp p, w.var? Tryz.prog "strconv.ErrRange" = some #[.iface tp p]
  shp : w.ShapedOpen Tryz.prog
theorem Env.below {w w' : World} (h : Env w) (hb : Below w.heap.size w w') : Env w' := by
  obtain ⟨h1, ⟨tp, p, h2⟩, ⟨tp', p', h3⟩, h4⟩ := h
  exact ⟨h1.below hb, ⟨tp, p, var_below h2 hb⟩, ⟨tp', p', var_below h3 hb⟩, h4.keptBut (may := fun _ => False) (hb.frame _) (fun p hp => hp.elim)⟩

theorem decimalZ (n : Int) (h0 : -9223372036854775808 ≤ n) (h1 : n ≤ 9223372036854775807) (w : World) (ht : TabOk w) :
    Calls Tryz.prog 24 #[.int .i64 n] w fun e w' => e = .returned (.string ⟨(Lib.itoa n).toArray⟩) ∧ Below w.heap.size w w' := by
  go_enter Tryz.func24, Tryz.ntmps24
  go_wp2_with fail
  refine (Tryz.strconv_FormatInt_10 n h0 h1 _ ht).mono ?_
  rintro e w1 ⟨rfl, k, os, rfl⟩
  go_wp2_with fail
  go_ret
  exact ⟨rfl, grow_bel _ _ _⟩

/-- How strconv.ParseInt(s, 10, 64) ends. -/
def PI (s : ByteArray) (e : Ending) : Prop :=
  (∃ v, Lib.parseIntB 64 s.data.toList = .ok v ∧ e = .returned (.tuple #[.int .i64 v, .nilIface])) ∨ ((∀ v, Lib.parseIntB 64 s.data.toList ≠ .ok v) ∧ ∃ v t a, e = .returned (.tuple #[.int .i64 v, .iface t a]))
theorem pint (s : ByteArray) (hs : s.size ≤ 4194304) (w : World) (E : Env w) :
    Calls Tryz.prog 77 #[.string s, .int .i64 10, .int .i64 64] w fun e w' => PI s e ∧ Below w.heap.size w w' := by
  obtain ⟨tp, p, h2⟩ := E.syn
  obtain ⟨tp', p', h3⟩ := E.rng
  by_cases h : ∃ v, Lib.parseIntB 64 s.data.toList = .ok v
  · obtain ⟨v, hv⟩ := h
    refine (Tryz.strconv_ParseInt_10_at64_ok s (by omega) v hv w).mono ?_
    rintro e w' ⟨rfl, hw⟩
    refine ⟨.inl ⟨v, hv, rfl⟩, ?_⟩
    rcases hw with rfl | ⟨t, rfl⟩
    · exact Below.refl _ _
    · exact Lib.bytesWorld_below _ _ _
  · have hn : ∀ v, Lib.parseIntB 64 s.data.toList ≠ .ok v := fun v hv => h ⟨v, hv⟩
    by_cases hr : Lib.parseIntB 64 s.data.toList = .range
    · refine (Tryz.strconv_ParseInt_10_at64_range_var s (by omega) hr tp' p' w h3).mono ?_
      rintro e w' ⟨N, rfl, _, _, hb⟩
      exact ⟨.inr ⟨hn, _, _, _, rfl⟩, hb⟩
    · refine (Tryz.strconv_ParseInt_10_at64_fault_var s (by omega) ⟨hn, hr⟩ tp p w h2).mono ?_
      rintro e w' ⟨N, rfl, _, _, hb⟩
      exact ⟨.inr ⟨hn, _, _, _, rfl⟩, hb⟩

theorem data_len (s : ByteArray) : s.data.toList.length = s.size := by rw [Array.length_toList]; rfl
theorem trim_len (l : List UInt8) : (Lib.trimPrefix l [45]).length ≤ l.length := by
  unfold Lib.trimPrefix
  split
  · simp
  · exact Nat.le_refl _

set_option maxHeartbeats 2000000 in
set_option maxRecDepth 100000 in
theorem readD (s : ByteArray) (hs : s.size ≤ 4194304) (w : World) (E : Env w) :
    Calls Tryz.prog 53 #[.string s] w fun e w' => e = .returned (.tuple #[.int .i64 (rdDec s.data.toList).1, .bool (rdDec s.data.toList).2]) ∧ Below w.heap.size w w' := by
  obtain ⟨T, hT⟩ : ∃ T : List UInt8, Lib.trimPrefix s.data.toList [45] = T := ⟨_, rfl⟩
  have hTl := trim_len s.data.toList
  rw [hT, data_len] at hTl
  obtain ⟨tb, htb⟩ : ∃ tb : ByteArray, (⟨T.toArray⟩ : ByteArray) = tb := ⟨_, rfl⟩
  have htz : tb.size = T.length := by rw [← htb]; simp [ByteArray.size]
  have HTB := Lib.hid htb
  have hTrim := Tryz.strings_TrimPrefix s ⟨#[45]⟩ w
  rw [show (⟨#[45]⟩ : ByteArray).data.toList = [45] from rfl, hT, htb] at hTrim
  have HTRIM := Lib.hid hTrim
  by_cases h0 : T = [] ∨ 19 < T.length
  · have hR : rdDec s.data.toList = (0, false) := by unfold rdDec; rw [hT, if_pos h0]
    rw [hR]
    by_cases h1 : T = []
    · have he : tb.toList.isEmpty = true := by rw [← htb, ByteArray.toList_eq, h1]; rfl
      clear hT htb hTrim h0 hR h1 htz
      go_enter Tryz.func53, Tryz.ntmps53
      go_wp2_with fail
      refine HTRIM.out.mono ?_
      rintro e w1 ⟨rfl, hw⟩
      subst hw
      go_wp2_with fail
      go_ret2
      exact ⟨rfl, Below.refl _ _⟩
    · have h2 : 19 < T.length := by rcases h0 with h | h; · exact absurd h h1
                                    · exact h
      have he : tb.toList.isEmpty = false := by
        rw [← htb, ByteArray.toList_eq]
        cases T with
        | nil => exact absurd rfl h1
        | cons x l => rfl
      have hd : decide ((19 : Int) < (tb.size : Int)) = true := decide_eq_true (by omega)
      clear hT htb hTrim h0 hR h1 htz
      go_enter Tryz.func53, Tryz.ntmps53
      go_wp2_with fail
      refine HTRIM.out.mono ?_
      rintro e w1 ⟨rfl, hw⟩
      subst hw
      go_wp2_with fail
      go_ret2
      exact ⟨rfl, Below.refl _ _⟩
  · have h1 : ¬ T = [] := fun h => h0 (.inl h)
    have h2 : ¬ 19 < T.length := fun h => h0 (.inr h)
    have hRd : rdDec s.data.toList = match Lib.parseIntB 64 s.data.toList with
      | .ok v => if Lib.itoa v = s.data.toList then (v, true) else (0, false)
      | _ => (0, false) := by unfold rdDec; rw [hT, if_neg h0]; rfl
    have HRD := Lib.hid hRd
    obtain ⟨R, hR⟩ : ∃ R, rdDec s.data.toList = R := ⟨_, rfl⟩
    have HRR := Lib.hid hR
    rw [hR]
    have he : tb.toList.isEmpty = false := by
      rw [← htb, ByteArray.toList_eq]
      cases T with
      | nil => exact absurd rfl h1
      | cons x l => rfl
    have hd : decide ((19 : Int) < (tb.size : Int)) = false := decide_eq_false (by omega)
    clear hT htb hTrim h0 h1 htz hRd hR
    go_enter Tryz.func53, Tryz.ntmps53
    go_wp2_with fail
    refine HTRIM.out.mono ?_
    rintro e w1 ⟨rfl, hw⟩
    subst hw
    go_wp2_with fail
    refine (pint s hs _ E).mono ?_
    rintro e w2 ⟨hp, hb2⟩
    have E2 := E.below hb2
    rcases hp with ⟨v, hv, rfl⟩ | ⟨hv, v, t, a, rfl⟩
    · have HV := Lib.hid hv
      have hvb := Lib.parseIntB_bounds hv
      have h63 : ((2 ^ (64 - 1) : Nat) : Int) = 9223372036854775808 := by decide
      rw [h63] at hvb
      clear hv h63
      go_wp2_with fail
      refine (decimalZ v (by omega) (by omega) _ E2.tab).mono ?_
      rintro e w3 ⟨rfl, hb3⟩
      obtain ⟨ib, hib⟩ : ∃ ib : ByteArray, (⟨(Lib.itoa v).toArray⟩ : ByteArray) = ib := ⟨_, rfl⟩
      have hid : ib.data.toList = Lib.itoa v := by rw [← hib]
      rw [hib]
      clear hib
      have hb := hb2.trans (hb3.mono hb2.size)
      clear hb2 hb3
      by_cases hi : Lib.itoa v = s.data.toList
      · have hR : R = (v, true) := by rw [← HRR.out, HRD.out, HV.out]; simp only; rw [if_pos hi]
        have e1 : (ib.toList == s.toList) = true := by rw [ByteArray.toList_eq, ByteArray.toList_eq, hid]; simp [hi]
        have e2 : (ib.toList != s.toList) = false := by simp only [bne, e1]; rfl
        subst hR
        clear hi hid
        go_wp2_with fail
        go_ret2
        exact ⟨rfl, hb⟩
      · have hR : R = (0, false) := by rw [← HRR.out, HRD.out, HV.out]; simp only; rw [if_neg hi]
        have e1 : (ib.toList == s.toList) = false := by rw [ByteArray.toList_eq, ByteArray.toList_eq, hid]; simp [hi]
        have e2 : (ib.toList != s.toList) = true := by simp only [bne, e1]; rfl
        subst hR
        clear hi hid
        go_wp2_with fail
        go_ret2
        exact ⟨rfl, hb⟩
    · have hR : R = (0, false) := by
        rw [← HRR.out, HRD.out]
        split
        · rename_i v' h'; exact absurd h' (hv v')
        · rfl
      subst hR
      clear hv
      go_wp2_with fail
      go_ret2
      exact ⟨rfl, hb2⟩

end Go.Proofs.YtlfdcefgelpgmaaGreatDoor.Num
