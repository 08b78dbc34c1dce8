/-
  ParseClock of the program: what it returns. Conditions: each theorem's own.
-/
import Derived.Test.YtdjopnhbcchedaaDoorPrsPlain
import Derived.ShapedOpen
import Derived.ChangeAgain
import Derived.Deep.RegionHeld3
import Derived.Lib.ParseIntBTie
set_option linter.unusedVariables false
set_option linter.unusedSimpArgs false
namespace Go.Proofs.YtdjopnhbcchedaaDoor.PrsI
open Go.ChangeShapes Go.WideShapes Go.ChangeAt Go.RowKit Base Fmt Prs

theorem var_below {w w' : World} {n : String} {cs : Array Value} (h : w.var? Tryd.prog n = some cs) (hb : Below w.heap.size w w') : w'.var? Tryd.prog n = some cs := by
  unfold World.var? at h ⊢
  cases hg : Tryd.prog.globalNamed n with
  | none => rw [hg] at h; simp at h
  | some g =>
    rw [hg] at h
    have hl : g < w.heap.size := by
      rcases Nat.lt_or_ge g w.heap.size with h1 | h1
      · exact h1
      · replace h : (match w.heap[g]? with | some (.cells cs _ _) => some cs | _ => none) = _ := h
        rw [Array.getElem?_eq_none h1] at h
        cases h
    show (match w'.heap[g]? with | some (.cells cs _ _) => some cs | _ => none) = _
    rw [hb.block g hl]
    exact h
/-- What the library's functions ask of the world. -/
structure Env (w : World) : Prop where
  tab : TabOk w
  syn : ∃ tp p, w.var? Tryd.prog "strconv.ErrSyntax" = some #[.iface tp p]
  rng : ∃ tp p, w.var? Tryd.prog "strconv.ErrRange" = some #[.iface tp p]
  shp : w.ShapedOpen Tryd.prog
theorem Env.below {w w' : World} (h : Env w) (hb : Below w.heap.size w w') : Env w' := by
  obtain ⟨h1, ⟨tp, p, h2⟩, ⟨tp', p', h3⟩, h4⟩ := h
  exact ⟨h1.below hb, ⟨tp, p, var_below h2 hb⟩, ⟨tp', p', var_below h3 hb⟩, h4.keptBut (may := fun _ => False) (hb.frame _) (fun p hp => hp.elim)⟩

theorem decimalZ (n : Int) (h0 : -9223372036854775808 ≤ n) (h1 : n ≤ 9223372036854775807) (w : World) (ht : TabOk w) :
    Calls Tryd.prog 16 #[.int .i64 n] w fun e w' => e = .returned (.string ⟨(Lib.itoa n).toArray⟩) ∧ Below w.heap.size w w' := by
  go_enter Tryd.func16, Tryd.ntmps16
  go_wp2_with fail
  refine (Tryd.strconv_FormatInt_10 n h0 h1 _ ht).mono ?_
  rintro e w1 ⟨rfl, k, os, rfl⟩
  go_wp2_with fail
  go_ret
  exact ⟨rfl, grow_bel _ _ _⟩

/-- How strconv.ParseInt(s, 10, 64) ends. -/
def PI (s : ByteArray) (e : Ending) : Prop :=
  (∃ v, Lib.parseIntB 64 s.data.toList = .ok v ∧ e = .returned (.tuple #[.int .i64 v, .nilIface])) ∨ ((∀ v, Lib.parseIntB 64 s.data.toList ≠ .ok v) ∧ ∃ v t a, e = .returned (.tuple #[.int .i64 v, .iface t a]))
theorem pint (s : ByteArray) (hs : s.size ≤ 4194304) (w : World) (E : Env w) :
    Calls Tryd.prog 21 #[.string s, .int .i64 10, .int .i64 64] w fun e w' => PI s e ∧ Below w.heap.size w w' := by
  obtain ⟨tp, p, h2⟩ := E.syn
  obtain ⟨tp', p', h3⟩ := E.rng
  by_cases h : ∃ v, Lib.parseIntB 64 s.data.toList = .ok v
  · obtain ⟨v, hv⟩ := h
    refine (Tryd.strconv_ParseInt_10_at64_ok s (by omega) v hv w).mono ?_
    rintro e w' ⟨rfl, hw⟩
    refine ⟨.inl ⟨v, hv, rfl⟩, ?_⟩
    rcases hw with rfl | ⟨t, rfl⟩
    · exact Below.refl _ _
    · exact Lib.bytesWorld_below _ _ _
  · have hn : ∀ v, Lib.parseIntB 64 s.data.toList ≠ .ok v := fun v hv => h ⟨v, hv⟩
    by_cases hr : Lib.parseIntB 64 s.data.toList = .range
    · refine (Tryd.strconv_ParseInt_10_at64_range_var s (by omega) hr tp' p' w h3).mono ?_
      rintro e w' ⟨N, rfl, _, _, hb⟩
      exact ⟨.inr ⟨hn, _, _, _, rfl⟩, hb⟩
    · refine (Tryd.strconv_ParseInt_10_at64_fault_var s (by omega) ⟨hn, hr⟩ tp p w h2).mono ?_
      rintro e w' ⟨N, rfl, _, _, hb⟩
      exact ⟨.inr ⟨hn, _, _, _, rfl⟩, hb⟩

theorem data_len (s : ByteArray) : s.data.toList.length = s.size := by rw [Array.length_toList]; rfl
theorem trim_len (l : List UInt8) : (Lib.trimPrefix l [45]).length ≤ l.length := by
  unfold Lib.trimPrefix
  split
  · simp
  · exact Nat.le_refl _

set_option maxHeartbeats 2000000 in
set_option maxRecDepth 100000 in
theorem readD (s : ByteArray) (hs : s.size ≤ 4194304) (w : World) (E : Env w) :
    Calls Tryd.prog 19 #[.string s] w fun e w' => e = .returned (.tuple #[.int .i64 (rdDec s.data.toList).1, .bool (rdDec s.data.toList).2]) ∧ Below w.heap.size w w' := by
  obtain ⟨T, hT⟩ : ∃ T : List UInt8, Lib.trimPrefix s.data.toList [45] = T := ⟨_, rfl⟩
  have hTl := trim_len s.data.toList
  rw [hT, data_len] at hTl
  obtain ⟨tb, htb⟩ : ∃ tb : ByteArray, (⟨T.toArray⟩ : ByteArray) = tb := ⟨_, rfl⟩
  have htz : tb.size = T.length := by rw [← htb]; simp [ByteArray.size]
  have HTB := Lib.hid htb
  have hTrim := Tryd.strings_TrimPrefix s ⟨#[45]⟩ w
  rw [show (⟨#[45]⟩ : ByteArray).data.toList = [45] from rfl, hT, htb] at hTrim
  have HTRIM := Lib.hid hTrim
  by_cases h0 : T = [] ∨ 19 < T.length
  · have hR : rdDec s.data.toList = (0, false) := by unfold rdDec; rw [hT, if_pos h0]
    rw [hR]
    by_cases h1 : T = []
    · have he : tb.toList.isEmpty = true := by rw [← htb, ByteArray.toList_eq, h1]; rfl
      clear hT htb hTrim h0 hR h1 htz
      go_enter Tryd.func19, Tryd.ntmps19
      go_wp2_with fail
      refine HTRIM.out.mono ?_
      rintro e w1 ⟨rfl, hw⟩
      subst hw
      go_wp2_with fail
      go_ret2
      exact ⟨rfl, Below.refl _ _⟩
    · have h2 : 19 < T.length := by rcases h0 with h | h; · exact absurd h h1
                                    · exact h
      have he : tb.toList.isEmpty = false := by
        rw [← htb, ByteArray.toList_eq]
        cases T with
        | nil => exact absurd rfl h1
        | cons x l => rfl
      have hd : decide ((19 : Int) < (tb.size : Int)) = true := decide_eq_true (by omega)
      clear hT htb hTrim h0 hR h1 htz
      go_enter Tryd.func19, Tryd.ntmps19
      go_wp2_with fail
      refine HTRIM.out.mono ?_
      rintro e w1 ⟨rfl, hw⟩
      subst hw
      go_wp2_with fail
      go_ret2
      exact ⟨rfl, Below.refl _ _⟩
  · have h1 : ¬ T = [] := fun h => h0 (.inl h)
    have h2 : ¬ 19 < T.length := fun h => h0 (.inr h)
    have hRd : rdDec s.data.toList = match Lib.parseIntB 64 s.data.toList with
      | .ok v => if Lib.itoa v = s.data.toList then (v, true) else (0, false)
      | _ => (0, false) := by unfold rdDec; rw [hT, if_neg h0]; rfl
    have HRD := Lib.hid hRd
    obtain ⟨R, hR⟩ : ∃ R, rdDec s.data.toList = R := ⟨_, rfl⟩
    have HRR := Lib.hid hR
    rw [hR]
    have he : tb.toList.isEmpty = false := by
      rw [← htb, ByteArray.toList_eq]
      cases T with
      | nil => exact absurd rfl h1
      | cons x l => rfl
    have hd : decide ((19 : Int) < (tb.size : Int)) = false := decide_eq_false (by omega)
    clear hT htb hTrim h0 h1 htz hRd hR
    go_enter Tryd.func19, Tryd.ntmps19
    go_wp2_with fail
    refine HTRIM.out.mono ?_
    rintro e w1 ⟨rfl, hw⟩
    subst hw
    go_wp2_with fail
    refine (pint s hs _ E).mono ?_
    rintro e w2 ⟨hp, hb2⟩
    have E2 := E.below hb2
    rcases hp with ⟨v, hv, rfl⟩ | ⟨hv, v, t, a, rfl⟩
    · have HV := Lib.hid hv
      have hvb := Lib.parseIntB_bounds hv
      have h63 : ((2 ^ (64 - 1) : Nat) : Int) = 9223372036854775808 := by decide
      rw [h63] at hvb
      clear hv h63
      go_wp2_with fail
      refine (decimalZ v (by omega) (by omega) _ E2.tab).mono ?_
      rintro e w3 ⟨rfl, hb3⟩
      obtain ⟨ib, hib⟩ : ∃ ib : ByteArray, (⟨(Lib.itoa v).toArray⟩ : ByteArray) = ib := ⟨_, rfl⟩
      have hid : ib.data.toList = Lib.itoa v := by rw [← hib]
      rw [hib]
      clear hib
      have hb := hb2.trans (hb3.mono hb2.size)
      clear hb2 hb3
      by_cases hi : Lib.itoa v = s.data.toList
      · have hR : R = (v, true) := by rw [← HRR.out, HRD.out, HV.out]; simp only; rw [if_pos hi]
        have e1 : (ib.toList == s.toList) = true := by rw [ByteArray.toList_eq, ByteArray.toList_eq, hid]; simp [hi]
        have e2 : (ib.toList != s.toList) = false := by simp only [bne, e1]; rfl
        subst hR
        clear hi hid
        go_wp2_with fail
        go_ret2
        exact ⟨rfl, hb⟩
      · have hR : R = (0, false) := by rw [← HRR.out, HRD.out, HV.out]; simp only; rw [if_neg hi]
        have e1 : (ib.toList == s.toList) = false := by rw [ByteArray.toList_eq, ByteArray.toList_eq, hid]; simp [hi]
        have e2 : (ib.toList != s.toList) = true := by simp only [bne, e1]; rfl
        subst hR
        clear hi hid
        go_wp2_with fail
        go_ret2
        exact ⟨rfl, hb⟩
    · have hR : R = (0, false) := by
        rw [← HRR.out, HRD.out]
        split
        · rename_i v' h'; exact absurd h' (hv v')
        · rfl
      subst hR
      clear hv
      go_wp2_with fail
      go_ret2
      exact ⟨rfl, hb2⟩

theorem within_ (x : Int) (b : Bool) (hb : decide (0 ≤ x ∧ x ≤ 100000000) = b) (w : World) : Calls Tryd.prog 20 #[.int .i64 x, .int .i64 0, .int .i64 100000000] w fun e w' => e = .returned (.bool b) ∧ w = w' := by
  subst hb
  by_cases h1 : 0 ≤ x
  · have e1 : decide (0 ≤ x ∧ x ≤ 100000000) = decide (x ≤ 100000000) := by simp [h1]
    rw [e1]
    go_enter Tryd.func20, Tryd.ntmps20
    go_wp2
    go_ret
    exact ⟨rfl, rfl⟩
  · have e1 : decide (0 ≤ x ∧ x ≤ 100000000) = false := decide_eq_false (by omega)
    rw [e1]
    go_enter Tryd.func20, Tryd.ntmps20
    go_wp2
    go_ret
    exact ⟨rfl, rfl⟩
theorem cut_len (l : List UInt8) (c : UInt8) : (Lib.cut l [c]).1.length ≤ l.length ∧ (Lib.cut l [c]).2.1.length ≤ l.length := by
  unfold Lib.cut
  split
  · exact ⟨by rw [List.length_take]; omega, by rw [List.length_drop]; omega⟩
  · exact ⟨Nat.le_refl _, by simp⟩
/-- What two or three bytes spell is small. -/
theorem pu_bd (M : Nat) : ∀ (l : List UInt8) (acc u : Nat), Lib.parseUintM M acc l = .ok u → u < (acc + 1) * 10 ^ l.length
  | [], acc, u, h => by
    rw [Lib.parseUintM] at h
    injection h with h
    simp; omega
  | c :: r, acc, u, h => by
    rw [Lib.parseUintM] at h
    split at h
    · split at h
      · cases h
      · split at h
        · cases h
        · have := pu_bd M r _ u h
          refine Nat.lt_of_lt_of_le this ?_
          rw [List.length_cons, Nat.pow_succ, Nat.mul_comm (10 ^ r.length) 10, ← Nat.mul_assoc]
          exact Nat.mul_le_mul_right _ (by omega)
    · cases h
theorem pi_bd {l : List UInt8} {v : Int} (h : Lib.parseIntB 64 l = .ok v) (hl : l.length ≤ 3) : -1000 < v ∧ v < 1000 := by
  have hu : ∀ (l : List UInt8) (u : Nat), l.length ≤ 3 → Lib.parseUintB 64 l = .ok u → u < 1000 := by
    intro l u hl h
    unfold Lib.parseUintB at h
    split at h
    · cases h
    · have := pu_bd _ _ _ _ h
      have h2 : 10 ^ l.length ≤ 10 ^ 3 := Nat.pow_le_pow_right (by omega) hl
      omega
  unfold Lib.parseIntB at h
  split at h
  · cases h
  · rename_i c r
    simp only at h
    split at h
    · cases h
    · cases h
    · rename_i u hq
      have hb : u < 1000 := by
        refine hu _ u ?_ hq
        simp at hl
        split
        · omega
        · simp; omega
      split at h
      · cases h
      · split at h
        · cases h
        · injection h with h
          split at h <;> omega

/-- The time in the loop over the two parts. -/
def StP (m : Int) (a b : List UInt8) : Nat → Int → Prop
  | 0, t => t = m * 60
  | 1, t => ∃ x, Lib.parseIntB 64 a = .ok x ∧ t = m * 60 + x
  | _, t => ∃ x y, Lib.parseIntB 64 a = .ok x ∧ Lib.parseIntB 64 b = .ok y ∧ t = (m * 60 + x) * 1000 + y
theorem prsI_eq (l : List UInt8) {f r sc th : List UInt8} {one two three : Bool} {m : Int} (h1 : Lib.cut l [58] = (f, r, one)) (h2 : Lib.cut r [46] = (sc, th, two)) (h3 : rdDec f = (m, three)) :
    prsI l = if one = true ∧ two = true ∧ three = true ∧ (0 ≤ m ∧ m ≤ 100000000) ∧ sc.length = 2 ∧ th.length = 3 then
      match tm2 m sc th with
      | some t => if (fmtT t).data.toList = l then (t, true) else (0, false)
      | none => (0, false)
    else (0, false) := by
  unfold prsI
  simp only [h1, h2, h3]
  rfl

set_option maxHeartbeats 4000000 in
set_option maxRecDepth 100000 in
theorem parse_i (s : ByteArray) (hs : s.size ≤ 1048576) (w : World) (E : Env w) :
    Calls Tryd.prog 9 #[.string s] w fun e w' => e = .returned (.tuple #[.int .i64 (prsI s.data.toList).1, .bool (prsI s.data.toList).2]) ∧ Below w.heap.size w w' := by
  obtain ⟨⟨f, r, one⟩, h1⟩ : ∃ z, Lib.cut s.data.toList [58] = z := ⟨_, rfl⟩
  obtain ⟨⟨sc, th, two⟩, h2⟩ : ∃ z, Lib.cut r [46] = z := ⟨_, rfl⟩
  obtain ⟨⟨m, three⟩, h3⟩ : ∃ z, rdDec f = z := ⟨_, rfl⟩
  obtain ⟨⟨rv, ro⟩, hR⟩ : ∃ z, prsI s.data.toList = z := ⟨_, rfl⟩
  have hE := prsI_eq s.data.toList h1 h2 h3
  rw [hR] at hE
  rw [hR]
  have hl1 := cut_len s.data.toList 58
  have hl2 := cut_len r 46
  rw [h1, data_len] at hl1
  rw [h2] at hl2
  obtain ⟨hf, hrr⟩ := hl1
  obtain ⟨hsc, hth⟩ := hl2
  simp only at hf hrr hsc hth
  have C1 := Tryd.strings_Cut_shaped s ⟨#[58]⟩ w E.shp (by omega)
  rw [show (⟨#[58]⟩ : ByteArray).data.toList = [58] from rfl, h1] at C1
  simp only at C1
  obtain ⟨fb, hfb⟩ : ∃ fb : ByteArray, (⟨f.toArray⟩ : ByteArray) = fb := ⟨_, rfl⟩
  obtain ⟨rb, hrb⟩ : ∃ rb : ByteArray, (⟨r.toArray⟩ : ByteArray) = rb := ⟨_, rfl⟩
  have fd : fb.data.toList = f := by rw [← hfb]
  have rd : rb.data.toList = r := by rw [← hrb]
  have fz : fb.size = f.length := by rw [← data_len, fd]
  have rz : rb.size = r.length := by rw [← data_len, rd]
  rw [hfb, hrb] at C1
  obtain ⟨sb, hsb⟩ : ∃ sb : ByteArray, (⟨sc.toArray⟩ : ByteArray) = sb := ⟨_, rfl⟩
  obtain ⟨tb, htb⟩ : ∃ tb : ByteArray, (⟨th.toArray⟩ : ByteArray) = tb := ⟨_, rfl⟩
  have sd : sb.data.toList = sc := by rw [← hsb]
  have td : tb.data.toList = th := by rw [← htb]
  have sz : sb.size = sc.length := by rw [← data_len, sd]
  have tz : tb.size = th.length := by rw [← data_len, td]
  have C2 : Hid (∀ w' : World, Env w' → Calls Tryd.prog 18 #[.string rb, .string ⟨#[46]⟩] w' fun e w'' => e = .returned (.tuple #[.string sb, .string tb, .bool two]) ∧ ∃ n, w'' = w'.drewN n) := by
    intro w' E'
    have := Tryd.strings_Cut_shaped rb ⟨#[46]⟩ w' E'.shp (by omega)
    rw [show (⟨#[46]⟩ : ByteArray).data.toList = [46] from rfl, rd, h2] at this
    simp only at this
    rw [hsb, htb] at this
    exact this
  have C3 : Hid (∀ w' : World, Env w' → Calls Tryd.prog 19 #[.string fb] w' fun e w'' => e = .returned (.tuple #[.int .i64 m, .bool three]) ∧ Below w'.heap.size w' w'') := by
    intro w' E'
    have := readD fb (by omega) w' E'
    rw [fd, h3] at this
    exact this
  have HE := Lib.hid hE
  have HC1 := Lib.hid C1
  have HSD := Lib.hid sd
  have HTD := Lib.hid td
  have hs4 : sb.size ≤ 4194304 := by omega
  have ht4 : tb.size ≤ 4194304 := by omega
  have HSZ := Lib.hid sz
  have HTZ := Lib.hid tz
  clear h1 h2 h3 hR hE C1 hfb hrb fd rd fz rz hsb htb sd td sz tz hsc hth hf hrr
  go_enter Tryd.func9, Tryd.ntmps9
  go_wp2_with fail
  refine HC1.out.mono ?_
  rintro e w1 ⟨rfl, n1, hw⟩
  have hb1 : Below w.heap.size w w1 := by rw [hw]; exact below_drewN (Below.refl _ _) _
  clear hw
  have E1 := E.below hb1
  go_wp2_with fail
  refine (C2.out w1 E1).mono ?_
  rintro e w2 ⟨rfl, n2, hw⟩
  have hb2 : Below w1.heap.size w1 w2 := by rw [hw]; exact below_drewN (Below.refl _ _) _
  clear hw
  have E2 := E1.below hb2
  have hb2 := hb1.trans (hb2.mono hb1.size)
  clear hb1 E1
  go_wp2_with fail
  refine (C3.out w2 E2).mono ?_
  rintro e w3 ⟨rfl, hb3⟩
  have E3 := E2.below hb3
  have hb3 := hb2.trans (hb3.mono hb2.size)
  clear hb2 E2
  have no : ¬ (one = true ∧ two = true ∧ three = true ∧ (0 ≤ m ∧ m ≤ 100000000) ∧ sc.length = 2 ∧ th.length = 3) → rv = 0 ∧ ro = false := by
    intro h
    have := HE.out
    rw [if_neg h] at this
    simpa using this
  have NO := Lib.hid no
  clear no
  cases one
  case false =>
    obtain ⟨rfl, rfl⟩ := NO.out (fun h => by simp at h)
    go_wp2_with fail
    go_ret2
    exact ⟨rfl, hb3⟩
  cases two
  case false =>
    obtain ⟨rfl, rfl⟩ := NO.out (fun h => by simp at h)
    go_wp2_with fail
    go_ret2
    exact ⟨rfl, hb3⟩
  cases three
  case false =>
    obtain ⟨rfl, rfl⟩ := NO.out (fun h => by simp at h)
    go_wp2_with fail
    go_ret2
    exact ⟨rfl, hb3⟩
  by_cases hm : 0 ≤ m ∧ m ≤ 100000000
  case neg =>
    obtain ⟨rfl, rfl⟩ := NO.out (fun h => hm h.2.2.2.1)
    go_wp2_with fail
    refine (within_ m false (decide_eq_false hm) w3).mono ?_
    rintro e w4 ⟨rfl, rfl⟩
    go_wp2_with fail
    go_ret2
    exact ⟨rfl, hb3⟩
  go_wp2_with fail
  refine (within_ m true (decide_eq_true hm) w3).mono ?_
  rintro e w4 ⟨rfl, rfl⟩
  by_cases hs2 : sb.size = 2
  case neg =>
    obtain ⟨rfl, rfl⟩ := NO.out (fun h => hs2 (by rw [HSZ.out]; exact h.2.2.2.2.1))
    have e1 : ((sb.size : Int) != 2) = true := by simp; omega
    go_wp2_with fail
    go_ret2
    exact ⟨rfl, hb3⟩
  by_cases ht3 : tb.size = 3
  case neg =>
    obtain ⟨rfl, rfl⟩ := NO.out (fun h => ht3 (by rw [HTZ.out]; exact h.2.2.2.2.2))
    have e1 : ((sb.size : Int) != 2) = false := by simp; omega
    have e2 : ((tb.size : Int) != 3) = true := by simp; omega
    clear hs2
    go_wp2_with fail
    go_ret2
    exact ⟨rfl, hb3⟩
  have e1 : ((sb.size : Int) != 2) = false := by simp; omega
  have e2 : ((tb.size : Int) != 3) = false := by simp; omega
  have e3 : ((sb.size : Int) == 3) = false := by simp; omega
  have e4 : ((tb.size : Int) == 3) = true := by simp; omega
  have hYES : (rv, ro) = match tm2 m sb.data.toList tb.data.toList with
      | some t => if (fmtT t).data.toList = s.data.toList then (t, true) else (0, false)
      | none => (0, false) := by
    have := HE.out
    rw [if_pos ⟨trivial, trivial, trivial, hm, by rw [← HSZ.out]; exact hs2, by rw [← HTZ.out]; exact ht3⟩, ← HSD.out, ← HTD.out] at this
    exact this
  have YES := Lib.hid hYES
  have HS2 := Lib.hid hs2
  have HT3 := Lib.hid ht3
  clear hYES hs2 ht3 NO HE HSD HTD HSZ HTZ C2 C3 HC1
  obtain ⟨hm0, hm1⟩ := hm
  go_wp2_with fail
  go_loopw [12, 65] (fun t i wr => ∃ (k : Nat) (tt : Int), k ≤ 2 ∧ i = .int .i64 (k : Int) ∧ t = .int .i64 tt ∧ Hid (StP m sb.data.toList tb.data.toList k tt) ∧ -2000000 < tt ∧ tt < 7000000000000 ∧ (k = 1 → -1000 < tt ∧ tt < 6000001000) ∧ Env wr ∧ Hid (Below w.heap.size w wr) ∧ RowB wr w3.heap.size 9 [.string sb, .string tb]) (fun _ i _ => 2 - (intOf i).toNat)
  case atStart => exact ⟨0, m * 60, by omega, by first | rfl | trivial, by first | rfl | trivial, rfl, by omega, by omega, fun h => by omega, E3.below ((Below.refl _ _).alloc (Nat.le_refl _) _), hb3.alloc hb3.size _, RowB.new _ _ _⟩
  case round =>
    obtain ⟨k, tt, hk, rfl, rfl, hst, t0, t1, t2, Ew, hbw, row⟩ := hrel
    obtain ⟨c0, c1⟩ := row.c2
    match k, hk with
    | 0, _ =>
      have t2 : tt = m * 60 := hst.out
      subst t2
      clear hst t0 t1
      go_wp2_with fail
      refine (pint sb hs4 wr Ew).mono ?_
      rintro e w5 ⟨hp, hb5⟩
      have Ew := Ew.below hb5
      have row := row.below hb5 row.lt
      have hbw := Lib.hid (hbw.out.trans (hb5.mono hbw.out.size))
      rcases hp with ⟨v, hv, rfl⟩ | ⟨hv, v, t, a, rfl⟩
      · have hvb := pi_bd hv (by rw [data_len, HS2.out]; omega)
        have HV := Lib.hid hv
        clear hv
        go_wp2_with fail
        go_roundw
        case rel => exact ⟨1, m * 60 + v, by omega, by first | rfl | trivial, by first | rfl | trivial, ⟨v, HV.out, rfl⟩, by omega, by omega, fun _ => ⟨by omega, by omega⟩, Ew, hbw, row⟩
        case measure => simp [intOf]
      · have hT : tm2 m sb.data.toList tb.data.toList = none := by
          unfold tm2
          split
          · rename_i x hx; exact absurd hx (hv x)
          · rfl
        have hR : rv = 0 ∧ ro = false := by
          have := YES.out
          rw [hT] at this
          simpa using this
        clear hT
        obtain ⟨rfl, rfl⟩ := hR
        clear hv
        go_wp2_with fail
        go_ret2
        exact ⟨rfl, hbw.out⟩
    | 1, _ =>
      obtain ⟨x, hx, rfl⟩ := hst.out
      have HX := Lib.hid hx
      have t2 := t2 rfl
      have t3 := t2.1
      have t2 := t2.2
      clear hst t1 hx
      go_wp2_with fail
      refine (pint tb ht4 wr Ew).mono ?_
      rintro e w5 ⟨hp, hb5⟩
      have Ew := Ew.below hb5
      have row := row.below hb5 row.lt
      have hbw := Lib.hid (hbw.out.trans (hb5.mono hbw.out.size))
      rcases hp with ⟨v, hv, rfl⟩ | ⟨hv, v, t, a, rfl⟩
      · have hvb := pi_bd hv (by rw [data_len, HT3.out]; omega)
        have HV := Lib.hid hv
        clear hv
        go_wp2_with fail
        go_roundw
        case rel => exact ⟨2, (m * 60 + x) * 1000 + v, by omega, by first | rfl | trivial, by first | rfl | trivial, ⟨x, v, HX.out, HV.out, rfl⟩, by omega, by omega, fun h => by omega, Ew, hbw, row⟩
        case measure => simp [intOf]
      · have hT : tm2 m sb.data.toList tb.data.toList = none := by
          unfold tm2
          rw [HX.out]
          show (match Lib.parseIntB 64 tb.data.toList with | .ok y => some ((m * 60 + x) * 1000 + y) | _ => none) = none
          split
          · rename_i x hx; exact absurd hx (hv x)
          · rfl
        have hR : rv = 0 ∧ ro = false := by
          have := YES.out
          rw [hT] at this
          simpa using this
        clear hT
        obtain ⟨rfl, rfl⟩ := hR
        clear hv
        go_wp2_with fail
        go_ret2
        exact ⟨rfl, hbw.out⟩
    | 2, _ =>
      obtain ⟨x, y, hx, hy, e5⟩ := hst.out
      have hT : tm2 m sb.data.toList tb.data.toList = some tt := by unfold tm2; rw [hx, hy, e5]
      have YES2 : Hid ((rv, ro) = if (fmtT tt).data.toList = s.data.toList then (tt, true) else (0, false)) := by
        have := YES.out
        rw [hT] at this
        exact this
      clear hx hy e5 hT hst
      go_wp2_with fail
      refine (fmt_i tt wr Ew.tab).mono ?_
      rintro e w5 ⟨rfl, hb5⟩
      have hbw := Lib.hid (hbw.out.trans (hb5.mono hbw.out.size))
      obtain ⟨ib, hib⟩ : ∃ ib : ByteArray, fmtT tt = ib := ⟨_, rfl⟩
      rw [hib] at YES2 ⊢
      clear hib
      by_cases hi : ib.data.toList = s.data.toList
      · have hR := YES2.out
        rw [if_pos hi] at hR
        simp only [Prod.mk.injEq] at hR
        obtain ⟨rfl, rfl⟩ := hR
        have e1 : (ib.toList == s.toList) = true := by rw [ByteArray.toList_eq, ByteArray.toList_eq, hi]; simp
        have e2 : (ib.toList != s.toList) = false := by simp only [bne, e1]; rfl
        clear hi
        go_wp2_with fail
        go_ret2
        exact ⟨rfl, hbw.out⟩
      · have hR := YES2.out
        rw [if_neg hi] at hR
        simp only [Prod.mk.injEq] at hR
        obtain ⟨rfl, rfl⟩ := hR
        have e1 : (ib.toList == s.toList) = false := by rw [ByteArray.toList_eq, ByteArray.toList_eq]; exact beq_eq_false_iff_ne.2 hi
        have e2 : (ib.toList != s.toList) = true := by simp only [bne, e1]; rfl
        clear hi
        go_wp2_with fail
        go_ret2
        exact ⟨rfl, hbw.out⟩
end Go.Proofs.YtdjopnhbcchedaaDoor.PrsI
