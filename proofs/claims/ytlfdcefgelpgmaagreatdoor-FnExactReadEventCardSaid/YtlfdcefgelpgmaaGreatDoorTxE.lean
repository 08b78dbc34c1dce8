/-
  Texts of steps, turns and events, plainly: what is written, what is read back. Conditions: each theorem's own.
-/
import Derived.Test.YtlfdcefgelpgmaaGreatDoorTxS
set_option linter.unusedVariables false
set_option linter.unusedSimpArgs false
namespace Go.Proofs.YtlfdcefgelpgmaaGreatDoor.TxP
open Go PlP

/-! ### Steps -/
def allPl (v : Vr) (ss : List Stp) : Bool := ss.all (plainB v)
def stpsT (v : Vr) (ss : List Stp) : By := if 4 < ss.length then [] else if ss.length = 0 then [45] else if allPl v ss = true then Lib.join (ss.map (stpT v)) [32] else []
/-- All words are read, or none. -/
def mapO {α β : Type} (f : α → Option β) : List α → Option (List β)
  | [] => some []
  | x :: l => match f x with
    | none => none
    | some y => (mapO f l).map (y :: ·)
theorem mapO_iff {α β : Type} {f : α → Option β} : ∀ {l : List α} {r : List β}, mapO f l = some r ↔ l.length = r.length ∧ ∀ (i : Nat) x y, l[i]? = some x → r[i]? = some y → f x = some y := by
  intro l
  induction l with
  | nil =>
    intro r
    simp only [mapO, Option.some.injEq, List.length_nil]
    constructor
    · rintro rfl; exact ⟨rfl, fun i x y h => by simp at h⟩
    · rintro ⟨h, _⟩; exact (List.eq_nil_of_length_eq_zero h.symm).symm
  | cons a l ih =>
    intro r
    simp only [mapO]
    constructor
    · intro h
      split at h
      · cases h
      · rename_i b hb
        cases hm : mapO f l with
        | none => rw [hm] at h; cases h
        | some q =>
          rw [hm] at h
          simp only [Option.map_some, Option.some.injEq] at h
          subst h
          obtain ⟨h1, h2⟩ := ih.1 hm
          refine ⟨by simp [h1], fun i x y hx hy => ?_⟩
          cases i with
          | zero => simp at hx hy; subst hx hy; exact hb
          | succ i => exact h2 i x y (by simpa using hx) (by simpa using hy)
    · rintro ⟨h1, h2⟩
      cases r with
      | nil => simp at h1
      | cons b q =>
        rw [h2 0 a b rfl rfl]
        simp only
        have : mapO f l = some q := ih.2 ⟨by simpa using h1, fun i x y hx hy => h2 (i + 1) x y (by simpa using hx) (by simpa using hy)⟩
        rw [this]; rfl
theorem mapO_congr {α β : Type} {f g : α → Option β} (h : ∀ x, f x = g x) : ∀ l, mapO f l = mapO g l := by
  intro l
  induction l with
  | nil => rfl
  | cons x l ih => simp only [mapO, h x, ih]
theorem mapO_snoc {α β : Type} {f : α → Option β} : ∀ (l : List α) (x : α), mapO f (l ++ [x]) = match mapO f l with
    | none => none
    | some r => (f x).map fun y => r ++ [y] := by
  intro l
  induction l with
  | nil => intro x; simp only [List.nil_append, mapO]; cases f x <;> rfl
  | cons a l ih =>
    intro x
    simp only [List.cons_append, mapO, ih]
    cases f a with
    | none => rfl
    | some b =>
      simp only
      cases mapO f l with
      | none => rfl
      | some r => cases f x <;> rfl
theorem mapO_none {α β : Type} {f : α → Option β} {x : α} (h : f x = none) : ∀ (l : List α), x ∈ l → mapO f l = none := by
  intro l
  induction l with
  | nil => intro h'; simp at h'
  | cons a l ih =>
    intro h'
    rcases List.mem_cons.1 h' with rfl | h'
    · simp [mapO, h]
    · simp only [mapO, ih h']; cases f a <;> rfl
/-- The steps with a text. -/
def rdSs (v : Vr) (t : By) : Option (List Stp) := if t = [45] then some [] else if 4 < (spl 32 t).length then none else mapO (rdI v) (spl 32 t)
theorem map_spl {f : Stp → By} : ∀ {ss : List Stp}, ss ≠ [] → (∀ s ∈ ss, ∀ x ∈ f s, x ≠ (32 : UInt8)) → spl 32 (Lib.join (ss.map f) [32]) = ss.map f := by
  intro ss
  induction ss with
  | nil => intro h; exact absurd rfl h
  | cons s ss ih =>
    intro _ hs
    have h1 := hs s (List.mem_cons_self ..)
    cases ss with
    | nil => simp only [List.map_cons, List.map_nil, Lib.join_one]; exact spl_no _ _ h1
    | cons r ss =>
      have ih := ih (by simp) (fun x hx => hs x (List.mem_cons_of_mem _ hx))
      rw [List.map_cons, Lib.join_cons]
      have e : f s ++ Lib.joinTail [32] ((r :: ss).map f) = f s ++ 32 :: Lib.join ((r :: ss).map f) [32] := by
        rw [List.map_cons, Lib.join_cons]
        simp [Lib.joinTail]
      rw [e, spl_at _ _ _ h1, ih]
theorem ss_iff {v : Vr} (hv : okV v = true) {t : By} {ss : List Stp} : rdSs v t = some ss ↔ ss.length ≤ 4 ∧ allPl v ss = true ∧ stpsT v ss = t := by
  unfold rdSs
  constructor
  · intro h
    split at h
    · rename_i h1
      simp only [Option.some.injEq] at h
      subst h
      exact ⟨by simp, rfl, h1.symm⟩
    · split at h
      · cases h
      · rename_i h1 h2
        obtain ⟨h3, h4⟩ := mapO_iff.1 h
        have hl := spl_ne 32 t
        have hss : ss ≠ [] := fun e => by subst e; exact hl (List.eq_nil_of_length_eq_zero h3)
        have h5 : ∀ i s, ss[i]? = some s → ∃ w, (spl 32 t)[i]? = some w ∧ plainB v s = true ∧ stpT v s = w := fun i s hs => by
          have hi := (List.getElem?_eq_some_iff.1 hs).1
          have hw : (spl 32 t)[i]? = some ((spl 32 t)[i]'(by omega)) := List.getElem?_eq_getElem _
          obtain ⟨h6, h7⟩ := (rdI_iff hv).1 (h4 i _ s hw hs)
          exact ⟨_, hw, h6, h7⟩
        have ha : allPl v ss = true := by
          unfold allPl
          rw [List.all_eq_true]
          intro s hs
          obtain ⟨i, hi⟩ := List.getElem?_of_mem hs
          obtain ⟨_, _, h6, _⟩ := h5 i s hi
          exact h6
        have hm : ss.map (stpT v) = spl 32 t := by
          apply List.ext_getElem?
          intro i
          rw [List.getElem?_map]
          cases hi : ss[i]? with
          | none =>
            have := List.getElem?_eq_none_iff.1 hi
            rw [List.getElem?_eq_none (by omega)]; rfl
          | some s =>
            obtain ⟨w, hw, _, h7⟩ := h5 i s hi
            rw [hw, ← h7]; rfl
        refine ⟨by omega, ha, ?_⟩
        unfold stpsT
        rw [if_neg (by omega), if_neg (fun e => hss (List.eq_nil_of_length_eq_zero e)), if_pos ha, hm, spl_join]
  · rintro ⟨h1, h2, rfl⟩
    unfold stpsT
    simp only [if_neg (show ¬ 4 < ss.length by omega)]
    by_cases h0 : ss.length = 0
    · simp only [if_pos h0, if_true]
      rw [List.eq_nil_of_length_eq_zero h0]
    · have hne : ss ≠ [] := fun e => h0 (by rw [e]; rfl)
      have hpl : ∀ s ∈ ss, plainB v s = true := fun s hs => List.all_eq_true.1 h2 s hs
      simp only [if_neg h0, if_pos h2]
      rw [map_spl hne (fun s hs => step_ne hv (hpl s hs) (by decide))]
      rw [if_neg]
      · rw [List.length_map, if_neg (by omega)]
        refine mapO_iff.2 ⟨by simp, fun i x y hx hy => ?_⟩
        rw [List.getElem?_map, hy] at hx
        simp only [Option.map_some, Option.some.injEq] at hx
        exact (rdI_iff hv).2 ⟨hpl y (List.mem_of_getElem? hy), hx⟩
      · intro e
        cases ss with
        | nil => exact hne rfl
        | cons s ss =>
          have := (step_len hv (hpl s (List.mem_cons_self ..))).1
          rw [List.map_cons, Lib.join_cons] at e
          have := congrArg List.length e
          simp at this
          omega
theorem stpsT_len {v : Vr} (hv : okV v = true) {ss : List Stp} : (stpsT v ss).length ≤ 50 := by
  unfold stpsT
  split
  · simp
  · split
    · simp
    · split
      · rename_i h4 h0 h1
        have hpl : ∀ s ∈ ss, (stpT v s).length ≤ 11 := fun s hs => (step_len hv (List.all_eq_true.1 h1 s hs)).2
        match ss, h4 with
        | [], _ => simp at h0
        | [a], _ =>
          have ha := hpl a (by simp)
          simp [Lib.join_one]; omega
        | [a, b], _ =>
          have ha := hpl a (by simp); have hb := hpl b (by simp)
          simp [Lib.join_cons, Lib.joinTail]; omega
        | [a, b, c], _ =>
          have ha := hpl a (by simp); have hb := hpl b (by simp); have hc := hpl c (by simp)
          simp [Lib.join_cons, Lib.joinTail]; omega
        | [a, b, c, d], _ =>
          have ha := hpl a (by simp); have hb := hpl b (by simp); have hc := hpl c (by simp); have hd := hpl d (by simp)
          simp [Lib.join_cons, Lib.joinTail]; omega
        | a :: b :: c :: d :: e :: l, h => simp at h
      · simp
theorem stpsT_ne {v : Vr} (hv : okV v = true) {ss : List Stp} {c : UInt8} (hc : c.toNat < 32) : ∀ x ∈ stpsT v ss, x ≠ c := by
  unfold stpsT
  split
  · simp
  · split
    · intro x hx; simp at hx; subst hx; rintro rfl; revert hc; decide
    · split
      · rename_i h1
        have hpl : ∀ s ∈ ss, ∀ x ∈ stpT v s, x ≠ c := fun s hs => step_ne hv (List.all_eq_true.1 h1 s hs) (by omega)
        have h32 : (32 : UInt8) ≠ c := by rintro rfl; revert hc; decide
        intro x hx
        cases ss with
        | nil => simp [Lib.join_nil] at hx
        | cons s ss =>
          rw [List.map_cons, Lib.join_cons, List.mem_append] at hx
          rcases hx with hx | hx
          · exact hpl s (List.mem_cons_self ..) x hx
          · unfold Lib.joinTail at hx
            rw [List.mem_flatten] at hx
            obtain ⟨l0, hl0, hx⟩ := hx
            rw [List.mem_map] at hl0
            obtain ⟨l1, hl1, rfl⟩ := hl0
            rw [List.mem_map] at hl1
            obtain ⟨a, ha, rfl⟩ := hl1
            rcases List.mem_append.1 hx with hx | hx
            · simp at hx; rw [hx]; exact h32
            · exact hpl a (List.mem_cons_of_mem _ ha) x hx
      · simp

/-! ### Rolls and turns -/
def rolT (x y : Int) : By := Lib.itoa x ++ Lib.itoa y
def rdR (v : Vr) (t : By) : Option (Int × Int) :=
  if t.length = 2 ∧ rollB v (((t.getD 0 0).toNat : Int) - 48) (((t.getD 1 0).toNat : Int) - 48) = true then some ((((t.getD 0 0).toNat : Int) - 48), (((t.getD 1 0).toNat : Int) - 48)) else none
theorem roll_parts {v : Vr} {x y : Int} (h : rollB v x y = true) : (1 ≤ x ∧ x ≤ v.s) ∧ 1 ≤ y ∧ y ≤ x := by
  unfold rollB at h
  simpa only [Bool.and_eq_true, decide_eq_true_eq] using h
theorem rolT_at {v : Vr} (hv : okV v = true) {x y : Int} (h : rollB v x y = true) : rolT x y = [dg x.toNat, dg y.toNat] := by
  have hp := okV_iff.1 hv
  have h1 := roll_parts h
  unfold rolT
  rw [ito_one (by omega) (by omega), ito_one (by omega) (by omega)]
  rfl
theorem rdR_iff {v : Vr} (hv : okV v = true) {t : By} {x y : Int} : rdR v t = some (x, y) ↔ rollB v x y = true ∧ rolT x y = t := by
  have hp := okV_iff.1 hv
  unfold rdR
  constructor
  · intro h
    split at h
    · rename_i h1
      simp only [Option.some.injEq, Prod.mk.injEq] at h
      obtain ⟨rfl, rfl⟩ := h
      refine ⟨h1.2, ?_⟩
      have h3 := roll_parts h1.2
      rw [rolT_at hv h1.2]
      match t, h1.1 with
      | [a, b], _ =>
        simp only [List.getD_cons_zero, List.getD_cons_succ] at h3 ⊢
        have e : ∀ c : UInt8, 1 ≤ (c.toNat : Int) - 48 → dg (((c.toNat : Int) - 48).toNat) = c := fun c hc => by
          unfold dg
          rw [show 48 + ((c.toNat : Int) - 48).toNat = c.toNat by omega]
          exact UInt8.ofNat_toNat
        rw [e a h3.1.1, e b h3.2.1]
    · cases h
  · rintro ⟨h1, rfl⟩
    have h3 := roll_parts h1
    rw [rolT_at hv h1]
    have e1 := dg_nat (show x.toNat < 10 by omega)
    have e2 := dg_nat (show y.toNat < 10 by omega)
    simp only [List.getD_cons_zero, List.getD_cons_succ, e1, e2, List.length_cons, List.length_nil]
    have e3 : (((48 + x.toNat : Nat) : Int) - 48) = x := by omega
    have e4 : (((48 + y.toNat : Nat) : Int) - 48) = y := by omega
    rw [e3, e4, if_pos ⟨trivial, h1⟩]
def trnT (v : Vr) (x y : Int) (ss : List Stp) : By := if rollB v x y = true ∧ stpsT v ss ≠ [] then rolT x y ++ [58, 32] ++ stpsT v ss else []
/-- The turn with a text, as the program reads it. -/
def rdTI (v : Vr) (t : By) : Option (Int × Int × List Stp) :=
  if 80 < t.length then none else if (Lib.cut t [58, 32]).2.2 = false then none else
    match rdR v (Lib.cut t [58, 32]).1, rdSs v (Lib.cut t [58, 32]).2.1 with
    | some (x, y), some ss => some (x, y, ss)
    | _, _ => none
/-- The same as the reference reads it. -/
def rdTS (v : Vr) (t : By) : Option (Int × Int × List Stp) :=
  if 80 < t.length then none else if t.length < 4 ∨ ¬ (t.take 4).drop 2 = [58, 32] then none else
    match rdR v (t.take 2), rdSs v (t.drop 4) with
    | some (x, y), some ss => some (x, y, ss)
    | _, _ => none
theorem steps_ne_nil {v : Vr} (hv : okV v = true) {ss : List Stp} : stpsT v ss ≠ [] ↔ ss.length ≤ 4 ∧ allPl v ss = true := by
  unfold stpsT
  constructor
  · intro h
    split at h
    · exact absurd rfl h
    · split at h
      · rename_i h1 h2
        rw [List.eq_nil_of_length_eq_zero h2]
        exact ⟨by simp, rfl⟩
      · split at h
        · exact ⟨by omega, by assumption⟩
        · exact absurd rfl h
  · rintro ⟨h1, h2⟩
    rw [if_neg (by omega)]
    split
    · simp
    · rename_i h0
      try rw [if_pos h2]
      cases ss with
      | nil => simp at h0
      | cons s ss =>
        have := (step_len hv (List.all_eq_true.1 h2 s (List.mem_cons_self ..))).1
        rw [List.map_cons, Lib.join_cons]
        intro e
        have e' := (List.append_eq_nil_iff.1 e).1
        rw [e'] at this
        simp at this
theorem cut_colon (a b : UInt8) (l : By) (h1 : a ≠ 58) (h2 : b ≠ 58) : Lib.cut ([a, b] ++ [58, 32] ++ l) [58, 32] = ([a, b], l, true) := by
  have hi : Lib.index (a :: b :: 58 :: 32 :: l) [58, 32] = 2 := by
    rw [Lib.index, Lib.index, Lib.index]
    have e1 : ((58 : UInt8) == a) = false := by rw [beq_eq_false_iff_ne]; exact fun e => h1 e.symm
    have e2 : ((58 : UInt8) == b) = false := by rw [beq_eq_false_iff_ne]; exact fun e => h2 e.symm
    simp [List.isPrefixOf, e1, e2]
  unfold Lib.cut
  show (if 0 ≤ Lib.index (a :: b :: 58 :: 32 :: l) [58, 32] then _ else _) = _
  rw [if_pos (by rw [hi]; decide)]
  simp only [List.cons_append, List.nil_append, hi]
  simp
theorem rdTI_iff {v : Vr} (hv : okV v = true) {t : By} {x y : Int} {ss : List Stp} : rdTI v t = some (x, y, ss) ↔ trnT v x y ss = t ∧ t ≠ [] := by
  have hp := okV_iff.1 hv
  constructor
  · intro h
    unfold rdTI at h
    split at h
    · cases h
    · split at h
      · cases h
      · rename_i h1 h2
        obtain ⟨⟨a, b, ok⟩, hc⟩ : ∃ c, Lib.cut t [58, 32] = c := ⟨_, rfl⟩
        rw [hc] at h h2
        simp only at h h2
        have h2 : ok = true := by simpa using h2
        subst h2
        split at h
        · rename_i p q r hr hs
          simp only [Option.some.injEq, Prod.mk.injEq] at h
          obtain ⟨rfl, rfl, rfl⟩ := h
          obtain ⟨h3, h4⟩ := (rdR_iff hv).1 hr
          obtain ⟨h5, h6, h7⟩ := (ss_iff hv).1 hs
          have hj := cut_join hc
          unfold trnT
          rw [if_pos ⟨h3, (steps_ne_nil hv).2 ⟨h5, h6⟩⟩, h4, h7, ← hj]
          refine ⟨rfl, fun e => ?_⟩
          rw [e] at hj
          have := congrArg List.length hj
          simp at this
        · cases h
  · rintro ⟨rfl, hne⟩
    unfold trnT at hne ⊢
    split at hne
    · rename_i h1
      rw [if_pos h1]
      have h3 := roll_parts h1.1
      obtain ⟨h5, h6⟩ := (steps_ne_nil hv).1 h1.2
      have hr := (rdR_iff hv).2 ⟨h1.1, rfl⟩
      have hs := (ss_iff hv).2 ⟨h5, h6, rfl⟩
      have hl := stpsT_len hv (ss := ss)
      rw [rolT_at hv h1.1] at hr ⊢
      have hc := cut_colon (dg x.toNat) (dg y.toNat) (stpsT v ss) (dg_ne (by omega) (by decide)) (dg_ne (by omega) (by decide))
      unfold rdTI
      rw [if_neg (by simp; omega), hc]
      simp only [hr, hs]
      rfl
    · exact absurd rfl hne
theorem rdTS_iff {v : Vr} (hv : okV v = true) {t : By} {x y : Int} {ss : List Stp} : rdTS v t = some (x, y, ss) ↔ trnT v x y ss = t ∧ t ≠ [] := by
  have hp := okV_iff.1 hv
  constructor
  · intro h
    unfold rdTS at h
    split at h
    · cases h
    · split at h
      · cases h
      · rename_i h1 h2
        have h2' : 4 ≤ t.length ∧ (t.take 4).drop 2 = [58, 32] := by
          constructor
          · rcases Nat.lt_or_ge t.length 4 with h | h
            · exact absurd (.inl h) h2
            · exact h
          · exact Classical.byContradiction fun h => h2 (.inr h)
        split at h
        · rename_i p q r hr hs
          simp only [Option.some.injEq, Prod.mk.injEq] at h
          obtain ⟨rfl, rfl, rfl⟩ := h
          obtain ⟨h3, h4⟩ := (rdR_iff hv).1 hr
          obtain ⟨h5, h6, h7⟩ := (ss_iff hv).1 hs
          unfold trnT
          rw [if_pos ⟨h3, (steps_ne_nil hv).2 ⟨h5, h6⟩⟩, h4, h7]
          match t, h2' with
          | a :: b :: c :: d :: l, ⟨_, h8⟩ =>
            simp only [List.take, List.drop, List.cons.injEq, and_true] at h8
            obtain ⟨rfl, rfl⟩ := h8
            exact ⟨rfl, by simp⟩
        · cases h
  · rintro ⟨rfl, hne⟩
    unfold trnT at hne ⊢
    split at hne
    · rename_i h1
      rw [if_pos h1]
      have h3 := roll_parts h1.1
      obtain ⟨h5, h6⟩ := (steps_ne_nil hv).1 h1.2
      have hr := (rdR_iff hv).2 ⟨h1.1, rfl⟩
      have hs := (ss_iff hv).2 ⟨h5, h6, rfl⟩
      have hl := stpsT_len hv (ss := ss)
      rw [rolT_at hv h1.1] at hr ⊢
      unfold rdTS
      have e1 : ([dg x.toNat, dg y.toNat] ++ [58, 32] ++ stpsT v ss).take 2 = [dg x.toNat, dg y.toNat] := rfl
      have e2 : ([dg x.toNat, dg y.toNat] ++ [58, 32] ++ stpsT v ss).drop 4 = stpsT v ss := rfl
      have e3 : (([dg x.toNat, dg y.toNat] ++ [58, 32] ++ stpsT v ss).take 4).drop 2 = [58, 32] := rfl
      rw [if_neg (by simp; omega), e1, e2, e3, if_neg (by simp), hr, hs]
    · exact absurd rfl hne
theorem rdT_eq {v : Vr} (hv : okV v = true) (t : By) : rdTS v t = rdTI v t := by
  cases h : rdTI v t with
  | some s => obtain ⟨x, y, ss⟩ := s; exact (rdTS_iff hv).2 ((rdTI_iff hv).1 h)
  | none =>
    cases h2 : rdTS v t with
    | none => rfl
    | some s => obtain ⟨x, y, ss⟩ := s; rw [(rdTI_iff hv).2 ((rdTS_iff hv).1 h2)] at h; cases h

/-! ### Events -/
def opW : By := [111, 112, 101, 110, 105, 110, 103]
def tuW : By := [116, 117, 114, 110]
def reW : By := [114, 101, 115, 105, 103, 110]
def evnT (v : Vr) (e : Ev) : By :=
  if blankP e = false then [] else
  if e.k = 1 then (if (1 ≤ e.a ∧ e.a ≤ v.s) ∧ 1 ≤ e.b ∧ e.b ≤ v.s then opW ++ [32] ++ Lib.itoa e.a ++ [32] ++ Lib.itoa e.b else [])
  else if e.k = 3 then (if 1 ≤ e.r ∧ e.r ≤ 3 then reW ++ [32] ++ Lib.itoa e.r else [])
  else if trnT v e.a e.b e.ss = [] then [] else tuW ++ [32] ++ trnT v e.a e.b e.ss
def nulE : Ev := ⟨0, 0, 0, [], 0⟩
/-- What the program takes out of a text before it looks at the text of that. -/
def gEI (v : Vr) (t : By) : Ev :=
  let w := (Lib.cut t [32]).1
  let r := (Lib.cut t [32]).2.1
  if w = opW then
    match mapO (fun x => if (rdDec x).2 = true then some (rdDec x).1 else none) (spl 32 r) with
    | some [a, b] => ⟨1, a, b, [], 0⟩
    | _ => nulE
  else if w = tuW then
    match rdTI v r with
    | some (x, y, ss) => ⟨2, x, y, ss, 0⟩
    | none => nulE
  else if w = reW then (if (rdDec r).2 = true then ⟨3, 0, 0, [], (rdDec r).1⟩ else nulE)
  else nulE
def gES (v : Vr) (t : By) : Ev :=
  match spl 32 t with
  | w :: ws =>
    if w = opW then
      (match ws with
      | [a, b] => ⟨1, (valS a).1, (valS b).1, [], 0⟩
      | _ => nulE)
    else if w = reW then
      (match ws with
      | [a] => ⟨3, 0, 0, [], (valS a).1⟩
      | _ => nulE)
    else if w = tuW then
      (if 5 < t.length then
        match rdTI v (t.drop 5) with
        | some (x, y, ss) => ⟨2, x, y, ss, 0⟩
        | none => nulE
      else nulE)
    else nulE
  | [] => nulE
def rdE (v : Vr) (t : By) : Option Ev := if evnT v (gEI v t) = t ∧ t ≠ [] then some (gEI v t) else none
theorem evnT_nul (v : Vr) : evnT v nulE = [] := by unfold evnT blankP nulE; simp
theorem ev_cases {v : Vr} (hv : okV v = true) {e : Ev} (h : evnT v e ≠ []) :
    (e = ⟨1, e.a, e.b, [], 0⟩ ∧ ((1 ≤ e.a ∧ e.a ≤ v.s) ∧ 1 ≤ e.b ∧ e.b ≤ v.s) ∧ evnT v e = opW ++ [32] ++ Lib.itoa e.a ++ [32] ++ Lib.itoa e.b) ∨
    (e = ⟨2, e.a, e.b, e.ss, 0⟩ ∧ trnT v e.a e.b e.ss ≠ [] ∧ evnT v e = tuW ++ [32] ++ trnT v e.a e.b e.ss) ∨
    (e = ⟨3, 0, 0, [], e.r⟩ ∧ (1 ≤ e.r ∧ e.r ≤ 3) ∧ evnT v e = reW ++ [32] ++ Lib.itoa e.r) := by
  obtain ⟨k, a, b, ss, r⟩ := e
  unfold evnT at h ⊢
  unfold blankP at h ⊢
  simp only at h ⊢
  by_cases h1 : k = 1
  · subst h1
    simp only [if_true] at h ⊢
    by_cases h2 : ss.length = 0 ∧ r = 0
    · rw [decide_eq_true h2] at h ⊢
      simp only [Bool.true_eq_false, if_false] at h ⊢
      split at h
      · rename_i h3
        rw [if_pos h3]
        exact .inl ⟨by rw [List.eq_nil_of_length_eq_zero h2.1, h2.2], h3, rfl⟩
      · exact absurd rfl h
    · rw [decide_eq_false h2] at h; simp at h
  · by_cases h2 : k = 2
    · subst h2
      simp only [h1, if_false, if_true] at h ⊢
      by_cases h3 : r = 0
      · subst h3
        simp only [decide_true, Bool.true_eq_false, if_false, show ¬ (2 : Int) = 3 by decide, show ¬ (2 : Int) = 1 by decide] at h ⊢
        split at h
        · exact absurd rfl h
        · rename_i h4
          rw [if_neg h4]
          exact .inr (.inl ⟨by simp, h4, rfl⟩)
      · rw [decide_eq_false h3] at h; simp at h
    · by_cases h3 : k = 3
      · subst h3
        simp only [h1, h2, if_false, if_true] at h ⊢
        by_cases h4 : a = 0 ∧ b = 0 ∧ ss.length = 0
        · rw [decide_eq_true h4] at h ⊢
          simp only [Bool.true_eq_false, if_false] at h ⊢
          split at h
          · rename_i h5
            rw [if_pos h5]
            exact .inr (.inr ⟨by rw [h4.1, h4.2.1, List.eq_nil_of_length_eq_zero h4.2.2], h5, rfl⟩)
          · exact absurd rfl h
        · rw [decide_eq_false h4] at h; simp at h
      · simp [h1, h2, h3] at h
theorem w_ne {w : By} (h : w = opW ∨ w = tuW ∨ w = reW) : ∀ x ∈ w, x ≠ (32 : UInt8) := by
  rcases h with rfl | rfl | rfl <;> decide
theorem gEI_text {v : Vr} (hv : okV v = true) {e : Ev} (h : evnT v e ≠ []) : gEI v (evnT v e) = e := by
  have hp := okV_iff.1 hv
  rcases ev_cases hv h with ⟨h1, h2, h3⟩ | ⟨h1, h2, h3⟩ | ⟨h1, h2, h3⟩
  · have hn : ∀ x ∈ Lib.itoa e.a, x ≠ (32 : UInt8) := ito_ne (by omega) (by omega) (by decide)
    have hn2 : ∀ x ∈ Lib.itoa e.b, x ≠ (32 : UInt8) := ito_ne (by omega) (by omega) (by decide)
    have hc : Lib.cut (opW ++ [32] ++ Lib.itoa e.a ++ [32] ++ Lib.itoa e.b) [32] = (opW, Lib.itoa e.a ++ 32 :: Lib.itoa e.b, true) := by
      have := cut_at opW (Lib.itoa e.a ++ 32 :: Lib.itoa e.b) 32 (w_ne (.inl rfl))
      simpa using this
    rw [h3]
    unfold gEI
    simp only [hc, if_true, spl_at _ _ _ hn, spl_no _ _ hn2, mapO, rd_ito (show 0 ≤ e.a by omega) (by omega), rd_ito (show 0 ≤ e.b by omega) (by omega), Option.map_some]
    exact h1.symm
  · have hc : Lib.cut (tuW ++ [32] ++ trnT v e.a e.b e.ss) [32] = (tuW, trnT v e.a e.b e.ss, true) := by
      have := cut_at tuW (trnT v e.a e.b e.ss) 32 (w_ne (.inr (.inl rfl)))
      simpa using this
    rw [h3]
    unfold gEI
    simp only [hc, (rdTI_iff hv).2 ⟨rfl, h2⟩, show ¬ tuW = opW by decide, if_true, if_false]
    exact h1.symm
  · have hc : Lib.cut (reW ++ [32] ++ Lib.itoa e.r) [32] = (reW, Lib.itoa e.r, true) := by
      have := cut_at reW (Lib.itoa e.r) 32 (w_ne (.inr (.inr rfl)))
      simpa using this
    rw [h3]
    unfold gEI
    simp only [hc, show ¬ reW = opW by decide, show ¬ reW = tuW by decide, if_true, if_false, rd_ito (show 0 ≤ e.r by omega) (by omega)]
    exact h1.symm
theorem gES_text {v : Vr} (hv : okV v = true) {e : Ev} (h : evnT v e ≠ []) : gES v (evnT v e) = e := by
  have hp := okV_iff.1 hv
  rcases ev_cases hv h with ⟨h1, h2, h3⟩ | ⟨h1, h2, h3⟩ | ⟨h1, h2, h3⟩
  · have hn : ∀ x ∈ Lib.itoa e.a, x ≠ (32 : UInt8) := ito_ne (by omega) (by omega) (by decide)
    have hn2 : ∀ x ∈ Lib.itoa e.b, x ≠ (32 : UInt8) := ito_ne (by omega) (by omega) (by decide)
    have hc : spl 32 (opW ++ [32] ++ Lib.itoa e.a ++ [32] ++ Lib.itoa e.b) = [opW, Lib.itoa e.a, Lib.itoa e.b] := by
      have := spl_at opW (Lib.itoa e.a ++ 32 :: Lib.itoa e.b) 32 (w_ne (.inl rfl))
      rw [spl_at _ _ _ hn, spl_no _ _ hn2] at this
      simpa using this
    rw [h3]
    unfold gES
    simp only [hc, if_true, val_ito (show 0 ≤ e.a by omega) (by omega), val_ito (show 0 ≤ e.b by omega) (by omega)]
    exact h1.symm
  · have hc : spl 32 (tuW ++ [32] ++ trnT v e.a e.b e.ss) = tuW :: spl 32 (trnT v e.a e.b e.ss) := by
      have := spl_at tuW (trnT v e.a e.b e.ss) 32 (w_ne (.inr (.inl rfl)))
      simpa using this
    have hl : 5 < (tuW ++ [32] ++ trnT v e.a e.b e.ss).length := by
      cases ht : trnT v e.a e.b e.ss with
      | nil => exact absurd ht h2
      | cons x l => simp [tuW]
    have hd : (tuW ++ [32] ++ trnT v e.a e.b e.ss).drop 5 = trnT v e.a e.b e.ss := rfl
    rw [h3]
    unfold gES
    simp only [hc, hd, (rdTI_iff hv).2 ⟨rfl, h2⟩, show ¬ tuW = opW by decide, show ¬ tuW = reW by decide, if_true, if_false, if_pos hl]
    exact h1.symm
  · have hn : ∀ x ∈ Lib.itoa e.r, x ≠ (32 : UInt8) := ito_ne (by omega) (by omega) (by decide)
    have hc : spl 32 (reW ++ [32] ++ Lib.itoa e.r) = [reW, Lib.itoa e.r] := by
      have := spl_at reW (Lib.itoa e.r) 32 (w_ne (.inr (.inr rfl)))
      rw [spl_no _ _ hn] at this
      simpa using this
    rw [h3]
    unfold gES
    simp only [hc, show ¬ reW = opW by decide, if_true, if_false, val_ito (show 0 ≤ e.r by omega) (by omega)]
    exact h1.symm
theorem rdE_iff {v : Vr} (hv : okV v = true) {t : By} {e : Ev} : rdE v t = some e ↔ evnT v e = t ∧ t ≠ [] := by
  unfold rdE
  constructor
  · intro h
    split at h
    · rename_i h1; simp only [Option.some.injEq] at h; subst h; exact h1
    · cases h
  · rintro ⟨rfl, h⟩
    rw [gEI_text hv h, if_pos ⟨rfl, h⟩]
/-- **The reference reads the same events.** -/
theorem rdES_eq {v : Vr} (hv : okV v = true) (t : By) : (if evnT v (gES v t) = t ∧ t ≠ [] then some (gES v t) else none) = rdE v t := by
  by_cases h : ∃ e, evnT v e = t ∧ t ≠ []
  · obtain ⟨e, rfl, h⟩ := h
    rw [gES_text hv h, if_pos ⟨rfl, h⟩]
    exact ((rdE_iff hv).2 ⟨rfl, h⟩).symm
  · rw [if_neg (fun h1 => h ⟨_, h1⟩)]
    unfold rdE
    rw [if_neg (fun h1 => h ⟨_, h1⟩)]
theorem trnT_len {v : Vr} (hv : okV v = true) (x y : Int) (ss : List Stp) : (trnT v x y ss).length ≤ 54 := by
  unfold trnT
  split
  · rename_i h
    have := stpsT_len hv (ss := ss)
    rw [rolT_at hv h.1]
    simp; omega
  · simp
theorem evnT_len {v : Vr} (hv : okV v = true) (e : Ev) : (evnT v e).length ≤ 59 := by
  have hp := okV_iff.1 hv
  by_cases h : evnT v e = []
  · rw [h]; simp
  · rcases ev_cases hv h with ⟨_, h2, h3⟩ | ⟨_, h2, h3⟩ | ⟨_, h2, h3⟩
    · have l1 := ito_len (n := e.a) (by omega) (by omega)
      have l2 := ito_len (n := e.b) (by omega) (by omega)
      rw [h3]; simp [opW]; omega
    · have := trnT_len hv e.a e.b e.ss
      rw [h3]; simp [tuW]; omega
    · have l1 := ito_len (n := e.r) (by omega) (by omega)
      rw [h3]; simp [reW]; omega
theorem evnT_ne {v : Vr} (hv : okV v = true) (e : Ev) : ∀ x ∈ evnT v e, x ≠ (10 : UInt8) := by
  have hp := okV_iff.1 hv
  by_cases h : evnT v e = []
  · rw [h]; simp
  · have hw : ∀ w : By, (w = opW ∨ w = tuW ∨ w = reW) → ∀ x ∈ w, x ≠ (10 : UInt8) := by
      intro w hw
      rcases hw with rfl | rfl | rfl <;> decide
    rcases ev_cases hv h with ⟨_, h2, h3⟩ | ⟨_, h2, h3⟩ | ⟨_, h2, h3⟩
    · rw [h3]
      intro x hx
      simp only [List.mem_append, List.mem_singleton] at hx
      rcases hx with (((hx | rfl) | hx) | rfl) | hx
      · exact hw _ (.inl rfl) x hx
      · decide
      · exact ito_ne (by omega) (by omega) (by decide) x hx
      · decide
      · exact ito_ne (by omega) (by omega) (by decide) x hx
    · rw [h3]
      intro x hx
      simp only [List.mem_append, List.mem_singleton] at hx
      rcases hx with (hx | rfl) | hx
      · exact hw _ (.inr (.inl rfl)) x hx
      · decide
      · unfold trnT at hx
        split at hx
        · rename_i h4
          have h5 := roll_parts h4.1
          rw [rolT_at hv h4.1] at hx
          simp only [List.mem_append, List.mem_cons, List.not_mem_nil, or_false] at hx
          rcases hx with ((rfl | rfl) | (rfl | rfl)) | hx
          · exact dg_ne (by omega) (by decide)
          · exact dg_ne (by omega) (by decide)
          · decide
          · decide
          · exact stpsT_ne hv (by decide) x hx
        · simp at hx
    · rw [h3]
      intro x hx
      simp only [List.mem_append, List.mem_singleton] at hx
      rcases hx with (hx | rfl) | hx
      · exact hw _ (.inr (.inr rfl)) x hx
      · decide
      · exact ito_ne (by omega) (by omega) (by decide) x hx
end Go.Proofs.YtlfdcefgelpgmaaGreatDoor.TxP
