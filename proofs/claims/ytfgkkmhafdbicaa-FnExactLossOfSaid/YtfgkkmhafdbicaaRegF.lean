/-
  A region that draws its order and whose operations have fixed values, whatever has come up before: reads of elder blocks, and calls that only make blocks. Each operation is walked once, over a frame of which only what it reads is known. Conditions: each theorem's own.
-/
import Derived.Test.YtfgkkmhafdbicaaInv
set_option linter.unusedVariables false
namespace Go.Proofs.Ytfgkkmhafdbicaa.RegF
open Go Go.RowKit Base RegInv

/-- No slot is written twice. -/
def ndB : List (Option Nat) → Bool
  | [] => true
  | none :: ds => ndB ds
  | some d :: ds => !(ds.contains (some d)) && ndB ds
theorem nd_of : ∀ (ds : List (Option Nat)), ndB ds = true → ∀ (i j d : Nat), ds[i]? = some (some d) → ds[j]? = some (some d) → i = j := by
  intro ds
  induction ds with
  | nil => intro _ i j d h; simp at h
  | cons x ds ih =>
    intro h i j d hi hj
    have hr : ndB ds = true := by cases x with | none => exact h | some y => simp only [ndB, Bool.and_eq_true] at h; exact h.2
    cases i with
    | zero =>
      cases j with
      | zero => rfl
      | succ j =>
        exfalso
        simp only [List.getElem?_cons_zero, Option.some.injEq] at hi
        subst hi
        simp only [ndB, Bool.and_eq_true, Bool.not_eq_true', List.contains_eq_mem, decide_eq_false_iff_not] at h
        simp only [List.getElem?_cons_succ] at hj
        exact h.1 (List.mem_of_getElem? hj)
    | succ i =>
      cases j with
      | zero =>
        exfalso
        simp only [List.getElem?_cons_zero, Option.some.injEq] at hj
        subst hj
        simp only [ndB, Bool.and_eq_true, Bool.not_eq_true', List.contains_eq_mem, decide_eq_false_iff_not] at h
        simp only [List.getElem?_cons_succ] at hi
        exact h.1 (List.mem_of_getElem? hi)
      | succ j => simp only [List.getElem?_cons_succ] at hi hj; rw [ih hr i j d hi hj]
def szB (n : Nat) (ds : List (Option Nat)) : Bool := ds.all fun | some d => decide (d < n) | none => true
theorem sz_of {n : Nat} {ds : List (Option Nat)} (h : szB n ds = true) {j d : Nat} (hj : ds[j]? = some (some d)) : d < n := by
  have := List.all_eq_true.1 h _ (List.mem_of_getElem? hj)
  exact of_decide_eq_true this
/-- The frame with the operations' slots filled. -/
def Fr : Act → List (Option Nat) → Nat → (Nat → Value) → Act
  | a, [], _, _ => a
  | a, d :: ds, k, u => Fr (a.put d (u k)) ds (k + 1) u
theorem put_size (a : Act) (d : Option Nat) (v : Value) : (a.put d v).tmps.size = a.tmps.size := by cases d <;> simp [Act.put]
theorem put_defers (a : Act) (d : Option Nat) (v : Value) : (a.put d v).defers = a.defers := by cases d <;> rfl
theorem getD_put (a : Act) (d s : Nat) (v : Value) (hd : d < a.tmps.size) : (a.put (some d) v).tmps.getD s undef = if s = d then v else a.tmps.getD s undef := by
  simp only [Act.put, Array.getD_eq_getD_getElem?, Array.getElem?_setIfInBounds]
  by_cases e : s = d
  · subst e; simp [hd]
  · rw [if_neg (Ne.symm e), if_neg e]
theorem Fr_size : ∀ (ds : List (Option Nat)) (a : Act) (k : Nat) (u : Nat → Value), (Fr a ds k u).tmps.size = a.tmps.size ∧ (Fr a ds k u).defers = a.defers := by
  intro ds
  induction ds with
  | nil => intro a k u; exact ⟨rfl, rfl⟩
  | cons d ds ih =>
    intro a k u
    have := ih (a.put d (u k)) (k + 1) u
    rw [put_size, put_defers] at this
    exact this
theorem Fr_other : ∀ (ds : List (Option Nat)) (a : Act) (k : Nat) (u : Nat → Value) (s : Nat), some s ∉ ds → (Fr a ds k u).tmps.getD s undef = a.tmps.getD s undef := by
  intro ds
  induction ds with
  | nil => intro a k u s _; rfl
  | cons d ds ih =>
    intro a k u s h
    have h1 := ih (a.put d (u k)) (k + 1) u s (fun hm => h (List.mem_cons_of_mem _ hm))
    simp only [Fr]
    rw [h1]
    cases d with
    | none => rfl
    | some d =>
      have hne : ¬ s = d := fun e => h (by rw [e]; exact List.mem_cons_self ..)
      simp only [Act.put, Array.getD_eq_getD_getElem?, Array.getElem?_setIfInBounds]
      rw [if_neg (Ne.symm hne)]
theorem Fr_get : ∀ (ds : List (Option Nat)) (a : Act) (k : Nat) (u : Nat → Value) (j d : Nat), ndB ds = true → ds[j]? = some (some d) → d < a.tmps.size → (Fr a ds k u).tmps.getD d undef = u (k + j) := by
  intro ds
  induction ds with
  | nil => intro a k u j d _ h; simp at h
  | cons x ds ih =>
    intro a k u j d hn hj hd
    simp only [Fr]
    cases j with
    | zero =>
      simp only [List.getElem?_cons_zero, Option.some.injEq] at hj
      subst hj
      simp only [ndB, Bool.and_eq_true, Bool.not_eq_true', List.contains_eq_mem, decide_eq_false_iff_not] at hn
      rw [Fr_other ds _ _ _ _ hn.1, getD_put _ _ _ _ hd, if_pos rfl]; rfl
    | succ j =>
      simp only [List.getElem?_cons_succ] at hj
      have hr : ndB ds = true := by cases x with | none => exact hn | some y => simp only [ndB, Bool.and_eq_true] at hn; exact hn.2
      rw [ih (a.put x (u k)) (k + 1) u j d hr hj (by rw [put_size]; exact hd)]
      congr 1; omega
theorem act_ext {a b : Act} (h1 : a.tmps.size = b.tmps.size) (h2 : a.defers = b.defers) (h3 : ∀ s, a.tmps.getD s undef = b.tmps.getD s undef) : a = b := by
  obtain ⟨t, q⟩ := a
  obtain ⟨t', q'⟩ := b
  simp only at h1 h2 h3
  subst h2
  congr 1
  refine Array.ext h1 fun i hi hi' => ?_
  have := h3 i
  simpa [Array.getD_eq_getD_getElem?, hi, hi'] using this

section
variable {P : Program} {ops : Array Oper} {Q : Exit → Act → World → Prop}
/-- Is the operation run, by the values? -/
def wantV (o : Oper) (vals : Nat → Value) : Bool :=
  match o.guard with
  | none => true
  | some (g, b) => match vals g with | .bool c => c == b | _ => false
/-- Operation k over a frame A of which what it waits for is known. -/
def FixAt (P : Program) (ops : Array Oper) (Q : Exit → Act → World → Prop) (a0 : Act) (ds : List (Option Nat)) (vals : Nat → Value) (B : (Nat → Prop) → World → Prop) (k : Nat) (o : Oper) : Prop :=
  ∀ (L : Nat → Prop) (A : Act) (w' : World), ¬ L k → (∀ j d, waits ops k j = true → ds[j]? = some (some d) → A.tmps[d]?.getD undef = vals j) → (∀ s, some s ∉ ds → A.tmps[s]?.getD undef = a0.tmps[s]?.getD undef) → B L w' →
    ∀ K : Act → World → Prop, Hid (∀ w'', B (fun j => j = k ∨ L j) w'' → K (A.put o.dst (vals k)) w'') → Oper.wp P o A w' K Q
def FixFrom (P : Program) (ops : Array Oper) (Q : Exit → Act → World → Prop) (a0 : Act) (ds : List (Option Nat)) (vals : Nat → Value) (B : (Nat → Prop) → World → Prop) (n : Nat) : Prop :=
  ∀ k, n ≤ k → ∀ o, ops[k]? = some o → (wantV o vals = true → FixAt P ops Q a0 ds vals B k o) ∧ (wantV o vals = false → vals k = undef ∧ ∀ L w', B L w' → B (fun j => j = k ∨ L j) w')
theorem FixFrom.run {a0 : Act} {ds : List (Option Nat)} {vals : Nat → Value} {B : (Nat → Prop) → World → Prop} {n : Nat} {o : Oper} (ho : ops[n]? = some o) (hw : wantV o vals = true) (h : FixAt P ops Q a0 ds vals B n o) (r : FixFrom P ops Q a0 ds vals B (n + 1)) : FixFrom P ops Q a0 ds vals B n := by
  intro k hk o' ho'
  by_cases e : k = n
  · subst e
    rw [ho] at ho'
    simp only [Option.some.injEq] at ho'
    subst ho'
    exact ⟨fun _ => h, fun h' => absurd (hw.symm.trans h') (by decide)⟩
  · exact r k (by omega) o' ho'
theorem FixFrom.skip {a0 : Act} {ds : List (Option Nat)} {vals : Nat → Value} {B : (Nat → Prop) → World → Prop} {n : Nat} {o : Oper} (ho : ops[n]? = some o) (hw : wantV o vals = false) (h : vals n = undef) (hb : ∀ L w', B L w' → B (fun j => j = n ∨ L j) w') (r : FixFrom P ops Q a0 ds vals B (n + 1)) : FixFrom P ops Q a0 ds vals B n := by
  intro k hk o' ho'
  by_cases e : k = n
  · subst e
    rw [ho] at ho'
    simp only [Option.some.injEq] at ho'
    subst ho'
    exact ⟨fun h' => absurd (hw.symm.trans h') (by decide), fun _ => ⟨h, hb⟩⟩
  · exact r k (by omega) o' ho'
theorem FixFrom.nil {a0 : Act} {ds : List (Option Nat)} {vals : Nat → Value} {B : (Nat → Prop) → World → Prop} {n : Nat} (h : ops.size ≤ n) : FixFrom P ops Q a0 ds vals B n := by
  intro k hk o ho
  have := (Array.getElem?_eq_some_iff.1 ho).1
  omega
/-- Guards look at what is waited for, and at Booleans. -/
def gdB (ops : Array Oper) (vals : Nat → Value) : Bool := (List.range ops.size).all fun k => match ops[k]? with | some o => (match o.guard with | none => true | some (g, _) => waits ops k g && (match vals g with | .bool _ => true | _ => false) && (match ops[g]? with | some q => q.dst.isSome | none => false)) | none => true
theorem region_fix {id : Nat} {a0 : Act} {w : World} (ds : List (Option Nat)) (vals : Nat → Value) (B : (Nat → Prop) → World → Prop) (hm : P.follows .mixedOrders = true) (hd : downs ops = true) (hds : (ops.map (·.dst)).toList = ds) (hnd : ndB ds = true) (hsz : szB a0.tmps.size ds = true) (hg : gdB ops vals = true)
    (hB : B (fun _ => False) w.drew) (hBL : ∀ L L' w', (∀ j, j < ops.size → (L j ↔ L' j)) → B L w' → B L' w') (hst : FixFrom P ops Q a0 ds vals B 0) (fin : ∀ w', B (fun _ => True) w' → Q .normal (Fr a0 ds 0 vals) w') : (Code.region id ops true).wp P Q a0 w := by
  have hdst : ∀ (k : Nat) (o : Oper), ops[k]? = some o → ds[k]? = some o.dst := fun k o ho => by
    rw [← hds]; simp [ho]
  have hlen : ds.length = ops.size := by rw [← hds]; simp
  refine region_inv (fun _ L a w' => (a.tmps.size = a0.tmps.size ∧ a.defers = a0.defers) ∧ (∀ s, some s ∉ ds → a.eval (.tmp s) = a0.eval (.tmp s)) ∧ (∀ j d, L j → ds[j]? = some (some d) → a.eval (.tmp d) = vals j) ∧ B L w') hm hd ⟨⟨rfl, rfl⟩, fun _ _ => rfl, fun _ _ h => h.elim, hB⟩ ?_ ?_
  · intro k _ o ho L a w' hI hno hdep hcl K hK
    obtain ⟨hs, h0, hu, hb⟩ := hI
    have hk := hdst k o ho
    have step : ∀ w'', B (fun j => j = k ∨ L j) w'' → K (a.put o.dst (vals k)) w'' := fun w'' hb' => by
      refine hK.out _ _ ⟨⟨by rw [put_size]; exact hs.1, by rw [put_defers]; exact hs.2⟩, fun s hs' => ?_, fun j d hj hjd => ?_, hb'⟩
      · cases hd' : o.dst with
        | none => exact h0 s hs'
        | some d =>
          rw [hd'] at hk
          have hne : ¬ s = d := fun e => hs' (by rw [e]; exact List.mem_of_getElem? hk)
          show (a.put (some d) (vals k)).tmps.getD s undef = _
          rw [getD_put _ _ _ _ (by rw [hs.1]; exact sz_of hsz hk), if_neg hne]
          exact h0 s hs'
      · cases hd' : o.dst with
        | none =>
          rw [hd'] at hk
          rcases hj with rfl | hj
          · rw [hk] at hjd; simp at hjd
          · exact hu j d hj hjd
        | some e =>
          rw [hd'] at hk
          show (a.put (some e) (vals k)).tmps.getD d undef = _
          rw [getD_put _ _ _ _ (by rw [hs.1]; exact sz_of hsz hk)]
          by_cases hde : d = e
          · subst hde
            rw [if_pos rfl, nd_of ds hnd j k d hjd hk]
          · rw [if_neg hde]
            rcases hj with rfl | hj
            · rw [hk] at hjd; simp only [Option.some.injEq] at hjd; exact absurd hjd.symm hde
            · exact hu j d hj hjd
    have hwant : Region.wanted o (yielded ops a.tmps) = wantV o vals := by
      unfold Region.wanted wantV
      cases hgo : o.guard with
      | none => rfl
      | some gp =>
        obtain ⟨g, b⟩ := gp
        simp only
        have hg1 := List.all_eq_true.1 hg k (List.mem_range.2 (Array.getElem?_eq_some_iff.1 ho).1)
        rw [ho] at hg1
        simp only [hgo, Bool.and_eq_true] at hg1
        obtain ⟨⟨hg2, hg3⟩, hg4⟩ := hg1
        cases hq : ops[g]? with
        | none => rw [hq] at hg4; simp at hg4
        | some q =>
          rw [hq] at hg4
          obtain ⟨d, hqd⟩ := Option.isSome_iff_exists.1 hg4
          have hqk := hdst g q hq
          rw [hqd] at hqk
          have hv := hu g d (hdep g hg2) hqk
          have hlt : d < a.tmps.size := by rw [hs.1]; exact sz_of hsz hqk
          have ht : a.tmps[d]? = some (vals g) := by
            have : a.tmps.getD d undef = vals g := hv
            rw [Array.getD_eq_getD_getElem?, Array.getElem?_eq_getElem hlt] at this
            rw [Array.getElem?_eq_getElem hlt]
            simpa using this
          unfold yielded
          rw [hq]
          simp only [Option.bind_some, hqd, ht]
          cases hvg : vals g <;> rw [hvg] at hg3 <;> simp at hg3
          rename_i c
          cases b <;> cases c <;> rfl
    rw [hwant]
    split
    · rename_i hw
      exact (hst k (Nat.zero_le _) o ho).1 hw L a w' hno (fun j d hj hjd => by rw [← Array.getD_eq_getD_getElem?]; exact hu j d (hdep j hj) hjd) (fun s hs => by rw [← Array.getD_eq_getD_getElem?, ← Array.getD_eq_getD_getElem?]; exact h0 s hs) hb K step
    · rename_i hw
      have := (hst k (Nat.zero_le _) o ho).2 (by simpa using hw)
      have h2 := step w' (this.2 L w' hb)
      rw [this.1] at h2
      exact h2
  · rintro L a w' ⟨hs, h0, hu, hb⟩ hL
    have e : a = Fr a0 ds 0 vals := by
      refine act_ext (by rw [(Fr_size _ _ _ _).1]; exact hs.1) (by rw [(Fr_size _ _ _ _).2]; exact hs.2) fun s => ?_
      by_cases hm' : some s ∈ ds
      · obtain ⟨j, hj⟩ := List.getElem?_of_mem hm'
        have hjl : j < ops.size := by rw [← hlen]; exact (List.getElem?_eq_some_iff.1 hj).1
        rw [Fr_get ds a0 0 vals j s hnd hj (sz_of hsz hj), Nat.zero_add]
        exact hu j s (hL j hjl) hj
      · rw [Fr_other ds a0 0 vals s hm']
        exact h0 s hm'
    rw [e]
    exact fin w' (hBL L _ w' (fun j hj => ⟨fun _ => trivial, fun _ => hL j hj⟩) hb)
end
end Go.Proofs.Ytfgkkmhafdbicaa.RegF
