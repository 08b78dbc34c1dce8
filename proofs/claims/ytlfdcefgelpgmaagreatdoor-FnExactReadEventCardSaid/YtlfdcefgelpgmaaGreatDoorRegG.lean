/-
  A region that draws its order and whose operations have fixed values, whatever has come up before: reads of elder blocks, and calls that only make blocks. Each operation is walked once, over a frame of which only what it reads is known. Conditions: each theorem's own.
  A region that draws its order and whose operations make memory: each operation is walked once; of the values that have come up, some are fixed, of the others a relation with memory is kept. Laws of single operations besides. Conditions: each theorem's own.
-/
import Derived.Test.YtlfdcefgelpgmaaGreatDoorInv
import Derived.Test.YtlfdcefgelpgmaaGreatDoorOwn
import Derived.Laws.AppendOwnNone
import Derived.Lib.Hide

set_option linter.unusedVariables false
namespace Go.Proofs.YtlfdcefgelpgmaaGreatDoor.RegF
open Go Go.RowKit Base RegInv

/-- No slot is written twice. -/
def ndB : List (Option Nat) → Bool
  | [] => true
  | none :: ds => ndB ds
  | some d :: ds => !(ds.contains (some d)) && ndB ds
theorem nd_of : ∀ (ds : List (Option Nat)), ndB ds = true → ∀ (i j d : Nat), ds[i]? = some (some d) → ds[j]? = some (some d) → i = j := by
  intro ds
  induction ds with
  | nil => intro _ i j d h; simp at h
  | cons x ds ih =>
    intro h i j d hi hj
    have hr : ndB ds = true := by cases x with | none => exact h | some y => simp only [ndB, Bool.and_eq_true] at h; exact h.2
    cases i with
    | zero =>
      cases j with
      | zero => rfl
      | succ j =>
        exfalso
        simp only [List.getElem?_cons_zero, Option.some.injEq] at hi
        subst hi
        simp only [ndB, Bool.and_eq_true, Bool.not_eq_true', List.contains_eq_mem, decide_eq_false_iff_not] at h
        simp only [List.getElem?_cons_succ] at hj
        exact h.1 (List.mem_of_getElem? hj)
    | succ i =>
      cases j with
      | zero =>
        exfalso
        simp only [List.getElem?_cons_zero, Option.some.injEq] at hj
        subst hj
        simp only [ndB, Bool.and_eq_true, Bool.not_eq_true', List.contains_eq_mem, decide_eq_false_iff_not] at h
        simp only [List.getElem?_cons_succ] at hi
        exact h.1 (List.mem_of_getElem? hi)
      | succ j => simp only [List.getElem?_cons_succ] at hi hj; rw [ih hr i j d hi hj]
def szB (n : Nat) (ds : List (Option Nat)) : Bool := ds.all fun | some d => decide (d < n) | none => true
theorem sz_of {n : Nat} {ds : List (Option Nat)} (h : szB n ds = true) {j d : Nat} (hj : ds[j]? = some (some d)) : d < n := by
  have := List.all_eq_true.1 h _ (List.mem_of_getElem? hj)
  exact of_decide_eq_true this
/-- The frame with the operations' slots filled. -/
def Fr : Act → List (Option Nat) → Nat → (Nat → Value) → Act
  | a, [], _, _ => a
  | a, d :: ds, k, u => Fr (a.put d (u k)) ds (k + 1) u
theorem put_size (a : Act) (d : Option Nat) (v : Value) : (a.put d v).tmps.size = a.tmps.size := by cases d <;> simp [Act.put]
theorem put_defers (a : Act) (d : Option Nat) (v : Value) : (a.put d v).defers = a.defers := by cases d <;> rfl
theorem getD_put (a : Act) (d s : Nat) (v : Value) (hd : d < a.tmps.size) : (a.put (some d) v).tmps.getD s undef = if s = d then v else a.tmps.getD s undef := by
  simp only [Act.put, Array.getD_eq_getD_getElem?, Array.getElem?_setIfInBounds]
  by_cases e : s = d
  · subst e; simp [hd]
  · rw [if_neg (Ne.symm e), if_neg e]
theorem Fr_size : ∀ (ds : List (Option Nat)) (a : Act) (k : Nat) (u : Nat → Value), (Fr a ds k u).tmps.size = a.tmps.size ∧ (Fr a ds k u).defers = a.defers := by
  intro ds
  induction ds with
  | nil => intro a k u; exact ⟨rfl, rfl⟩
  | cons d ds ih =>
    intro a k u
    have := ih (a.put d (u k)) (k + 1) u
    rw [put_size, put_defers] at this
    exact this
theorem Fr_other : ∀ (ds : List (Option Nat)) (a : Act) (k : Nat) (u : Nat → Value) (s : Nat), some s ∉ ds → (Fr a ds k u).tmps.getD s undef = a.tmps.getD s undef := by
  intro ds
  induction ds with
  | nil => intro a k u s _; rfl
  | cons d ds ih =>
    intro a k u s h
    have h1 := ih (a.put d (u k)) (k + 1) u s (fun hm => h (List.mem_cons_of_mem _ hm))
    simp only [Fr]
    rw [h1]
    cases d with
    | none => rfl
    | some d =>
      have hne : ¬ s = d := fun e => h (by rw [e]; exact List.mem_cons_self ..)
      simp only [Act.put, Array.getD_eq_getD_getElem?, Array.getElem?_setIfInBounds]
      rw [if_neg (Ne.symm hne)]
theorem Fr_get : ∀ (ds : List (Option Nat)) (a : Act) (k : Nat) (u : Nat → Value) (j d : Nat), ndB ds = true → ds[j]? = some (some d) → d < a.tmps.size → (Fr a ds k u).tmps.getD d undef = u (k + j) := by
  intro ds
  induction ds with
  | nil => intro a k u j d _ h; simp at h
  | cons x ds ih =>
    intro a k u j d hn hj hd
    simp only [Fr]
    cases j with
    | zero =>
      simp only [List.getElem?_cons_zero, Option.some.injEq] at hj
      subst hj
      simp only [ndB, Bool.and_eq_true, Bool.not_eq_true', List.contains_eq_mem, decide_eq_false_iff_not] at hn
      rw [Fr_other ds _ _ _ _ hn.1, getD_put _ _ _ _ hd, if_pos rfl]; rfl
    | succ j =>
      simp only [List.getElem?_cons_succ] at hj
      have hr : ndB ds = true := by cases x with | none => exact hn | some y => simp only [ndB, Bool.and_eq_true] at hn; exact hn.2
      rw [ih (a.put x (u k)) (k + 1) u j d hr hj (by rw [put_size]; exact hd)]
      congr 1; omega
theorem act_ext {a b : Act} (h1 : a.tmps.size = b.tmps.size) (h2 : a.defers = b.defers) (h3 : ∀ s, a.tmps.getD s undef = b.tmps.getD s undef) : a = b := by
  obtain ⟨t, q⟩ := a
  obtain ⟨t', q'⟩ := b
  simp only at h1 h2 h3
  subst h2
  congr 1
  refine Array.ext h1 fun i hi hi' => ?_
  have := h3 i
  simpa [Array.getD_eq_getD_getElem?, hi, hi'] using this

section
variable {P : Program} {ops : Array Oper} {Q : Exit → Act → World → Prop}
/-- Is the operation run, by the values? -/
def wantV (o : Oper) (vals : Nat → Value) : Bool :=
  match o.guard with
  | none => true
  | some (g, b) => match vals g with | .bool c => c == b | _ => false
/-- Operation k over a frame A of which what it waits for is known. -/
def FixAt (P : Program) (ops : Array Oper) (Q : Exit → Act → World → Prop) (a0 : Act) (ds : List (Option Nat)) (vals : Nat → Value) (B : (Nat → Prop) → World → Prop) (k : Nat) (o : Oper) : Prop :=
  ∀ (L : Nat → Prop) (A : Act) (w' : World), ¬ L k → (∀ j d, waits ops k j = true → ds[j]? = some (some d) → A.tmps[d]?.getD undef = vals j) → (∀ s, some s ∉ ds → A.tmps[s]?.getD undef = a0.tmps[s]?.getD undef) → B L w' →
    ∀ K : Act → World → Prop, Hid (∀ w'', B (fun j => j = k ∨ L j) w'' → K (A.put o.dst (vals k)) w'') → Oper.wp P o A w' K Q
def FixFrom (P : Program) (ops : Array Oper) (Q : Exit → Act → World → Prop) (a0 : Act) (ds : List (Option Nat)) (vals : Nat → Value) (B : (Nat → Prop) → World → Prop) (n : Nat) : Prop :=
  ∀ k, n ≤ k → ∀ o, ops[k]? = some o → (wantV o vals = true → FixAt P ops Q a0 ds vals B k o) ∧ (wantV o vals = false → vals k = undef ∧ ∀ L w', B L w' → B (fun j => j = k ∨ L j) w')
theorem FixFrom.run {a0 : Act} {ds : List (Option Nat)} {vals : Nat → Value} {B : (Nat → Prop) → World → Prop} {n : Nat} {o : Oper} (ho : ops[n]? = some o) (hw : wantV o vals = true) (h : FixAt P ops Q a0 ds vals B n o) (r : FixFrom P ops Q a0 ds vals B (n + 1)) : FixFrom P ops Q a0 ds vals B n := by
  intro k hk o' ho'
  by_cases e : k = n
  · subst e
    rw [ho] at ho'
    simp only [Option.some.injEq] at ho'
    subst ho'
    exact ⟨fun _ => h, fun h' => absurd (hw.symm.trans h') (by decide)⟩
  · exact r k (by omega) o' ho'
theorem FixFrom.skip {a0 : Act} {ds : List (Option Nat)} {vals : Nat → Value} {B : (Nat → Prop) → World → Prop} {n : Nat} {o : Oper} (ho : ops[n]? = some o) (hw : wantV o vals = false) (h : vals n = undef) (hb : ∀ L w', B L w' → B (fun j => j = n ∨ L j) w') (r : FixFrom P ops Q a0 ds vals B (n + 1)) : FixFrom P ops Q a0 ds vals B n := by
  intro k hk o' ho'
  by_cases e : k = n
  · subst e
    rw [ho] at ho'
    simp only [Option.some.injEq] at ho'
    subst ho'
    exact ⟨fun h' => absurd (hw.symm.trans h') (by decide), fun _ => ⟨h, hb⟩⟩
  · exact r k (by omega) o' ho'
theorem FixFrom.nil {a0 : Act} {ds : List (Option Nat)} {vals : Nat → Value} {B : (Nat → Prop) → World → Prop} {n : Nat} (h : ops.size ≤ n) : FixFrom P ops Q a0 ds vals B n := by
  intro k hk o ho
  have := (Array.getElem?_eq_some_iff.1 ho).1
  omega
/-- Guards look at what is waited for, and at Booleans. -/
def gdB (ops : Array Oper) (vals : Nat → Value) : Bool := (List.range ops.size).all fun k => match ops[k]? with | some o => (match o.guard with | none => true | some (g, _) => waits ops k g && (match vals g with | .bool _ => true | _ => false) && (match ops[g]? with | some q => q.dst.isSome | none => false)) | none => true
theorem region_fix {id : Nat} {a0 : Act} {w : World} (ds : List (Option Nat)) (vals : Nat → Value) (B : (Nat → Prop) → World → Prop) (hm : P.follows .mixedOrders = true) (hd : downs ops = true) (hds : (ops.map (·.dst)).toList = ds) (hnd : ndB ds = true) (hsz : szB a0.tmps.size ds = true) (hg : gdB ops vals = true)
    (hB : B (fun _ => False) w.drew) (hBL : ∀ L L' w', (∀ j, j < ops.size → (L j ↔ L' j)) → B L w' → B L' w') (hst : FixFrom P ops Q a0 ds vals B 0) (fin : ∀ w', B (fun _ => True) w' → Q .normal (Fr a0 ds 0 vals) w') : (Code.region id ops true).wp P Q a0 w := by
  have hdst : ∀ (k : Nat) (o : Oper), ops[k]? = some o → ds[k]? = some o.dst := fun k o ho => by
    rw [← hds]; simp [ho]
  have hlen : ds.length = ops.size := by rw [← hds]; simp
  refine region_inv (fun _ L a w' => (a.tmps.size = a0.tmps.size ∧ a.defers = a0.defers) ∧ (∀ s, some s ∉ ds → a.eval (.tmp s) = a0.eval (.tmp s)) ∧ (∀ j d, L j → ds[j]? = some (some d) → a.eval (.tmp d) = vals j) ∧ B L w') hm hd ⟨⟨rfl, rfl⟩, fun _ _ => rfl, fun _ _ h => h.elim, hB⟩ ?_ ?_
  · intro k _ o ho L a w' hI hno hdep hcl K hK
    obtain ⟨hs, h0, hu, hb⟩ := hI
    have hk := hdst k o ho
    have step : ∀ w'', B (fun j => j = k ∨ L j) w'' → K (a.put o.dst (vals k)) w'' := fun w'' hb' => by
      refine hK.out _ _ ⟨⟨by rw [put_size]; exact hs.1, by rw [put_defers]; exact hs.2⟩, fun s hs' => ?_, fun j d hj hjd => ?_, hb'⟩
      · cases hd' : o.dst with
        | none => exact h0 s hs'
        | some d =>
          rw [hd'] at hk
          have hne : ¬ s = d := fun e => hs' (by rw [e]; exact List.mem_of_getElem? hk)
          show (a.put (some d) (vals k)).tmps.getD s undef = _
          rw [getD_put _ _ _ _ (by rw [hs.1]; exact sz_of hsz hk), if_neg hne]
          exact h0 s hs'
      · cases hd' : o.dst with
        | none =>
          rw [hd'] at hk
          rcases hj with rfl | hj
          · rw [hk] at hjd; simp at hjd
          · exact hu j d hj hjd
        | some e =>
          rw [hd'] at hk
          show (a.put (some e) (vals k)).tmps.getD d undef = _
          rw [getD_put _ _ _ _ (by rw [hs.1]; exact sz_of hsz hk)]
          by_cases hde : d = e
          · subst hde
            rw [if_pos rfl, nd_of ds hnd j k d hjd hk]
          · rw [if_neg hde]
            rcases hj with rfl | hj
            · rw [hk] at hjd; simp only [Option.some.injEq] at hjd; exact absurd hjd.symm hde
            · exact hu j d hj hjd
    have hwant : Region.wanted o (yielded ops a.tmps) = wantV o vals := by
      unfold Region.wanted wantV
      cases hgo : o.guard with
      | none => rfl
      | some gp =>
        obtain ⟨g, b⟩ := gp
        simp only
        have hg1 := List.all_eq_true.1 hg k (List.mem_range.2 (Array.getElem?_eq_some_iff.1 ho).1)
        rw [ho] at hg1
        simp only [hgo, Bool.and_eq_true] at hg1
        obtain ⟨⟨hg2, hg3⟩, hg4⟩ := hg1
        cases hq : ops[g]? with
        | none => rw [hq] at hg4; simp at hg4
        | some q =>
          rw [hq] at hg4
          obtain ⟨d, hqd⟩ := Option.isSome_iff_exists.1 hg4
          have hqk := hdst g q hq
          rw [hqd] at hqk
          have hv := hu g d (hdep g hg2) hqk
          have hlt : d < a.tmps.size := by rw [hs.1]; exact sz_of hsz hqk
          have ht : a.tmps[d]? = some (vals g) := by
            have : a.tmps.getD d undef = vals g := hv
            rw [Array.getD_eq_getD_getElem?, Array.getElem?_eq_getElem hlt] at this
            rw [Array.getElem?_eq_getElem hlt]
            simpa using this
          unfold yielded
          rw [hq]
          simp only [Option.bind_some, hqd, ht]
          cases hvg : vals g <;> rw [hvg] at hg3 <;> simp at hg3
          rename_i c
          cases b <;> cases c <;> rfl
    rw [hwant]
    split
    · rename_i hw
      exact (hst k (Nat.zero_le _) o ho).1 hw L a w' hno (fun j d hj hjd => by rw [← Array.getD_eq_getD_getElem?]; exact hu j d (hdep j hj) hjd) (fun s hs => by rw [← Array.getD_eq_getD_getElem?, ← Array.getD_eq_getD_getElem?]; exact h0 s hs) hb K step
    · rename_i hw
      have := (hst k (Nat.zero_le _) o ho).2 (by simpa using hw)
      have h2 := step w' (this.2 L w' hb)
      rw [this.1] at h2
      exact h2
  · rintro L a w' ⟨hs, h0, hu, hb⟩ hL
    have e : a = Fr a0 ds 0 vals := by
      refine act_ext (by rw [(Fr_size _ _ _ _).1]; exact hs.1) (by rw [(Fr_size _ _ _ _).2]; exact hs.2) fun s => ?_
      by_cases hm' : some s ∈ ds
      · obtain ⟨j, hj⟩ := List.getElem?_of_mem hm'
        have hjl : j < ops.size := by rw [← hlen]; exact (List.getElem?_eq_some_iff.1 hj).1
        rw [Fr_get ds a0 0 vals j s hnd hj (sz_of hsz hj), Nat.zero_add]
        exact hu j s (hL j hjl) hj
      · rw [Fr_other ds a0 0 vals s hm']
        exact h0 s hm'
    rw [e]
    exact fin w' (hBL L _ w' (fun j hj => ⟨fun _ => trivial, fun _ => hL j hj⟩) hb)
end
end Go.Proofs.YtlfdcefgelpgmaaGreatDoor.RegF

set_option linter.unusedVariables false
namespace Go.Proofs.YtlfdcefgelpgmaaGreatDoor.RegG
open Go Go.RowKit Base RegInv RegF

def upd (vals : Nat → Value) (k : Nat) (x : Value) : Nat → Value := fun j => if j = k then x else vals j
theorem upd_same (vals : Nat → Value) (k : Nat) (x : Value) : upd vals k x k = x := by unfold upd; rw [if_pos rfl]
theorem upd_ne {vals : Nat → Value} {k j : Nat} {x : Value} (h : j ≠ k) : upd vals k x j = vals j := by unfold upd; rw [if_neg h]
/-- The values that are fixed. -/
def Pl (l : List (Option Value)) (j : Nat) (v : Value) : Prop := ∀ c, l[j]? = some (some c) → v = c

theorem Pl.fix {l : List (Option Value)} {k : Nat} {v : Value} (h : l[k]? = some (some v)) : Pl l k v := fun c hc => by rw [h] at hc; simpa using hc
theorem Pl.any {l : List (Option Value)} {k : Nat} {v : Value} (h : l[k]? = some none) : Pl l k v := fun c hc => by rw [h] at hc; simp at hc
theorem ev {A : Act} {s : Nat} {v : Value} (h : A.tmps[s]?.getD undef = v) : A.eval (.tmp s) = v := by
  show A.tmps.getD s undef = v
  rw [Array.getD_eq_getD_getElem?]; exact h
theorem or_ne {L : Nat → Prop} {i k : Nat} (h : i ≠ k) : (i = k ∨ L i) = L i := propext ⟨fun h' => h'.resolve_left h, Or.inr⟩
section
variable {P : Program} {ops : Array Oper} {Q : Exit → Act → World → Prop}
def RelAt (P : Program) (ops : Array Oper) (Q : Exit → Act → World → Prop) (a0 : Act) (ds : List (Option Nat)) (Pu : Nat → Value → Prop) (Me : (Nat → Prop) → (Nat → Value) → World → Prop) (k : Nat) (o : Oper) : Prop :=
  ∀ (L : Nat → Prop) (vals : Nat → Value) (A : Act) (w' : World), ¬ L k → (∀ j, waits ops k j = true → L j) → (∀ m j, waits ops m j = true → L m → L j) →
    (∀ j d, waits ops k j = true → ds[j]? = some (some d) → A.tmps[d]?.getD undef = vals j) → (∀ j, waits ops k j = true → Pu j (vals j)) → (∀ s, (∀ j, L j → ds[j]? = some (some s) → False) → A.tmps[s]?.getD undef = a0.tmps[s]?.getD undef) → Me L vals w' →
    ∀ K : Act → World → Prop, Hid (∀ x w'', Pu k x → Me (fun j => j = k ∨ L j) (upd vals k x) w'' → K (A.put o.dst x) w'') → Oper.wp P o A w' K Q
def RelFrom (P : Program) (ops : Array Oper) (Q : Exit → Act → World → Prop) (a0 : Act) (ds : List (Option Nat)) (Pu : Nat → Value → Prop) (Me : (Nat → Prop) → (Nat → Value) → World → Prop) (n : Nat) : Prop :=
  ∀ k, n ≤ k → ∀ o, ops[k]? = some o → RelAt P ops Q a0 ds Pu Me k o
theorem RelFrom.run {a0 : Act} {ds : List (Option Nat)} {Pu : Nat → Value → Prop} {Me : (Nat → Prop) → (Nat → Value) → World → Prop} {n : Nat} {o : Oper} (ho : ops[n]? = some o) (h : RelAt P ops Q a0 ds Pu Me n o) (r : RelFrom P ops Q a0 ds Pu Me (n + 1)) : RelFrom P ops Q a0 ds Pu Me n := by
  intro k hk o' ho'
  by_cases e : k = n
  · subst e
    rw [ho] at ho'
    simp only [Option.some.injEq] at ho'
    subst ho'
    exact h
  · exact r k (by omega) o' ho'
theorem RelFrom.nil {a0 : Act} {ds : List (Option Nat)} {Pu : Nat → Value → Prop} {Me : (Nat → Prop) → (Nat → Value) → World → Prop} {n : Nat} (h : ops.size ≤ n) : RelFrom P ops Q a0 ds Pu Me n := by
  intro k hk o ho
  have := (Array.getElem?_eq_some_iff.1 ho).1
  omega
theorem waits_lt {k j : Nat} (h : waits ops k j = true) : k < ops.size := by
  rcases Nat.lt_or_ge k ops.size with h1 | h1
  · exact h1
  · unfold waits at h
    cases hs : ops.size with
    | zero => rw [hs] at h; simp [waitsGo] at h
    | succ n => rw [hs] at h; simp only [waitsGo, Array.getElem?_eq_none h1] at h; cases h
theorem region_rel {id : Nat} {a0 : Act} {w : World} (ds : List (Option Nat)) (N : Nat) (Pu : Nat → Value → Prop) (Me : (Nat → Prop) → (Nat → Value) → World → Prop) (hm : P.follows .mixedOrders = true) (hd : downs ops = true) (hds : (ops.map (·.dst)).toList = ds) (hN : ops.size = N) (hnd : ndB ds = true) (hsz : szB a0.tmps.size ds = true) (hg : (ops.all fun o => o.guard.isNone) = true)
    (h0 : Me (fun j => N ≤ j) (fun _ => undef) w.drew) (hst : RelFrom P ops Q a0 ds Pu Me 0) (fin : ∀ vals w', (∀ j, j < N → Pu j (vals j)) → Me (fun _ => True) vals w' → Q .normal (Fr a0 ds 0 vals) w') : (Code.region id ops true).wp P Q a0 w := by
  subst hN
  have hdst : ∀ (k : Nat) (o : Oper), ops[k]? = some o → ds[k]? = some o.dst := fun k o ho => by
    rw [← hds]; simp [ho]
  have hlen : ds.length = ops.size := by rw [← hds]; simp
  refine region_inv (fun _ L a w' => ∃ vals : Nat → Value, (a.tmps.size = a0.tmps.size ∧ a.defers = a0.defers) ∧ (∀ s, (∀ j, L j → ds[j]? = some (some s) → False) → a.eval (.tmp s) = a0.eval (.tmp s)) ∧ (∀ j d, L j → ds[j]? = some (some d) → a.eval (.tmp d) = vals j) ∧ (∀ j, L j → Pu j (vals j)) ∧ Me (fun j => L j ∨ ops.size ≤ j) vals w') hm hd ⟨fun _ => undef, ⟨rfl, rfl⟩, fun _ _ => rfl, fun _ _ h => h.elim, fun _ h => h.elim, ?_⟩ ?_ ?_
  · have e : (fun j : Nat => False ∨ ops.size ≤ j) = fun j => ops.size ≤ j := funext fun j => propext ⟨fun h => h.elim False.elim (fun h => h), Or.inr⟩
    rw [e]; exact h0
  · intro k _ o ho L a w' hI hno hdep hcl K hK
    obtain ⟨vals, hs, h0, hu, hp, hb⟩ := hI
    have hk := hdst k o ho
    have hkl := (Array.getElem?_eq_some_iff.1 ho).1
    have hgo : o.guard = none := by
      have h1 := Array.all_eq_true.1 hg k hkl
      have h2 : ops[k] = o := (Array.getElem?_eq_some_iff.1 ho).2
      rw [h2] at h1
      simpa using h1
    have hw : Region.wanted o (yielded ops a.tmps) = true := by simp [Region.wanted, hgo]
    rw [if_pos hw]
    have step : ∀ x w'', Pu k x → Me (fun j => j = k ∨ (L j ∨ ops.size ≤ j)) (upd vals k x) w'' → K (a.put o.dst x) w'' := fun x w'' hpx hb' => by
      refine hK.out _ _ ⟨upd vals k x, ⟨by rw [put_size]; exact hs.1, by rw [put_defers]; exact hs.2⟩, fun s hs' => ?_, fun j d hj hjd => ?_, fun j hj => ?_, ?_⟩
      · cases hd' : o.dst with
        | none => exact h0 s (fun j hj => hs' j (.inr hj))
        | some d =>
          rw [hd'] at hk
          have hne : ¬ s = d := fun e => hs' k (.inl rfl) (by rw [e]; exact hk)
          show (a.put (some d) x).tmps.getD s undef = _
          rw [getD_put _ _ _ _ (by rw [hs.1]; exact sz_of hsz hk), if_neg hne]
          exact h0 s (fun j hj => hs' j (.inr hj))
      · cases hd' : o.dst with
        | none =>
          rw [hd'] at hk
          rcases hj with rfl | hj
          · rw [hk] at hjd; simp at hjd
          · have hjk : j ≠ k := fun e => by rw [e, hk] at hjd; simp at hjd
            rw [upd_ne hjk]
            exact hu j d hj hjd
        | some e =>
          rw [hd'] at hk
          show (a.put (some e) x).tmps.getD d undef = _
          rw [getD_put _ _ _ _ (by rw [hs.1]; exact sz_of hsz hk)]
          by_cases hde : d = e
          · subst hde
            rw [if_pos rfl, nd_of ds hnd j k d hjd hk, upd_same]
          · rw [if_neg hde]
            rcases hj with rfl | hj
            · rw [hk] at hjd; simp only [Option.some.injEq] at hjd; exact absurd hjd.symm hde
            · have hjk : j ≠ k := fun e' => by rw [e', hk] at hjd; simp only [Option.some.injEq] at hjd; exact hde hjd.symm
              rw [upd_ne hjk]
              exact hu j d hj hjd
      · rcases hj with rfl | hj
        · rw [upd_same]; exact hpx
        · by_cases hjk : j = k
          · subst hjk; rw [upd_same]; exact hpx
          · rw [upd_ne hjk]; exact hp j hj
      · have e : (fun j : Nat => (j = k ∨ L j) ∨ ops.size ≤ j) = fun j => j = k ∨ (L j ∨ ops.size ≤ j) := funext fun j => propext or_assoc
        rw [e]; exact hb'
    refine hst k (Nat.zero_le _) o ho (fun j => L j ∨ ops.size ≤ j) vals a w' (fun h => h.elim hno (by omega)) (fun j hj => .inl (hdep j hj)) (fun m j hmj hm' => ?_) (fun j d hj hjd => by rw [← Array.getD_eq_getD_getElem?]; exact hu j d (hdep j hj) hjd) (fun j hj => hp j (hdep j hj)) (fun s hs => by rw [← Array.getD_eq_getD_getElem?, ← Array.getD_eq_getD_getElem?]; exact h0 s (fun j hj => hs j (.inl hj))) hb K (Lib.hid step)
    rcases hm' with hm' | hm'
    · exact .inl (hcl m j hmj hm')
    · have := waits_lt hmj; omega
  · rintro L a w' ⟨vals, hs, h0, hu, hp, hb⟩ hL
    have e : a = Fr a0 ds 0 vals := by
      refine act_ext (by rw [(Fr_size _ _ _ _).1]; exact hs.1) (by rw [(Fr_size _ _ _ _).2]; exact hs.2) fun s => ?_
      by_cases hm' : some s ∈ ds
      · obtain ⟨j, hj⟩ := List.getElem?_of_mem hm'
        have hjl : j < ops.size := by rw [← hlen]; exact (List.getElem?_eq_some_iff.1 hj).1
        rw [Fr_get ds a0 0 vals j s hnd hj (sz_of hsz hj), Nat.zero_add]
        exact hu j s (hL j hjl) hj
      · rw [Fr_other ds a0 0 vals s hm']
        exact h0 s (fun j _ hj => hm' (List.mem_of_getElem? hj))
    rw [e]
    have e2 : (fun j : Nat => L j ∨ ops.size ≤ j) = fun _ => True := funext fun j => propext ⟨fun _ => trivial, fun _ => by
      rcases Nat.lt_or_ge j ops.size with h | h
      · exact .inl (hL j h)
      · exact .inr h⟩
    rw [e2] at hb
    exact fin vals w' (fun j hj => hp j (hL j hj)) hb
end

/-! ### Single operations -/
section
variable {P : Program} {w : World} {α : Type} {en : α → List Value}
theorem run_append_zero (base : Nat) (t ty e : TypeId) (i : TypeInfo) (size : Nat) (ht : P.underlying t = some (.slice e)) (hi : P.info? e = some i)
    (v : Value) (n : Nat) (xs : List Value) (hown : w.ownsRow base e size v n xs) (A : Option Addr) (c : Nat) :
    (Builtin.append_ #[t, t] ty #[v, .slice A 0 c]).run P w = .ok v w := by
  rcases hown.2 with ⟨rfl, rfl⟩ | ⟨g, cap, cur, rfl, _, _, hnc, _⟩
  · cases A <;> simp [Builtin.append_, run_underlying ht, sizeOf, typeInfo, hi, Builtin.lenOf, Builtin.firstCells, loadCells, loadCellsFrom]
  · cases A <;> simp [Builtin.append_, run_underlying ht, sizeOf, typeInfo, hi, Builtin.lenOf, Builtin.firstCells, hnc, storeCells, loadCells, loadCellsFrom]
theorem news_of {B sz : Nat} {ad : Addr} {ys : List α} (hen : ∀ x, (en x).length = sz) (h : RdS w B sz en (some ad) ys) : ∀ j u, (ys.flatMap en)[j]? = some u → w.cell? (ad.add j) = some u := by
  intro j u hu
  have hj : j < (ys.flatMap en).length := (List.getElem?_eq_some_iff.1 hu).1
  rw [flatMap_len hen] at hj
  have hsz : 0 < sz := by
    rcases Nat.eq_zero_or_pos sz with h0 | h0
    · subst h0; simp at hj
    · exact h0
  have hi : j / sz < ys.length := Nat.div_lt_of_lt_mul (by rw [Nat.mul_comm]; exact hj)
  obtain ⟨b, off, he, _, hc⟩ := h.2 (Nat.lt_of_le_of_lt (Nat.zero_le _) hi)
  simp only [Option.some.injEq] at he
  subst he
  have hx : ys[j / sz]? = some ys[j / sz] := List.getElem?_eq_getElem hi
  have hr : j % sz < (en ys[j / sz]).length := by rw [hen]; exact Nat.mod_lt _ hsz
  have h1 := flatMap_at hen ys (j / sz) _ hx (j % sz) _ (List.getElem?_eq_getElem hr)
  have hdm : j / sz * sz + j % sz = j := by rw [Nat.mul_comm]; exact Nat.div_add_mod j sz
  rw [hdm, hu] at h1
  have h2 := hc (j / sz) _ hx (j % sz) _ (List.getElem?_eq_getElem hr)
  rw [Nat.add_assoc, hdm, ← h1] at h2
  have hadd : (⟨b, off, none⟩ : Addr).add j = ⟨b, off + j, none⟩ := by unfold Addr.add; split <;> simp_all
  rw [hadd]; exact h2
/-- Any slice that reads is appended to a slice of the call's own. -/
theorem wp_app {o : Oper} {a : Act} {K : Act → World → Prop} {Q : Exit → Act → World → Prop} (s x : Operand) (t : TypeId)
    (ho : o.op = .call { callee := .builtin .append, args := #[s, x], argTypes := #[t, t] })
    (lo hi : Nat) (e : TypeId) (i : TypeInfo) (z : Value) (sz bytes : Nat) (ht : P.underlying t = some (.slice e)) (hi0 : P.info? e = some i) (hz : i.zero = some z)
    (hsize : i.size = sz) (hby : i.bytes = bytes) (hzs : z.cells.size = sz) (hsz : 0 < sz) (hen : ∀ x, (en x).length = sz)
    (v : Value) (xs ys : List α) (hone : ∀ x ∈ ys, ∀ u ∈ en x, u.oneCell' = true) (hs : a.eval s = v) (hown : OwnS w lo hi e sz en v xs)
    (A : Option Addr) (m c B : Nat) (hx : a.eval x = .slice A m c) (hm : m = ys.length) (hr : RdS w B sz en A ys)
    (h63 : xs.length + m ≤ maxLen) (hbytes : (xs.length + m) * bytes ≤ 140737488355328) (hlo : lo ≤ w.heap.size) (hhi : hi ≤ w.heap.size)
    (h : ∀ v' w', OwnS w' lo w'.heap.size e sz en v' (xs ++ ys) → w.grownBy w' v.ownBlock → (∀ g, v'.ownBlock = some g → v.ownBlock = some g ∨ g = w.heap.size) → K (a.put o.dst v') w') : Oper.wp P o a w K Q := by
  subst hm
  cases ys with
  | nil =>
    have hrun := run_append_zero (P := P) (w := w) lo t o.type e i sz ht hi0 v xs.length _ hown.1 A c
    unfold Oper.wp execOp
    simp only [ho, resolve, invoke, builtin, Sem.run_bind, Sem.run_pure, Result.andThen_ok, List.map_toArray, List.map_cons, List.map_nil, hs, hx, List.length_nil, hrun]
    exact h v w (by rw [List.append_nil]; exact hown.more hhi) (grownBy_refl _ _) (fun g hg => .inl hg)
  | cons y ys =>
    obtain ⟨b, off, rfl, _, _⟩ := hr.2 (by simp)
    refine wp_append_lies w s x t ho lo e i z sz bytes ht hi0 hz hsize hby hzs hsz v xs.length (xs.flatMap en) hs hown.1 ⟨b, off, none⟩ _ c ((y :: ys).flatMap en) hx (by rw [flatMap_len hen]) (news_of hen hr) ?_ (by simp) h63 hbytes hlo _ rfl ?_
    · intro u hu
      obtain ⟨q, hm, hq⟩ := List.mem_flatMap.1 hu
      exact hone q hm u hq
    · intro g cap w' hown' hgr hat hlt
      rw [← List.flatMap_append] at hown'
      exact h _ _ (Own.OwnS_of (by rw [List.length_append]) hown' hlt) hgr (fun k hk => by simp [Value.ownBlock] at hk; subst hk; exact hat)
/-- The same in the list of a plain region's operations. -/
theorem wpL_appR {ops : Array Oper} {rest : List Oper} {o : Oper} {a : Act} {Q : Exit → Act → World → Prop} (hgd : o.guard = none) (s x : Operand) (t : TypeId)
    (ho : o.op = .call { callee := .builtin .append, args := #[s, x], argTypes := #[t, t] })
    (lo hi : Nat) (e : TypeId) (i : TypeInfo) (z : Value) (sz bytes : Nat) (ht : P.underlying t = some (.slice e)) (hi0 : P.info? e = some i) (hz : i.zero = some z)
    (hsize : i.size = sz) (hby : i.bytes = bytes) (hzs : z.cells.size = sz) (hsz : 0 < sz) (hen : ∀ x, (en x).length = sz)
    (v : Value) (xs ys : List α) (hone : ∀ x ∈ ys, ∀ u ∈ en x, u.oneCell' = true) (hs : a.eval s = v) (hown : OwnS w lo hi e sz en v xs)
    (A : Option Addr) (m c B : Nat) (hx : a.eval x = .slice A m c) (hm : m = ys.length) (hr : RdS w B sz en A ys)
    (h63 : xs.length + m ≤ maxLen) (hbytes : (xs.length + m) * bytes ≤ 140737488355328) (hlo : lo ≤ w.heap.size) (hhi : hi ≤ w.heap.size)
    (h : ∀ v' w', OwnS w' lo w'.heap.size e sz en v' (xs ++ ys) → w.grownBy w' v.ownBlock → (∀ g, v'.ownBlock = some g → v.ownBlock = some g ∨ g = w.heap.size) → wpList P ops Q rest (a.put o.dst v') w') : wpList P ops Q (o :: rest) a w :=
  wpList_plain hgd fun _ hK => wp_app s x t ho lo hi e i z sz bytes ht hi0 hz hsize hby hzs hsz hen v xs ys hone hs hown A m c B hx hm hr h63 hbytes hlo hhi fun v' w' h1 h2 h3 => hK _ _ (h v' w' h1 h2 h3)
/-- One element is appended, out of a block that holds it. -/
theorem wp_one {o : Oper} {a : Act} {K : Act → World → Prop} {Q : Exit → Act → World → Prop} (s x : Operand) (t : TypeId)
    (ho : o.op = .call { callee := .builtin .append, args := #[s, x], argTypes := #[t, t] })
    (lo hi : Nat) (e : TypeId) (i : TypeInfo) (z : Value) (sz bytes : Nat) (ht : P.underlying t = some (.slice e)) (hi0 : P.info? e = some i) (hz : i.zero = some z)
    (hsize : i.size = sz) (hby : i.bytes = bytes) (hzs : z.cells.size = sz) (hsz : 0 < sz) (hen : ∀ x, (en x).length = sz)
    (v : Value) (xs : List α) (y : α) (hone : ∀ u ∈ en y, u.oneCell' = true) (hs : a.eval s = v) (hown : OwnS w lo hi e sz en v xs)
    (g0 c : Nat) (e0 : TypeId) (hx : a.eval x = .slice (some ⟨g0, 0, none⟩) 1 c) (hr : RowB w g0 e0 (en y))
    (h63 : xs.length + 1 ≤ maxLen) (hbytes : (xs.length + 1) * bytes ≤ 140737488355328) (hlo : lo ≤ w.heap.size)
    (h : ∀ g cap w', OwnS w' lo w'.heap.size e sz en (.slice (some ⟨g, 0, none⟩) (xs.length + 1) cap) (xs ++ [y]) → w.grownBy w' v.ownBlock → (v.ownBlock = some g ∨ g = w.heap.size) → g < w'.heap.size →
      K (a.put o.dst (.slice (some ⟨g, 0, none⟩) (xs.length + 1) cap)) w') : Oper.wp P o a w K Q := by
  refine wp_append_lies w s x t ho lo e i z sz bytes ht hi0 hz hsize hby hzs hsz v xs.length (xs.flatMap en) hs hown.1 ⟨g0, 0, none⟩ 1 c (en y) hx (by rw [hen, Nat.one_mul]) (Own.news_new hr) hone (by decide) h63 hbytes hlo _ rfl ?_
  intro g cap w' hown' hgr hat hlt
  have e1 : xs.flatMap en ++ en y = (xs ++ [y]).flatMap en := by simp
  rw [e1] at hown'
  exact h g cap w' (Own.OwnS_of (by rw [List.length_append]; rfl) hown' hlt) hgr hat hlt
theorem wpL_one {ops : Array Oper} {rest : List Oper} {o : Oper} {a : Act} {Q : Exit → Act → World → Prop} (hgd : o.guard = none) (s x : Operand) (t : TypeId)
    (ho : o.op = .call { callee := .builtin .append, args := #[s, x], argTypes := #[t, t] })
    (lo hi : Nat) (e : TypeId) (i : TypeInfo) (z : Value) (sz bytes : Nat) (ht : P.underlying t = some (.slice e)) (hi0 : P.info? e = some i) (hz : i.zero = some z)
    (hsize : i.size = sz) (hby : i.bytes = bytes) (hzs : z.cells.size = sz) (hsz : 0 < sz) (hen : ∀ x, (en x).length = sz)
    (v : Value) (xs : List α) (y : α) (hone : ∀ u ∈ en y, u.oneCell' = true) (hs : a.eval s = v) (hown : OwnS w lo hi e sz en v xs)
    (g0 c : Nat) (e0 : TypeId) (hx : a.eval x = .slice (some ⟨g0, 0, none⟩) 1 c) (hr : RowB w g0 e0 (en y))
    (h63 : xs.length + 1 ≤ maxLen) (hbytes : (xs.length + 1) * bytes ≤ 140737488355328) (hlo : lo ≤ w.heap.size)
    (h : ∀ g cap w', OwnS w' lo w'.heap.size e sz en (.slice (some ⟨g, 0, none⟩) (xs.length + 1) cap) (xs ++ [y]) → w.grownBy w' v.ownBlock → (v.ownBlock = some g ∨ g = w.heap.size) → g < w'.heap.size →
      wpList P ops Q rest (a.put o.dst (.slice (some ⟨g, 0, none⟩) (xs.length + 1) cap)) w') : wpList P ops Q (o :: rest) a w :=
  wpList_plain hgd fun _ hK => wp_one s x t ho lo hi e i z sz bytes ht hi0 hz hsize hby hzs hsz hen v xs y hone hs hown g0 c e0 hx hr h63 hbytes hlo fun g cap w' h1 h2 h3 h4 => hK _ _ (h g cap w' h1 h2 h3 h4)
/-- make([]E, 0, c). -/
theorem wp_make {o : Oper} {a : Act} {K : Act → World → Prop} {Q : Exit → Act → World → Prop} (x y : Operand) (t : TypeId) (ho : o.op = .makeSlice t x y)
    (lo : Nat) (e : TypeId) (i : TypeInfo) (z : Value) (sz : Nat) (ht : P.underlying t = some (.slice e)) (hi0 : P.info? e = some i) (hz : i.zero = some z) (hsize : i.size = sz)
    (kl kc : IntKind) (c : Nat) (hx : a.eval x = .int kl 0) (hy : a.eval y = .int kc (c : Int)) (hbytes : i.bytes * c ≤ 281474976710656) (h63 : c ≤ maxLen) (hlo : lo ≤ w.heap.size)
    (h : ∀ w', OwnS w' lo w'.heap.size e sz en (.slice (some ⟨w.heap.size, 0, none⟩) 0 c) [] → w.grownBy w' none → K (a.put o.dst (.slice (some ⟨w.heap.size, 0, none⟩) 0 c)) w') : Oper.wp P o a w K Q := by
  obtain ⟨w', hrun, hown, hg⟩ := run_make_own (P := P) w lo t e i z sz ht hi0 hz hsize kl kc c hbytes h63 hlo
  unfold Oper.wp execOp
  simp only [ho, Sem.run_bind, Sem.run_pure, Result.andThen_ok, hx, hy, hrun]
  exact h w' ⟨hown, fun g hg' => (hown.lt g hg').2⟩ hg
end
end Go.Proofs.YtlfdcefgelpgmaaGreatDoor.RegG
