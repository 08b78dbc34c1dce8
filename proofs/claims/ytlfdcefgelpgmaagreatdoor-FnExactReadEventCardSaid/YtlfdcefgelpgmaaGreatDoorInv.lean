/-
  A region that draws its order, by an invariant: each operation is walked once, whatever has come up before it. Conditions: each theorem's own.
-/
import Derived.Test.YtlfdcefgelpgmaaGreatDoorBase
import Derived.Deep.RegionHeld3
set_option linter.unusedVariables false
namespace Go.Proofs.YtlfdcefgelpgmaaGreatDoor.RegInv
open Go Go.RowKit Base

/-- Every operation waits only for earlier ones. -/
def downs (ops : Array Oper) : Bool := (List.range ops.size).all fun i => match ops[i]? with | some o => o.after.toList.all (fun e => !Region.binds .any e || decide (e.on < i)) | none => true

/-- Operation k waits for operation j, directly or through others. -/
def waitsGo (ops : Array Oper) : Nat → Nat → Nat → Bool
  | 0, _, _ => false
  | n + 1, k, j => match ops[k]? with | some o => o.after.toList.any (fun e => Region.binds .any e && (e.on == j || waitsGo ops n e.on j)) | none => false
def waits (ops : Array Oper) (k j : Nat) : Bool := waitsGo ops ops.size k j
/-- With an operation all that it waits for. -/
def Closed (ops : Array Oper) (L : Nat → Prop) : Prop := ∀ k o, ops[k]? = some o → L k → ∀ e ∈ o.after, Region.binds .any e = true → L e.on
theorem waitsGo_closed {ops : Array Oper} {L : Nat → Prop} (hc : Closed ops L) (j : Nat) : ∀ (n k : Nat), waitsGo ops n k j = true → (∀ o, ops[k]? = some o → ∀ e ∈ o.after, Region.binds .any e = true → L e.on) → L j := by
  intro n
  induction n with
  | zero => intro k h; simp [waitsGo] at h
  | succ n ih =>
    intro k h hk
    unfold waitsGo at h
    split at h
    · rename_i o ho
      obtain ⟨e, he, h1⟩ := List.any_eq_true.1 h
      simp only [Bool.and_eq_true, Bool.or_eq_true, beq_iff_eq] at h1
      have hon := hk o ho e (Array.mem_toList_iff.1 he) h1.1
      rcases h1.2 with h2 | h2
      · rw [← h2]; exact hon
      · exact ih e.on h2 (fun o' ho' => hc e.on o' ho' hon)
    · cases h

section
variable {P : Program} {ops : Array Oper} {Q : Exit → Act → World → Prop}

/-- Operation i, walked where L tells what has come up. -/
def StepAt (P : Program) (ops : Array Oper) (Q : Exit → Act → World → Prop) (I : Act → (Nat → Prop) → Act → World → Prop) (a0 : Act) (i : Nat) (o : Oper) : Prop :=
  ∀ (L : Nat → Prop) (a : Act) (w : World), I a0 L a w → ¬ L i → (∀ j, waits ops i j = true → L j) → (∀ k j, waits ops k j = true → L k → L j) →
    ∀ K : Act → World → Prop, Hid (∀ a' w', I a0 (fun k => k = i ∨ L k) a' w' → K a' w') → if Region.wanted o (yielded ops a.tmps) = true then Oper.wp P o a w K Q else K (a.put o.dst undef) w

def StepsFrom (P : Program) (ops : Array Oper) (Q : Exit → Act → World → Prop) (I : Act → (Nat → Prop) → Act → World → Prop) (a0 : Act) (n : Nat) : Prop :=
  ∀ i, n ≤ i → ∀ o, ops[i]? = some o → StepAt P ops Q I a0 i o
theorem StepsFrom.cons {I : Act → (Nat → Prop) → Act → World → Prop} {a0 : Act} {n : Nat} {o : Oper} (ho : ops[n]? = some o) (h : StepAt P ops Q I a0 n o) (r : StepsFrom P ops Q I a0 (n + 1)) : StepsFrom P ops Q I a0 n := by
  intro i hi o' ho'
  by_cases e : i = n
  · subst e
    rw [ho] at ho'
    simp only [Option.some.injEq] at ho'
    subst ho'
    exact h
  · exact r i (by omega) o' ho'
theorem StepsFrom.nil {I : Act → (Nat → Prop) → Act → World → Prop} {a0 : Act} {n : Nat} (h : ops.size ≤ n) : StepsFrom P ops Q I a0 n := by
  intro i hi o ho
  have := (Array.getElem?_eq_some_iff.1 ho).1
  omega

theorem ready_none (hd : downs ops = true) {listed : Array Bool} (hs : listed.size = ops.size) (hr : Region.ready .any ops listed = []) : ∀ k, k < ops.size → listed.getD k false = true := by
  intro k
  induction k using Nat.strongRecOn with
  | _ k ih =>
    intro hk
    cases hl : listed.getD k false with
    | true => rfl
    | false =>
      exfalso
      have hmem : k ∈ Region.ready .any ops listed := by
        rw [mem_ready]
        refine ⟨?_, ops[k], Array.getElem?_eq_getElem hk, fun e he hb => ?_⟩
        · have hlt : k < listed.size := by omega
          simp only [Array.getD_eq_getD_getElem?, Array.getElem?_eq_getElem hlt, Option.getD_some] at hl ⊢
          exact hl
        · have h1 := List.all_eq_true.1 hd k (List.mem_range.2 hk)
          rw [Array.getElem?_eq_getElem hk] at h1
          have h2 := List.all_eq_true.1 h1 e (Array.mem_toList_iff.2 he)
          rw [hb] at h2
          have h3 : e.on < k := by simpa using h2
          exact ih e.on h3 (by omega)
      rw [hr] at hmem
      cases hmem

/-- How many have not come up. -/
def leftOf_ (listed : Array Bool) : Nat := listed.toList.countP (fun b => !b)
theorem left_set {listed : Array Bool} {i : Nat} (h : listed.getD i true = false) : leftOf_ (listed.setIfInBounds i true) + 1 = leftOf_ listed := by
  have hlt : i < listed.size := by
    rcases Nat.lt_or_ge i listed.size with h' | h'
    · exact h'
    · simp [Array.getElem?_eq_none h'] at h
  have hv : listed.toList[i]? = some false := by
    simp only [Array.getD_eq_getD_getElem?, Array.getElem?_eq_getElem hlt, Option.getD_some] at h
    simp [hlt, h]
  unfold leftOf_
  rw [Array.toList_setIfInBounds]
  generalize listed.toList = l at hv
  clear h hlt
  induction l generalizing i with
  | nil => simp at hv
  | cons x l ih =>
    cases i with
    | zero => simp at hv; subst hv; simp
    | succ i =>
      simp only [List.getElem?_cons_succ] at hv
      have := ih hv
      simp only [List.set_cons_succ, List.countP_cons]
      omega
theorem left_zero {listed : Array Bool} (h : leftOf_ listed = 0) : Region.ready .any ops listed = [] := by
  rw [List.eq_nil_iff_forall_not_mem]
  intro k hk
  obtain ⟨h1, _⟩ := mem_ready.1 hk
  have := left_set h1
  omega

theorem I_ext {I : Act → (Nat → Prop) → Act → World → Prop} {a0 : Act} {L L' : Nat → Prop} {a : Act} {w : World} (h : ∀ k, L k ↔ L' k) (hI : I a0 L a w) : I a0 L' a w := by
  have e : L = L' := funext fun k => propext (h k)
  rw [← e]; exact hI

theorem any_inv {I : Act → (Nat → Prop) → Act → World → Prop} {a0 : Act} (hd : downs ops = true) (hst : StepsFrom P ops Q I a0 0)
    (fin : ∀ L a w, I a0 L a w → (∀ k, k < ops.size → L k) → Q .normal a w) :
    ∀ (fuel : Nat) (listed : Array Bool) (a : Act) (w : World), listed.size = ops.size → leftOf_ listed ≤ fuel → Closed ops (fun k => listed.getD k false = true) → I a0 (fun k => listed.getD k false = true) a w → wpAny P .any ops Q fuel listed a w := by
  intro fuel
  induction fuel with
  | zero =>
    intro listed a w hs hl hC hI
    have hr := left_zero (ops := ops) (Nat.le_zero.1 hl)
    exact ⟨hr, fin _ _ _ hI (ready_none hd hs hr)⟩
  | succ fuel ih =>
    intro listed a w hs hl hC hI
    refine ⟨fun hr => fin _ _ _ hI (ready_none hd hs hr), fun i hi => ?_⟩
    obtain ⟨h1, o, ho, hall⟩ := mem_ready.1 hi
    have hlt : i < listed.size := by
      rcases Nat.lt_or_ge i listed.size with h' | h'
      · exact h'
      · simp [Array.getElem?_eq_none h'] at h1
    refine wpOp_step ho fun K' hK => hst i (Nat.zero_le _) o ho _ a w hI ?_ (fun j hj => waitsGo_closed hC j _ i hj (fun o' ho' => by rw [ho] at ho'; simp only [Option.some.injEq] at ho'; subst ho'; exact hall)) (fun k j hj hk => waitsGo_closed hC j _ k hj (fun o' ho' => hC k o' ho' hk)) K' (fun a' w' hI' => hK _ _ ?_)
    · simp only [Array.getD_eq_getD_getElem?, Array.getElem?_eq_getElem hlt, Option.getD_some] at h1 ⊢
      rw [h1]; simp
    · have hset := left_set h1
      refine ih _ _ _ (by simpa using hs) (by omega) ?_ (I_ext (fun k => ?_) hI')
      · intro k o' ho' hk e he hb
        refine getD_set_true ?_
        by_cases ek : k = i
        · subst ek
          rw [ho] at ho'
          simp only [Option.some.injEq] at ho'
          subst ho'
          exact hall e he hb
        · refine hC k o' ho' ?_ e he hb
          rw [getD_set_ne false (Ne.symm ek)] at hk
          exact hk
      · by_cases e : k = i
        · subst e; simp [hlt]
        · rw [getD_set_ne false (Ne.symm e)]; simp [e]

/-- **A region by an invariant**: I a0 L a w tells, where the operations of L have come up, what the slots and the world are like. -/
theorem region_inv {id : Nat} {a : Act} {w : World} (I : Act → (Nat → Prop) → Act → World → Prop) (hm : P.follows .mixedOrders = true) (hd : downs ops = true)
    (h0 : I a (fun _ => False) a w.drew) (hst : StepsFrom P ops Q I a 0) (fin : ∀ L a' w', I a L a' w' → (∀ k, k < ops.size → L k) → Q .normal a' w') : (Code.region id ops true).wp P Q a w := by
  refine wp_region_any hm (any_inv hd hst fin ops.size _ a _ (by simp) ?_ ?_ (I_ext (fun k => ?_) h0))
  · unfold leftOf_
    refine Nat.le_trans List.countP_le_length (by simp)
  · intro k o ho hk
    exfalso
    simp only [Array.getD_eq_getD_getElem?, Array.getElem?_replicate] at hk
    split at hk <;> simp at hk
  · simp only [Array.getD_eq_getD_getElem?, Array.getElem?_replicate]
    split <;> simp
end

/-- What a step of the region leaves standing: rows from block hz on, but block g. -/
def Kp (hz g : Nat) (w w' : World) : Prop := w.heap.size ≤ w'.heap.size ∧ ∀ b e cs, hz ≤ b → b ≠ g → RowB w b e cs → RowB w' b e cs
theorem Kp.refl (hz g : Nat) (w : World) : Kp hz g w w := ⟨Nat.le_refl _, fun _ _ _ _ _ h => h⟩
theorem Kp.trans {hz g : Nat} {a b c : World} (h : Kp hz g a b) (k : Kp hz g b c) : Kp hz g a c := ⟨Nat.le_trans h.1 k.1, fun b e cs h1 h2 h3 => k.2 b e cs h1 h2 (h.2 b e cs h1 h2 h3)⟩
theorem Kp.alloc (hz g : Nat) (w : World) (o : Obj) : Kp hz g w (w.alloc o) := ⟨by simp, fun _ _ _ _ _ h => h.alloc o⟩
theorem Kp.grown {hz g : Nat} {w w' : World} (h : w.grownBy w' (some g)) : Kp hz g w w' := ⟨h.size, fun b e cs _ h2 h3 => h3.grown h (fun k hk => by simp at hk; omega)⟩
theorem Kp.below {hz g : Nat} {w w' : World} (h : Below w.heap.size w w') : Kp hz g w w' := ⟨h.size, fun b e cs _ _ h3 => h3.below h h3.lt⟩
/-- A slice of its own block, known whole. -/
def Blk (hz g : Nat) (w : World) (v : Value) (n : Nat) (e : TypeId) (cs : List Value) : Prop := ∃ b, v = .slice (some ⟨b, 0, none⟩) n n ∧ hz ≤ b ∧ b ≠ g ∧ RowB w b e cs
theorem Blk.keep {hz g : Nat} {w w' : World} {v : Value} {n : Nat} {e : TypeId} {cs : List Value} (h : Blk hz g w v n e cs) (k : Kp hz g w w') : Blk hz g w' v n e cs := by
  obtain ⟨b, h1, h2, h3, h4⟩ := h; exact ⟨b, h1, h2, h3, k.2 _ _ _ h2 h3 h4⟩
/-- A pointer to an integer in a block known whole. -/
def Cel (hz g : Nat) (w : World) (v : Value) : Prop := ∃ (b j : Nat) (e : TypeId) (cs : List Value) (x : Int), v = .pointer (some ⟨b, j, none⟩) ∧ hz ≤ b ∧ b ≠ g ∧ RowB w b e cs ∧ cs[j]? = some (.int .i64 x)
theorem Cel.keep {hz g : Nat} {w w' : World} {v : Value} (h : Cel hz g w v) (k : Kp hz g w w') : Cel hz g w' v := by
  obtain ⟨b, j, e, cs, x, h1, h2, h3, h4, h5⟩ := h; exact ⟨b, j, e, cs, x, h1, h2, h3, k.2 _ _ _ h2 h3 h4, h5⟩
/-- A box. -/
def Bx_ (hz g : Nat) (w : World) (v : Value) (e : TypeId) (cs : List Value) : Prop := ∃ b, v = .pointer (some ⟨b, 0, none⟩) ∧ hz ≤ b ∧ b ≠ g ∧ RowB w b e cs
theorem Bx_.keep {hz g : Nat} {w w' : World} {v : Value} {e : TypeId} {cs : List Value} (h : Bx_ hz g w v e cs) (k : Kp hz g w w') : Bx_ hz g w' v e cs := by
  obtain ⟨b, h1, h2, h3, h4⟩ := h; exact ⟨b, h1, h2, h3, k.2 _ _ _ h2 h3 h4⟩
end Go.Proofs.YtlfdcefgelpgmaaGreatDoor.RegInv
