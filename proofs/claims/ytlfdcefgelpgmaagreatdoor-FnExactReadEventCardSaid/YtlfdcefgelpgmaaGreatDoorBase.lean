/-
  Plain words on memory for the walks of this seat: a slice that reads as a list of elements of some cells each ('RdS'), a slice that the call itself made ('OwnS'), and how both outlast later worlds. Conditions: none beyond each theorem's own.
-/
import Derived.Below
import Derived.Laws.OwnMore
import Derived.Deep.AppendLies
import Derived.Deep.Draws
import Derived.Deep.Slices
import Derived.ChangeSlices
import Derived.ChangeArms
import Derived.Lib.SmallJoins
import Derived.Deep.Fields
import Derived.ChangeSame
import Derived.OpenShut
import Derived.Laws.MakeOwn
import Derived.Laws.NewBlocks
namespace Go.Proofs.YtlfdcefgelpgmaaGreatDoor.Base
open Go Go.RowKit Go.ChangeShapes Go.WideShapes Go.Deep

/-- An integer fits int64. -/
def I64 (x : Int) : Prop := -9223372036854775808 ≤ x ∧ x ≤ 9223372036854775807
theorem I64.of_wf {x : Int} (h : (Lit.int .i64 x).wf = true) : I64 x := by
  have := bounds_i64 h
  exact ⟨this.1, this.2⟩

def enI (x : Int) : List Value := [.int .i64 x]
def enB (x : Int) : List Value := [.int .u8 x]
def enS (x : ByteArray) : List Value := [.string x]

/-- A slice at address A with elements xs, each of sz cells, in a block below B. -/
def RdS {α : Type} (w : World) (B sz : Nat) (en : α → List Value) (A : Option Addr) (xs : List α) : Prop :=
  xs.length ≤ maxLen ∧ (0 < xs.length → ∃ b off, A = some ⟨b, off, none⟩ ∧ b < B ∧ ∀ i x, xs[i]? = some x → ∀ j u, (en x)[j]? = some u → w.cell? ⟨b, off + i * sz + j, none⟩ = some u)

section
variable {α : Type} {w w' : World} {B B' sz : Nat} {en : α → List Value} {A : Option Addr} {xs : List α}

theorem RdS.len (h : RdS w B sz en A xs) : xs.length ≤ 9223372036854775807 := by have := h.1; unfold maxLen at this; omega

theorem RdS.at_ (h : RdS w B sz en A xs) {i : Nat} (hi : i < xs.length) :
    ∃ b off x, A = some ⟨b, off, none⟩ ∧ b < B ∧ xs[i]? = some x ∧ ∀ j u, (en x)[j]? = some u → w.cell? ⟨b, off + i * sz + j, none⟩ = some u := by
  obtain ⟨b, off, rfl, hb, hc⟩ := h.2 (by omega)
  exact ⟨b, off, xs[i], rfl, hb, List.getElem?_eq_getElem hi, hc i _ (List.getElem?_eq_getElem hi)⟩

theorem RdS.keep (h : RdS w B sz en A xs) (hk : ∀ p : Addr, p.block < B → w'.cell? p = w.cell? p) : RdS w' B sz en A xs :=
  ⟨h.1, fun hn => by
    obtain ⟨b, off, e, hb, hc⟩ := h.2 hn
    exact ⟨b, off, e, hb, fun i x hx j u hu => (hk _ hb).trans (hc i x hx j u hu)⟩⟩
theorem RdS.more (h : RdS w B sz en A xs) (hB : B ≤ B') : RdS w B' sz en A xs :=
  ⟨h.1, fun hn => by
    obtain ⟨b, off, e, hb, hc⟩ := h.2 hn
    exact ⟨b, off, e, by omega, hc⟩⟩
theorem RdS.below (h : RdS w B sz en A xs) (hb : Below B' w w') (hB : B ≤ B') : RdS w' B sz en A xs := h.keep fun _ hp => hb.cell (by omega)

theorem rdI_at {xs : List Int} {k : IntKind} (h : RdS w B 1 (fun x : Int => [Value.int k x]) A xs) {i : Nat} (hi : i < xs.length) :
    ∃ b off x, A = some ⟨b, off, none⟩ ∧ b < B ∧ xs[i]? = some x ∧ w.cell? ⟨b, off + i, none⟩ = some (.int k x) := by
  obtain ⟨b, off, x, e, hb, hx, hc⟩ := h.at_ hi
  exact ⟨b, off, x, e, hb, hx, by simpa using hc 0 _ rfl⟩
end

/-- A slice of the call's own: nil, or at the head of a block from lo up to hi. -/
def OwnS {α : Type} (w : World) (lo hi : Nat) (e : TypeId) (sz : Nat) (en : α → List Value) (v : Value) (xs : List α) : Prop :=
  w.ownsRow lo e sz v xs.length (xs.flatMap en) ∧ ∀ g, v.ownBlock = some g → g < hi

theorem flatMap_len {α : Type} {en : α → List Value} {sz : Nat} (hen : ∀ x, (en x).length = sz) (xs : List α) : (xs.flatMap en).length = xs.length * sz := by
  induction xs with
  | nil => simp
  | cons x xs ih => simp [ih, hen, Nat.add_mul]; omega

theorem flatMap_at {α : Type} {en : α → List Value} {sz : Nat} (hen : ∀ x, (en x).length = sz) : ∀ (xs : List α) (i : Nat) (x : α), xs[i]? = some x → ∀ j u, (en x)[j]? = some u → (xs.flatMap en)[i * sz + j]? = some u := by
  intro xs
  induction xs with
  | nil => intro i x h; simp at h
  | cons y ys ih =>
    intro i x h j u hu
    have hj : j < (en x).length := (List.getElem?_eq_some_iff.1 hu).1
    rw [hen] at hj
    rw [List.flatMap_cons]
    cases i with
    | zero =>
      simp at h
      subst h
      rw [List.getElem?_append_left (by rw [hen]; omega)]
      simpa using hu
    | succ i =>
      simp at h
      rw [List.getElem?_append_right (by rw [hen, Nat.succ_mul]; omega), hen]
      have := ih i x h j u hu
      rw [← this]
      congr 1
      rw [Nat.succ_mul]; omega

section
variable {α : Type} {w w' : World} {lo hi sz : Nat} {e : TypeId} {en : α → List Value} {v : Value} {xs : List α}

theorem OwnS.below {B : Nat} (h : OwnS w lo hi e sz en v xs) (hb : Below B w w') (hB : hi ≤ B) : OwnS w' lo hi e sz en v xs := by
  refine ⟨⟨h.1.1, ?_⟩, h.2⟩
  rcases h.1.2 with hn | ⟨g, cap, cur, rfl, hbg, hgg, rest⟩
  · exact .inl hn
  · have hgh : g < hi := h.2 g rfl
    refine .inr ⟨g, cap, cur, rfl, hbg, ?_, rest⟩
    rw [hb.block g (by omega)]
    exact hgg

theorem OwnS.form (hen : ∀ x, (en x).length = sz) (h : OwnS w lo hi e sz en v xs) : ∃ A c, v = .slice A xs.length c ∧ RdS w hi sz en A xs := by
  rcases h.1.2 with ⟨rfl, hn⟩ | ⟨g, cap, cur, rfl, hbg, hgg, hnc, hcm, hcs, ht⟩
  · exact ⟨none, 0, by rw [hn], by rw [hn]; exact Nat.zero_le _, fun hp => by omega⟩
  · refine ⟨some ⟨g, 0, none⟩, cap, rfl, Nat.le_trans hnc hcm, fun _ => ⟨g, 0, rfl, h.2 g rfl, fun i x hx j u hu => ?_⟩⟩
    have h1 := flatMap_at hen xs i x hx j u hu
    rw [← ht] at h1
    rw [Nat.zero_add, cell_of_row w g (i * sz + j) cur e (0, 0) hgg]
    rw [List.getElem?_take] at h1
    split at h1
    · simpa using h1
    · cases h1
end

/-- A slice of integers that came in. -/
theorem rdI_open {H : Type} {enc : TypeId × Value → H} {P : Program} {w : World} {t e : TypeId} {k : IntKind} {fuel : Nat} {v : Value} {y : DataW H × List MemPlace}
    (ht : P.underlying t = some (.slice e)) (he : P.underlying e = some (.int k)) (hc : P.cellsOf e = 1)
    (h : DataW.trod enc P w 0 (fun _ => true) true fuel t [v] = some y) :
    ∃ A c xs, v = .slice A xs.length c ∧ RdS w w.heap.size 1 (fun x : Int => [Value.int k x]) A xs ∧ ∀ x ∈ xs, (Lit.int k x).wf = true := by
  rcases open_ints ht he hc h with ⟨hcs, _⟩ | ⟨a, len, cap, zs, hcs, _, hl, hm, hz, _, hcell, hwz⟩
  · simp at hcs
    subst hcs
    exact ⟨none, 0, [], rfl, ⟨Nat.zero_le _, fun hp => absurd hp (by simp)⟩, by simp⟩
  · simp at hcs
    subst hcs
    simp at hz
    have hlen : (zs.take len).length = len := by rw [List.length_take]; omega
    refine ⟨some a, cap, zs.take len, by rw [hlen], ⟨by rw [hlen]; omega, fun hp => ?_⟩, fun x hx => hwz x (List.mem_of_mem_take hx)⟩
    obtain ⟨b, off, spot⟩ := a
    have hc0 := hcell 0 (by omega)
    have hspot : spot = none := by simpa [Addr.add] using World.cell?_spot hc0
    subst hspot
    have hb : b < w.heap.size := World.block_lt_of_cell? w _ (by simpa [Addr.add] using hc0)
    refine ⟨b, off, rfl, hb, fun i x hx j u hu => ?_⟩
    have hil : i < len := by
      have := (List.getElem?_eq_some_iff.1 hx).1
      rw [hlen] at this
      exact this
    have hj : j = 0 := by
      have := (List.getElem?_eq_some_iff.1 hu).1
      simp at this
      exact this
    subst hj
    simp at hu
    subst hu
    have hci := hcell i (by omega)
    rw [List.getElem?_take, if_pos hil] at hx
    have hadd : (⟨b, off, none⟩ : Addr).add i = ⟨b, off + i, none⟩ := by unfold Addr.add; split <;> simp_all
    rw [hadd, List.getD_eq_getElem?_getD, hx] at hci
    simpa using hci

/-! ### Structs by value, and slices of structs, whose fields are one cell each -/
section
variable {H : Type} {enc : TypeId × Value → H} {P : Program} {w : World} {base : Nat} {spare : Nat → Bool} {held : Bool}

/-- Each field of a struct's cells, with its own reading. -/
def FieldsRead (enc : TypeId × Value → H) (P : Program) (w : World) (base : Nat) (spare : Nat → Bool) (held : Bool) (fs : Array Field) (cs : List Value) : Prop :=
  cs.length = fs.size ∧ ∀ (j : Nat) (f : Field), fs[j]? = some f → ∃ c fu y, cs[j]? = some c ∧ DataW.trod enc P w base spare held fu f.type [c] = some y

theorem fields_of {t : TypeId} {fs : Array Field} {fuel : Nat} {cs : List Value} {x : DataW H × List MemPlace} (hs : P.underlying t = some (.struct fs)) (hone : oneCellFields P fs = true) (hC : P.cellsOf t = fs.size)
    (h : DataW.trod enc P w base spare held fuel t cs = some x) : FieldsRead enc P w base spare held fs cs := by
  obtain ⟨xs, n, _, _, hlen, hxl, hf⟩ := DataW.trod_struct hs h
  rw [hC] at hlen
  refine ⟨hlen, fun j f hj => ?_⟩
  obtain ⟨ho, hk⟩ := hone_of hone j f hj
  have hjl : j < fs.size := (Array.getElem?_eq_some_iff.1 hj).1
  have h1 := hf j f hj
  rw [ho, hk, List.drop_eq_getElem_cons (by omega)] at h1
  exact ⟨cs[j]'(by omega), n, xs[j]'(by omega), List.getElem?_eq_getElem (by omega), h1.trans (List.getElem?_eq_getElem (by omega))⟩

theorem agg_open {r : Reach} {b0 : Nat} {t : TypeId} {fs : Array Field} {v : Value} {d : DataW H} {p : List MemPlace} (hs : P.underlying t = some (.struct fs)) (hone : oneCellFields P fs = true) (hC : P.cellsOf t = fs.size)
    (hv : Value.okWide P w r b0 t v) (h : DataW.Trod enc P w base spare held t v d p) :
    ∃ cs : List Value, v = .agg ⟨cs⟩ ∧ FieldsRead enc P w base spare held fs cs := by
  obtain ⟨⟨cs⟩, rfl, hsz⟩ := okWide_struct hs hv
  obtain ⟨fuel, hf⟩ := h
  exact ⟨cs, rfl, fields_of hs hone hC (by simpa [Value.cells] using hf)⟩

theorem slst_open {t e : TypeId} {fs : Array Field} {fuel : Nat} {v : Value} {y : DataW H × List MemPlace} (ht : P.underlying t = some (.slice e)) (he : P.underlying e = some (.struct fs))
    (hone : oneCellFields P fs = true) (hC : P.cellsOf e = fs.size) (h0 : 0 < fs.size) (h : DataW.trod enc P w 0 (fun _ => true) held fuel t [v] = some y) :
    ∃ (A : Option Addr) (c : Nat) (rows : List (List Value)), v = .slice A rows.length c ∧ RdS w w.heap.size fs.size (fun r : List Value => r) A rows ∧ ∀ r ∈ rows, FieldsRead enc P w 0 (fun _ => true) held fs r := by
  rcases open_slice ht h with ⟨hcs, _⟩ | ⟨a, len, cap, m, n, D, Pl, hcs, _, hl, hm, hmm, _, hi⟩
  · simp at hcs
    subst hcs
    exact ⟨none, 0, [], rfl, ⟨Nat.zero_le _, fun hp => absurd hp (by simp)⟩, by simp⟩
  · simp only [List.cons.injEq, and_true] at hcs
    simp only [if_true] at hmm
    subst hcs
    have hrow : ∀ i, i < len → ∃ cs' : List Value, (∀ j u, cs'[j]? = some u → w.cell? (a.add (i * fs.size + j)) = some u) ∧ FieldsRead enc P w 0 (fun _ => true) held fs cs' := by
      intro i hil
      obtain ⟨cs', hc, ht'⟩ := hi i (by omega)
      rw [hC] at hc
      obtain ⟨_, hcl, hat⟩ := World.cells?_some hc
      refine ⟨cs', fun j u hu => ?_, fields_of he hone hC ht'⟩
      have hj : j < fs.size := by rw [← hcl]; exact (List.getElem?_eq_some_iff.1 hu).1
      rw [← Go.Deep.add_add, hat j hj, hu]
    let f : Nat → List Value := fun i => if h : i < len then Classical.choose (hrow i h) else []
    have hfs : ∀ i (h : i < len), (∀ j u, (f i)[j]? = some u → w.cell? (a.add (i * fs.size + j)) = some u) ∧ FieldsRead enc P w 0 (fun _ => true) held fs (f i) := by
      intro i h
      have := Classical.choose_spec (hrow i h)
      simp only [f, dif_pos h]
      exact this
    refine ⟨some a, cap, (List.range len).map f, by simp, ⟨by simp; omega, fun hp => ?_⟩, fun r hr => ?_⟩
    · simp at hp
      obtain ⟨b, off, spot⟩ := a
      obtain ⟨h1, h2⟩ := hfs 0 hp
      have hc0 := h1 0 ((f 0)[0]'(by rw [h2.1]; exact h0)) (List.getElem?_eq_getElem _)
      have hspot : spot = none := by simpa [Addr.add] using World.cell?_spot hc0
      subst hspot
      have hb : b < w.heap.size := World.block_lt_of_cell? w _ (by simpa [Addr.add] using hc0)
      refine ⟨b, off, rfl, hb, fun i x hx j u hu => ?_⟩
      rw [List.getElem?_map] at hx
      have hil : i < len := by
        rcases Nat.lt_or_ge i len with h | h
        · exact h
        · rw [List.getElem?_eq_none (by simp; omega)] at hx; cases hx
      rw [List.getElem?_range hil] at hx
      simp at hx
      subst hx
      have := (hfs i hil).1 j u hu
      have hadd : (⟨b, off, none⟩ : Addr).add (i * fs.size + j) = ⟨b, off + i * fs.size + j, none⟩ := by unfold Addr.add; split <;> simp_all [Nat.add_assoc]
      rw [hadd] at this
      exact this
    · obtain ⟨i, hil, rfl⟩ := List.mem_map.1 hr
      exact (hfs i (List.mem_range.1 hil)).2
end

theorem map_of {α β : Type} {Q : α → Prop} {en : α → β} : ∀ (rows : List β), (∀ r ∈ rows, ∃ x, r = en x ∧ Q x) → ∃ xs : List α, rows = xs.map en ∧ ∀ x ∈ xs, Q x := by
  intro rows
  induction rows with
  | nil => intro _; exact ⟨[], rfl, by simp⟩
  | cons r rows ih =>
    intro h
    obtain ⟨xs, h1, h2⟩ := ih (fun r hr => h r (List.mem_cons_of_mem _ hr))
    obtain ⟨x, h3, h4⟩ := h r (List.mem_cons_self ..)
    exact ⟨x :: xs, by simp [h1, h3], by simp; exact ⟨h4, h2⟩⟩

theorem RdS.of_map {α : Type} {w : World} {B sz : Nat} {en : α → List Value} {A : Option Addr} {xs : List α} (h : RdS w B sz (fun r : List Value => r) A (xs.map en)) : RdS w B sz en A xs := by
  refine ⟨by simpa using h.1, fun hp => ?_⟩
  obtain ⟨b, off, e, hb, hc⟩ := h.2 (by simpa using hp)
  exact ⟨b, off, e, hb, fun i x hx j u hu => hc i (en x) (by rw [List.getElem?_map, hx]; rfl) j u hu⟩

theorem list1 {α : Type} {l : List α} (h : l.length = 1) : ∃ a, l = [a] := by
  match l, h with | [a], _ => exact ⟨a, rfl⟩
theorem list2 {α : Type} {l : List α} (h : l.length = 2) : ∃ a b, l = [a, b] := by
  match l, h with | [a, b], _ => exact ⟨a, b, rfl⟩
theorem list3 {α : Type} {l : List α} (h : l.length = 3) : ∃ a b c, l = [a, b, c] := by
  match l, h with | [a, b, c], _ => exact ⟨a, b, c, rfl⟩
theorem list4 {α : Type} {l : List α} (h : l.length = 4) : ∃ a b c d, l = [a, b, c, d] := by
  match l, h with | [a, b, c, d], _ => exact ⟨a, b, c, d, rfl⟩
theorem list5 {α : Type} {l : List α} (h : l.length = 5) : ∃ a b c d e, l = [a, b, c, d, e] := by
  match l, h with | [a, b, c, d, e], _ => exact ⟨a, b, c, d, e, rfl⟩
theorem list6 {α : Type} {l : List α} (h : l.length = 6) : ∃ a b c d e f, l = [a, b, c, d, e, f] := by
  match l, h with | [a, b, c, d, e, f], _ => exact ⟨a, b, c, d, e, f, rfl⟩

section
variable {H : Type} {enc : TypeId × Value → H} {P : Program} {w : World} {base : Nat} {spare : Nat → Bool} {held : Bool}
/-- Field j is an integer. -/
theorem FieldsRead.int {fs : Array Field} {cs : List Value} (h : FieldsRead enc P w base spare held fs cs) (j : Nat) {f : Field} {k : IntKind} (hj : fs[j]? = some f) (hk : P.underlying f.type = some (.int k)) :
    ∃ x, cs[j]? = some (.int k x) ∧ (Lit.int k x).wf = true := by
  obtain ⟨c, fu, y, hc, hy⟩ := h.2 j f hj
  obtain ⟨x, hx, _, hwf⟩ := DataW.trod_int hk hy
  simp at hx
  exact ⟨x, by rw [hc, hx], hwf⟩
theorem FieldsRead.bool {fs : Array Field} {cs : List Value} (h : FieldsRead enc P w base spare held fs cs) (j : Nat) {f : Field} (hj : fs[j]? = some f) (hk : P.underlying f.type = some .bool) :
    ∃ x, cs[j]? = some (.bool x) := by
  obtain ⟨c, fu, y, hc, hy⟩ := h.2 j f hj
  obtain ⟨x, hx, _⟩ := DataW.trod_bool hk hy
  simp at hx
  exact ⟨x, by rw [hc, hx]⟩
theorem FieldsRead.ints {fs : Array Field} {cs : List Value} {e : TypeId} (h : FieldsRead enc P w 0 (fun _ => true) true fs cs) (j : Nat) {f : Field} {k : IntKind} (hj : fs[j]? = some f) (hk : P.underlying f.type = some (.slice e)) (he : P.underlying e = some (.int k)) (hC : P.cellsOf e = 1) :
    ∃ A c xs, cs[j]? = some (.slice A xs.length c) ∧ RdS w w.heap.size 1 (fun x : Int => [Value.int k x]) A xs ∧ ∀ x ∈ xs, (Lit.int k x).wf = true := by
  obtain ⟨c, fu, y, hc, hy⟩ := h.2 j f hj
  obtain ⟨A, c', xs, rfl, h1, h2⟩ := rdI_open hk he hC hy
  exact ⟨A, c', xs, hc, h1, h2⟩
end

def enI2 (x : Int × Int) : List Value := [.int .i64 x.1, .int .i64 x.2]
def enI3 (x : Int × Int × Int) : List Value := [.int .i64 x.1, .int .i64 x.2.1, .int .i64 x.2.2]
def enI4 (x : Int × Int × Int × Int) : List Value := [.int .i64 x.1, .int .i64 x.2.1, .int .i64 x.2.2.1, .int .i64 x.2.2.2]
def WfI2 (x : Int × Int) : Prop := (Lit.int .i64 x.1).wf = true ∧ (Lit.int .i64 x.2).wf = true
def WfI3 (x : Int × Int × Int) : Prop := (Lit.int .i64 x.1).wf = true ∧ (Lit.int .i64 x.2.1).wf = true ∧ (Lit.int .i64 x.2.2).wf = true
def WfI4 (x : Int × Int × Int × Int) : Prop := (Lit.int .i64 x.1).wf = true ∧ (Lit.int .i64 x.2.1).wf = true ∧ (Lit.int .i64 x.2.2.1).wf = true ∧ (Lit.int .i64 x.2.2.2).wf = true
theorem enI_len (x : Int) : (enI x).length = 1 := rfl
theorem enB_len (x : Int) : (enB x).length = 1 := rfl
theorem enI2_len (x : Int × Int) : (enI2 x).length = 2 := rfl
theorem enI3_len (x : Int × Int × Int) : (enI3 x).length = 3 := rfl
theorem enI4_len (x : Int × Int × Int × Int) : (enI4 x).length = 4 := rfl

section
variable {H : Type} {enc : TypeId × Value → H} {P : Program} {w : World} {base : Nat} {spare : Nat → Bool} {held : Bool}
theorem rd_i2 {f0 f1 : Field} {r : List Value} (h : FieldsRead enc P w base spare held #[f0, f1] r) (k0 : P.underlying f0.type = some (.int .i64)) (k1 : P.underlying f1.type = some (.int .i64)) :
    ∃ x, r = enI2 x ∧ WfI2 x := by
  obtain ⟨c0, c1, rfl⟩ := list2 (h.1.trans rfl)
  obtain ⟨x0, e0, w0⟩ := h.int 0 rfl k0
  obtain ⟨x1, e1, w1⟩ := h.int 1 rfl k1
  simp at e0 e1
  subst e0 e1
  exact ⟨(x0, x1), rfl, w0, w1⟩
theorem rd_i3 {f0 f1 f2 : Field} {r : List Value} (h : FieldsRead enc P w base spare held #[f0, f1, f2] r) (k0 : P.underlying f0.type = some (.int .i64)) (k1 : P.underlying f1.type = some (.int .i64)) (k2 : P.underlying f2.type = some (.int .i64)) :
    ∃ x, r = enI3 x ∧ WfI3 x := by
  obtain ⟨c0, c1, c2, rfl⟩ := list3 (h.1.trans rfl)
  obtain ⟨x0, e0, w0⟩ := h.int 0 rfl k0
  obtain ⟨x1, e1, w1⟩ := h.int 1 rfl k1
  obtain ⟨x2, e2, w2⟩ := h.int 2 rfl k2
  simp at e0 e1 e2
  subst e0 e1 e2
  exact ⟨(x0, x1, x2), rfl, w0, w1, w2⟩
theorem rd_i4 {f0 f1 f2 f3 : Field} {r : List Value} (h : FieldsRead enc P w base spare held #[f0, f1, f2, f3] r) (k0 : P.underlying f0.type = some (.int .i64)) (k1 : P.underlying f1.type = some (.int .i64)) (k2 : P.underlying f2.type = some (.int .i64)) (k3 : P.underlying f3.type = some (.int .i64)) :
    ∃ x, r = enI4 x ∧ WfI4 x := by
  obtain ⟨c0, c1, c2, c3, rfl⟩ := list4 (h.1.trans rfl)
  obtain ⟨x0, e0, w0⟩ := h.int 0 rfl k0
  obtain ⟨x1, e1, w1⟩ := h.int 1 rfl k1
  obtain ⟨x2, e2, w2⟩ := h.int 2 rfl k2
  obtain ⟨x3, e3, w3⟩ := h.int 3 rfl k3
  simp at e0 e1 e2 e3
  subst e0 e1 e2 e3
  exact ⟨(x0, x1, x2, x3), rfl, w0, w1, w2, w3⟩
end

theorem rdI2_at {w : World} {B : Nat} {A : Option Addr} {xs : List (Int × Int)} (h : RdS w B 2 enI2 A xs) {i : Nat} (hi : i < xs.length) :
    ∃ b off p q, A = some ⟨b, off, none⟩ ∧ b < B ∧ xs[i]? = some (p, q) ∧ w.cell? ⟨b, off + i * 2, none⟩ = some (.int .i64 p) ∧ w.cell? ⟨b, off + i * 2 + 1, none⟩ = some (.int .i64 q) := by
  obtain ⟨b, off, ⟨p, q⟩, e, hb, hx, hc⟩ := h.at_ hi
  exact ⟨b, off, p, q, e, hb, hx, hc 0 _ rfl, hc 1 _ rfl⟩
theorem rdI3_at {w : World} {B : Nat} {A : Option Addr} {xs : List (Int × Int × Int)} (h : RdS w B 3 enI3 A xs) {i : Nat} (hi : i < xs.length) :
    ∃ b off p q r, A = some ⟨b, off, none⟩ ∧ b < B ∧ xs[i]? = some (p, q, r) ∧ w.cell? ⟨b, off + i * 3, none⟩ = some (.int .i64 p) ∧ w.cell? ⟨b, off + i * 3 + 1, none⟩ = some (.int .i64 q) ∧ w.cell? ⟨b, off + i * 3 + 2, none⟩ = some (.int .i64 r) := by
  obtain ⟨b, off, ⟨p, q, r⟩, e, hb, hx, hc⟩ := h.at_ hi
  exact ⟨b, off, p, q, r, e, hb, hx, hc 0 _ rfl, hc 1 _ rfl, hc 2 _ rfl⟩
theorem rdI4_at {w : World} {B : Nat} {A : Option Addr} {xs : List (Int × Int × Int × Int)} (h : RdS w B 4 enI4 A xs) {i : Nat} (hi : i < xs.length) :
    ∃ b off p q r s, A = some ⟨b, off, none⟩ ∧ b < B ∧ xs[i]? = some (p, q, r, s) ∧ w.cell? ⟨b, off + i * 4, none⟩ = some (.int .i64 p) ∧ w.cell? ⟨b, off + i * 4 + 1, none⟩ = some (.int .i64 q) ∧ w.cell? ⟨b, off + i * 4 + 2, none⟩ = some (.int .i64 r) ∧ w.cell? ⟨b, off + i * 4 + 3, none⟩ = some (.int .i64 s) := by
  obtain ⟨b, off, ⟨p, q, r, s⟩, e, hb, hx, hc⟩ := h.at_ hi
  exact ⟨b, off, p, q, r, s, e, hb, hx, hc 0 _ rfl, hc 1 _ rfl, hc 2 _ rfl, hc 3 _ rfl⟩

/-! ### A block of the call's own, known whole -/
def RowB (w : World) (g : Nat) (e : TypeId) (cs : List Value) : Prop := w.heap[g]? = some (.cells ⟨cs⟩ e (0, 0))
section
variable {w w' : World} {g : Nat} {e : TypeId} {cs : List Value}
theorem RowB.lt (h : RowB w g e cs) : g < w.heap.size := (Array.getElem?_eq_some_iff.1 h).1
theorem RowB.cell (h : RowB w g e cs) (j : Nat) : w.cell? ⟨g, j, none⟩ = cs[j]? := by
  rw [cell_of_row w g j ⟨cs⟩ e (0, 0) h]; simp
theorem RowB.frozen (h : RowB w g e cs) (j : Nat) : w.frozen? ⟨g, j, none⟩ = false := by
  unfold RowB at h
  simp [World.frozen?, h]
theorem RowB.set (h : RowB w g e cs) (j : Nat) (u : Value) : RowB (w.setCell ⟨g, j, none⟩ u) g e (cs.set j u) := by
  unfold RowB at h ⊢
  simp [World.setCell, Array.getElem?_modify, h]
theorem RowB.below {B : Nat} (h : RowB w g e cs) (hb : Below B w w') (hg : g < B) : RowB w' g e cs := (hb.block g hg).trans h
theorem RowB.drew (h : RowB w g e cs) : RowB w.drew g e cs := h
theorem RowB.alloc (h : RowB w g e cs) (o : Obj) : RowB (w.alloc o) g e cs := (Below.heap_alloc w o g h.lt).trans h
theorem RowB.other (h : RowB w g e cs) {p : Addr} (hp : g ≠ p.block) (u : Value) : RowB (w.setCell p u) g e cs := (Below.heap_setCell w p u g hp).trans h
theorem RowB.of_own {lo sz n : Nat} {xs : List Value} (h : w.ownsRow lo e sz (.slice (some ⟨g, 0, none⟩) n n) n xs) : RowB w g e xs := by
  rcases h.2 with ⟨h', _⟩ | ⟨g', cap', cur, h', _, hg, _, _, hcs, ht⟩
  · simp at h'
  · simp only [Value.slice.injEq, Option.some.injEq, Addr.mk.injEq, and_true, true_and] at h'
    obtain ⟨rfl, rfl⟩ := h'
    have : cur.toList = xs := by rw [← ht, List.take_of_length_le (by simp; omega)]
    unfold RowB
    rw [hg, ← this]
theorem RowB.own {α : Type} {en : α → List Value} {sz lo hi : Nat} {xs : List α} (h : RowB w g e (xs.flatMap en)) (hen : ∀ x, (en x).length = sz) (hlo : lo ≤ g) (hhi : g < hi) (hm : xs.length ≤ maxLen) :
    OwnS w lo hi e sz en (.slice (some ⟨g, 0, none⟩) xs.length xs.length) xs := by
  refine ⟨⟨flatMap_len hen xs, .inr ⟨g, xs.length, ⟨xs.flatMap en⟩, rfl, hlo, h, Nat.le_refl _, hm, ?_, ?_⟩⟩, fun g' hg' => ?_⟩
  · simpa using flatMap_len hen xs
  · rw [List.take_of_length_le]
    rw [flatMap_len hen xs]; exact Nat.le_refl _
  · simp [Value.ownBlock] at hg'
    omega
end

theorem made_rep (z : Value) (n : Nat) : (madeCells #[z] n).toList = List.replicate n z := toList_madeCells_one z n

theorem take_succ {α : Type} (xs : List α) (k : Nat) (x : α) (h : xs[k]? = some x) : xs.take (k + 1) = xs.take k ++ [x] := by
  rw [List.take_add_one, h]; rfl

theorem fill1 {α : Type} {en : α → List Value} {z : Value} {xs : List α} {k m : Nat} {x : α} {u0 : Value} (hk : xs[k]? = some x) (hx : en x = [u0]) (hen : ∀ x, (en x).length = 1) :
    ((xs.take k).flatMap en ++ List.replicate (m + 1) z).set k u0 = (xs.take (k + 1)).flatMap en ++ List.replicate m z := by
  have hkl : k < xs.length := (List.getElem?_eq_some_iff.1 hk).1
  have hl : ((xs.take k).flatMap en).length = k := by rw [flatMap_len hen, List.length_take]; omega
  rw [take_succ xs k x hk, List.flatMap_append, List.set_append_right _ _ (by omega), hl]
  simp [hx, List.replicate_succ]

section
variable {α : Type} {w w' : World} {lo hi sz : Nat} {e : TypeId} {en : α → List Value} {v : Value} {xs : List α}
theorem OwnS.cases_ (h : OwnS w lo hi e sz en v xs) :
    (v = .slice none 0 0 ∧ xs = []) ∨
    ∃ g cap rest, v = .slice (some ⟨g, 0, none⟩) xs.length cap ∧ lo ≤ g ∧ g < hi ∧ RowB w g e (xs.flatMap en ++ rest) ∧ xs.length ≤ cap ∧ cap ≤ maxLen ∧ xs.length * sz + rest.length = cap * sz := by
  rcases h.1.2 with ⟨rfl, hn⟩ | ⟨g, cap, cur, rfl, hbg, hgg, hnc, hcm, hcs, ht⟩
  · exact .inl ⟨rfl, List.eq_nil_of_length_eq_zero hn⟩
  · refine .inr ⟨g, cap, cur.toList.drop (xs.length * sz), rfl, hbg, h.2 g rfl, ?_, hnc, hcm, ?_⟩
    · unfold RowB
      rw [← ht, List.take_append_drop]
      exact hgg
    · have hle : xs.length * sz ≤ cap * sz := Nat.mul_le_mul_right _ hnc
      simp [hcs]; omega
theorem OwnS.mk_ {g cap : Nat} {rest : List Value} (hen : ∀ x, (en x).length = sz) (h : RowB w g e (xs.flatMap en ++ rest)) (hlo : lo ≤ g) (hhi : g < hi) (hnc : xs.length ≤ cap) (hcm : cap ≤ maxLen) (hl : xs.length * sz + rest.length = cap * sz) :
    OwnS w lo hi e sz en (.slice (some ⟨g, 0, none⟩) xs.length cap) xs := by
  refine ⟨⟨flatMap_len hen xs, .inr ⟨g, cap, ⟨xs.flatMap en ++ rest⟩, rfl, hlo, h, hnc, hcm, ?_, ?_⟩⟩, fun g' hg' => ?_⟩
  · simp only [List.size_toArray, List.length_append, flatMap_len hen]; exact hl
  · rw [← flatMap_len hen xs]; simp
  · simp [Value.ownBlock] at hg'
    omega
theorem OwnS.nil_ (w : World) (lo hi : Nat) (e : TypeId) (sz : Nat) (en : α → List Value) : OwnS w lo hi e sz en (.slice none 0 0) [] :=
  ⟨World.ownsRow_nil w lo e sz, fun g hg => by simp [Value.ownBlock] at hg⟩
/-- Behind writes into one block that is not this slice's. -/
theorem OwnS.grown {row : Option Nat} (h : OwnS w lo hi e sz en v xs) (hg : w.grownBy w' row) (hr : ∀ g, row = some g → g < lo ∨ hi ≤ g) : OwnS w' lo hi e sz en v xs := by
  refine ⟨h.1.kept hg ?_, h.2⟩
  cases hv : v.ownBlock with
  | none => exact .inl rfl
  | some g =>
    refine .inr (fun e => ?_)
    have h1 := h.2 g hv
    have h2 := (h.1.lt g hv).1
    rcases hr g e.symm with h3 | h3 <;> omega
theorem OwnS.more {hi' : Nat} (h : OwnS w lo hi e sz en v xs) (hh : hi ≤ hi') : OwnS w lo hi' e sz en v xs := ⟨h.1, fun g hg => by have := h.2 g hg; omega⟩
theorem OwnS.less {lo' : Nat} (h : OwnS w lo hi e sz en v xs) (hh : lo' ≤ lo) : OwnS w lo' hi e sz en v xs := by
  refine ⟨⟨h.1.1, ?_⟩, h.2⟩
  rcases h.1.2 with hn | ⟨g, cap, cur, rfl, hbg, rest⟩
  · exact .inl hn
  · exact .inr ⟨g, cap, cur, rfl, by omega, rest⟩
theorem OwnS.block (h : OwnS w lo hi e sz en v xs) : ∀ g, v.ownBlock = some g → lo ≤ g ∧ g < hi := fun g hg => ⟨(h.1.lt g hg).1, h.2 g hg⟩
end
theorem grownBy_setCell (w : World) (g j : Nat) (u : Value) : w.grownBy (w.setCell ⟨g, j, none⟩ u) (some g) :=
  ⟨rfl, rfl, rfl, by simp [World.setCell], fun k _ hk => Below.heap_setCell _ _ _ _ (fun e => hk (by simp [e]))⟩
theorem grownBy_trans {a b c : World} {row : Option Nat} (h : a.grownBy b row) (k : b.grownBy c row) : a.grownBy c row :=
  ⟨k.os.trans h.os, k.tape.trans h.tape, k.output.trans h.output, Nat.le_trans h.size k.size, fun i hi hr => (k.block i (Nat.lt_of_lt_of_le hi h.size) hr).trans (h.block i hi hr)⟩
theorem grownBy_refl (w : World) (row : Option Nat) : w.grownBy w row := ⟨rfl, rfl, rfl, Nat.le_refl _, fun _ _ _ => rfl⟩

/-- The marks k, k + 1, .. of n cells. -/
def marks (k n : Nat) : List Int := (List.range n).map fun i => ((k + i : Nat) : Int)
theorem marks_len (k n : Nat) : (marks k n).length = n := by simp [marks]
theorem marks_at (k n i : Nat) (h : i < n) : (marks k n)[i]? = some ((k + i : Nat) : Int) := by simp [marks, h]
theorem marks_succ (k n : Nat) : marks k (n + 1) = marks k n ++ [((k + n : Nat) : Int)] := by simp [marks, List.range_succ]
theorem set_at {α : Type} (p s : List α) (z u : α) {i : Nat} (h : p.length = i) : (p ++ z :: s).set i u = p ++ u :: s := by
  subst h; simp

/-- Behind a call that only makes blocks: all elder cells read as before (two rules for the walk). -/
theorem bcell {B : Nat} {W W1 : World} (hb : Below B W W1) : (∀ b o, b < B → W1.cell? ⟨b, o, none⟩ = W.cell? ⟨b, o, none⟩) ∧ (∀ b o, b < B → W1.frozen? ⟨b, o, none⟩ = W.frozen? ⟨b, o, none⟩) :=
  ⟨fun b o h => hb.cell (p := ⟨b, o, none⟩) h, fun b o h => hb.frozen (p := ⟨b, o, none⟩) h⟩

theorem OwnS.setCell {α : Type} {w : World} {lo hi sz : Nat} {e : TypeId} {en : α → List Value} {v : Value} {xs : List α} (h : OwnS w lo hi e sz en v xs) {p : Addr} (hp : p.block < lo) (u : Value) : OwnS (w.setCell p u) lo hi e sz en v xs :=
  ⟨ownsRow_setCell_below h.1 hp u, h.2⟩
theorem OwnS.alloc {α : Type} {w : World} {lo hi sz : Nat} {e : TypeId} {en : α → List Value} {v : Value} {xs : List α} (h : OwnS w lo hi e sz en v xs) (o : Obj) : OwnS (w.alloc o) lo hi e sz en v xs :=
  ⟨h.1.alloc o, h.2⟩
theorem OwnS.drew {α : Type} {w : World} {lo hi sz : Nat} {e : TypeId} {en : α → List Value} {v : Value} {xs : List α} (h : OwnS w lo hi e sz en v xs) : OwnS w.drew lo hi e sz en v xs := h
theorem OwnS.drewN {α : Type} {w : World} {lo hi sz : Nat} {e : TypeId} {en : α → List Value} {v : Value} {xs : List α} (h : OwnS w lo hi e sz en v xs) (n : Nat) : OwnS (w.drewN n) lo hi e sz en v xs := h
theorem below_drewN {B : Nat} {a w : World} (h : Below B a w) (n : Nat) : Below B a (w.drewN n) := ⟨h.os, h.tape, h.output, h.size, h.block⟩
theorem size_drewN (w : World) (n : Nat) : (w.drewN n).heap.size = w.heap.size := rfl
/-- Two calls one after the other. -/
theorem Below.then_ {B B' : Nat} {a b c : World} (h : Below B a b) (k : Below B' b c) (hB : B ≤ B') : Below B a c := h.trans (k.mono hB)

/-! ### A box (a variable of the call's own) and its cells, one by one -/
theorem RowB.new (w : World) (e : TypeId) (cs : List Value) : RowB (w.alloc (.cells ⟨cs⟩ e)) w.heap.size e cs := heap_alloc_new w _
theorem RowB.drewN {w : World} {g : Nat} {e : TypeId} {cs : List Value} (h : RowB w g e cs) (n : Nat) : RowB (w.drewN n) g e cs := h
section
variable {w : World} {g : Nat} {t : TypeId} {a b c d e f : Value}
theorem RowB.c1 (h : RowB w g t [a]) : w.cell? ⟨g, 0, none⟩ = some a := h.cell 0
theorem RowB.c2 (h : RowB w g t [a, b]) : w.cell? ⟨g, 0, none⟩ = some a ∧ w.cell? ⟨g, 1, none⟩ = some b := ⟨h.cell 0, h.cell 1⟩
theorem RowB.c3 (h : RowB w g t [a, b, c]) : w.cell? ⟨g, 0, none⟩ = some a ∧ w.cell? ⟨g, 1, none⟩ = some b ∧ w.cell? ⟨g, 2, none⟩ = some c := ⟨h.cell 0, h.cell 1, h.cell 2⟩
theorem RowB.c4 (h : RowB w g t [a, b, c, d]) : w.cell? ⟨g, 0, none⟩ = some a ∧ w.cell? ⟨g, 1, none⟩ = some b ∧ w.cell? ⟨g, 2, none⟩ = some c ∧ w.cell? ⟨g, 3, none⟩ = some d := ⟨h.cell 0, h.cell 1, h.cell 2, h.cell 3⟩
theorem RowB.c5 (h : RowB w g t [a, b, c, d, e]) : w.cell? ⟨g, 0, none⟩ = some a ∧ w.cell? ⟨g, 1, none⟩ = some b ∧ w.cell? ⟨g, 2, none⟩ = some c ∧ w.cell? ⟨g, 3, none⟩ = some d ∧ w.cell? ⟨g, 4, none⟩ = some e := ⟨h.cell 0, h.cell 1, h.cell 2, h.cell 3, h.cell 4⟩
theorem RowB.c6 (h : RowB w g t [a, b, c, d, e, f]) : w.cell? ⟨g, 0, none⟩ = some a ∧ w.cell? ⟨g, 1, none⟩ = some b ∧ w.cell? ⟨g, 2, none⟩ = some c ∧ w.cell? ⟨g, 3, none⟩ = some d ∧ w.cell? ⟨g, 4, none⟩ = some e ∧ w.cell? ⟨g, 5, none⟩ = some f := ⟨h.cell 0, h.cell 1, h.cell 2, h.cell 3, h.cell 4, h.cell 5⟩
end

/-- The world at hand under a new name, of which only R is known. -/
theorem wp_gen {P : Program} {c : Code} {Q : Exit → Act → World → Prop} {a : Act} {W : World} (R : World → Prop) (h : R W) (k : ∀ W', R W' → c.wp P Q a W') : c.wp P Q a W := k W h

theorem OwnS.rd {α : Type} {w : World} {lo hi sz n c : Nat} {e : TypeId} {en : α → List Value} {A : Option Addr} {xs : List α} (hen : ∀ x, (en x).length = sz) (h : OwnS w lo hi e sz en (.slice A n c) xs) : RdS w hi sz en A xs := by
  obtain ⟨A', c', hv, hr⟩ := h.form hen
  simp only [Value.slice.injEq] at hv
  obtain ⟨rfl, _, _⟩ := hv
  exact hr
theorem OwnS.len {α : Type} {w : World} {lo hi sz n c : Nat} {e : TypeId} {en : α → List Value} {A : Option Addr} {xs : List α} (hen : ∀ x, (en x).length = sz) (h : OwnS w lo hi e sz en (.slice A n c) xs) : n = xs.length := by
  obtain ⟨A', c', hv, hr⟩ := h.form hen
  simp only [Value.slice.injEq] at hv
  exact hv.2.1
theorem RdS.drew {α : Type} {w : World} {B sz : Nat} {en : α → List Value} {A : Option Addr} {xs : List α} (h : RdS w B sz en A xs) : RdS w.drew B sz en A xs := h
theorem RdS.grown {α : Type} {w w' : World} {B sz : Nat} {en : α → List Value} {A : Option Addr} {xs : List α} {row : Option Nat} (h : RdS w B sz en A xs) (hg : w.grownBy w' row) (hB : B ≤ w.heap.size) (hr : ∀ g, row = some g → B ≤ g) : RdS w' B sz en A xs :=
  h.keep fun p hp => World.cell?_of_block (hg.block p.block (by omega) (fun e => by have := hr _ e.symm; omega))
theorem RowB.grown {w w' : World} {g : Nat} {e : TypeId} {cs : List Value} {row : Option Nat} (h : RowB w g e cs) (hg : w.grownBy w' row) (hr : ∀ k, row = some k → k ≠ g) : RowB w' g e cs :=
  (hg.block g h.lt (fun e' => hr _ e'.symm rfl)).trans h
theorem below_grown {w w1 w' : World} {row : Option Nat} (h : Below w.heap.size w w1) (hg : w1.grownBy w' row) : w.grownBy w' row :=
  ⟨hg.os.trans h.os, hg.tape.trans h.tape, hg.output.trans h.output, Nat.le_trans h.size hg.size, fun k hk hr => (hg.block k (Nat.lt_of_lt_of_le hk h.size) hr).trans (h.block k hk)⟩

/-- The same at a return. -/
theorem bp_gen {P : Program} {fn : Func} {R : Ending → World → Prop} {ex : Exit} {a : Act} {W : World} (S : World → Prop) (h : S W) (k : ∀ W', S W' → bodyPost P fn R ex a W') : bodyPost P fn R ex a W := k W h
theorem RowB.new' (w : World) (e : TypeId) (cs : List Value) {g : Nat} (hg : g = w.heap.size) : RowB (w.alloc (.cells ⟨cs⟩ e)) g e cs := by
  subst hg
  exact RowB.new w e cs
theorem ret1 {a c : Int} (h1 : a = c) : Ending.returned (.int .i64 a) = Ending.returned (.int .i64 c) := by rw [h1]

end Go.Proofs.YtlfdcefgelpgmaaGreatDoor.Base
