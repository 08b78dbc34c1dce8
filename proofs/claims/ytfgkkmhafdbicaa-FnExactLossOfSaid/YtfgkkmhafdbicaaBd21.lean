/-
  All plays of a roll: of the program (allPlays). Conditions: each theorem's own.
-/
import Derived.Test.YtfgkkmhafdbicaaBd20
import Derived.Test.YtfgkkmhafdbicaaPlP5
set_option linter.unusedVariables false
set_option linter.unusedSimpArgs false
namespace Go.Proofs.Ytfgkkmhafdbicaa.Bd21
open Go.ChangeShapes Go.WideShapes Go.ChangeAt Go.RowKit Base Ints Own Clone RelG PlP Bd1 Bd4 Bd5 Bd6 Bd7 Bd7S Bd8 Bd9 Bd11 RegInv RegF RegG Seen Bd16 Bd17 Bd19 Bd20

/-- Not the block that v is appended in, and one of T. -/
def OffB (v : Value) (T : Nat → Prop) (b : Nat) : Prop := v.ownBlock ≠ some b ∧ T b
/-- A slice of the call's own, whose rows lean on blocks of T. -/
def OwnT {ρ α : Type} (K : Rel ρ α) (T : Nat → Prop) (w : World) (lo hi : Nat) (e : TypeId) (sz : Nat) (en : ρ → List Value) (v : Value) (xs : List α) : Prop :=
  ∃ rs, OwnS w lo hi e sz en v rs ∧ LsR K w (OffB v T) rs xs
theorem app_off {w w' : World} {T : Nat → Prop} {g n c : Nat} {v : Value} (hg : w.grownBy w' v.ownBlock) (hat : v.ownBlock = some g ∨ g = w.heap.size) {ρ α : Type} {K : Rel ρ α} {r : ρ} {x : α} (h : K.R w (OffB v T) r x) : K.R w' (OffB (.slice (some ⟨g, 0, none⟩) n c) T) r x := by
  have h1 : K.R w (fun b => OffB v T b ∧ b < w.heap.size) r x := K.weak h (fun b hb hl => ⟨hb, hl⟩)
  have h2 := K.keep h1 (Still.grown (S := fun b => OffB v T b ∧ b < w.heap.size) hg (fun k hk hn => hn.1.1 hk))
  refine K.weak h2 (fun b hb _ => ⟨?_, hb.1.2⟩)
  intro e
  simp [Value.ownBlock] at e
  subst e
  rcases hat with hat | hat
  · exact hb.1.1 hat
  · have := hb.2; omega
section
variable {ρ α : Type} {K : Rel ρ α} {T : Nat → Prop} {w w' : World} {lo hi sz : Nat} {e : TypeId} {en : ρ → List Value} {v : Value} {xs : List α}
theorem OwnT.below (h : OwnT K T w lo w.heap.size e sz en v xs) (hb : Below w.heap.size w w') : OwnT K T w' lo w'.heap.size e sz en v xs := by
  obtain ⟨rs, h1, h2⟩ := h
  exact ⟨rs, (h1.below hb (Nat.le_refl _)).more hb.size, h2.keep (.below hb)⟩
theorem OwnT.nil_ (K : Rel ρ α) (T : Nat → Prop) (w : World) (lo hi : Nat) (e : TypeId) (sz : Nat) (en : ρ → List Value) : OwnT K T w lo hi e sz en (.slice none 0 0) [] :=
  ⟨[], OwnS.nil_ _ _ _ _ _ _, LsR.nil _ _ _⟩
theorem OwnT.low {g : Nat} (h : OwnT K T w lo w.heap.size e sz en v xs) (hg : w.grownBy w' (some g)) (hl : g < lo) (hT : ¬ T g) : OwnT K T w' lo w'.heap.size e sz en v xs := by
  obtain ⟨rs, h1, h2⟩ := h
  exact ⟨rs, (h1.grown hg (fun k hk => by simp at hk; omega)).more hg.size, h2.keep (Still.grown hg (fun k hk hn => by simp at hk; subst hk; exact hT hn.2))⟩
theorem OwnT.snoc {rs : List ρ} {r : ρ} {x : α} {g n c : Nat} (h2 : LsR K w (OffB v T) rs xs) (hx : K.R w (OffB v T) r x) (ho : OwnS w' lo w'.heap.size e sz en (.slice (some ⟨g, 0, none⟩) n c) (rs ++ [r])) (hg : w.grownBy w' v.ownBlock) (hat : v.ownBlock = some g ∨ g = w.heap.size) :
    OwnT K T w' lo w'.heap.size e sz en (.slice (some ⟨g, 0, none⟩) n c) (xs ++ [x]) :=
  ⟨rs ++ [r], ho, LsR.snoc ⟨h2.1, fun i r' x' hr hx' => app_off hg hat (h2.2 i r' x' hr hx')⟩ (app_off hg hat hx)⟩
theorem OwnT.own {lo' : Nat} (h : OwnT K T w lo hi e sz en v xs) (hl : lo' ≤ lo) (hT : ∀ b, T b → lo' ≤ b) : OwnG K w lo' hi e sz en v xs := by
  obtain ⟨rs, h1, h2⟩ := h
  exact ⟨rs, h1.less hl, h2.weak (fun b hb _ => ⟨hb.1, hT b hb.2⟩)⟩
end
def Tl (lo gs b : Nat) : Prop := lo ≤ b ∧ b ≠ gs
/-- Plays under way: the set, the slice, the rows that they come from. -/
structure Al1 (w wr : World) (v : Vr) (lo gs : Nat) (av : Value) (AL : List (List (List Pl))) (vl : Value) (X : List Pl) (n m : Nat) : Prop where
  bel : Below w.heap.size w wr
  ge : w.heap.size ≤ lo ∧ lo ≤ gs
  sn : Seen wr gs X.length (keysP X)
  og : OwnT RelP (Tl lo gs) wr (gs + 1) wr.heap.size 65 3 enP vl X
  al : SlG RelR 1 en1 wr (OffB vl (Tl lo gs)) av AL
  co : Coll v n m X
structure Al2 (w wr : World) (v : Vr) (lo gs : Nat) (av : Value) (AL : List (List (List Pl))) (vl : Value) (X : List Pl) (n m : Nat) (pv : Value) (ps : List Pl) : Prop where
  k1 : Al1 w wr v lo gs av AL vl X n m
  pl : SlG RelP 3 enP wr (OffB vl (Tl lo gs)) pv ps
section
variable {w wr w' : World} {v : Vr} {lo gs : Nat} {av : Value} {AL : List (List (List Pl))} {vl : Value} {X : List Pl} {n m : Nat} {pv : Value} {ps : List Pl}
theorem Al1.below (h : Al1 w wr v lo gs av AL vl X n m) (hb : Below wr.heap.size wr w') : Al1 w w' v lo gs av AL vl X n m :=
  ⟨h.bel.trans (hb.mono h.bel.size), h.ge, h.sn.below hb, h.og.below hb, (relSl RelR 1 en1).keep h.al (.below hb), h.co⟩
theorem Al2.below (h : Al2 w wr v lo gs av AL vl X n m pv ps) (hb : Below wr.heap.size wr w') : Al2 w w' v lo gs av AL vl X n m pv ps :=
  ⟨h.k1.below hb, (relSl RelP 3 enP).keep h.pl (.below hb)⟩
theorem Al1.more {m' : Nat} (h : Al1 w wr v lo gs av AL vl X n m) (hm : m ≤ m') : Al1 w wr v lo gs av AL vl X n m' :=
  ⟨h.bel, h.ge, h.sn, h.og, h.al, h.co.more hm⟩
theorem Al1.blk (h : Al1 w wr v lo gs av AL vl X n m) : ∀ g, vl.ownBlock = some g → gs + 1 ≤ g ∧ g < wr.heap.size := fun g hg => by obtain ⟨rs, h1, -⟩ := h.og; exact h1.block g hg
end
theorem p25 {n : Nat} (h : n ≤ 4) : 25 ^ n ≤ 390625 := by
  have : n = 0 ∨ n = 1 ∨ n = 2 ∨ n = 3 ∨ n = 4 := by omega
  rcases this with rfl | rfl | rfl | rfl | rfl <;> omega
/-- One play, the board as it stands. -/
theorem one_play {W : World} {b : Bd} {n g1 lo : Nat} {A1 A2 : Option Addr} {c1 c2 : Nat} (h1 : RowB W g1 65 [.slice none 0 0, .slice A1 n c1, .slice A2 n c2]) (l1 : lo ≤ g1)
    (k1 : SlV 1 enI W (fun x => lo ≤ x ∧ x ≠ g1) (.slice A1 n c1) b.1) (k2 : SlV 1 enI W (fun x => lo ≤ x ∧ x ≠ g1) (.slice A2 n c2) b.2) : OwnG RelP W lo W.heap.size 65 3 enP (.slice (some ⟨g1, 0, none⟩) 1 1) [([], b)] := by
  have ni : ∀ x, (lo ≤ x ∧ x ≠ g1) → NotIn (.slice (some ⟨g1, 0, none⟩) 1 1) lo x := fun x hx => ⟨fun e => hx.2 (by simp [Value.ownBlock] at e; exact e.symm), hx.1⟩
  refine ⟨[((.slice none 0 0, .slice A1 n c1, .slice A2 n c2) : PRow)], RowB.own (xs := [((.slice none 0 0, .slice A1 n c1, .slice A2 n c2) : PRow)]) h1 enP_len l1 h1.lt (show 1 ≤ maxLen by decide), LsR.snoc (LsR.nil _ _ _) ?_⟩
  exact RelP.weak (S := fun x => lo ≤ x ∧ x ≠ g1) ⟨⟨OwnS.nil_ _ _ _ _ _ _, fun g h => by simp [Value.ownBlock] at h⟩, k1, k2⟩ (fun x hx _ => ni x hx)

set_option maxHeartbeats 8000000 in
set_option maxRecDepth 100000 in
theorem allPl_i (v : Vr) (b : Bd) (hb : Ok v b) (Ao At : Option Addr) (co ct : Nat) (x y : Int) (hx : 1 ≤ x ∧ x ≤ 6) (hy : 1 ≤ y ∧ y ≤ 6) (w : World) (ho : RdS w w.heap.size 1 enI Ao b.1) (ht : RdS w w.heap.size 1 enI At b.2) (hA : Ao = none → co = 0) (hT : At = none → ct = 0) :
    Calls Try.prog 37 #[.agg #[.int .i64 v.p, .int .i64 v.c, .int .i64 v.h, .int .i64 v.s], .agg #[.slice Ao b.1.length co, .slice At b.2.length ct], .agg #[.int .i64 x, .int .i64 y]] w fun e w' => ∃ vv, e = .returned (.tuple #[vv, .bool (allI v b x y).2]) ∧ OwnG RelP w' w.heap.size w'.heap.size 65 3 enP vv (allI v b x y).1 ∧ Below w.heap.size w w' := by
  obtain ⟨i3, hi3, hy0, hy1, hy2⟩ := info_parts infoP
  have HMT : Try.prog.underlying 87 = some (.map 9 4) := by first | exact Try.underlying87 | kernel_rfl
  have HMX : 10000000 < maxLen := by unfold maxLen; omega
  have HMK : ∀ w : World, (Instr.makeMap 87 none).run Try.prog w = .ok (.map (some w.heap.size)) (w.alloc (.map #[] 0)) := fun _ => rfl
  have hv := hb.v1
  obtain ⟨P, hP⟩ : ∃ P : Nat, v.p = (P : Int) := ⟨v.p.toNat, by omega⟩
  have HP := Lib.hid hP
  have hP24 : P ≤ 24 := by omega
  have HC := Lib.hid (show v.c ≤ 15 by omega)
  obtain ⟨n_, hn_⟩ : ∃ n, P + 1 = n := ⟨_, rfl⟩
  have eln : b.1.length = n_ := by have := hb.own.len; omega
  have emn : b.2.length = n_ := by have := hb.oth.len; omega
  have CQ := Lib.hid (fun (w9 : World) (h : Below w.heap.size w w9) => seqs_i v b hb Ao At co ct x y hx hy w9 ((ho.below h (Nat.le_refl _)).more h.size) ((ht.below h (Nat.le_refl _)).more h.size) hA hT)
  have CC := Lib.hid (fun (w9 : World) (h : Below w.heap.size w w9) => clone_i b.1 b.2 Ao At co ct w.heap.size w9 h.size (ho.below h (Nat.le_refl _)) (ht.below h (Nat.le_refl _)) hA hT (by omega) (by omega))
  rw [eln, emn] at CC CQ ⊢
  have HLN := Lib.hid eln
  have HMN := Lib.hid emn
  obtain ⟨RR, hRR⟩ : ∃ r, allI v b x y = r := ⟨_, rfl⟩
  have hE := allI_eq2 v b x y
  have hOD := ord_dice hx hy
  have hAL : (∀ R ∈ sqM v b (ordP x y), RowsOk v R ∧ 1 ≤ R.length ∧ R.length ≤ 5) ∧ (sqM v b (ordP x y)).length ≤ 2 := by
    refine ⟨fun R hR => ?_, by unfold sqM; rw [List.length_map]; exact hOD.2⟩
    obtain ⟨o, ho, rfl⟩ := List.mem_map.1 hR
    exact rowsP_ok hb (fun d hd => ((hOD.1 o ho).1 d hd).1) (hOD.1 o ho).2
  rw [hRR] at hE ⊢
  rw [show ((ordP x y).all fun o => (rowsP v b o).2) = sqF v b (ordP x y) from rfl, show ((ordP x y).map fun o => (rowsP v b o).1) = sqM v b (ordP x y) from rfl] at hE
  obtain ⟨AL, hALe⟩ : ∃ l, sqM v b (ordP x y) = l := ⟨_, rfl⟩
  obtain ⟨fits, hfi⟩ : ∃ f, sqF v b (ordP x y) = f := ⟨_, rfl⟩
  rw [hALe, hfi] at hE CQ
  rw [hALe] at hAL
  have HE := Lib.hid hE
  have HAL := Lib.hid hAL.1
  have hAL2 := hAL.2
  obtain ⟨L, hL⟩ : ∃ L, AL.length = L := ⟨_, rfl⟩
  have HL := Lib.hid hL
  rw [hL] at hAL2
  clear hb hv hP eln emn ho ht hA hT hRR hE hOD hAL hALe hfi hL hx hy
  go_enter Try.func37, Try.ntmps37
  go_upto_region 1 with (fail)
  refine wp_gen (fun W' => Below w.heap.size w W' ∧ RowB W' w.heap.size 32 [.int .i64 v.p, .int .i64 v.c, .int .i64 v.h, .int .i64 v.s] ∧ RowB W' (w.heap.size + 1) 34 [.slice Ao n_ co, .slice At n_ ct] ∧ RowB W' (w.heap.size + 2) 36 [.int .i64 x, .int .i64 y]) ⟨by go_grown, ((RowB.new _ _ _).alloc _).alloc _, RowB.alloc (RowB.new' _ _ _ (by simp)) _, RowB.new' _ _ _ (by simp)⟩ ?_
  rintro w1 ⟨hb1, rv, rb, rr⟩
  obtain ⟨q0, q1, q2, q3⟩ := rv.c4
  obtain ⟨z0, z1⟩ := rb.c2
  obtain ⟨r0, r1⟩ := rr.c2
  have hl1 := rv.lt
  have hl2 := rb.lt
  have hl3 := rr.lt
  go_wp2_with fail
  refine (CQ.out w1 hb1).mono ?_
  rintro e w2 ⟨av, rfl, hog, hb2⟩
  have rb := rb.below hb2 rb.lt
  have hb12 := hb1.trans (hb2.mono hb1.size)
  obtain ⟨Aa, ca, hav, -⟩ := Bd19.OwnG.form en1_len hog
  rw [HL.out] at hav
  subst hav
  have HA := hog.sl en1_len (Nat.le_refl _)
  have hlo : w.heap.size + 3 ≤ w1.heap.size := by omega
  have hs2 := hb2.size
  clear q0 q1 q2 q3 z0 z1 r0 r1 hl1 hl2 hl3 rv rr hb1 hb2 hog CQ
  cases fits
  case false =>
    obtain rfl : RR = ([], false) := by rw [HE.out]; rfl
    clear HA rb
    go_wp2_with fail
    go_ret2
    exact ⟨_, rfl, OwnG.nil_ _ _ _ _ _ _ _, hb12⟩
  have CU := Lib.hid (used_i AL _ _ w2 HA (fun R hR => ⟨(HAL.out R hR).2.1, by have := (HAL.out R hR).2.2; omega⟩))
  obtain ⟨n, hn⟩ : ∃ n, usedR AL 0 = n := ⟨_, rfl⟩
  have hn4 : n ≤ 4 := by rw [← hn]; exact usedR_bd AL 0 4 (by omega) (fun R hR => by have := (HAL.out R hR).2.2; omega)
  rw [hn] at CU HE
  go_wp2_with fail
  refine CU.out.mono ?_
  rintro e w3 ⟨rfl, rfl⟩
  by_cases h0 : n = 0
  · obtain rfl : RR = ([([], b)], true) := by rw [HE.out]; simp [h0]
    have e0 : ((n : Int) == 0) = true := by simp [h0]
    obtain ⟨z0, z1⟩ := rb.c2
    have hl2 := rb.lt
    clear CU HE HA hn h0
    go_wp2_with fail
    refine (CC.out w2 hb12).mono ?_
    rintro e w4 ⟨A1, c1, A2, c2, rfl, o1, o2, -, hb4⟩
    rw [HLN.out] at o1
    rw [HMN.out] at o2
    simp only [HLN.out, HMN.out]
    have hb14 := hb12.trans (hb4.mono hb12.size)
    have hs4 := hb4.size
    clear z0 z1 hl2 rb CC hb4
    go_wp2_with fail
    refine bp_gen (fun W' => Below w.heap.size w W' ∧ RowB W' w4.heap.size 65 [.slice none 0 0, .slice A1 n_ c1, .slice A2 n_ c2] ∧ SlV 1 enI W' (fun q => w.heap.size ≤ q ∧ q ≠ w4.heap.size) (.slice A1 n_ c1) b.1 ∧ SlV 1 enI W' (fun q => w.heap.size ≤ q ∧ q ≠ w4.heap.size) (.slice A2 n_ c2) b.2) ⟨by go_grown, RowB.new _ _ _, ?_, ?_⟩ ?_
    · have h1 := (OwnV.of o1 (Nat.le_refl _) (S := fun x => w2.heap.size ≤ x ∧ x < w4.heap.size) (fun x hx hx2 => ⟨hx, hx2⟩)).sl enI_len
      exact (relV 1 enI).weak ((relV 1 enI).keep h1 (.below (by go_grown))) (fun x hx _ => ⟨by omega, by omega⟩)
    · have h1 := (OwnV.of o2 (Nat.le_refl _) (S := fun x => w2.heap.size ≤ x ∧ x < w4.heap.size) (fun x hx hx2 => ⟨hx, hx2⟩)).sl enI_len
      exact (relV 1 enI).weak ((relV 1 enI).keep h1 (.below (by go_grown))) (fun x hx _ => ⟨by omega, by omega⟩)
    rintro W' ⟨hbW, rp, k1, k2⟩
    go_ret2
    exact ⟨_, rfl, one_play rp (by omega) k1 k2, hbW⟩
  have e0 : ((n : Int) == 0) = false := by simp [h0]
  have HRR : Hid (RR = (implGo n AL [], true)) := Lib.hid (by rw [HE.out]; simp [h0])
  have HN0 := Lib.hid h0
  clear CU HE hn CC HLN HMN h0
  go_upto_region 8 with (fail)
  refine wp_gen (fun W' => Al1 w W' v w1.heap.size w2.heap.size (.slice Aa L ca) AL (.slice none 0 0) [] n 0) ?_ ?_
  · exact ⟨by go_grown, ⟨by omega, hs2⟩, Seen.made _, OwnT.nil_ _ _ _ _ _ _ _ _, (relSl RelR 1 en1).keep ((relSl RelR 1 en1).weak HA (S' := OffB (.slice none 0 0) (Tl w1.heap.size w2.heap.size)) (fun x (hx : w1.heap.size ≤ x) hx2 => ⟨fun h => by simp [Value.ownBlock] at h, hx, by omega⟩)) (.below (by go_grown)), Coll.nil _ _⟩
  intro w3 K
  obtain ⟨lo, hlo1⟩ : ∃ l, w1.heap.size = l := ⟨_, rfl⟩
  obtain ⟨gs, hgs1⟩ : ∃ l, w2.heap.size = l := ⟨_, rfl⟩
  rw [hlo1] at K hlo hs2
  rw [hgs1] at K hs2 ⊢
  clear HA rb hlo1 hgs1 hb12
  go_wp2_with fail
  go_loopw [12, 38] (fun vl i wr => ∃ (k : Nat) (X : List Pl), k ≤ L ∧ i = .int .i64 (k : Int) ∧ Al1 w wr v lo gs (.slice Aa L ca) AL vl X n (k * 400000) ∧ Hid (implGo n (AL.drop k) X = implGo n AL [])) (fun _ i _ => L - (intOf i).toNat)
  case atStart => exact ⟨0, [], Nat.zero_le _, by first | rfl | trivial, K.more (by omega), Lib.hid rfl⟩
  case round =>
    obtain ⟨k, X, hk, rfl, K, HG⟩ := hrel
    by_cases hlt : k < L
    · obtain ⟨A5, c5, rs, e5, hrd5, hls5, -⟩ := K.al
      simp only [Value.slice.injEq] at e5
      obtain ⟨rfl, -, rfl⟩ := e5
      obtain ⟨b5, o5, r, rfl, -, hb5, hr, hc5⟩ := hrd5.at_ (i := k) (by rw [hls5.1, HL.out]; exact hlt)
      obtain ⟨R, hR, hRR⟩ := hls5.at_ hr
      obtain ⟨Ar, cr, rs2, rfl, hrd2, hls2, -⟩ := hRR
      have hc5 : wr.cell? ⟨b5, o5 + k, none⟩ = some (.slice Ar R.length cr) := by have := hc5 0 _ rfl; simpa using this
      have HRO := Lib.hid (HAL.out R (List.mem_of_getElem? hR))
      have HD := HG.out
      rw [drop_cons hR] at HD
      obtain ⟨M, hM⟩ : ∃ M, R.length = M := ⟨_, rfl⟩
      have HM := Lib.hid hM
      rw [hM] at hc5
      have hkn : (k : Int) < (L : Int) := by omega
      have hwk : IntKind.i64.wrap ((k : Int) + 1) = (k : Int) + 1 := IntWalk.i64_in _ (by omega)
      by_cases hMn : M ≤ n
      · have e1 : decide ((M : Int) ≤ (n : Int)) = true := decide_eq_true (by omega)
        rw [implGo_skip (by rw [hM]; exact hMn)] at HD
        have HG := Lib.hid HD
        have hMn' : (M : Int) ≤ (n : Int) := by omega
        clear HD hR hM hr hrd2 hls2 hrd5 hls5 hMn
        go_wp2_with fail
        go_roundw
        case rel => exact ⟨k + 1, X, by omega, by go_num, K.more (by omega), HG⟩
        case measure => simp [intOf]; omega
      · have hMn' : ¬ ((M : Int) ≤ (n : Int)) := by omega
        have hnM : (n : Int) < (M : Int) := by omega
        obtain ⟨ps, hps⟩ : ∃ ps, R.getD n [] = ps := ⟨_, rfl⟩
        have hRn : R[n]? = some ps := by rw [← hps, List.getD_eq_getElem?_getD, List.getElem?_eq_getElem (by omega)]; rfl
        have HPS := Lib.hid (HRO.out.1 n ps hRn)
        obtain ⟨b6, o6, r6, rfl, -, hb6, hr6, hc6⟩ := hrd2.at_ (i := n) (by rw [hls2.1, hM]; omega)
        have hc6 : wr.cell? ⟨b6, o6 + n, none⟩ = some r6 := by have := hc6 0 _ rfl; simpa using this
        have hP6 := hls2.2 n r6 ps hr6 hRn
        have hP6' := hP6
        obtain ⟨Ap, cp, rsp, rfl, -⟩ := hP6
        obtain ⟨N, hN⟩ : ∃ N, ps.length = N := ⟨_, rfl⟩
        have HNN := Lib.hid hN
        rw [hN] at hc6 hP6'
        have hN4 : N ≤ 390625 := by
          rw [← hN]
          exact Nat.le_trans HPS.out.2 (p25 hn4)
        have K2 : Al2 w wr v lo gs (.slice (some ⟨b5, o5, none⟩) L ca) AL u12 X n (k * 400000) (.slice Ap N cp) ps := ⟨K, hP6'⟩
        have HD1 := Lib.hid HD
        have HMn := Lib.hid hMn
        have HX0 : Hid (addAll X (ps.take 0) = X) := Lib.hid rfl
        have HPE := Lib.hid hps
        clear HD hR hM hr hrd2 hls2 hrd5 hls5 hMn hP6' hps hRn hr6 hN K HG
        go_wp2_with fail
        go_loopw [12, 51] (fun vl i wq => ∃ j : Nat, j ≤ N ∧ i = .int .i64 (j : Int) ∧ Al2 w wq v lo gs (.slice (some ⟨b5, o5, none⟩) L ca) AL vl (addAll X (ps.take j)) n (k * 400000 + j) (.slice Ap N cp) ps) (fun _ i _ => N - (intOf i).toNat)
        case atStart => exact ⟨0, Nat.zero_le _, by first | rfl | trivial, ⟨K2.k1.more (by omega), K2.pl⟩⟩
        case round =>
          obtain ⟨j, hj, rfl, K2⟩ := hrel
          by_cases hlj : j < N
          · obtain ⟨A7, c7, rs7, e7, hrd7, hls7, -⟩ := K2.pl
            simp only [Value.slice.injEq] at e7
            obtain ⟨rfl, -, rfl⟩ := e7
            obtain ⟨b7, o7, r7, rfl, -, hb7, hr7, hc7⟩ := hrd7.at_ (i := j) (by rw [hls7.1, HNN.out]; exact hlj)
            obtain ⟨p, hp, hR7⟩ := hls7.at_ hr7
            have HPO := Lib.hid (HPS.out.1 p (List.mem_of_getElem? hp))
            have HS := Lib.hid (show addAll X (ps.take (j + 1)) = addOne (addAll X (ps.take j)) p from by rw [takeS hp, addAll_snoc])
            obtain ⟨Y, hY⟩ : ∃ Y, addAll X (ps.take j) = Y := ⟨_, rfl⟩
            rw [hY] at K2 HS
            obtain ⟨sp, bd⟩ := p
            obtain ⟨r0, rl, rm⟩ := r7
            have HR7 := Lib.hid hR7
            have hR1 := hR7.2.1
            have hR2 := hR7.2.2
            simp only at hR1 hR2 HPO
            obtain ⟨A3, c3, rfl, k3, -⟩ := hR1
            obtain ⟨A4, c4, rfl, k4, -⟩ := hR2
            have hl3 : bd.1.length = n_ := by have := HPO.out.1.own.len; have := HP.out; omega
            have hl4 : bd.2.length = n_ := by have := HPO.out.1.oth.len; have := HP.out; omega
            have c0 : wr.cell? ⟨b7, o7 + j * 3, none⟩ = some r0 := hc7 0 _ rfl
            have c1 : wr.cell? ⟨b7, o7 + j * 3 + 1, none⟩ = some (.slice A3 n_ c3) := by have := hc7 1 _ rfl; simp only [hl3] at this; exact this
            have c2 : wr.cell? ⟨b7, o7 + j * 3 + 2, none⟩ = some (.slice A4 n_ c4) := by have := hc7 2 _ rfl; simp only [hl4] at this; exact this
            have h1c : r0.oneCell' = true := by
              obtain ⟨A0, c0', e0', -⟩ := hR7.1.1.form enSt_len
              simp only at e0'
              rw [e0']; rfl
            obtain ⟨A0, n0, c0', hr0⟩ : ∃ A n c, r0 = .slice A n c := by
              obtain ⟨A0, c0', e0', -⟩ := hR7.1.1.form enSt_len
              exact ⟨_, _, _, e0'⟩
            subst hr0
            have hji : (j : Int) < (N : Int) := by omega
            have hwj : IntKind.i64.wrap ((j : Int) + 1) = (j : Int) + 1 := IntWalk.i64_in _ (by omega)
            have KEY := Lib.hid (fun (w9 : World) (h : Below wr.heap.size wr w9) => key_i bd.1 bd.2 n_ hl3 hl4 (by omega) (fun i => ⟨HPO.out.1.own.nn i, by have := HPO.out.1.own.top i; have := HC.out; omega⟩) (fun i => ⟨HPO.out.1.oth.nn i, by have := HPO.out.1.oth.top i; have := HC.out; omega⟩) A3 A4 c3 c4 w9.heap.size w9 (Nat.le_refl _) ((k3.keep (.below h)).rd) ((k4.keep (.below h)).rd))
            have HL3 := Lib.hid hl3
            have HL4 := Lib.hid hl4
            rw [HL3.out, HL4.out] at HR7
            clear hY hp hR7 hc7 hrd7 hls7 hr7 k3 k4 hl3 hl4
            go_upto_region 16 with (fail)
            refine wp_gen (fun W' => Below wr.heap.size wr W' ∧ RowB W' wr.heap.size 65 [.slice A0 n0 c0', .slice A3 n_ c3, .slice A4 n_ c4]) ?_ ?_
            · exact ⟨(Below.refl _ _).alloc (Nat.le_refl _) _, RowB.new _ _ _⟩
            rintro w5 ⟨hb5', rp⟩
            have hblk := K2.k1.blk
            have hn16 : u12.ownBlock ≠ some wr.heap.size := fun h => by have := (hblk _ h).2; omega
            have hgs16 : gs < wr.heap.size := K2.k1.sn.lt
            have HR8 : RelP.R w5 (OffB u12 (Tl lo gs)) (.slice A0 n0 c0', .slice A3 n_ c3, .slice A4 n_ c4) (sp, bd) := RelP.keep HR7.out (.below hb5')
            have K2 := K2.below hb5'
            have KEY := Lib.hid (KEY.out w5 hb5')
            obtain ⟨g16, hg16⟩ : ∃ g, wr.heap.size = g := ⟨_, rfl⟩
            rw [hg16] at rp hn16 hgs16 ⊢
            clear c0 c1 c2 hb7 hb5' hg16 HR7 hblk
            obtain ⟨z0, z1, z2⟩ := rp.c3
            have hl1 := rp.lt
            go_wp2_with fail
            refine KEY.out.mono ?_
            rintro e w8 ⟨rfl, hb8⟩
            have K2 := K2.below hb8
            have rp := rp.below hb8 rp.lt
            have HR8 := RelP.keep HR8 (.below hb8)
            clear z0 z1 z2 hl1 hb8 KEY
            obtain ⟨key, hkey⟩ : ∃ key : ByteArray, (⟨(keyP (bd.1, bd.2)).toArray⟩ : ByteArray) = key := ⟨_, rfl⟩
            rw [hkey]
            have hkd : key.data.toList = keyP bd := by rw [← hkey]
            have hks : key.size ≤ maxLen := by rw [← hkey]; show (keyP bd).toArray.size ≤ maxLen; rw [List.size_toArray, key_len, HL3.out, HL4.out]; unfold maxLen; omega
            obtain ⟨x9, hx9⟩ : ∃ x, decide (key.data.toList ∈ keysP Y) = x := ⟨_, rfl⟩
            have HLK := K2.k1.sn.look HMT key hks x9 hx9
            have HXB := Lib.hid (show x9 = hasB Y bd from by rw [← hx9, hkd]; exact has_key (fun q hq => (K2.k1.co.ok q hq).1) HPO.out.1)
            have HKD := Lib.hid hkd
            have HKS := Lib.hid hks
            clear hkey hkd hks hx9
            cases x9
            case true =>
              have HS' : addAll X (ps.take (j + 1)) = Y := by rw [HS.out]; exact addOne_has HXB.out.symm
              have K9 : Al2 w w8 v lo gs (.slice (some ⟨b5, o5, none⟩) L ca) AL u12 (addAll X (ps.take (j + 1))) n (k * 400000 + (j + 1)) (.slice (some ⟨b7, o7, none⟩) N cp) ps := by
                rw [HS']
                exact ⟨K2.k1.more (by omega), K2.pl⟩
              clear K2 HS'
              go_wp2_with fail
              go_roundw
              case rel => exact ⟨j + 1, by omega, by go_num, K9⟩
              case measure => simp [intOf]; omega
            case false =>
              have hy25 : Y.length ≤ 10000000 := by have := K2.k1.co.len; omega
              go_wp2_with (refine Seen.wpL_put rfl _ _ _ _ rfl HMT rfl K2.k1.sn (Nat.lt_of_le_of_lt hy25 HMX) key HKS.out rfl rfl ?_)
              intro w10 hsn hg10
              have hgeL := K2.k1.ge
              have bel := K2.k1.bel.grown hg10 K2.k1.bel.size (fun k hk => by simp at hk; omega)
              have og := K2.k1.og.low hg10 (Nat.lt_succ_self _) (fun h => h.2 rfl)
              have hst : Still (OffB u12 (Tl lo gs)) w8 w10 := Still.grown hg10 (fun k hk hn => by simp at hk; subst hk; exact hn.2.2 rfl)
              have al := (relSl RelR 1 en1).keep K2.k1.al hst
              have pl := (relSl RelP 3 enP).keep K2.pl hst
              have HR8 := RelP.keep HR8 hst
              have rp := rp.grown hg10 (fun k hk => by simp at hk; omega)
              have hsn : Seen w10 gs (Y ++ [(sp, bd)]).length (keysP (Y ++ [(sp, bd)])) := by
                rw [List.length_append]
                refine Bd16.Seen.same hsn (fun q => ?_)
                rw [HKD.out]; unfold keysP; rw [List.map_append]; simp [or_comm]
              have HSN := Lib.hid (show addAll X (ps.take (j + 1)) = Y ++ [(sp, bd)] from by rw [HS.out]; exact addOne_new HXB.out.symm)
              have hco := K2.k1.co.add (p := (sp, bd)) HPO.out
              rw [addOne_new (show hasB Y bd = false from HXB.out.symm)] at hco
              obtain ⟨rs9, ho9, hl9⟩ := og
              have hrl := Lib.hid hl9.1
              have hu := ho9.block
              have hs10 : gs < w10.heap.size := hsn.lt
              clear K2 hg10 HLK HXB HKD HKS HS hst
              obtain ⟨z0, z1, z2⟩ := rp.c3
              have hl1 := rp.lt
              go_wp2_with (at_builtin; refine wpL_one rfl _ _ _ rfl (gs + 1) _ 65 i3 (.agg #[.slice none 0 0, .slice none 0 0, .slice none 0 0]) 3 72 Try.underlying55 hi3 hy0 hy1 hy2 rfl (by decide) enP_len u12 rs9 (.slice A0 n0 c0', .slice A3 n_ c3, .slice A4 n_ c4) (one_P _ ⟨rfl, rfl, rfl⟩) rfl (ho9.alloc _) w10.heap.size 1 65 rfl (RowB.new _ _ _) ?d1 ?d2 ?d3 ?_)
              case d1 => have := hrl.out; unfold maxLen; omega
              case d2 => have := hrl.out; omega
              case d3 => go_size
              intro g14 c14 w12 ho12 hg12 hat12 hlt12
              have hbA : Below w10.heap.size w10 (w10.alloc (.cells #[.slice A0 n0 c0', .slice A3 n_ c3, .slice A4 n_ c4] 65)) := by go_grown
              have hat12 : u12.ownBlock = some g14 ∨ g14 = (w10.alloc (.cells #[.slice A0 n0 c0', .slice A3 n_ c3, .slice A4 n_ c4] 65)).heap.size := by simpa using hat12
              have hgW : w10.grownBy w12 u12.ownBlock := below_grown (w := w10) hbA hg12
              have og := OwnT.snoc (hl9.keep (.below hbA)) (RelP.keep HR8 (.below hbA)) ho12 hg12 hat12
              have al := app_off (K := relSl RelR 1 en1) (n := rs9.length + 1) (c := c14) hg12 hat12 ((relSl RelR 1 en1).keep al (.below hbA))
              have pl := app_off (K := relSl RelP 3 enP) (n := rs9.length + 1) (c := c14) hg12 hat12 ((relSl RelP 3 enP).keep pl (.below hbA))
              have K9 : Al2 w w12 v lo gs (.slice (some ⟨b5, o5, none⟩) L ca) AL (.slice (some ⟨g14, 0, none⟩) (rs9.length + 1) c14) (addAll X (ps.take (j + 1))) n (k * 400000 + (j + 1)) (.slice (some ⟨b7, o7, none⟩) N cp) ps := by
                rw [HSN.out]
                exact ⟨⟨bel.grown hgW bel.size (fun g hg => by have := (hu g hg).1; omega), hgeL, hsn.grown hgW (fun hg => by have := (hu gs hg).1; omega), og, al, hco.more (by omega)⟩, pl⟩
              clear og al pl hgW hbA ho12 hg12 hat12 bel rp hsn ho9 hl9 hu HR8 z0 z1 z2 hl1
              go_wp2_with fail
              go_roundw
              case rel => exact ⟨j + 1, by omega, by go_num, K9⟩
              case measure => simp [intOf]; omega
          · obtain rfl : j = N := by omega
            have hnj : ¬ ((j : Int) < (j : Int)) := by omega
            have hall : ps.take j = ps := List.take_of_length_le (by rw [HNN.out]; exact Nat.le_refl _)
            rw [hall] at K2
            clear hall
            by_cases h1 : n = 1
            · have e1 : ((n : Int) == 1) = true := by simp [h1]
              have HF : addAll X ps = implGo n AL [] := by rw [← HPE.out, ← implGo_one (by rw [HM.out]; exact HMn.out) h1]; exact HD1.out
              have H1 := Lib.hid h1
              clear h1
              obtain rfl := HRR.out
              have og := K2.k1.og.own (lo' := w.heap.size) (by have := K2.k1.ge; omega) (fun b hb => by have := hb.1; have := K2.k1.ge; omega)
              rw [HF] at og
              have bel := K2.k1.bel
              clear K2 HF
              go_wp2_with fail
              go_ret2
              exact ⟨_, rfl, og, bel⟩
            · have e1 : ((n : Int) == 1) = false := by simp; omega
              have HG : Hid (implGo n (AL.drop (k + 1)) (addAll X ps) = implGo n AL []) := Lib.hid (by rw [← HPE.out, ← implGo_more (by rw [HM.out]; exact HMn.out) h1]; exact HD1.out)
              have H1 := Lib.hid h1
              have K9 : Al1 w wr v lo gs (.slice (some ⟨b5, o5, none⟩) L ca) AL u12 (addAll X ps) n ((k + 1) * 400000) := K2.k1.more (by omega)
              clear h1 K2
              go_wp2_with fail
              go_roundw
              case rel => exact ⟨k + 1, addAll X ps, by omega, by go_num, K9, HG⟩
              case measure => simp [intOf]; omega
    · obtain rfl : k = L := by omega
      have hnk : ¬ ((k : Int) < (k : Int)) := by omega
      have HF : X = implGo n AL [] := by rw [← HG.out, List.drop_of_length_le (by rw [HL.out]; exact Nat.le_refl _)]; rfl
      obtain rfl := HRR.out
      have og := K.og.own (lo' := w.heap.size) (by have := K.ge; omega) (fun b hb => by have := hb.1; have := K.ge; omega)
      rw [HF] at og
      have bel := K.bel
      clear K HG HF
      go_wp2_with fail
      go_ret2
      exact ⟨_, rfl, og, bel⟩
end Go.Proofs.Ytfgkkmhafdbicaa.Bd21
