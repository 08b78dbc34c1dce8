/-
  The kept sequences of an order of dice: of the program (sequencesOf). Conditions: each theorem's own.
  The kept sequences of each order of a roll, and the number of dice that are used: of the program. Conditions: each theorem's own.
  All plays of a roll: of the program (allPlays). Conditions: each theorem's own.
-/
import Derived.Test.YtfgkkmhafdbicaaBd18
import Derived.Test.YtfgkkmhafdbicaaPlP

set_option linter.unusedVariables false
set_option linter.unusedSimpArgs false
namespace Go.Proofs.Ytfgkkmhafdbicaa.Bd19
open Go.ChangeShapes Go.WideShapes Go.ChangeAt Go.RowKit Base Ints Own Clone RelG PlP Bd1 Bd4 Bd5 Bd6 Bd7 Bd7S Bd8 Bd9 Bd11 RegInv RegF RegG Bd16 Bd17

/-- Rows of plays, in slices. -/
abbrev RelQ : Rel Value (List Pl) := relSl RelP 3 enP
theorem infoQ : (Try.prog.info? 55).map (fun i => (i.zero, i.size, i.bytes)) = some (some (.slice none 0 0), 1, 24) := by kernel_rfl
theorem rows_zero {v : Vr} {d : Int} {ds : List Int} {R : List (List Pl)} {f : Bool} (h : (nextP v d (R.getLastD [])).length = 0) : rowsGo v (d :: ds) R f = (R, f) := by
  simp only [rowsGo]; rw [if_pos h]
theorem rows_more {v : Vr} {d : Int} {ds : List Int} {R : List (List Pl)} {f : Bool} (h : ¬ (nextP v d (R.getLastD [])).length = 0) : rowsGo v (d :: ds) R f = rowsGo v ds (R ++ [nextP v d (R.getLastD [])]) (f && decide ((nextP v d (R.getLastD [])).length ≤ 3000)) := by
  simp only [rowsGo]; rw [if_neg h]
theorem drop_at {l : List Int} {i : Nat} (h : i < l.length) : l.drop i = at_ l i :: l.drop (i + 1) := by
  have h1 := at_get h
  rw [List.getElem?_eq_getElem h] at h1
  rw [List.drop_eq_getElem_cons h]; simp only [Option.some.injEq] at h1; rw [h1]
theorem last_of {R : List (List Pl)} {i : Nat} (h : R.length = i + 1) : R[i]? = some (R.getLastD []) := by
  rw [List.getLastD_eq_getLast?, List.getLast?_eq_getElem?, h, Nat.add_sub_cancel]
  rw [List.getElem?_eq_getElem (by omega)]; rfl
theorem OwnG.form {ρ α : Type} {K : Rel ρ α} {w : World} {lo hi sz : Nat} {e : TypeId} {en : ρ → List Value} {v : Value} {xs : List α} (hen : ∀ x, (en x).length = sz) (h : OwnG K w lo hi e sz en v xs) : ∃ A c, v = .slice A xs.length c ∧ (A = none → c = 0) := by
  obtain ⟨rs, h1, h2⟩ := h
  obtain ⟨A, c, e1, -⟩ := h1.form hen
  refine ⟨A, c, by rw [e1, h2.1], fun hA => ?_⟩
  rcases h1.cases_ with ⟨e2, _⟩ | ⟨g, cap, rest, e2, _⟩
  · rw [e1] at e2; simp only [Value.slice.injEq] at e2; exact e2.2.2
  · rw [e1, hA] at e2; simp only [Value.slice.injEq] at e2; exact absurd e2.1 (by simp)
/-- Rows under way. -/
structure Sq (w wr : World) (v : Vr) (vl : Value) (R : List (List Pl)) : Prop where
  bel : Below w.heap.size w wr
  rv : RowB wr w.heap.size 32 [.int .i64 v.p, .int .i64 v.c, .int .i64 v.h, .int .i64 v.s]
  og : OwnG RelQ wr (w.heap.size + 2) wr.heap.size 55 1 en1 vl R
theorem Sq.below {w wr w' : World} {v : Vr} {vl : Value} {R : List (List Pl)} (h : Sq w wr v vl R) (hb : Below wr.heap.size wr w') : Sq w w' v vl R :=
  ⟨h.bel.trans (hb.mono h.bel.size), h.rv.below hb h.rv.lt, (h.og.below_ hb).more hb.size⟩
theorem pow_le {i : Nat} (h : i ≤ 3) : 25 ^ i ≤ 20000 := by
  have : i = 0 ∨ i = 1 ∨ i = 2 ∨ i = 3 := by omega
  rcases this with rfl | rfl | rfl | rfl <;> decide
/-- The first row. -/
theorem first_row {W : World} {b : Bd} {n g1 g2 lo : Nat} {A1 A2 : Option Addr} {c1 c2 : Nat} (h1 : RowB W g1 65 [.slice none 0 0, .slice A1 n c1, .slice A2 n c2]) (h2 : RowB W g2 55 [.slice (some ⟨g1, 0, none⟩) 1 1]) (hg : g1 ≠ g2) (l1 : lo ≤ g1) (l2 : lo ≤ g2)
    (k1 : SlV 1 enI W (fun x => lo ≤ x ∧ x ≠ g2) (.slice A1 n c1) b.1) (k2 : SlV 1 enI W (fun x => lo ≤ x ∧ x ≠ g2) (.slice A2 n c2) b.2) : OwnG RelQ W lo W.heap.size 55 1 en1 (.slice (some ⟨g2, 0, none⟩) 1 1) [[([], b)]] := by
  have ni : ∀ x, (lo ≤ x ∧ x ≠ g2) → NotIn (.slice (some ⟨g2, 0, none⟩) 1 1) lo x := fun x hx => ⟨fun e => hx.2 (by simp [Value.ownBlock] at e; exact e.symm), hx.1⟩
  refine ⟨[.slice (some ⟨g1, 0, none⟩) 1 1], RowB.own (xs := [Value.slice (some ⟨g1, 0, none⟩) 1 1]) h2 en1_len l2 h2.lt (show 1 ≤ maxLen by decide), LsR.snoc (LsR.nil _ _ _) ?_⟩
  have ho : OwnS W 0 W.heap.size 65 3 enP (.slice (some ⟨g1, 0, none⟩) 1 1) [((.slice none 0 0, .slice A1 n c1, .slice A2 n c2) : PRow)] := RowB.own (xs := [((.slice none 0 0, .slice A1 n c1, .slice A2 n c2) : PRow)]) h1 enP_len (Nat.zero_le _) h1.lt (show 1 ≤ maxLen by decide)
  have hv : OwnV 65 3 enP W (fun x => lo ≤ x ∧ x ≠ g2) (.slice (some ⟨g1, 0, none⟩) 1 1) [((.slice none 0 0, .slice A1 n c1, .slice A2 n c2) : PRow)] := ⟨ho, fun g h => by simp [Value.ownBlock] at h; subst h; exact ⟨l1, hg⟩⟩
  obtain ⟨A, c, e1, hr, hc⟩ := hv.sl enP_len
  refine RelQ.weak (S := fun x => lo ≤ x ∧ x ≠ g2) ⟨A, c, _, e1, hr, ?_, hc⟩ (fun x hx _ => ni x hx)
  exact LsR.snoc (LsR.nil _ _ _) ⟨⟨OwnS.nil_ _ _ _ _ _ _, fun g h => by simp [Value.ownBlock] at h⟩, k1, k2⟩

set_option maxHeartbeats 4000000 in
set_option maxRecDepth 100000 in
theorem seqOf_i (v : Vr) (b : Bd) (hb : Ok v b) (Ao At : Option Addr) (co ct : Nat) (ds : List Int) (hds : ∀ d ∈ ds, 1 ≤ d ∧ d ≤ 6) (hlen : ds.length ≤ 4) (u : Value) (w : World) (ho : RdS w w.heap.size 1 enI Ao b.1) (ht : RdS w w.heap.size 1 enI At b.2) (hA : Ao = none → co = 0) (hT : At = none → ct = 0) (hu : SlV 1 enI w All u ds) :
    Calls Try.prog 83 #[.agg #[.int .i64 v.p, .int .i64 v.c, .int .i64 v.h, .int .i64 v.s], .agg #[.slice Ao b.1.length co, .slice At b.2.length ct], u] w fun e w' => ∃ vv, e = .returned (.tuple #[vv, .bool (rowsP v b ds).2]) ∧ OwnG RelQ w' w.heap.size w'.heap.size 55 1 en1 vv (rowsP v b ds).1 ∧ Below w.heap.size w w' := by
  obtain ⟨iQ, hiQ, hz0, hz1, hz2⟩ := info_parts infoQ
  have hv := hb.v1
  have hvV : okV v = true := okV_iff.2 hv
  obtain ⟨P, hP⟩ : ∃ P : Nat, v.p = (P : Int) := ⟨v.p.toNat, by omega⟩
  have HP := Lib.hid hP
  have hP24 : P ≤ 24 := by omega
  obtain ⟨n, hn⟩ : ∃ n, P + 1 = n := ⟨_, rfl⟩
  have eln : b.1.length = n := by have := hb.own.len; omega
  have emn : b.2.length = n := by have := hb.oth.len; omega
  have CC := Lib.hid (fun (w9 : World) (h : Below w.heap.size w w9) => clone_i b.1 b.2 Ao At co ct w.heap.size w9 h.size (ho.below h (Nat.le_refl _)) (ht.below h (Nat.le_refl _)) hA hT (by omega) (by omega))
  rw [eln, emn] at CC ⊢
  have HLN := Lib.hid eln
  have HMN := Lib.hid emn
  have HB := Lib.hid hb
  obtain ⟨Au, cu, rfl, hru, -⟩ := hu
  obtain ⟨N, hN⟩ : ∃ N, ds.length = N := ⟨_, rfl⟩
  have HN := Lib.hid hN
  rw [hN] at hlen ⊢
  have HRU := Lib.hid hru
  have HDS := Lib.hid (fun i (h : i < N) => hds _ (List.mem_of_getElem? (at_get (l := ds) (i := i) (by rw [hN]; exact h))))
  have HGO := Lib.hid (fun (w9 : World) (i : Nat) (hi : i ≤ 3) (xs : List Pl) (hxs : RowOk v i xs) (hxl : xs.length ≤ 25 ^ i) (d : Int) (hd : 1 ≤ d ∧ d ≤ 6) (uu : Value) (S0 : Nat → Prop) (hu : SlG RelP 3 enP w9 S0 uu xs) => goOn_i v hvV i (by omega) xs hxs (Nat.le_trans hxl (pow_le hi)) d hd uu S0 w9 hu)
  obtain ⟨RR, hRR⟩ : ∃ r, rowsP v b ds = r := ⟨_, rfl⟩
  rw [hRR]
  have HRR := Lib.hid hRR
  clear hb hv hvV hP eln emn ho ht hA hT hN hru hds hRR
  go_enter Try.func83, Try.ntmps83
  go_upto_region 1 with (fail)
  refine wp_gen (fun W' => Below w.heap.size w W' ∧ RowB W' w.heap.size 32 [.int .i64 v.p, .int .i64 v.c, .int .i64 v.h, .int .i64 v.s] ∧ RowB W' (w.heap.size + 1) 34 [.slice Ao n co, .slice At n ct]) ⟨by go_grown, (RowB.new _ _ _).alloc _, RowB.new' _ _ _ (by simp)⟩ ?_
  rintro w1 ⟨hb1, rv, rb⟩
  obtain ⟨r0, r1⟩ := rb.c2
  have hl2 := rb.lt
  go_wp2_with fail
  refine (CC.out w1 hb1).mono ?_
  rintro e w2 ⟨A1, c1, A2, c2, rfl, o1, o2, -, hb2⟩
  have rv := rv.below hb2 rv.lt
  have hs1 : w.heap.size + 2 ≤ w1.heap.size := by omega
  have hb12 := hb1.trans (hb2.mono hb1.size)
  have hs2 := hb2.size
  rw [HLN.out] at o1
  rw [HMN.out] at o2
  simp only [HLN.out, HMN.out]
  clear r0 r1 hl2 rb hb1 hb2 CC
  go_upto_region 2 with (fail)
  refine wp_gen (fun W' => Sq w W' v (.slice (some ⟨w2.heap.size + 1, 0, none⟩) 1 1) [[([], b)]]) ?_ ?_
  · refine ⟨by go_grown, (rv.alloc _).alloc _, first_row (g1 := w2.heap.size) (RowB.alloc (RowB.new _ _ _) _) (RowB.new' _ _ _ (by simp)) (by omega) (by omega) (by omega) ?_ ?_⟩
    · have h1 := (OwnV.of o1 (Nat.le_refl _) (S := fun x => w1.heap.size ≤ x ∧ x < w2.heap.size) (fun x hx hx2 => ⟨hx, hx2⟩)).sl enI_len
      exact (relV 1 enI).weak ((relV 1 enI).keep h1 (.below (by go_grown))) (fun x hx _ => ⟨by omega, by omega⟩)
    · have h1 := (OwnV.of o2 (Nat.le_refl _) (S := fun x => w1.heap.size ≤ x ∧ x < w2.heap.size) (fun x hx hx2 => ⟨hx, hx2⟩)).sl enI_len
      exact (relV 1 enI).weak ((relV 1 enI).keep h1 (.below (by go_grown))) (fun x hx _ => ⟨by omega, by omega⟩)
  intro w3 K
  clear rv o1 o2 hb12 hs1 hs2
  have hl1 := K.rv.lt
  go_wp2_with fail
  go_loopw [8, 9, 20] (fun vl fv i wr => ∃ (k : Nat) (R : List (List Pl)) (f : Bool), k ≤ N ∧ i = .int .i64 (k : Int) ∧ fv = .bool f ∧ Sq w wr v vl R ∧ Hid (R.length = k + 1) ∧ Hid (RowOk v k (R.getLastD []) ∧ (R.getLastD []).length ≤ 25 ^ k) ∧ Hid (rowsGo v (ds.drop k) R f = RR)) (fun _ _ i _ => N - (intOf i).toNat)
  case atStart => exact ⟨0, [[([], b)]], true, Nat.zero_le _, by first | rfl | trivial, by first | rfl | trivial, K, Lib.hid rfl, Lib.hid ⟨fun q hq => by simp at hq; subst hq; exact ⟨HB.out, rfl⟩, by simp⟩, HRR⟩
  case round =>
    obtain ⟨k, R, f, hk, rfl, rfl, K, HL, HO, HG⟩ := hrel
    clear hl1
    have hl1 := K.rv.lt
    by_cases hlt : k < N
    · obtain ⟨bu, ou, rfl, hbu, hcu⟩ := at_rd (HRU.out.rd.below K.bel (Nat.le_refl _)) (i := k) (by rw [HN.out]; exact hlt)
      have hkn : (k : Int) < (N : Int) := by omega
      have hwk : IntKind.i64.wrap ((k : Int) + 1) = (k : Int) + 1 := IntWalk.i64_in _ (by omega)
      have hD := HDS.out k hlt
      have HG' := Lib.hid HG.out
      rw [drop_at (by rw [HN.out]; exact hlt)] at HG'
      obtain ⟨d, hd⟩ : ∃ d, at_ ds k = d := ⟨_, rfl⟩
      rw [hd] at hcu hD HG'
      clear hd HG
      obtain ⟨rs, hrs1, hrs2⟩ := K.og
      obtain ⟨Av, cv, hvl, hrd⟩ := hrs1.form en1_len
      have hrl : rs.length = k + 1 := by rw [hrs2.1]; exact HL.out
      obtain ⟨L, hL⟩ : ∃ L, k + 1 = L := ⟨_, rfl⟩
      have HLL := Lib.hid hL
      rw [hrl, hL] at hvl
      subst hvl
      obtain ⟨bv, ov, r, rfl, hbv, hr, hcr⟩ := hrd.at_ (i := k) (by omega)
      have hcr := hcr 0 r rfl
      have hcr : wr.cell? ⟨bv, ov + k, none⟩ = some r := by simpa using hcr
      have HR := Lib.hid (hrs2.2 k r _ hr (last_of HL.out))
      have hk1 : IntKind.i64.wrap ((L : Int) - 1) = (k : Int) := by rw [IntWalk.i64_in _ (by omega)]; omega
      have hk2 : (k : Int) < (L : Int) := by omega
      clear hrs1 hrs2 hrd hr hrl hL
      obtain ⟨q0, q1, q2, q3⟩ := K.rv.c4
      go_wp2_with fail
      go_still_tail 8, (by kernel_rfl)
      go_wp2_with fail
      refine (HGO.out wr.drew k (by omega) _ HO.out.1 HO.out.2 d hD r _ (RelQ.keep HR.out (.below (Below.refl _ _).drew))).mono ?_
      rintro e w5 ⟨nv, rfl, hog, hb5⟩
      have K0 : Sq w wr.drew v _ R := K.below (Below.refl _ _).drew
      have hblk : ∀ g, (Value.slice (some ⟨bv, ov, none⟩) L cv).ownBlock = some g → w.heap.size + 2 ≤ g ∧ g < wr.heap.size := fun g hg => by obtain ⟨rs9, h9, -⟩ := K.og; exact h9.block g hg
      have hsz : w.heap.size + 2 ≤ wr.heap.size := by have := (hblk bv rfl); omega
      obtain ⟨nx, hnx⟩ : ∃ l, nextP v d (R.getLastD []) = l := ⟨_, rfl⟩
      have HNX := Lib.hid (show RowOk v (k + 1) nx ∧ nx.length ≤ 25 ^ (k + 1) from by
        rw [← hnx]
        refine ⟨next_ok hD.1 HO.out.1, Nat.le_trans next_len ?_⟩
        rw [Nat.pow_succ]
        exact Nat.mul_le_mul HO.out.2 (by have := HP.out; omega))
      rw [hnx] at hog
      have HNV : SlG RelP 3 enP w5 (NotIn (.slice (some ⟨bv, ov, none⟩) L cv) (w.heap.size + 2)) nv nx := RelQ.weak (hog.sl enP_len (Nat.le_refl _)) (fun x (hx : wr.heap.size ≤ x) _ => ⟨fun h => by have := (hblk x h).2; omega, by omega⟩)
      obtain ⟨An, cn, hnv, -⟩ := OwnG.form enP_len hog
      have K := K0.below hb5
      obtain ⟨M, hM⟩ : ∃ M, nx.length = M := ⟨_, rfl⟩
      rw [hM] at hnv
      subst hnv
      have HMM := Lib.hid hM
      have HNXE := Lib.hid hnx
      clear K0 hog hb5 HR hbu hcu hbv hcr hblk hM hnx q0 q1 q2 q3 hl1 hsz
      have hl1 := K.rv.lt
      by_cases h0 : M = 0
      · have e7 : ((M : Int) == 0) = true := by simp [h0]
        have HE : (R, f) = RR := by rw [← HG'.out, rows_zero (by rw [HNXE.out, HMM.out]; exact h0)]
        subst HE
        have hM0 := Lib.hid h0
        clear h0 HG' HNV
        go_wp2_with fail
        go_ret2
        exact ⟨_, rfl, K.og.less (by omega), K.bel⟩
      · have e7 : ((M : Int) == 0) = false := by simp [h0]
        have HE : Hid (rowsGo v (ds.drop (k + 1)) (R ++ [nx]) (f && decide (nx.length ≤ 3000)) = RR) := Lib.hid (by
          rw [← HG'.out, rows_more (by rw [HNXE.out, HMM.out]; exact h0), HNXE.out])
        have hM0 := Lib.hid h0
        obtain ⟨x, hx⟩ : ∃ x, decide ((M : Int) ≤ 3000) = x := ⟨_, rfl⟩
        have hx2 : decide (nx.length ≤ 3000) = x := by rw [← hx, HMM.out]; exact decide_eq_decide.2 (by omega)
        rw [hx2] at HE
        have HX := Lib.hid hx2
        have hnl : (R ++ [nx]).getLastD [] = nx := by simp
        have HK9 : Hid ((R ++ [nx]).length = k + 1 + 1) ∧ Hid (RowOk v (k + 1) ((R ++ [nx]).getLastD []) ∧ ((R ++ [nx]).getLastD []).length ≤ 25 ^ (k + 1)) := ⟨Lib.hid (by rw [List.length_append, HL.out]; rfl), by rw [hnl]; exact HNX⟩
        clear h0 HG' hx2 hnl
        obtain ⟨rs, hrs1, hrs2⟩ := K.og
        have hrl := Lib.hid (show rs.length = L from by rw [hrs2.1, ← HLL.out]; exact HL.out)
        have hrow := Lib.hid hrs1.block
        have HF : Hid ((f && x) = (f && x)) := Lib.hid rfl
        cases f
        all_goals
          go_wp2_with (at_builtin; refine wpL_one rfl _ _ _ rfl (w.heap.size + 2) _ 55 iQ (.slice none 0 0) 1 24 Try.underlying88 hiQ hz0 hz1 hz2 rfl (by decide) en1_len (.slice (some ⟨bv, ov, none⟩) L cv) rs (.slice An M cn) (by intro u hu; simp [en1] at hu; subst hu; rfl) rfl (hrs1.alloc _) w5.heap.size 1 55 rfl (RowB.new _ _ _) ?c1 ?c2 ?c3 ?_)
          case c1 => have := hrl.out; have := HLL.out; unfold maxLen; omega
          case c2 => have := hrl.out; have := HLL.out; omega
          case c3 => go_size
          intro g6 c6 w6 ho6 hg6 hat6 hlt6
          have hbA : Below w5.heap.size w5 (w5.alloc (.cells #[.slice An M cn] 55)) := by go_grown
          have hat6 : (Value.slice (some ⟨bv, ov, none⟩) L cv).ownBlock = some g6 ∨ g6 = (w5.alloc (.cells #[.slice An M cn] 55)).heap.size := by simpa using hat6
          have hgW := below_grown (w := w5) hbA hg6
          have og := own_snoc (hrs2.keep (.below hbA)) (RelQ.keep HNV (.below hbA)) ho6 hg6 hat6
          have hbl := hrow.out
          rw [hrl.out] at og
          have hrl2 := hrl.out
          have K9 : Sq w w6 v (.slice (some ⟨g6, 0, none⟩) (L + 1) c6) (R ++ [nx]) := ⟨K.bel.grown hgW K.bel.size (fun g hg => by have := (hbl g hg).1; omega), K.rv.grown hgW (fun g hg => by have := (hbl g hg).1; omega), og⟩
          clear og hgW hat6 hbA ho6 hg6 hbl K hrs1 hrs2 HNV
          rw [hrl2]
          clear hrl2
          go_wp2_with fail
          go_roundw
          case rel => exact ⟨k + 1, R ++ [nx], _, by omega, by go_num, by first | rfl | (rw [hx]; rfl) | simp, K9, HK9.1, HK9.2, by first | exact HE | (rw [← hx] at HE; exact HE) | simpa using HE⟩
          case measure => simp [intOf]; omega
    · obtain rfl : k = N := by omega
      have hnk : ¬ ((k : Int) < (k : Int)) := by omega
      have HE : (R, f) = RR := by rw [← HG.out, List.drop_of_length_le (by rw [HN.out]; exact Nat.le_refl _)]; rfl
      subst HE
      clear HG
      go_wp2_with fail
      go_ret2
      exact ⟨_, rfl, K.og.less (by omega), K.bel⟩
end Go.Proofs.Ytfgkkmhafdbicaa.Bd19

set_option linter.unusedVariables false
set_option linter.unusedSimpArgs false
namespace Go.Proofs.Ytfgkkmhafdbicaa.Bd20
open Go.ChangeShapes Go.WideShapes Go.ChangeAt Go.RowKit Base Ints Own Clone RelG PlP Bd1 Bd4 Bd5 Bd6 Bd7 Bd7S Bd8 Bd9 Bd11 RegInv RegF RegG Bd16 Bd17 Bd19

abbrev RelR : Rel Value (List (List Pl)) := relSl RelQ 1 en1
theorem infoS : (Try.prog.info? 88).map (fun i => (i.zero, i.size, i.bytes)) = some (some (.slice none 0 0), 1, 24) := by kernel_rfl
theorem ord_dice {x y : Int} (hx : 1 ≤ x ∧ x ≤ 6) (hy : 1 ≤ y ∧ y ≤ 6) : (∀ o ∈ ordP x y, (∀ d ∈ o, 1 ≤ d ∧ d ≤ 6) ∧ o.length ≤ 4) ∧ (ordP x y).length ≤ 2 := by
  unfold ordP
  split
  · exact ⟨fun o ho => by simp at ho; subst ho; exact ⟨by intro d hd; simp at hd; omega, by simp⟩, by simp⟩
  · exact ⟨fun o ho => by simp at ho; rcases ho with rfl | rfl <;> exact ⟨by intro d hd; simp at hd; omega, by simp⟩, by simp⟩
def sqM (v : Vr) (b : Bd) (os : List (List Int)) : List (List (List Pl)) := os.map fun o => (rowsP v b o).1
def sqF (v : Vr) (b : Bd) (os : List (List Int)) : Bool := os.all fun o => (rowsP v b o).2
theorem sqM_snoc (v : Vr) (b : Bd) (os : List (List Int)) (o : List Int) : sqM v b (os ++ [o]) = sqM v b os ++ [(rowsP v b o).1] := by unfold sqM; rw [List.map_append]; rfl
theorem sqF_snoc (v : Vr) (b : Bd) (os : List (List Int)) (o : List Int) : sqF v b (os ++ [o]) = (sqF v b os && (rowsP v b o).2) := by unfold sqF; rw [List.all_append]; simp
/-- Orders under way. -/
structure Sr2 (w wr : World) (v : Vr) (cs : List Value) (vl : Value) (R : List (List (List Pl))) (uo : Value) (os : List (List Int)) : Prop where
  bel : Below w.heap.size w wr
  rv : RowB wr w.heap.size 32 [.int .i64 v.p, .int .i64 v.c, .int .i64 v.h, .int .i64 v.s]
  rb : RowB wr (w.heap.size + 1) 34 cs
  og : OwnG RelR wr (w.heap.size + 3) wr.heap.size 88 1 en1 vl R
  or_ : SlG RelI 1 en1 wr (NotIn vl 0) uo os
theorem Sr2.below {w wr w' : World} {v : Vr} {cs : List Value} {vl : Value} {R : List (List (List Pl))} {uo : Value} {os : List (List Int)} (h : Sr2 w wr v cs vl R uo os) (hb : Below wr.heap.size wr w') : Sr2 w w' v cs vl R uo os :=
  ⟨h.bel.trans (hb.mono h.bel.size), h.rv.below hb h.rv.lt, h.rb.below hb h.rb.lt, (h.og.below_ hb).more hb.size, (relSl RelI 1 en1).keep h.or_ (.below hb)⟩

set_option maxHeartbeats 4000000 in
set_option maxRecDepth 100000 in
theorem seqs_i (v : Vr) (b : Bd) (hb : Ok v b) (Ao At : Option Addr) (co ct : Nat) (x y : Int) (hx : 1 ≤ x ∧ x ≤ 6) (hy : 1 ≤ y ∧ y ≤ 6) (w : World) (ho : RdS w w.heap.size 1 enI Ao b.1) (ht : RdS w w.heap.size 1 enI At b.2) (hA : Ao = none → co = 0) (hT : At = none → ct = 0) :
    Calls Try.prog 65 #[.agg #[.int .i64 v.p, .int .i64 v.c, .int .i64 v.h, .int .i64 v.s], .agg #[.slice Ao b.1.length co, .slice At b.2.length ct], .agg #[.int .i64 x, .int .i64 y]] w fun e w' => ∃ vv, e = .returned (.tuple #[vv, .bool (sqF v b (ordP x y))]) ∧ OwnG RelR w' w.heap.size w'.heap.size 88 1 en1 vv (sqM v b (ordP x y)) ∧ Below w.heap.size w w' := by
  obtain ⟨iQ, hiQ, hz0, hz1, hz2⟩ := info_parts infoS
  have CO := Lib.hid (fun (w9 : World) => orders_i x y w9)
  obtain ⟨os, hos⟩ : ∃ os, ordP x y = os := ⟨_, rfl⟩
  have HD := ord_dice hx hy
  rw [hos] at HD CO ⊢
  have HDI := Lib.hid HD.1
  have hos2 := HD.2
  obtain ⟨n1, hn1⟩ : ∃ n, b.1.length = n := ⟨_, rfl⟩
  obtain ⟨n2, hn2⟩ : ∃ n, b.2.length = n := ⟨_, rfl⟩
  have CS := Lib.hid (fun (w9 : World) (h : Below w.heap.size w w9) (o : List Int) (ho_ : o ∈ os) (u : Value) (hu : SlV 1 enI w9 All u o) => seqOf_i v b hb Ao At co ct o (HDI.out o ho_).1 (HDI.out o ho_).2 u w9 ((ho.below h (Nat.le_refl _)).more h.size) ((ht.below h (Nat.le_refl _)).more h.size) hA hT hu)
  rw [hn1, hn2] at CS ⊢
  obtain ⟨N, hN⟩ : ∃ N, os.length = N := ⟨_, rfl⟩
  have HN := Lib.hid hN
  rw [hN] at hos2
  clear hb ho ht hA hT hos HD hn1 hn2 hN hx hy
  go_enter Try.func65, Try.ntmps65
  go_upto_region 1 with (fail)
  refine wp_gen (fun W' => Below w.heap.size w W' ∧ RowB W' w.heap.size 32 [.int .i64 v.p, .int .i64 v.c, .int .i64 v.h, .int .i64 v.s] ∧ RowB W' (w.heap.size + 1) 34 [.slice Ao n1 co, .slice At n2 ct] ∧ RowB W' (w.heap.size + 2) 36 [.int .i64 x, .int .i64 y]) ⟨by go_grown, ((RowB.new _ _ _).alloc _).alloc _, RowB.alloc (RowB.new' _ _ _ (by simp)) _, RowB.new' _ _ _ (by simp)⟩ ?_
  rintro w1 ⟨hb1, rv, rb, rr⟩
  obtain ⟨r0, r1⟩ := rr.c2
  have hl2 := rr.lt
  go_wp2_with fail
  refine (CO.out w1).mono ?_
  rintro e w2 ⟨uo, rfl, hor, hb2⟩
  have K : Sr2 w w2 v [.slice Ao n1 co, .slice At n2 ct] (.slice none 0 0) [] uo os := ⟨hb1.trans (hb2.mono hb1.size), rv.below hb2 rv.lt, rb.below hb2 rb.lt, OwnG.nil_ _ _ _ _ _ _ _, (relSl RelI 1 en1).weak hor (fun x _ _ => ⟨fun h => by simp [Value.ownBlock] at h, Nat.zero_le _⟩)⟩
  obtain ⟨Ar, cr, rs0, huo, -⟩ := hor
  have hs3 : w.heap.size + 3 ≤ w2.heap.size := by have := hb2.size; omega
  rw [HN.out] at huo
  subst huo
  clear r0 r1 hl2 rb rr rv hb1 hb2 CO
  have hl1 := K.rv.lt
  go_wp2_with fail
  go_loopw [8, 9, 17] (fun vl fv i wr => ∃ (k : Nat), k ≤ N ∧ i = .int .i64 (k : Int) ∧ fv = .bool (sqF v b (os.take k)) ∧ Sr2 w wr v [.slice Ao n1 co, .slice At n2 ct] vl (sqM v b (os.take k)) (.slice Ar N cr) os ∧ w.heap.size + 3 ≤ wr.heap.size) (fun _ _ i _ => N - (intOf i).toNat)
  case atStart => exact ⟨0, Nat.zero_le _, by first | rfl | trivial, by first | rfl | trivial, K, hs3⟩
  case round =>
    obtain ⟨k, hk, rfl, rfl, K, hs3⟩ := hrel
    clear hl1
    have hl1 := K.rv.lt
    have hl2 := K.rb.lt
    by_cases hlt : k < N
    · obtain ⟨A5, c5, rs, e5, hrd5, hls5, -⟩ := K.or_
      simp only [Value.slice.injEq] at e5
      obtain ⟨rfl, -, rfl⟩ := e5
      obtain ⟨b5, o5, r, rfl, -, hb5, hr, hc5⟩ := hrd5.at_ (i := k) (by rw [hls5.1, HN.out]; exact hlt)
      obtain ⟨o, ho, hRo⟩ := hls5.at_ hr
      have hc5 : wr.cell? ⟨b5, o5 + k, none⟩ = some r := by have := hc5 0 r rfl; simpa using this
      have HOM := Lib.hid (List.mem_of_getElem? ho)
      have HRO := Lib.hid ((RelI).weak hRo (S' := All) (fun _ _ _ => trivial))
      have HM := Lib.hid (show sqM v b (os.take (k + 1)) = sqM v b (os.take k) ++ [(rowsP v b o).1] from by rw [takeS ho, sqM_snoc])
      have HF := Lib.hid (show sqF v b (os.take (k + 1)) = (sqF v b (os.take k) && (rowsP v b o).2) from by rw [takeS ho, sqF_snoc])
      have hkn : (k : Int) < (N : Int) := by omega
      have hwk : IntKind.i64.wrap ((k : Int) + 1) = (k : Int) + 1 := IntWalk.i64_in _ (by omega)
      obtain ⟨X, hX⟩ : ∃ X, sqM v b (os.take k) = X := ⟨_, rfl⟩
      obtain ⟨f, hf⟩ : ∃ f, sqF v b (os.take k) = f := ⟨_, rfl⟩
      have HXL := Lib.hid (show X.length ≤ 2 from by rw [← hX]; unfold sqM; rw [List.length_map, List.length_take, HN.out]; omega)
      rw [hX] at K HM
      rw [hf] at HF ⊢
      clear hX hf hrd5 hls5 hr ho hRo
      obtain ⟨q0, q1, q2, q3⟩ := K.rv.c4
      obtain ⟨z0, z1⟩ := K.rb.c2
      go_wp2_with fail
      refine (CS.out wr K.bel o HOM.out r HRO.out).mono ?_
      rintro e w5 ⟨nv, rfl, hog, hb5'⟩
      have hblk : ∀ g, u8.ownBlock = some g → w.heap.size + 3 ≤ g ∧ g < wr.heap.size := fun g hg => by obtain ⟨rs9, h9, -⟩ := K.og; exact h9.block g hg
      have HNV : SlG RelQ 1 en1 w5 (NotIn u8 (w.heap.size + 3)) nv (rowsP v b o).1 := (relSl RelQ 1 en1).weak (hog.sl en1_len (Nat.le_refl _)) (fun x (hx : wr.heap.size ≤ x) _ => ⟨fun h => by have := (hblk x h).2; omega, by omega⟩)
      have K := K.below hb5'
      have hs5 := hb5'.size
      obtain ⟨An, cn, hnv, -⟩ := Bd19.OwnG.form en1_len hog
      obtain ⟨M, hM⟩ : ∃ M, (rowsP v b o).1.length = M := ⟨_, rfl⟩
      rw [hM] at hnv
      subst hnv
      obtain ⟨fo, hfo⟩ : ∃ f, (rowsP v b o).2 = f := ⟨_, rfl⟩
      rw [hfo] at HF ⊢
      clear hog hb5' hc5 hb5 hblk q0 q1 q2 q3 z0 z1 hl1 hl2 hM hfo
      obtain ⟨rs9, hrs1, hrs2⟩ := K.og
      have hrl := Lib.hid hrs2.1
      have hrow := Lib.hid hrs1.block
      cases f
      all_goals
        go_wp2_with (at_builtin; refine wpL_one rfl _ _ _ rfl (w.heap.size + 3) _ 88 iQ (.slice none 0 0) 1 24 Try.underlying83 hiQ hz0 hz1 hz2 rfl (by decide) en1_len u8 rs9 (.slice An M cn) (by intro u hu; simp [en1] at hu; subst hu; rfl) rfl (hrs1.alloc _) w5.heap.size 1 88 rfl (RowB.new _ _ _) ?c1 ?c2 ?c3 ?_)
        case c1 => have := hrl.out; have := HXL.out; unfold maxLen; omega
        case c2 => have := hrl.out; have := HXL.out; omega
        case c3 => go_size
        intro g6 c6 w6 ho6 hg6 hat6 hlt6
        have hbA : Below w5.heap.size w5 (w5.alloc (.cells #[.slice An M cn] 88)) := by go_grown
        have hat6 : u8.ownBlock = some g6 ∨ g6 = (w5.alloc (.cells #[.slice An M cn] 88)).heap.size := by simpa using hat6
        have hgW := below_grown (w := w5) hbA hg6
        have og := own_snoc (hrs2.keep (.below hbA)) ((relSl RelQ 1 en1).keep HNV (.below hbA)) ho6 hg6 hat6
        have or2 := app_still (K := relSl RelI 1 en1) (n := rs9.length + 1) (c := c6) hg6 hat6 ((relSl RelI 1 en1).keep K.or_ (.below hbA))
        have hbl := hrow.out
        have K9 : Sr2 w w6 v [.slice Ao n1 co, .slice At n2 ct] (.slice (some ⟨g6, 0, none⟩) (rs9.length + 1) c6) (sqM v b (os.take (k + 1))) (.slice (some ⟨b5, o5, none⟩) N cr) os := by
          rw [HM.out]
          exact ⟨K.bel.grown hgW K.bel.size (fun g hg => by have := (hbl g hg).1; omega), K.rv.grown hgW (fun g hg => by have := (hbl g hg).1; omega), K.rb.grown hgW (fun g hg => by have := (hbl g hg).1; omega), og, or2⟩
        have hs6 : w.heap.size + 3 ≤ w6.heap.size := by have := hgW.size; omega
        clear og or2 hgW hat6 hbA ho6 hg6 hbl K hrs1 hrs2 HNV
        go_wp2_with fail
        go_roundw
        case rel => exact ⟨k + 1, by omega, by go_num, by rw [HF.out]; first | rfl | simp, K9, hs6⟩
        case measure => simp [intOf]; omega
    · obtain rfl : k = N := by omega
      have hnk : ¬ ((k : Int) < (k : Int)) := by omega
      have hall : os.take k = os := List.take_of_length_le (by rw [HN.out]; exact Nat.le_refl _)
      rw [hall] at K ⊢
      clear hall
      go_wp2_with fail
      go_ret2
      exact ⟨_, rfl, K.og.less (by omega), K.bel⟩

set_option maxHeartbeats 1000000 in
theorem used_i (all : List (List (List Pl))) (S0 : Nat → Prop) (u : Value) (w : World) (hu : SlG RelR 1 en1 w S0 u all) (h1 : ∀ R ∈ all, 1 ≤ R.length ∧ R.length ≤ 100) :
    Calls Try.prog 66 #[u] w fun e w' => e = .returned (.int .i64 ((usedR all 0 : Nat) : Int)) ∧ w = w' := by
  obtain ⟨Au, cu, rs, rfl, hrd, hls, -⟩ := hu
  obtain ⟨N, hN⟩ : ∃ N, all.length = N := ⟨_, rfl⟩
  have HN := Lib.hid hN
  have hmx := hrd.len
  rw [hls.1, hN] at hmx
  rw [hN]
  obtain ⟨z, hz⟩ : ∃ z, usedR all 0 = z := ⟨_, rfl⟩
  rw [hz]
  have HZ := Lib.hid hz
  have HRD := Lib.hid hrd
  have HLS := Lib.hid hls
  have H1 := Lib.hid h1
  clear hN hz hrd hls h1
  go_enter Try.func66, Try.ntmps66
  go_wp2_with fail
  go_loopw [3, 8] (fun s i wr => ∃ (k t : Nat), k ≤ N ∧ s = .int .i64 (t : Int) ∧ i = .int .i64 (k : Int) ∧ Hid (w = wr) ∧ Hid (t = usedR (all.take k) 0)) (fun _ i _ => N - (intOf i).toNat)
  case atStart => exact ⟨0, 0, Nat.zero_le _, by first | rfl | trivial, by first | rfl | trivial, Lib.hid (by first | rfl | trivial), Lib.hid rfl⟩
  case round =>
    obtain ⟨k, t, hk, rfl, rfl, hw, ht⟩ := hrel
    by_cases hlt : k < N
    · obtain ⟨b5, o5, r, rfl, -, hb5, hr, hc5⟩ := HRD.out.at_ (i := k) (by rw [HLS.out.1, HN.out]; exact hlt)
      obtain ⟨R, hR, hRR⟩ := HLS.out.at_ hr
      obtain ⟨Ar, cr, rs2, rfl, -⟩ := hRR
      have hc5 : wr.cell? ⟨b5, o5 + k, none⟩ = some (.slice Ar R.length cr) := by rw [← hw.out]; have := hc5 0 _ rfl; simpa using this
      have hRl := H1.out R (List.mem_of_getElem? hR)
      have HT := Lib.hid (show usedR (all.take (k + 1)) 0 = max (usedR (all.take k) 0) (R.length - 1) from by rw [takeS hR]; unfold usedR; rw [List.foldl_append]; rfl)
      obtain ⟨M, hM⟩ : ∃ M, R.length = M := ⟨_, rfl⟩
      rw [hM] at hc5 hRl HT
      have hkn : (k : Int) < (N : Int) := by omega
      have e1 : IntKind.i64.wrap ((k : Int) + 1) = (k : Int) + 1 := IntWalk.i64_in _ (by omega)
      have e2 : IntKind.i64.wrap ((M : Int) - 1) = ((M - 1 : Nat) : Int) := by rw [IntWalk.i64_in _ (by omega)]; omega
      obtain ⟨q, hq⟩ : ∃ q, M - 1 = q := ⟨_, rfl⟩
      rw [hq] at e2 HT
      have HS : Hid ((if t < q then (q : Int) else (t : Int)) = ((max t q : Nat) : Int)) := Lib.hid (by
        split <;> omega)
      have HQ := Lib.hid (show max t q = usedR (all.take (k + 1)) 0 from by rw [HT.out, ht.out])
      clear hr hR hM hq hRl
      go_wp2_with fail
      go_roundw
      case rel => exact ⟨k + 1, max t q, by omega, by rw [HS.out], by go_num, hw, HQ⟩
      case measure => simp [intOf]; omega
    · obtain rfl : k = N := by omega
      have hnk : ¬ ((k : Int) < (k : Int)) := by omega
      obtain rfl : t = z := by rw [ht.out, ← HZ.out, List.take_of_length_le (by rw [HN.out]; exact Nat.le_refl _)]
      go_wp2_with fail
      go_ret
      exact ⟨rfl, hw.out⟩
end Go.Proofs.Ytfgkkmhafdbicaa.Bd20

set_option linter.unusedVariables false
set_option linter.unusedSimpArgs false
namespace Go.Proofs.Ytfgkkmhafdbicaa.Bd21
open Go.ChangeShapes Go.WideShapes Go.ChangeAt Go.RowKit Base Ints Own Clone RelG PlP Bd1 Bd4 Bd5 Bd6 Bd7 Bd7S Bd8 Bd9 Bd11 RegInv RegF RegG Seen Bd16 Bd17 Bd19 Bd20

/-- Not the block that v is appended in, and one of T. -/
def OffB (v : Value) (T : Nat → Prop) (b : Nat) : Prop := v.ownBlock ≠ some b ∧ T b
/-- A slice of the call's own, whose rows lean on blocks of T. -/
def OwnT {ρ α : Type} (K : Rel ρ α) (T : Nat → Prop) (w : World) (lo hi : Nat) (e : TypeId) (sz : Nat) (en : ρ → List Value) (v : Value) (xs : List α) : Prop :=
  ∃ rs, OwnS w lo hi e sz en v rs ∧ LsR K w (OffB v T) rs xs
theorem app_off {w w' : World} {T : Nat → Prop} {g n c : Nat} {v : Value} (hg : w.grownBy w' v.ownBlock) (hat : v.ownBlock = some g ∨ g = w.heap.size) {ρ α : Type} {K : Rel ρ α} {r : ρ} {x : α} (h : K.R w (OffB v T) r x) : K.R w' (OffB (.slice (some ⟨g, 0, none⟩) n c) T) r x := by
  have h1 : K.R w (fun b => OffB v T b ∧ b < w.heap.size) r x := K.weak h (fun b hb hl => ⟨hb, hl⟩)
  have h2 := K.keep h1 (Still.grown (S := fun b => OffB v T b ∧ b < w.heap.size) hg (fun k hk hn => hn.1.1 hk))
  refine K.weak h2 (fun b hb _ => ⟨?_, hb.1.2⟩)
  intro e
  simp [Value.ownBlock] at e
  subst e
  rcases hat with hat | hat
  · exact hb.1.1 hat
  · have := hb.2; omega
section
variable {ρ α : Type} {K : Rel ρ α} {T : Nat → Prop} {w w' : World} {lo hi sz : Nat} {e : TypeId} {en : ρ → List Value} {v : Value} {xs : List α}
theorem OwnT.below (h : OwnT K T w lo w.heap.size e sz en v xs) (hb : Below w.heap.size w w') : OwnT K T w' lo w'.heap.size e sz en v xs := by
  obtain ⟨rs, h1, h2⟩ := h
  exact ⟨rs, (h1.below hb (Nat.le_refl _)).more hb.size, h2.keep (.below hb)⟩
theorem OwnT.nil_ (K : Rel ρ α) (T : Nat → Prop) (w : World) (lo hi : Nat) (e : TypeId) (sz : Nat) (en : ρ → List Value) : OwnT K T w lo hi e sz en (.slice none 0 0) [] :=
  ⟨[], OwnS.nil_ _ _ _ _ _ _, LsR.nil _ _ _⟩
theorem OwnT.low {g : Nat} (h : OwnT K T w lo w.heap.size e sz en v xs) (hg : w.grownBy w' (some g)) (hl : g < lo) (hT : ¬ T g) : OwnT K T w' lo w'.heap.size e sz en v xs := by
  obtain ⟨rs, h1, h2⟩ := h
  exact ⟨rs, (h1.grown hg (fun k hk => by simp at hk; omega)).more hg.size, h2.keep (Still.grown hg (fun k hk hn => by simp at hk; subst hk; exact hT hn.2))⟩
theorem OwnT.snoc {rs : List ρ} {r : ρ} {x : α} {g n c : Nat} (h2 : LsR K w (OffB v T) rs xs) (hx : K.R w (OffB v T) r x) (ho : OwnS w' lo w'.heap.size e sz en (.slice (some ⟨g, 0, none⟩) n c) (rs ++ [r])) (hg : w.grownBy w' v.ownBlock) (hat : v.ownBlock = some g ∨ g = w.heap.size) :
    OwnT K T w' lo w'.heap.size e sz en (.slice (some ⟨g, 0, none⟩) n c) (xs ++ [x]) :=
  ⟨rs ++ [r], ho, LsR.snoc ⟨h2.1, fun i r' x' hr hx' => app_off hg hat (h2.2 i r' x' hr hx')⟩ (app_off hg hat hx)⟩
theorem OwnT.own {lo' : Nat} (h : OwnT K T w lo hi e sz en v xs) (hl : lo' ≤ lo) (hT : ∀ b, T b → lo' ≤ b) : OwnG K w lo' hi e sz en v xs := by
  obtain ⟨rs, h1, h2⟩ := h
  exact ⟨rs, h1.less hl, h2.weak (fun b hb _ => ⟨hb.1, hT b hb.2⟩)⟩
end
def Tl (lo gs b : Nat) : Prop := lo ≤ b ∧ b ≠ gs
/-- Plays under way: the set, the slice, the rows that they come from. -/
structure Al1 (w wr : World) (v : Vr) (lo gs : Nat) (av : Value) (AL : List (List (List Pl))) (vl : Value) (X : List Pl) (n m : Nat) : Prop where
  bel : Below w.heap.size w wr
  ge : w.heap.size ≤ lo ∧ lo ≤ gs
  sn : Seen wr gs X.length (keysP X)
  og : OwnT RelP (Tl lo gs) wr (gs + 1) wr.heap.size 65 3 enP vl X
  al : SlG RelR 1 en1 wr (OffB vl (Tl lo gs)) av AL
  co : Coll v n m X
structure Al2 (w wr : World) (v : Vr) (lo gs : Nat) (av : Value) (AL : List (List (List Pl))) (vl : Value) (X : List Pl) (n m : Nat) (pv : Value) (ps : List Pl) : Prop where
  k1 : Al1 w wr v lo gs av AL vl X n m
  pl : SlG RelP 3 enP wr (OffB vl (Tl lo gs)) pv ps
section
variable {w wr w' : World} {v : Vr} {lo gs : Nat} {av : Value} {AL : List (List (List Pl))} {vl : Value} {X : List Pl} {n m : Nat} {pv : Value} {ps : List Pl}
theorem Al1.below (h : Al1 w wr v lo gs av AL vl X n m) (hb : Below wr.heap.size wr w') : Al1 w w' v lo gs av AL vl X n m :=
  ⟨h.bel.trans (hb.mono h.bel.size), h.ge, h.sn.below hb, h.og.below hb, (relSl RelR 1 en1).keep h.al (.below hb), h.co⟩
theorem Al2.below (h : Al2 w wr v lo gs av AL vl X n m pv ps) (hb : Below wr.heap.size wr w') : Al2 w w' v lo gs av AL vl X n m pv ps :=
  ⟨h.k1.below hb, (relSl RelP 3 enP).keep h.pl (.below hb)⟩
theorem Al1.more {m' : Nat} (h : Al1 w wr v lo gs av AL vl X n m) (hm : m ≤ m') : Al1 w wr v lo gs av AL vl X n m' :=
  ⟨h.bel, h.ge, h.sn, h.og, h.al, h.co.more hm⟩
theorem Al1.blk (h : Al1 w wr v lo gs av AL vl X n m) : ∀ g, vl.ownBlock = some g → gs + 1 ≤ g ∧ g < wr.heap.size := fun g hg => by obtain ⟨rs, h1, -⟩ := h.og; exact h1.block g hg
end
theorem p25 {n : Nat} (h : n ≤ 4) : 25 ^ n ≤ 390625 := by
  have : n = 0 ∨ n = 1 ∨ n = 2 ∨ n = 3 ∨ n = 4 := by omega
  rcases this with rfl | rfl | rfl | rfl | rfl <;> omega
/-- One play, the board as it stands. -/
theorem one_play {W : World} {b : Bd} {n g1 lo : Nat} {A1 A2 : Option Addr} {c1 c2 : Nat} (h1 : RowB W g1 65 [.slice none 0 0, .slice A1 n c1, .slice A2 n c2]) (l1 : lo ≤ g1)
    (k1 : SlV 1 enI W (fun x => lo ≤ x ∧ x ≠ g1) (.slice A1 n c1) b.1) (k2 : SlV 1 enI W (fun x => lo ≤ x ∧ x ≠ g1) (.slice A2 n c2) b.2) : OwnG RelP W lo W.heap.size 65 3 enP (.slice (some ⟨g1, 0, none⟩) 1 1) [([], b)] := by
  have ni : ∀ x, (lo ≤ x ∧ x ≠ g1) → NotIn (.slice (some ⟨g1, 0, none⟩) 1 1) lo x := fun x hx => ⟨fun e => hx.2 (by simp [Value.ownBlock] at e; exact e.symm), hx.1⟩
  refine ⟨[((.slice none 0 0, .slice A1 n c1, .slice A2 n c2) : PRow)], RowB.own (xs := [((.slice none 0 0, .slice A1 n c1, .slice A2 n c2) : PRow)]) h1 enP_len l1 h1.lt (show 1 ≤ maxLen by decide), LsR.snoc (LsR.nil _ _ _) ?_⟩
  exact RelP.weak (S := fun x => lo ≤ x ∧ x ≠ g1) ⟨⟨OwnS.nil_ _ _ _ _ _ _, fun g h => by simp [Value.ownBlock] at h⟩, k1, k2⟩ (fun x hx _ => ni x hx)

set_option maxHeartbeats 8000000 in
set_option maxRecDepth 100000 in
theorem allPl_i (v : Vr) (b : Bd) (hb : Ok v b) (Ao At : Option Addr) (co ct : Nat) (x y : Int) (hx : 1 ≤ x ∧ x ≤ 6) (hy : 1 ≤ y ∧ y ≤ 6) (w : World) (ho : RdS w w.heap.size 1 enI Ao b.1) (ht : RdS w w.heap.size 1 enI At b.2) (hA : Ao = none → co = 0) (hT : At = none → ct = 0) :
    Calls Try.prog 37 #[.agg #[.int .i64 v.p, .int .i64 v.c, .int .i64 v.h, .int .i64 v.s], .agg #[.slice Ao b.1.length co, .slice At b.2.length ct], .agg #[.int .i64 x, .int .i64 y]] w fun e w' => ∃ vv, e = .returned (.tuple #[vv, .bool (allI v b x y).2]) ∧ OwnG RelP w' w.heap.size w'.heap.size 65 3 enP vv (allI v b x y).1 ∧ Below w.heap.size w w' := by
  obtain ⟨i3, hi3, hy0, hy1, hy2⟩ := info_parts infoP
  have HMT : Try.prog.underlying 87 = some (.map 9 4) := by first | exact Try.underlying87 | kernel_rfl
  have HMX : 10000000 < maxLen := by unfold maxLen; omega
  have HMK : ∀ w : World, (Instr.makeMap 87 none).run Try.prog w = .ok (.map (some w.heap.size)) (w.alloc (.map #[] 0)) := fun _ => rfl
  have hv := hb.v1
  obtain ⟨P, hP⟩ : ∃ P : Nat, v.p = (P : Int) := ⟨v.p.toNat, by omega⟩
  have HP := Lib.hid hP
  have hP24 : P ≤ 24 := by omega
  have HC := Lib.hid (show v.c ≤ 15 by omega)
  obtain ⟨n_, hn_⟩ : ∃ n, P + 1 = n := ⟨_, rfl⟩
  have eln : b.1.length = n_ := by have := hb.own.len; omega
  have emn : b.2.length = n_ := by have := hb.oth.len; omega
  have CQ := Lib.hid (fun (w9 : World) (h : Below w.heap.size w w9) => seqs_i v b hb Ao At co ct x y hx hy w9 ((ho.below h (Nat.le_refl _)).more h.size) ((ht.below h (Nat.le_refl _)).more h.size) hA hT)
  have CC := Lib.hid (fun (w9 : World) (h : Below w.heap.size w w9) => clone_i b.1 b.2 Ao At co ct w.heap.size w9 h.size (ho.below h (Nat.le_refl _)) (ht.below h (Nat.le_refl _)) hA hT (by omega) (by omega))
  rw [eln, emn] at CC CQ ⊢
  have HLN := Lib.hid eln
  have HMN := Lib.hid emn
  obtain ⟨RR, hRR⟩ : ∃ r, allI v b x y = r := ⟨_, rfl⟩
  have hE := allI_eq2 v b x y
  have hOD := ord_dice hx hy
  have hAL : (∀ R ∈ sqM v b (ordP x y), RowsOk v R ∧ 1 ≤ R.length ∧ R.length ≤ 5) ∧ (sqM v b (ordP x y)).length ≤ 2 := by
    refine ⟨fun R hR => ?_, by unfold sqM; rw [List.length_map]; exact hOD.2⟩
    obtain ⟨o, ho, rfl⟩ := List.mem_map.1 hR
    exact rowsP_ok hb (fun d hd => ((hOD.1 o ho).1 d hd).1) (hOD.1 o ho).2
  rw [hRR] at hE ⊢
  rw [show ((ordP x y).all fun o => (rowsP v b o).2) = sqF v b (ordP x y) from rfl, show ((ordP x y).map fun o => (rowsP v b o).1) = sqM v b (ordP x y) from rfl] at hE
  obtain ⟨AL, hALe⟩ : ∃ l, sqM v b (ordP x y) = l := ⟨_, rfl⟩
  obtain ⟨fits, hfi⟩ : ∃ f, sqF v b (ordP x y) = f := ⟨_, rfl⟩
  rw [hALe, hfi] at hE CQ
  rw [hALe] at hAL
  have HE := Lib.hid hE
  have HAL := Lib.hid hAL.1
  have hAL2 := hAL.2
  obtain ⟨L, hL⟩ : ∃ L, AL.length = L := ⟨_, rfl⟩
  have HL := Lib.hid hL
  rw [hL] at hAL2
  clear hb hv hP eln emn ho ht hA hT hRR hE hOD hAL hALe hfi hL hx hy
  go_enter Try.func37, Try.ntmps37
  go_upto_region 1 with (fail)
  refine wp_gen (fun W' => Below w.heap.size w W' ∧ RowB W' w.heap.size 32 [.int .i64 v.p, .int .i64 v.c, .int .i64 v.h, .int .i64 v.s] ∧ RowB W' (w.heap.size + 1) 34 [.slice Ao n_ co, .slice At n_ ct] ∧ RowB W' (w.heap.size + 2) 36 [.int .i64 x, .int .i64 y]) ⟨by go_grown, ((RowB.new _ _ _).alloc _).alloc _, RowB.alloc (RowB.new' _ _ _ (by simp)) _, RowB.new' _ _ _ (by simp)⟩ ?_
  rintro w1 ⟨hb1, rv, rb, rr⟩
  obtain ⟨q0, q1, q2, q3⟩ := rv.c4
  obtain ⟨z0, z1⟩ := rb.c2
  obtain ⟨r0, r1⟩ := rr.c2
  have hl1 := rv.lt
  have hl2 := rb.lt
  have hl3 := rr.lt
  go_wp2_with fail
  refine (CQ.out w1 hb1).mono ?_
  rintro e w2 ⟨av, rfl, hog, hb2⟩
  have rb := rb.below hb2 rb.lt
  have hb12 := hb1.trans (hb2.mono hb1.size)
  obtain ⟨Aa, ca, hav, -⟩ := Bd19.OwnG.form en1_len hog
  rw [HL.out] at hav
  subst hav
  have HA := hog.sl en1_len (Nat.le_refl _)
  have hlo : w.heap.size + 3 ≤ w1.heap.size := by omega
  have hs2 := hb2.size
  clear q0 q1 q2 q3 z0 z1 r0 r1 hl1 hl2 hl3 rv rr hb1 hb2 hog CQ
  cases fits
  case false =>
    obtain rfl : RR = ([], false) := by rw [HE.out]; rfl
    clear HA rb
    go_wp2_with fail
    go_ret2
    exact ⟨_, rfl, OwnG.nil_ _ _ _ _ _ _ _, hb12⟩
  have CU := Lib.hid (used_i AL _ _ w2 HA (fun R hR => ⟨(HAL.out R hR).2.1, by have := (HAL.out R hR).2.2; omega⟩))
  obtain ⟨n, hn⟩ : ∃ n, usedR AL 0 = n := ⟨_, rfl⟩
  have hn4 : n ≤ 4 := by rw [← hn]; exact usedR_bd AL 0 4 (by omega) (fun R hR => by have := (HAL.out R hR).2.2; omega)
  rw [hn] at CU HE
  go_wp2_with fail
  refine CU.out.mono ?_
  rintro e w3 ⟨rfl, rfl⟩
  by_cases h0 : n = 0
  · obtain rfl : RR = ([([], b)], true) := by rw [HE.out]; simp [h0]
    have e0 : ((n : Int) == 0) = true := by simp [h0]
    obtain ⟨z0, z1⟩ := rb.c2
    have hl2 := rb.lt
    clear CU HE HA hn h0
    go_wp2_with fail
    refine (CC.out w2 hb12).mono ?_
    rintro e w4 ⟨A1, c1, A2, c2, rfl, o1, o2, -, hb4⟩
    rw [HLN.out] at o1
    rw [HMN.out] at o2
    simp only [HLN.out, HMN.out]
    have hb14 := hb12.trans (hb4.mono hb12.size)
    have hs4 := hb4.size
    clear z0 z1 hl2 rb CC hb4
    go_wp2_with fail
    refine bp_gen (fun W' => Below w.heap.size w W' ∧ RowB W' w4.heap.size 65 [.slice none 0 0, .slice A1 n_ c1, .slice A2 n_ c2] ∧ SlV 1 enI W' (fun q => w.heap.size ≤ q ∧ q ≠ w4.heap.size) (.slice A1 n_ c1) b.1 ∧ SlV 1 enI W' (fun q => w.heap.size ≤ q ∧ q ≠ w4.heap.size) (.slice A2 n_ c2) b.2) ⟨by go_grown, RowB.new _ _ _, ?_, ?_⟩ ?_
    · have h1 := (OwnV.of o1 (Nat.le_refl _) (S := fun x => w2.heap.size ≤ x ∧ x < w4.heap.size) (fun x hx hx2 => ⟨hx, hx2⟩)).sl enI_len
      exact (relV 1 enI).weak ((relV 1 enI).keep h1 (.below (by go_grown))) (fun x hx _ => ⟨by omega, by omega⟩)
    · have h1 := (OwnV.of o2 (Nat.le_refl _) (S := fun x => w2.heap.size ≤ x ∧ x < w4.heap.size) (fun x hx hx2 => ⟨hx, hx2⟩)).sl enI_len
      exact (relV 1 enI).weak ((relV 1 enI).keep h1 (.below (by go_grown))) (fun x hx _ => ⟨by omega, by omega⟩)
    rintro W' ⟨hbW, rp, k1, k2⟩
    go_ret2
    exact ⟨_, rfl, one_play rp (by omega) k1 k2, hbW⟩
  have e0 : ((n : Int) == 0) = false := by simp [h0]
  have HRR : Hid (RR = (implGo n AL [], true)) := Lib.hid (by rw [HE.out]; simp [h0])
  have HN0 := Lib.hid h0
  clear CU HE hn CC HLN HMN h0
  go_upto_region 8 with (fail)
  refine wp_gen (fun W' => Al1 w W' v w1.heap.size w2.heap.size (.slice Aa L ca) AL (.slice none 0 0) [] n 0) ?_ ?_
  · exact ⟨by go_grown, ⟨by omega, hs2⟩, Seen.made _, OwnT.nil_ _ _ _ _ _ _ _ _, (relSl RelR 1 en1).keep ((relSl RelR 1 en1).weak HA (S' := OffB (.slice none 0 0) (Tl w1.heap.size w2.heap.size)) (fun x (hx : w1.heap.size ≤ x) hx2 => ⟨fun h => by simp [Value.ownBlock] at h, hx, by omega⟩)) (.below (by go_grown)), Coll.nil _ _⟩
  intro w3 K
  obtain ⟨lo, hlo1⟩ : ∃ l, w1.heap.size = l := ⟨_, rfl⟩
  obtain ⟨gs, hgs1⟩ : ∃ l, w2.heap.size = l := ⟨_, rfl⟩
  rw [hlo1] at K hlo hs2
  rw [hgs1] at K hs2 ⊢
  clear HA rb hlo1 hgs1 hb12
  go_wp2_with fail
  go_loopw [12, 38] (fun vl i wr => ∃ (k : Nat) (X : List Pl), k ≤ L ∧ i = .int .i64 (k : Int) ∧ Al1 w wr v lo gs (.slice Aa L ca) AL vl X n (k * 400000) ∧ Hid (implGo n (AL.drop k) X = implGo n AL [])) (fun _ i _ => L - (intOf i).toNat)
  case atStart => exact ⟨0, [], Nat.zero_le _, by first | rfl | trivial, K.more (by omega), Lib.hid rfl⟩
  case round =>
    obtain ⟨k, X, hk, rfl, K, HG⟩ := hrel
    by_cases hlt : k < L
    · obtain ⟨A5, c5, rs, e5, hrd5, hls5, -⟩ := K.al
      simp only [Value.slice.injEq] at e5
      obtain ⟨rfl, -, rfl⟩ := e5
      obtain ⟨b5, o5, r, rfl, -, hb5, hr, hc5⟩ := hrd5.at_ (i := k) (by rw [hls5.1, HL.out]; exact hlt)
      obtain ⟨R, hR, hRR⟩ := hls5.at_ hr
      obtain ⟨Ar, cr, rs2, rfl, hrd2, hls2, -⟩ := hRR
      have hc5 : wr.cell? ⟨b5, o5 + k, none⟩ = some (.slice Ar R.length cr) := by have := hc5 0 _ rfl; simpa using this
      have HRO := Lib.hid (HAL.out R (List.mem_of_getElem? hR))
      have HD := HG.out
      rw [drop_cons hR] at HD
      obtain ⟨M, hM⟩ : ∃ M, R.length = M := ⟨_, rfl⟩
      have HM := Lib.hid hM
      rw [hM] at hc5
      have hkn : (k : Int) < (L : Int) := by omega
      have hwk : IntKind.i64.wrap ((k : Int) + 1) = (k : Int) + 1 := IntWalk.i64_in _ (by omega)
      by_cases hMn : M ≤ n
      · have e1 : decide ((M : Int) ≤ (n : Int)) = true := decide_eq_true (by omega)
        rw [implGo_skip (by rw [hM]; exact hMn)] at HD
        have HG := Lib.hid HD
        have hMn' : (M : Int) ≤ (n : Int) := by omega
        clear HD hR hM hr hrd2 hls2 hrd5 hls5 hMn
        go_wp2_with fail
        go_roundw
        case rel => exact ⟨k + 1, X, by omega, by go_num, K.more (by omega), HG⟩
        case measure => simp [intOf]; omega
      · have hMn' : ¬ ((M : Int) ≤ (n : Int)) := by omega
        have hnM : (n : Int) < (M : Int) := by omega
        obtain ⟨ps, hps⟩ : ∃ ps, R.getD n [] = ps := ⟨_, rfl⟩
        have hRn : R[n]? = some ps := by rw [← hps, List.getD_eq_getElem?_getD, List.getElem?_eq_getElem (by omega)]; rfl
        have HPS := Lib.hid (HRO.out.1 n ps hRn)
        obtain ⟨b6, o6, r6, rfl, -, hb6, hr6, hc6⟩ := hrd2.at_ (i := n) (by rw [hls2.1, hM]; omega)
        have hc6 : wr.cell? ⟨b6, o6 + n, none⟩ = some r6 := by have := hc6 0 _ rfl; simpa using this
        have hP6 := hls2.2 n r6 ps hr6 hRn
        have hP6' := hP6
        obtain ⟨Ap, cp, rsp, rfl, -⟩ := hP6
        obtain ⟨N, hN⟩ : ∃ N, ps.length = N := ⟨_, rfl⟩
        have HNN := Lib.hid hN
        rw [hN] at hc6 hP6'
        have hN4 : N ≤ 390625 := by
          rw [← hN]
          exact Nat.le_trans HPS.out.2 (p25 hn4)
        have K2 : Al2 w wr v lo gs (.slice (some ⟨b5, o5, none⟩) L ca) AL u12 X n (k * 400000) (.slice Ap N cp) ps := ⟨K, hP6'⟩
        have HD1 := Lib.hid HD
        have HMn := Lib.hid hMn
        have HX0 : Hid (addAll X (ps.take 0) = X) := Lib.hid rfl
        have HPE := Lib.hid hps
        clear HD hR hM hr hrd2 hls2 hrd5 hls5 hMn hP6' hps hRn hr6 hN K HG
        go_wp2_with fail
        go_loopw [12, 51] (fun vl i wq => ∃ j : Nat, j ≤ N ∧ i = .int .i64 (j : Int) ∧ Al2 w wq v lo gs (.slice (some ⟨b5, o5, none⟩) L ca) AL vl (addAll X (ps.take j)) n (k * 400000 + j) (.slice Ap N cp) ps) (fun _ i _ => N - (intOf i).toNat)
        case atStart => exact ⟨0, Nat.zero_le _, by first | rfl | trivial, ⟨K2.k1.more (by omega), K2.pl⟩⟩
        case round =>
          obtain ⟨j, hj, rfl, K2⟩ := hrel
          by_cases hlj : j < N
          · obtain ⟨A7, c7, rs7, e7, hrd7, hls7, -⟩ := K2.pl
            simp only [Value.slice.injEq] at e7
            obtain ⟨rfl, -, rfl⟩ := e7
            obtain ⟨b7, o7, r7, rfl, -, hb7, hr7, hc7⟩ := hrd7.at_ (i := j) (by rw [hls7.1, HNN.out]; exact hlj)
            obtain ⟨p, hp, hR7⟩ := hls7.at_ hr7
            have HPO := Lib.hid (HPS.out.1 p (List.mem_of_getElem? hp))
            have HS := Lib.hid (show addAll X (ps.take (j + 1)) = addOne (addAll X (ps.take j)) p from by rw [takeS hp, addAll_snoc])
            obtain ⟨Y, hY⟩ : ∃ Y, addAll X (ps.take j) = Y := ⟨_, rfl⟩
            rw [hY] at K2 HS
            obtain ⟨sp, bd⟩ := p
            obtain ⟨r0, rl, rm⟩ := r7
            have HR7 := Lib.hid hR7
            have hR1 := hR7.2.1
            have hR2 := hR7.2.2
            simp only at hR1 hR2 HPO
            obtain ⟨A3, c3, rfl, k3, -⟩ := hR1
            obtain ⟨A4, c4, rfl, k4, -⟩ := hR2
            have hl3 : bd.1.length = n_ := by have := HPO.out.1.own.len; have := HP.out; omega
            have hl4 : bd.2.length = n_ := by have := HPO.out.1.oth.len; have := HP.out; omega
            have c0 : wr.cell? ⟨b7, o7 + j * 3, none⟩ = some r0 := hc7 0 _ rfl
            have c1 : wr.cell? ⟨b7, o7 + j * 3 + 1, none⟩ = some (.slice A3 n_ c3) := by have := hc7 1 _ rfl; simp only [hl3] at this; exact this
            have c2 : wr.cell? ⟨b7, o7 + j * 3 + 2, none⟩ = some (.slice A4 n_ c4) := by have := hc7 2 _ rfl; simp only [hl4] at this; exact this
            have h1c : r0.oneCell' = true := by
              obtain ⟨A0, c0', e0', -⟩ := hR7.1.1.form enSt_len
              simp only at e0'
              rw [e0']; rfl
            obtain ⟨A0, n0, c0', hr0⟩ : ∃ A n c, r0 = .slice A n c := by
              obtain ⟨A0, c0', e0', -⟩ := hR7.1.1.form enSt_len
              exact ⟨_, _, _, e0'⟩
            subst hr0
            have hji : (j : Int) < (N : Int) := by omega
            have hwj : IntKind.i64.wrap ((j : Int) + 1) = (j : Int) + 1 := IntWalk.i64_in _ (by omega)
            have KEY := Lib.hid (fun (w9 : World) (h : Below wr.heap.size wr w9) => key_i bd.1 bd.2 n_ hl3 hl4 (by omega) (fun i => ⟨HPO.out.1.own.nn i, by have := HPO.out.1.own.top i; have := HC.out; omega⟩) (fun i => ⟨HPO.out.1.oth.nn i, by have := HPO.out.1.oth.top i; have := HC.out; omega⟩) A3 A4 c3 c4 w9.heap.size w9 (Nat.le_refl _) ((k3.keep (.below h)).rd) ((k4.keep (.below h)).rd))
            have HL3 := Lib.hid hl3
            have HL4 := Lib.hid hl4
            rw [HL3.out, HL4.out] at HR7
            clear hY hp hR7 hc7 hrd7 hls7 hr7 k3 k4 hl3 hl4
            go_upto_region 16 with (fail)
            refine wp_gen (fun W' => Below wr.heap.size wr W' ∧ RowB W' wr.heap.size 65 [.slice A0 n0 c0', .slice A3 n_ c3, .slice A4 n_ c4]) ?_ ?_
            · exact ⟨(Below.refl _ _).alloc (Nat.le_refl _) _, RowB.new _ _ _⟩
            rintro w5 ⟨hb5', rp⟩
            have hblk := K2.k1.blk
            have hn16 : u12.ownBlock ≠ some wr.heap.size := fun h => by have := (hblk _ h).2; omega
            have hgs16 : gs < wr.heap.size := K2.k1.sn.lt
            have HR8 : RelP.R w5 (OffB u12 (Tl lo gs)) (.slice A0 n0 c0', .slice A3 n_ c3, .slice A4 n_ c4) (sp, bd) := RelP.keep HR7.out (.below hb5')
            have K2 := K2.below hb5'
            have KEY := Lib.hid (KEY.out w5 hb5')
            obtain ⟨g16, hg16⟩ : ∃ g, wr.heap.size = g := ⟨_, rfl⟩
            rw [hg16] at rp hn16 hgs16 ⊢
            clear c0 c1 c2 hb7 hb5' hg16 HR7 hblk
            obtain ⟨z0, z1, z2⟩ := rp.c3
            have hl1 := rp.lt
            go_wp2_with fail
            refine KEY.out.mono ?_
            rintro e w8 ⟨rfl, hb8⟩
            have K2 := K2.below hb8
            have rp := rp.below hb8 rp.lt
            have HR8 := RelP.keep HR8 (.below hb8)
            clear z0 z1 z2 hl1 hb8 KEY
            obtain ⟨key, hkey⟩ : ∃ key : ByteArray, (⟨(keyP (bd.1, bd.2)).toArray⟩ : ByteArray) = key := ⟨_, rfl⟩
            rw [hkey]
            have hkd : key.data.toList = keyP bd := by rw [← hkey]
            have hks : key.size ≤ maxLen := by rw [← hkey]; show (keyP bd).toArray.size ≤ maxLen; rw [List.size_toArray, key_len, HL3.out, HL4.out]; unfold maxLen; omega
            obtain ⟨x9, hx9⟩ : ∃ x, decide (key.data.toList ∈ keysP Y) = x := ⟨_, rfl⟩
            have HLK := K2.k1.sn.look HMT key hks x9 hx9
            have HXB := Lib.hid (show x9 = hasB Y bd from by rw [← hx9, hkd]; exact has_key (fun q hq => (K2.k1.co.ok q hq).1) HPO.out.1)
            have HKD := Lib.hid hkd
            have HKS := Lib.hid hks
            clear hkey hkd hks hx9
            cases x9
            case true =>
              have HS' : addAll X (ps.take (j + 1)) = Y := by rw [HS.out]; exact addOne_has HXB.out.symm
              have K9 : Al2 w w8 v lo gs (.slice (some ⟨b5, o5, none⟩) L ca) AL u12 (addAll X (ps.take (j + 1))) n (k * 400000 + (j + 1)) (.slice (some ⟨b7, o7, none⟩) N cp) ps := by
                rw [HS']
                exact ⟨K2.k1.more (by omega), K2.pl⟩
              clear K2 HS'
              go_wp2_with fail
              go_roundw
              case rel => exact ⟨j + 1, by omega, by go_num, K9⟩
              case measure => simp [intOf]; omega
            case false =>
              have hy25 : Y.length ≤ 10000000 := by have := K2.k1.co.len; omega
              go_wp2_with (refine Seen.wpL_put rfl _ _ _ _ rfl HMT rfl K2.k1.sn (Nat.lt_of_le_of_lt hy25 HMX) key HKS.out rfl rfl ?_)
              intro w10 hsn hg10
              have hgeL := K2.k1.ge
              have bel := K2.k1.bel.grown hg10 K2.k1.bel.size (fun k hk => by simp at hk; omega)
              have og := K2.k1.og.low hg10 (Nat.lt_succ_self _) (fun h => h.2 rfl)
              have hst : Still (OffB u12 (Tl lo gs)) w8 w10 := Still.grown hg10 (fun k hk hn => by simp at hk; subst hk; exact hn.2.2 rfl)
              have al := (relSl RelR 1 en1).keep K2.k1.al hst
              have pl := (relSl RelP 3 enP).keep K2.pl hst
              have HR8 := RelP.keep HR8 hst
              have rp := rp.grown hg10 (fun k hk => by simp at hk; omega)
              have hsn : Seen w10 gs (Y ++ [(sp, bd)]).length (keysP (Y ++ [(sp, bd)])) := by
                rw [List.length_append]
                refine Bd16.Seen.same hsn (fun q => ?_)
                rw [HKD.out]; unfold keysP; rw [List.map_append]; simp [or_comm]
              have HSN := Lib.hid (show addAll X (ps.take (j + 1)) = Y ++ [(sp, bd)] from by rw [HS.out]; exact addOne_new HXB.out.symm)
              have hco := K2.k1.co.add (p := (sp, bd)) HPO.out
              rw [addOne_new (show hasB Y bd = false from HXB.out.symm)] at hco
              obtain ⟨rs9, ho9, hl9⟩ := og
              have hrl := Lib.hid hl9.1
              have hu := ho9.block
              have hs10 : gs < w10.heap.size := hsn.lt
              clear K2 hg10 HLK HXB HKD HKS HS hst
              obtain ⟨z0, z1, z2⟩ := rp.c3
              have hl1 := rp.lt
              go_wp2_with (at_builtin; refine wpL_one rfl _ _ _ rfl (gs + 1) _ 65 i3 (.agg #[.slice none 0 0, .slice none 0 0, .slice none 0 0]) 3 72 Try.underlying55 hi3 hy0 hy1 hy2 rfl (by decide) enP_len u12 rs9 (.slice A0 n0 c0', .slice A3 n_ c3, .slice A4 n_ c4) (one_P _ ⟨rfl, rfl, rfl⟩) rfl (ho9.alloc _) w10.heap.size 1 65 rfl (RowB.new _ _ _) ?d1 ?d2 ?d3 ?_)
              case d1 => have := hrl.out; unfold maxLen; omega
              case d2 => have := hrl.out; omega
              case d3 => go_size
              intro g14 c14 w12 ho12 hg12 hat12 hlt12
              have hbA : Below w10.heap.size w10 (w10.alloc (.cells #[.slice A0 n0 c0', .slice A3 n_ c3, .slice A4 n_ c4] 65)) := by go_grown
              have hat12 : u12.ownBlock = some g14 ∨ g14 = (w10.alloc (.cells #[.slice A0 n0 c0', .slice A3 n_ c3, .slice A4 n_ c4] 65)).heap.size := by simpa using hat12
              have hgW : w10.grownBy w12 u12.ownBlock := below_grown (w := w10) hbA hg12
              have og := OwnT.snoc (hl9.keep (.below hbA)) (RelP.keep HR8 (.below hbA)) ho12 hg12 hat12
              have al := app_off (K := relSl RelR 1 en1) (n := rs9.length + 1) (c := c14) hg12 hat12 ((relSl RelR 1 en1).keep al (.below hbA))
              have pl := app_off (K := relSl RelP 3 enP) (n := rs9.length + 1) (c := c14) hg12 hat12 ((relSl RelP 3 enP).keep pl (.below hbA))
              have K9 : Al2 w w12 v lo gs (.slice (some ⟨b5, o5, none⟩) L ca) AL (.slice (some ⟨g14, 0, none⟩) (rs9.length + 1) c14) (addAll X (ps.take (j + 1))) n (k * 400000 + (j + 1)) (.slice (some ⟨b7, o7, none⟩) N cp) ps := by
                rw [HSN.out]
                exact ⟨⟨bel.grown hgW bel.size (fun g hg => by have := (hu g hg).1; omega), hgeL, hsn.grown hgW (fun hg => by have := (hu gs hg).1; omega), og, al, hco.more (by omega)⟩, pl⟩
              clear og al pl hgW hbA ho12 hg12 hat12 bel rp hsn ho9 hl9 hu HR8 z0 z1 z2 hl1
              go_wp2_with fail
              go_roundw
              case rel => exact ⟨j + 1, by omega, by go_num, K9⟩
              case measure => simp [intOf]; omega
          · obtain rfl : j = N := by omega
            have hnj : ¬ ((j : Int) < (j : Int)) := by omega
            have hall : ps.take j = ps := List.take_of_length_le (by rw [HNN.out]; exact Nat.le_refl _)
            rw [hall] at K2
            clear hall
            by_cases h1 : n = 1
            · have e1 : ((n : Int) == 1) = true := by simp [h1]
              have HF : addAll X ps = implGo n AL [] := by rw [← HPE.out, ← implGo_one (by rw [HM.out]; exact HMn.out) h1]; exact HD1.out
              have H1 := Lib.hid h1
              clear h1
              obtain rfl := HRR.out
              have og := K2.k1.og.own (lo' := w.heap.size) (by have := K2.k1.ge; omega) (fun b hb => by have := hb.1; have := K2.k1.ge; omega)
              rw [HF] at og
              have bel := K2.k1.bel
              clear K2 HF
              go_wp2_with fail
              go_ret2
              exact ⟨_, rfl, og, bel⟩
            · have e1 : ((n : Int) == 1) = false := by simp; omega
              have HG : Hid (implGo n (AL.drop (k + 1)) (addAll X ps) = implGo n AL []) := Lib.hid (by rw [← HPE.out, ← implGo_more (by rw [HM.out]; exact HMn.out) h1]; exact HD1.out)
              have H1 := Lib.hid h1
              have K9 : Al1 w wr v lo gs (.slice (some ⟨b5, o5, none⟩) L ca) AL u12 (addAll X ps) n ((k + 1) * 400000) := K2.k1.more (by omega)
              clear h1 K2
              go_wp2_with fail
              go_roundw
              case rel => exact ⟨k + 1, addAll X ps, by omega, by go_num, K9, HG⟩
              case measure => simp [intOf]; omega
    · obtain rfl : k = L := by omega
      have hnk : ¬ ((k : Int) < (k : Int)) := by omega
      have HF : X = implGo n AL [] := by rw [← HG.out, List.drop_of_length_le (by rw [HL.out]; exact Nat.le_refl _)]; rfl
      obtain rfl := HRR.out
      have og := K.og.own (lo' := w.heap.size) (by have := K.ge; omega) (fun b hb => by have := hb.1; have := K.ge; omega)
      rw [HF] at og
      have bel := K.bel
      clear K HG HF
      go_wp2_with fail
      go_ret2
      exact ⟨_, rfl, og, bel⟩
end Go.Proofs.Ytfgkkmhafdbicaa.Bd21
