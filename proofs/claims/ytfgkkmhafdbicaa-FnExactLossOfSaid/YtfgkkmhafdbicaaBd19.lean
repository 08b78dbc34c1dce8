/-
  The kept sequences of an order of dice: of the program (sequencesOf). Conditions: each theorem's own.
-/
import Derived.Test.YtfgkkmhafdbicaaBd18
set_option linter.unusedVariables false
set_option linter.unusedSimpArgs false
namespace Go.Proofs.Ytfgkkmhafdbicaa.Bd19
open Go.ChangeShapes Go.WideShapes Go.ChangeAt Go.RowKit Base Ints Own Clone RelG PlP Bd1 Bd4 Bd5 Bd6 Bd7 Bd7S Bd8 Bd9 Bd11 RegInv RegF RegG Bd16 Bd17

/-- Rows of plays, in slices. -/
abbrev RelQ : Rel Value (List Pl) := relSl RelP 3 enP
theorem infoQ : (Try.prog.info? 55).map (fun i => (i.zero, i.size, i.bytes)) = some (some (.slice none 0 0), 1, 24) := by kernel_rfl
theorem rows_zero {v : Vr} {d : Int} {ds : List Int} {R : List (List Pl)} {f : Bool} (h : (nextP v d (R.getLastD [])).length = 0) : rowsGo v (d :: ds) R f = (R, f) := by
  simp only [rowsGo]; rw [if_pos h]
theorem rows_more {v : Vr} {d : Int} {ds : List Int} {R : List (List Pl)} {f : Bool} (h : ¬ (nextP v d (R.getLastD [])).length = 0) : rowsGo v (d :: ds) R f = rowsGo v ds (R ++ [nextP v d (R.getLastD [])]) (f && decide ((nextP v d (R.getLastD [])).length ≤ 3000)) := by
  simp only [rowsGo]; rw [if_neg h]
theorem drop_at {l : List Int} {i : Nat} (h : i < l.length) : l.drop i = at_ l i :: l.drop (i + 1) := by
  have h1 := at_get h
  rw [List.getElem?_eq_getElem h] at h1
  rw [List.drop_eq_getElem_cons h]; simp only [Option.some.injEq] at h1; rw [h1]
theorem last_of {R : List (List Pl)} {i : Nat} (h : R.length = i + 1) : R[i]? = some (R.getLastD []) := by
  rw [List.getLastD_eq_getLast?, List.getLast?_eq_getElem?, h, Nat.add_sub_cancel]
  rw [List.getElem?_eq_getElem (by omega)]; rfl
theorem OwnG.form {ρ α : Type} {K : Rel ρ α} {w : World} {lo hi sz : Nat} {e : TypeId} {en : ρ → List Value} {v : Value} {xs : List α} (hen : ∀ x, (en x).length = sz) (h : OwnG K w lo hi e sz en v xs) : ∃ A c, v = .slice A xs.length c ∧ (A = none → c = 0) := by
  obtain ⟨rs, h1, h2⟩ := h
  obtain ⟨A, c, e1, -⟩ := h1.form hen
  refine ⟨A, c, by rw [e1, h2.1], fun hA => ?_⟩
  rcases h1.cases_ with ⟨e2, _⟩ | ⟨g, cap, rest, e2, _⟩
  · rw [e1] at e2; simp only [Value.slice.injEq] at e2; exact e2.2.2
  · rw [e1, hA] at e2; simp only [Value.slice.injEq] at e2; exact absurd e2.1 (by simp)
/-- Rows under way. -/
structure Sq (w wr : World) (v : Vr) (vl : Value) (R : List (List Pl)) : Prop where
  bel : Below w.heap.size w wr
  rv : RowB wr w.heap.size 32 [.int .i64 v.p, .int .i64 v.c, .int .i64 v.h, .int .i64 v.s]
  og : OwnG RelQ wr (w.heap.size + 2) wr.heap.size 55 1 en1 vl R
theorem Sq.below {w wr w' : World} {v : Vr} {vl : Value} {R : List (List Pl)} (h : Sq w wr v vl R) (hb : Below wr.heap.size wr w') : Sq w w' v vl R :=
  ⟨h.bel.trans (hb.mono h.bel.size), h.rv.below hb h.rv.lt, (h.og.below_ hb).more hb.size⟩
theorem pow_le {i : Nat} (h : i ≤ 3) : 25 ^ i ≤ 20000 := by
  have : i = 0 ∨ i = 1 ∨ i = 2 ∨ i = 3 := by omega
  rcases this with rfl | rfl | rfl | rfl <;> decide
/-- The first row. -/
theorem first_row {W : World} {b : Bd} {n g1 g2 lo : Nat} {A1 A2 : Option Addr} {c1 c2 : Nat} (h1 : RowB W g1 65 [.slice none 0 0, .slice A1 n c1, .slice A2 n c2]) (h2 : RowB W g2 55 [.slice (some ⟨g1, 0, none⟩) 1 1]) (hg : g1 ≠ g2) (l1 : lo ≤ g1) (l2 : lo ≤ g2)
    (k1 : SlV 1 enI W (fun x => lo ≤ x ∧ x ≠ g2) (.slice A1 n c1) b.1) (k2 : SlV 1 enI W (fun x => lo ≤ x ∧ x ≠ g2) (.slice A2 n c2) b.2) : OwnG RelQ W lo W.heap.size 55 1 en1 (.slice (some ⟨g2, 0, none⟩) 1 1) [[([], b)]] := by
  have ni : ∀ x, (lo ≤ x ∧ x ≠ g2) → NotIn (.slice (some ⟨g2, 0, none⟩) 1 1) lo x := fun x hx => ⟨fun e => hx.2 (by simp [Value.ownBlock] at e; exact e.symm), hx.1⟩
  refine ⟨[.slice (some ⟨g1, 0, none⟩) 1 1], RowB.own (xs := [Value.slice (some ⟨g1, 0, none⟩) 1 1]) h2 en1_len l2 h2.lt (show 1 ≤ maxLen by decide), LsR.snoc (LsR.nil _ _ _) ?_⟩
  have ho : OwnS W 0 W.heap.size 65 3 enP (.slice (some ⟨g1, 0, none⟩) 1 1) [((.slice none 0 0, .slice A1 n c1, .slice A2 n c2) : PRow)] := RowB.own (xs := [((.slice none 0 0, .slice A1 n c1, .slice A2 n c2) : PRow)]) h1 enP_len (Nat.zero_le _) h1.lt (show 1 ≤ maxLen by decide)
  have hv : OwnV 65 3 enP W (fun x => lo ≤ x ∧ x ≠ g2) (.slice (some ⟨g1, 0, none⟩) 1 1) [((.slice none 0 0, .slice A1 n c1, .slice A2 n c2) : PRow)] := ⟨ho, fun g h => by simp [Value.ownBlock] at h; subst h; exact ⟨l1, hg⟩⟩
  obtain ⟨A, c, e1, hr, hc⟩ := hv.sl enP_len
  refine RelQ.weak (S := fun x => lo ≤ x ∧ x ≠ g2) ⟨A, c, _, e1, hr, ?_, hc⟩ (fun x hx _ => ni x hx)
  exact LsR.snoc (LsR.nil _ _ _) ⟨⟨OwnS.nil_ _ _ _ _ _ _, fun g h => by simp [Value.ownBlock] at h⟩, k1, k2⟩

set_option maxHeartbeats 4000000 in
set_option maxRecDepth 100000 in
theorem seqOf_i (v : Vr) (b : Bd) (hb : Ok v b) (Ao At : Option Addr) (co ct : Nat) (ds : List Int) (hds : ∀ d ∈ ds, 1 ≤ d ∧ d ≤ 6) (hlen : ds.length ≤ 4) (u : Value) (w : World) (ho : RdS w w.heap.size 1 enI Ao b.1) (ht : RdS w w.heap.size 1 enI At b.2) (hA : Ao = none → co = 0) (hT : At = none → ct = 0) (hu : SlV 1 enI w All u ds) :
    Calls Try.prog 83 #[.agg #[.int .i64 v.p, .int .i64 v.c, .int .i64 v.h, .int .i64 v.s], .agg #[.slice Ao b.1.length co, .slice At b.2.length ct], u] w fun e w' => ∃ vv, e = .returned (.tuple #[vv, .bool (rowsP v b ds).2]) ∧ OwnG RelQ w' w.heap.size w'.heap.size 55 1 en1 vv (rowsP v b ds).1 ∧ Below w.heap.size w w' := by
  obtain ⟨iQ, hiQ, hz0, hz1, hz2⟩ := info_parts infoQ
  have hv := hb.v1
  have hvV : okV v = true := okV_iff.2 hv
  obtain ⟨P, hP⟩ : ∃ P : Nat, v.p = (P : Int) := ⟨v.p.toNat, by omega⟩
  have HP := Lib.hid hP
  have hP24 : P ≤ 24 := by omega
  obtain ⟨n, hn⟩ : ∃ n, P + 1 = n := ⟨_, rfl⟩
  have eln : b.1.length = n := by have := hb.own.len; omega
  have emn : b.2.length = n := by have := hb.oth.len; omega
  have CC := Lib.hid (fun (w9 : World) (h : Below w.heap.size w w9) => clone_i b.1 b.2 Ao At co ct w.heap.size w9 h.size (ho.below h (Nat.le_refl _)) (ht.below h (Nat.le_refl _)) hA hT (by omega) (by omega))
  rw [eln, emn] at CC ⊢
  have HLN := Lib.hid eln
  have HMN := Lib.hid emn
  have HB := Lib.hid hb
  obtain ⟨Au, cu, rfl, hru, -⟩ := hu
  obtain ⟨N, hN⟩ : ∃ N, ds.length = N := ⟨_, rfl⟩
  have HN := Lib.hid hN
  rw [hN] at hlen ⊢
  have HRU := Lib.hid hru
  have HDS := Lib.hid (fun i (h : i < N) => hds _ (List.mem_of_getElem? (at_get (l := ds) (i := i) (by rw [hN]; exact h))))
  have HGO := Lib.hid (fun (w9 : World) (i : Nat) (hi : i ≤ 3) (xs : List Pl) (hxs : RowOk v i xs) (hxl : xs.length ≤ 25 ^ i) (d : Int) (hd : 1 ≤ d ∧ d ≤ 6) (uu : Value) (S0 : Nat → Prop) (hu : SlG RelP 3 enP w9 S0 uu xs) => goOn_i v hvV i (by omega) xs hxs (Nat.le_trans hxl (pow_le hi)) d hd uu S0 w9 hu)
  obtain ⟨RR, hRR⟩ : ∃ r, rowsP v b ds = r := ⟨_, rfl⟩
  rw [hRR]
  have HRR := Lib.hid hRR
  clear hb hv hvV hP eln emn ho ht hA hT hN hru hds hRR
  go_enter Try.func83, Try.ntmps83
  go_upto_region 1 with (fail)
  refine wp_gen (fun W' => Below w.heap.size w W' ∧ RowB W' w.heap.size 32 [.int .i64 v.p, .int .i64 v.c, .int .i64 v.h, .int .i64 v.s] ∧ RowB W' (w.heap.size + 1) 34 [.slice Ao n co, .slice At n ct]) ⟨by go_grown, (RowB.new _ _ _).alloc _, RowB.new' _ _ _ (by simp)⟩ ?_
  rintro w1 ⟨hb1, rv, rb⟩
  obtain ⟨r0, r1⟩ := rb.c2
  have hl2 := rb.lt
  go_wp2_with fail
  refine (CC.out w1 hb1).mono ?_
  rintro e w2 ⟨A1, c1, A2, c2, rfl, o1, o2, -, hb2⟩
  have rv := rv.below hb2 rv.lt
  have hs1 : w.heap.size + 2 ≤ w1.heap.size := by omega
  have hb12 := hb1.trans (hb2.mono hb1.size)
  have hs2 := hb2.size
  rw [HLN.out] at o1
  rw [HMN.out] at o2
  simp only [HLN.out, HMN.out]
  clear r0 r1 hl2 rb hb1 hb2 CC
  go_upto_region 2 with (fail)
  refine wp_gen (fun W' => Sq w W' v (.slice (some ⟨w2.heap.size + 1, 0, none⟩) 1 1) [[([], b)]]) ?_ ?_
  · refine ⟨by go_grown, (rv.alloc _).alloc _, first_row (g1 := w2.heap.size) (RowB.alloc (RowB.new _ _ _) _) (RowB.new' _ _ _ (by simp)) (by omega) (by omega) (by omega) ?_ ?_⟩
    · have h1 := (OwnV.of o1 (Nat.le_refl _) (S := fun x => w1.heap.size ≤ x ∧ x < w2.heap.size) (fun x hx hx2 => ⟨hx, hx2⟩)).sl enI_len
      exact (relV 1 enI).weak ((relV 1 enI).keep h1 (.below (by go_grown))) (fun x hx _ => ⟨by omega, by omega⟩)
    · have h1 := (OwnV.of o2 (Nat.le_refl _) (S := fun x => w1.heap.size ≤ x ∧ x < w2.heap.size) (fun x hx hx2 => ⟨hx, hx2⟩)).sl enI_len
      exact (relV 1 enI).weak ((relV 1 enI).keep h1 (.below (by go_grown))) (fun x hx _ => ⟨by omega, by omega⟩)
  intro w3 K
  clear rv o1 o2 hb12 hs1 hs2
  have hl1 := K.rv.lt
  go_wp2_with fail
  go_loopw [8, 9, 20] (fun vl fv i wr => ∃ (k : Nat) (R : List (List Pl)) (f : Bool), k ≤ N ∧ i = .int .i64 (k : Int) ∧ fv = .bool f ∧ Sq w wr v vl R ∧ Hid (R.length = k + 1) ∧ Hid (RowOk v k (R.getLastD []) ∧ (R.getLastD []).length ≤ 25 ^ k) ∧ Hid (rowsGo v (ds.drop k) R f = RR)) (fun _ _ i _ => N - (intOf i).toNat)
  case atStart => exact ⟨0, [[([], b)]], true, Nat.zero_le _, by first | rfl | trivial, by first | rfl | trivial, K, Lib.hid rfl, Lib.hid ⟨fun q hq => by simp at hq; subst hq; exact ⟨HB.out, rfl⟩, by simp⟩, HRR⟩
  case round =>
    obtain ⟨k, R, f, hk, rfl, rfl, K, HL, HO, HG⟩ := hrel
    clear hl1
    have hl1 := K.rv.lt
    by_cases hlt : k < N
    · obtain ⟨bu, ou, rfl, hbu, hcu⟩ := at_rd (HRU.out.rd.below K.bel (Nat.le_refl _)) (i := k) (by rw [HN.out]; exact hlt)
      have hkn : (k : Int) < (N : Int) := by omega
      have hwk : IntKind.i64.wrap ((k : Int) + 1) = (k : Int) + 1 := IntWalk.i64_in _ (by omega)
      have hD := HDS.out k hlt
      have HG' := Lib.hid HG.out
      rw [drop_at (by rw [HN.out]; exact hlt)] at HG'
      obtain ⟨d, hd⟩ : ∃ d, at_ ds k = d := ⟨_, rfl⟩
      rw [hd] at hcu hD HG'
      clear hd HG
      obtain ⟨rs, hrs1, hrs2⟩ := K.og
      obtain ⟨Av, cv, hvl, hrd⟩ := hrs1.form en1_len
      have hrl : rs.length = k + 1 := by rw [hrs2.1]; exact HL.out
      obtain ⟨L, hL⟩ : ∃ L, k + 1 = L := ⟨_, rfl⟩
      have HLL := Lib.hid hL
      rw [hrl, hL] at hvl
      subst hvl
      obtain ⟨bv, ov, r, rfl, hbv, hr, hcr⟩ := hrd.at_ (i := k) (by omega)
      have hcr := hcr 0 r rfl
      have hcr : wr.cell? ⟨bv, ov + k, none⟩ = some r := by simpa using hcr
      have HR := Lib.hid (hrs2.2 k r _ hr (last_of HL.out))
      have hk1 : IntKind.i64.wrap ((L : Int) - 1) = (k : Int) := by rw [IntWalk.i64_in _ (by omega)]; omega
      have hk2 : (k : Int) < (L : Int) := by omega
      clear hrs1 hrs2 hrd hr hrl hL
      obtain ⟨q0, q1, q2, q3⟩ := K.rv.c4
      go_wp2_with fail
      go_still_tail 8, (by kernel_rfl)
      go_wp2_with fail
      refine (HGO.out wr.drew k (by omega) _ HO.out.1 HO.out.2 d hD r _ (RelQ.keep HR.out (.below (Below.refl _ _).drew))).mono ?_
      rintro e w5 ⟨nv, rfl, hog, hb5⟩
      have K0 : Sq w wr.drew v _ R := K.below (Below.refl _ _).drew
      have hblk : ∀ g, (Value.slice (some ⟨bv, ov, none⟩) L cv).ownBlock = some g → w.heap.size + 2 ≤ g ∧ g < wr.heap.size := fun g hg => by obtain ⟨rs9, h9, -⟩ := K.og; exact h9.block g hg
      have hsz : w.heap.size + 2 ≤ wr.heap.size := by have := (hblk bv rfl); omega
      obtain ⟨nx, hnx⟩ : ∃ l, nextP v d (R.getLastD []) = l := ⟨_, rfl⟩
      have HNX := Lib.hid (show RowOk v (k + 1) nx ∧ nx.length ≤ 25 ^ (k + 1) from by
        rw [← hnx]
        refine ⟨next_ok hD.1 HO.out.1, Nat.le_trans next_len ?_⟩
        rw [Nat.pow_succ]
        exact Nat.mul_le_mul HO.out.2 (by have := HP.out; omega))
      rw [hnx] at hog
      have HNV : SlG RelP 3 enP w5 (NotIn (.slice (some ⟨bv, ov, none⟩) L cv) (w.heap.size + 2)) nv nx := RelQ.weak (hog.sl enP_len (Nat.le_refl _)) (fun x (hx : wr.heap.size ≤ x) _ => ⟨fun h => by have := (hblk x h).2; omega, by omega⟩)
      obtain ⟨An, cn, hnv, -⟩ := OwnG.form enP_len hog
      have K := K0.below hb5
      obtain ⟨M, hM⟩ : ∃ M, nx.length = M := ⟨_, rfl⟩
      rw [hM] at hnv
      subst hnv
      have HMM := Lib.hid hM
      have HNXE := Lib.hid hnx
      clear K0 hog hb5 HR hbu hcu hbv hcr hblk hM hnx q0 q1 q2 q3 hl1 hsz
      have hl1 := K.rv.lt
      by_cases h0 : M = 0
      · have e7 : ((M : Int) == 0) = true := by simp [h0]
        have HE : (R, f) = RR := by rw [← HG'.out, rows_zero (by rw [HNXE.out, HMM.out]; exact h0)]
        subst HE
        have hM0 := Lib.hid h0
        clear h0 HG' HNV
        go_wp2_with fail
        go_ret2
        exact ⟨_, rfl, K.og.less (by omega), K.bel⟩
      · have e7 : ((M : Int) == 0) = false := by simp [h0]
        have HE : Hid (rowsGo v (ds.drop (k + 1)) (R ++ [nx]) (f && decide (nx.length ≤ 3000)) = RR) := Lib.hid (by
          rw [← HG'.out, rows_more (by rw [HNXE.out, HMM.out]; exact h0), HNXE.out])
        have hM0 := Lib.hid h0
        obtain ⟨x, hx⟩ : ∃ x, decide ((M : Int) ≤ 3000) = x := ⟨_, rfl⟩
        have hx2 : decide (nx.length ≤ 3000) = x := by rw [← hx, HMM.out]; exact decide_eq_decide.2 (by omega)
        rw [hx2] at HE
        have HX := Lib.hid hx2
        have hnl : (R ++ [nx]).getLastD [] = nx := by simp
        have HK9 : Hid ((R ++ [nx]).length = k + 1 + 1) ∧ Hid (RowOk v (k + 1) ((R ++ [nx]).getLastD []) ∧ ((R ++ [nx]).getLastD []).length ≤ 25 ^ (k + 1)) := ⟨Lib.hid (by rw [List.length_append, HL.out]; rfl), by rw [hnl]; exact HNX⟩
        clear h0 HG' hx2 hnl
        obtain ⟨rs, hrs1, hrs2⟩ := K.og
        have hrl := Lib.hid (show rs.length = L from by rw [hrs2.1, ← HLL.out]; exact HL.out)
        have hrow := Lib.hid hrs1.block
        have HF : Hid ((f && x) = (f && x)) := Lib.hid rfl
        cases f
        all_goals
          go_wp2_with (at_builtin; refine wpL_one rfl _ _ _ rfl (w.heap.size + 2) _ 55 iQ (.slice none 0 0) 1 24 Try.underlying88 hiQ hz0 hz1 hz2 rfl (by decide) en1_len (.slice (some ⟨bv, ov, none⟩) L cv) rs (.slice An M cn) (by intro u hu; simp [en1] at hu; subst hu; rfl) rfl (hrs1.alloc _) w5.heap.size 1 55 rfl (RowB.new _ _ _) ?c1 ?c2 ?c3 ?_)
          case c1 => have := hrl.out; have := HLL.out; unfold maxLen; omega
          case c2 => have := hrl.out; have := HLL.out; omega
          case c3 => go_size
          intro g6 c6 w6 ho6 hg6 hat6 hlt6
          have hbA : Below w5.heap.size w5 (w5.alloc (.cells #[.slice An M cn] 55)) := by go_grown
          have hat6 : (Value.slice (some ⟨bv, ov, none⟩) L cv).ownBlock = some g6 ∨ g6 = (w5.alloc (.cells #[.slice An M cn] 55)).heap.size := by simpa using hat6
          have hgW := below_grown (w := w5) hbA hg6
          have og := own_snoc (hrs2.keep (.below hbA)) (RelQ.keep HNV (.below hbA)) ho6 hg6 hat6
          have hbl := hrow.out
          rw [hrl.out] at og
          have hrl2 := hrl.out
          have K9 : Sq w w6 v (.slice (some ⟨g6, 0, none⟩) (L + 1) c6) (R ++ [nx]) := ⟨K.bel.grown hgW K.bel.size (fun g hg => by have := (hbl g hg).1; omega), K.rv.grown hgW (fun g hg => by have := (hbl g hg).1; omega), og⟩
          clear og hgW hat6 hbA ho6 hg6 hbl K hrs1 hrs2 HNV
          rw [hrl2]
          clear hrl2
          go_wp2_with fail
          go_roundw
          case rel => exact ⟨k + 1, R ++ [nx], _, by omega, by go_num, by first | rfl | (rw [hx]; rfl) | simp, K9, HK9.1, HK9.2, by first | exact HE | (rw [← hx] at HE; exact HE) | simpa using HE⟩
          case measure => simp [intOf]; omega
    · obtain rfl : k = N := by omega
      have hnk : ¬ ((k : Int) < (k : Int)) := by omega
      have HE : (R, f) = RR := by rw [← HG.out, List.drop_of_length_le (by rw [HN.out]; exact Nat.le_refl _)]; rfl
      subst HE
      clear HG
      go_wp2_with fail
      go_ret2
      exact ⟨_, rfl, K.og.less (by omega), K.bel⟩
end Go.Proofs.Ytfgkkmhafdbicaa.Bd19
