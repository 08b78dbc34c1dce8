/-
  The law on the summaries of both players: all verdicts of a list are in one of them, and the grades add up to the turns. Conditions: none beyond the given row's.
-/
import Derived.Test.YtahpdboehpicoaaDoorSummS
import Derived.Test.YtahpdboehpicoaaDoorSummI
import Derived.Test.YtahpdboehpicoaaDoorSumTwo
import Derived.Test.YtahpdboehpicoaaDoorDrawVX
import Derived.Test.YtahpdboehpicoaaDoorVText
set_option linter.unusedVariables false
namespace Go.Proofs.YtahpdboehpicoaaDoor.SumsLaw
open Go.ChangeShapes Go.WideShapes Go.ChangeAt Go.RowKit Base Base2 Ints Own Summ SummS SummI SumTwo Draw DrawD

theorem likeI (B1 B2 : Nat) (A1 A2 : Option Addr) (c1 c2 : Nat) (xs : List Int) (w : World) (h1 : RdS w B1 1 enI A1 xs) (h2 : RdS w B2 1 enI A2 xs) :
    Calls Tryd.prog 12 #[.slice A1 xs.length c1, .slice A2 xs.length c2] w fun e w' => e = .returned (.bool true) ∧ Below w.heap.size w w' := by
  have hn := h1.len
  generalize hnn : xs.length = n at *
  have H := Lib.hid hnn; clear hnn
  go_enter Tryd.func12, Tryd.ntmps12
  go_wp2
  go_loopw [5] (fun i wr => ∃ k : Nat, k ≤ n ∧ i = .int .i64 k ∧ Hid (∃ m, wr = w.drewN m)) (fun i _ => n - (intOf i).toNat)
  case atStart => exact ⟨0, Nat.zero_le _, rfl, 0, rfl⟩
  case round =>
    obtain ⟨k, hk, rfl, hm⟩ := hrel
    by_cases hlt : k < n
    · obtain ⟨b, off, x, rfl, hb, hx, hc⟩ := rdI_at h1 (by rw [H.out]; exact hlt)
      obtain ⟨b', off', x', rfl, hb', hx', hc'⟩ := rdI_at h2 (by rw [H.out]; exact hlt)
      rw [hx] at hx'
      obtain rfl : x = x' := by simpa using hx'
      have d1 : wr.cell? ⟨b, off + k, none⟩ = some (.int .i64 x) := by obtain ⟨m, rfl⟩ := hm.out; exact hc
      have d2 : wr.cell? ⟨b', off' + k, none⟩ = some (.int .i64 x) := by obtain ⟨m, rfl⟩ := hm.out; exact hc'
      have e1 : (x != x) = false := by simp
      clear hx hx' hc hc'
      go_wp2
      go_quiet (fail)
      go_wp2
      go_roundw
      case rel => exact ⟨k + 1, by omega, by go_num, by obtain ⟨m, rfl⟩ := hm.out; exact ⟨_, World.drewN_drewN _ _ _⟩⟩
      case measure => simp [intOf]; omega
    · go_wp2
      go_ret
      obtain ⟨m, rfl⟩ := hm.out
      exact ⟨rfl, below_drewN (Below.refl _ _) _⟩


theorem bigF (n cp : Nat) (A : Option Addr) (b : Bool) (hb : decide ((4096 : Int) < (n : Int)) = b) (w : World) (hn : n ≤ maxLen) : Calls Tryd.prog 8 #[.slice A n cp] w fun e w' => e = .returned (.bool b) ∧ w = w' := by
  subst hb
  unfold maxLen at hn
  go_enter Tryd.func8, Tryd.ntmps8
  go_wp2
  go_ret
  exact ⟨rfl, rfl⟩
/-- The error rate where there is no turn, and where there is one. -/
theorem rate0 (b c d : Int) (A : Option Addr) (n cp : Nat) (w : World) :
    Calls Tryd.prog 15 #[.agg #[.int .i64 0, .int .i64 b, .int .i64 c, .int .i64 d, .slice A n cp]] w fun e w' => e = .returned (.tuple #[.int .i64 0, .int .i64 5]) ∧ Below w.heap.size w w' := by
  go_enter Tryd.func15, Tryd.ntmps15
  go_wp2
  go_ret2
  exact ⟨rfl, by go_grown⟩
theorem rate1 (a b c d : Int) (A : Option Addr) (n cp : Nat) (w : World) (ha : 1 ≤ a) (hb : 0 ≤ b) (hb2 : b ≤ 300000000) :
    Calls Tryd.prog 15 #[.agg #[.int .i64 a, .int .i64 b, .int .i64 c, .int .i64 d, .slice A n cp]] w fun e w' => e = .returned (.tuple #[.int .i64 (b / a), .int .i64 0]) ∧ Below w.heap.size w w' := by
  have h1 : decide (a < 1) = false := decide_eq_false (by omega)
  have h2 : decide (b < 0) = false := decide_eq_false (by omega)
  have eq : Int.tdiv b a = b / a := Int.tdiv_eq_ediv_of_nonneg hb
  have hq : b / a ≤ b := Int.ediv_le_self _ hb
  have hq0 : 0 ≤ b / a := Int.ediv_nonneg hb (by omega)
  have ew : IntKind.i64.wrap (b / a) = b / a := IntWalk.i64_in _ (by omega)
  have hne : a ≠ 0 := by omega
  go_enter Tryd.func15, Tryd.ntmps15
  go_wp2
  go_ret2
  exact ⟨rfl, by go_grown⟩
theorem gradeI (x : Int) (w : World) (k : Nat) : Calls Tryd.prog 13 #[.int .i64 x] (w.drewN k) fun e w'' => e = .returned (.int .i64 (grd x)) ∧ ∃ m, w'' = w.drewN m :=
  Calls.quiet_of_same ((grd_impl x (w.drewN k)).mono fun _ _ h => ⟨h.1, h.2.symm⟩)
theorem gradeS (x : Int) (w : World) (k : Nat) : Calls Tryd.prog 14 #[.int .i64 x] (w.drewN k) fun e w'' => e = .returned (.int .i64 (grd x)) ∧ ∃ m, w'' = w.drewN m :=
  Calls.quiet_of_same ((grd_spec x (w.drewN k)).mono fun _ _ h => ⟨h.1, h.2.symm⟩)
/-- The sum of a list. -/
theorem sum6 (B : Nat) (A : Option Addr) (cp : Nat) (xs : List Int) (w : World) (h1 : RdS w B 1 enI A xs) (hx : ∀ x ∈ xs, 0 ≤ x ∧ x ≤ 300) (hl : xs.length ≤ 4) :
    Calls Tryd.prog 16 #[.slice A xs.length cp] w fun e w' => e = .returned (.int .i64 xs.sum) ∧ w = w' := by
  have hn := h1.len
  obtain ⟨n, hnn⟩ : ∃ n, xs.length = n := ⟨_, rfl⟩
  have H := Lib.hid hnn
  have HX := Lib.hid hx
  obtain ⟨z, hz⟩ : ∃ z, xs.sum = z := ⟨_, rfl⟩
  have HZ := Lib.hid hz
  rw [hnn] at hl hn
  rw [hnn, hz]
  clear hnn hx hz
  go_enter Tryd.func16, Tryd.ntmps16
  go_wp2
  go_loopw [3, 4] (fun s i wr => ∃ (k : Nat) (t : Int), k ≤ n ∧ s = .int .i64 t ∧ i = .int .i64 k ∧ w = wr ∧ 0 ≤ t ∧ t ≤ 300 * (k : Int) ∧ Hid (t = (xs.take k).sum)) (fun _ i _ => n - (intOf i).toNat)
  case atStart => exact ⟨0, 0, Nat.zero_le _, by trivial, by trivial, by trivial, by omega, by omega, rfl⟩
  case round =>
    obtain ⟨k, t, hk, rfl, rfl, rfl, t0, t1, ht⟩ := hrel
    by_cases hlt : k < n
    · obtain ⟨b, off, x, rfl, hb, hx, hc⟩ := rdI_at h1 (by rw [H.out]; exact hlt)
      obtain ⟨x0, x1⟩ := HX.out x (List.mem_of_getElem? hx)
      have HT : Hid (t + x = (xs.take (k + 1)).sum) := by
        refine Lib.hid ?_
        rw [take_succ xs k x hx, List.sum_append, ← ht.out]; simp
      clear hx
      go_wp2
      go_roundw
      case rel => exact ⟨k + 1, t + x, by omega, by first | rfl | trivial, by go_num, by first | rfl | trivial, by omega, by omega, HT⟩
      case measure => simp [intOf]; omega
    · obtain rfl : k = n := by omega
      have HT : Hid (t = z) := Lib.hid (by rw [ht.out, ← HZ.out, List.take_of_length_le (by rw [H.out]; exact Nat.le_refl _)])
      go_wp2
      go_ret
      exact ⟨by rw [HT.out]; rfl, rfl⟩

theorem sumQ (B : Nat) (A : Option Addr) (cp : Nat) (xs : List Int) (z : Int) (hz : xs.sum = z) (w : World) (k : Nat) (h1 : RdS w B 1 enI A xs) (hx : ∀ x ∈ xs, 0 ≤ x ∧ x ≤ 300) (hl : xs.length ≤ 4) :
    Calls Tryd.prog 16 #[.slice A xs.length cp] (w.drewN k) fun e w'' => e = .returned (.int .i64 z) ∧ ∃ m, w'' = w.drewN m := by
  subst hz
  exact Calls.quiet_of_same ((sum6 B A cp xs (w.drewN k) h1 hx hl).mono fun _ _ h => ⟨h.1, h.2.symm⟩)

/-- A summary's box and its grades. -/
structure Bx (w : World) (g lo hi : Nat) (a b c d : Int) (A : Option Addr) (cp : Nat) (gs : List Int) : Prop where
  row : RowB w g 35 [.int .i64 a, .int .i64 b, .int .i64 c, .int .i64 d, .slice A gs.length cp]
  own : OwnS w lo hi 2 1 enI (.slice A gs.length cp) gs
  le : hi ≤ w.heap.size
theorem Bx.below {w w' : World} {g lo hi : Nat} {a b c d : Int} {A : Option Addr} {cp : Nat} {gs : List Int} (h : Bx w g lo hi a b c d A cp gs) (hb : Below w.heap.size w w') : Bx w' g lo hi a b c d A cp gs :=
  ⟨h.row.below hb h.row.lt, h.own.below hb h.le, Nat.le_trans h.le hb.size⟩
/-- A list of verdicts. -/
structure Bl (w : World) (lo hi : Nat) (A : Option Addr) (cp : Nat) (xs : List V4) : Prop where
  own : OwnS w lo hi 25 4 enI4 (.slice A xs.length cp) xs
  le : hi ≤ w.heap.size
theorem Bl.below {w w' : World} {lo hi : Nat} {A : Option Addr} {cp : Nat} {xs : List V4} (h : Bl w lo hi A cp xs) (hb : Below w.heap.size w w') : Bl w' lo hi A cp xs := ⟨h.own.below hb h.le, Nat.le_trans h.le hb.size⟩
/-- The code that came in. -/
structure Cd (W : World) (A : Option Addr) (cs : List Int) (w : World) : Prop where
  bel : Below W.heap.size W w
  rd : RdS w W.heap.size 1 enB A cs
theorem Cd.below {W w w' : World} {A : Option Addr} {cs : List Int} (h : Cd W A cs w) (hb : Below w.heap.size w w') : Cd W A cs w' := ⟨h.bel.trans (hb.mono h.bel.size), h.rd.below hb h.bel.size⟩
theorem rd_up {w : World} {B : Nat} {A : Option Addr} {cs : List Int} (h : RdS w B 1 enB A cs) (hB : B ≤ w.heap.size) : RdS w w.heap.size 1 enB A cs := h.more hB
theorem ne_of_size (T : ByteArray) (h : 0 < T.size) : T.toList.isEmpty = false := by
  rw [ByteArray.toList_eq]
  obtain ⟨⟨l⟩⟩ := T
  cases l with
  | nil => simp [ByteArray.size] at h
  | cons x l => rfl
theorem size_pos {r : Int} {p q s : Int} (h : 0 ≤ r) : (VText.vtext p q r s).toList.isEmpty = false := by
  have hp : 0 < (VText.vtext p q r s).size := by
    unfold VText.vtext
    rw [if_neg (by omega)]
    simp only [ByteArray.size_append]
    have h3 : (VText.sp).size = 1 := rfl
    omega
  exact ne_of_size _ hp

set_option maxHeartbeats 8000000 in
set_option maxRecDepth 100000 in
theorem sums (Ac : Option Addr) (cpc : Nat) (cs : List Int) (W : World) (hr : RdS W W.heap.size 1 enB Ac cs) (hw : ∀ x ∈ cs, (Lit.int .u8 x).wf = true) (ht : JoinN.TabOk W) :
    Calls Tryd.prog 4 #[.slice Ac cs.length cpc] W fun e w' => e = .returned (.bool true) ∧ Below W.heap.size W w' := by
  cases hbig : decide ((4096 : Int) < (cs.length : Int))
  case true =>
    have HB := Lib.hid hbig; clear hbig
    go_enter Tryd.func4, Tryd.ntmps4
    go_wp2_with fail
    refine (bigF _ cpc Ac true HB.out _ hr.1).mono ?_
    rintro e w1 ⟨rfl, rfl⟩
    go_wp2_with fail
    go_ret
    exact ⟨rfl, Below.refl _ _⟩
  have HB := Lib.hid hbig; clear hbig
  obtain ⟨⟨xs, pl⟩, hF⟩ : ∃ z, DrawVX.drawF cs = z := ⟨_, rfl⟩
  obtain ⟨⟨⟨a, b, c, d, gs⟩, co⟩, hS⟩ : ∃ z, smR xs pl = z := ⟨_, rfl⟩
  have HD : Hid (∀ (w : World), RdS w w.heap.size 1 enB Ac cs → Calls Tryd.prog 9 #[.slice Ac cs.length cpc] w fun e w' => ∃ A' c, e = .returned (.tuple #[.slice A' xs.length c, .int .i64 pl]) ∧ OwnS w' w.heap.size w'.heap.size 25 4 enI4 (.slice A' xs.length c) xs ∧ xs.length ≤ 7 ∧ (∀ x ∈ xs, (x.2.1 = 0 ∨ x.2.1 = 1) ∧ 0 ≤ x.1 ∧ x.1 ≤ 7) ∧ Below w.heap.size w w') := by
    intro w h
    have := DrawVX.draw (cp := cpc) h hw
    unfold DrawVX.Drawn at this
    rw [hF] at this
    exact this
  have HS := Lib.hid hS
  have HT := Lib.hid ht
  clear hS hF ht hw
  have C0 : Cd W Ac cs W := ⟨Below.refl _ _, hr⟩
  go_enter Tryd.func4, Tryd.ntmps4
  go_wp2_with fail
  refine (bigF _ cpc Ac false HB.out _ hr.1).mono ?_
  rintro e w1 ⟨rfl, rfl⟩
  clear hr
  go_wp2_with fail
  refine (HD.out _ (rd_up C0.rd C0.bel.size)).mono ?_
  rintro e w1 ⟨A1, c1, rfl, o1, hl1, hp1, hb1⟩
  have HP := Lib.hid hp1
  have C1 := C0.below hb1
  clear C0 hb1 hp1
  go_wp2_with fail
  refine (smIm A1 c1 _ xs pl w1 a b c d gs co (Nat.le_refl _) (o1.rd enI4_len) HS.out).mono ?_
  rintro e w2 ⟨A2, c2, rfl, hb2, o2⟩
  have C2 := C1.below hb2
  clear C1 hb2 o1
  go_upto_region 5 with (fail)
  refine wp_gen (fun W' => Cd W Ac cs W' ∧ Bx W' w2.heap.size w1.heap.size w2.heap.size a b c d A2 c2 gs) ⟨C2.below ((Below.refl _ _).alloc (Nat.le_refl _) _), RowB.new _ _ _, o2.alloc _, by simp⟩ ?_
  clear C2 o2
  generalize w2.heap.size = gx at *
  generalize w1.heap.size = lx at *
  clear w1 w2
  rintro w1 ⟨C1, X1⟩
  go_wp2_with fail
  refine (HD.out _ (rd_up C1.rd C1.bel.size)).mono ?_
  rintro e w2 ⟨A3, c3, rfl, o3, -, -, hb2⟩
  have C2 := C1.below hb2
  have X2 := X1.below hb2
  clear C1 X1 hb2
  have L2 : Bl w2 w1.heap.size w2.heap.size A3 c3 xs := ⟨o3, Nat.le_refl _⟩
  clear o3
  go_wp2_with fail
  refine (smSp A3 c3 _ xs pl w2 a b c d gs co (Nat.le_refl _) (L2.own.rd enI4_len) HS.out).mono ?_
  rintro e w3 ⟨A4, c4, rfl, hb3, o4⟩
  have C3 := C2.below hb3
  have X3 := X2.below hb3
  have L3 := L2.below hb3
  clear C2 X2 L2 hb3
  go_upto_region 7 with (fail)
  have hal := (Below.refl w3.heap.size w3).alloc (Nat.le_refl _) (.cells #[.int .i64 a, .int .i64 b, .int .i64 c, .int .i64 d, .slice A4 gs.length c4] 35)
  refine wp_gen (fun W' => Cd W Ac cs W' ∧ Bx W' gx lx gx a b c d A2 c2 gs ∧ Bx W' w3.heap.size w2.heap.size w3.heap.size a b c d A4 c4 gs ∧ Bl W' w1.heap.size w2.heap.size A3 c3 xs) ⟨C3.below hal, X3.below hal, ⟨RowB.new _ _ _, o4.alloc _, by simp⟩, L3.below hal⟩ ?_
  clear C3 X3 o4 L3 hal
  generalize w3.heap.size = gw at *
  generalize w2.heap.size = lw at *
  generalize w1.heap.size = ll at *
  clear w1 w2 w3
  rintro w1 ⟨C1, X1, Y1, L1⟩
  obtain ⟨x0, x1, x2, x3, x4⟩ := X1.row.c5
  obtain ⟨y0, y1, y2, y3, y4⟩ := Y1.row.c5
  have e0 : (co != co) = false := by simp
  have e1 : (a != a) = false := by simp
  have e2 : (b != b) = false := by simp
  have e3 : (c != c) = false := by simp
  have e4 : (d != d) = false := by simp
  go_wp2_with fail
  refine (likeI _ _ A2 A4 c2 c4 gs _ (X1.own.rd enI_len) (Y1.own.rd enI_len)).mono ?_
  rintro e w2 ⟨rfl, hb2⟩
  have C2 := C1.below hb2
  have X2 := X1.below hb2
  have L2 := L1.below hb2
  clear C1 X1 Y1 L1 hb2 x0 x1 x2 x3 x4 y0 y1 y2 y3 y4 e1 e2 e3 e4
  by_cases hco : co = 0
  case neg =>
    have hc : (co != 0) = true := by simp [hco]
    clear hco
    go_wp2_with fail
    go_ret
    exact ⟨rfl, C2.bel⟩
  subst hco
  clear e0
  obtain ⟨a2, b2, cc2, d2, gs2, hS2, haa, hbb, hsum, a0, b0, a20, b20, hab, hgl, hgs, a300, b300, a2300, b2300⟩ := two (fun x hx => (HP.out x hx).1) HS.out
  obtain ⟨hx300, hplr, hall, -⟩ := ok_of HS.out
  have hplr2 := hplr.2
  have hplr1 := hplr.1
  have HS2 := Lib.hid hS2
  have HAB := Lib.hid hab
  have HSUM := Lib.hid hsum
  have HGS := Lib.hid hgs
  have HGL := Lib.hid hgl
  have HBB := Lib.hid hbb
  have HAA := Lib.hid haa
  have HALL := Lib.hid hall
  have HLB := Lib.hid (lsum_bd hall)
  clear hS2 hab hsum hgs hgl hbb haa hall hplr
  have ew : IntKind.i64.wrap (1 - pl) = 1 - pl := IntWalk.i64_in _ (by omega)
  go_wp2_with fail
  refine (smIm A3 c3 lw xs (1 - pl) w2 a2 b2 cc2 d2 gs2 0 L2.le (L2.own.rd enI4_len) HS2.out).mono ?_
  rintro e w3 ⟨A5, c5, rfl, hb3, o5⟩
  have C3 := C2.below hb3
  have X3 := X2.below hb3
  clear C2 X2 L2 hb3 ew
  go_upto_region 12 with (fail)
  have hal := (Below.refl w3.heap.size w3).alloc (Nat.le_refl _) (.cells #[.int .i64 a2, .int .i64 b2, .int .i64 cc2, .int .i64 d2, .slice A5 gs2.length c5] 35)
  refine wp_gen (fun W' => Cd W Ac cs W' ∧ Bx W' gx lx gx a b c d A2 c2 gs ∧ Bx W' w3.heap.size w2.heap.size w3.heap.size a2 b2 cc2 d2 A5 c5 gs2) ⟨C3.below hal, X3.below hal, ⟨RowB.new _ _ _, o5.alloc _, by simp⟩⟩ ?_
  clear C3 X3 o5 hal
  generalize w3.heap.size = gy at *
  generalize w2.heap.size = ly at *
  clear w2 w3
  rintro w2 ⟨C2, X2, Y2⟩
  go_wp2_with fail
  refine (HD.out _ (rd_up C2.rd C2.bel.size)).mono ?_
  rintro e w3 ⟨A6, c6, rfl, o6, -, -, hb3⟩
  have C3 := C2.below hb3
  have X3 := X2.below hb3
  have Y3 := Y2.below hb3
  have L3 : Bl w3 w2.heap.size w3.heap.size A6 c6 xs := ⟨o6, Nat.le_refl _⟩
  clear C2 X2 Y2 hb3 o6
  generalize w3.heap.size = hL at L3
  generalize w2.heap.size = lL at L3
  obtain ⟨n, hn⟩ : ∃ n, xs.length = n := ⟨_, rfl⟩
  have HN := Lib.hid hn
  rw [hn] at hl1 hx300
  rw [hn]
  clear hn
  go_wp2_with fail
  go_loopw [11, 12] (fun s i wr => ∃ (k : Nat) (t : Int), k ≤ n ∧ s = .int .i64 t ∧ i = .int .i64 k ∧ Hid (t = lsum xs k) ∧ 0 ≤ t ∧ t ≤ 1000000 * (k : Int) ∧ Cd W Ac cs wr ∧ Bx wr gx lx gx a b c d A2 c2 gs ∧ Bx wr gy ly gy a2 b2 cc2 d2 A5 c5 gs2 ∧ Bl wr lL hL A6 c6 xs) (fun _ i _ => n - (intOf i).toNat)
  case atStart => exact ⟨0, 0, Nat.zero_le _, rfl, rfl, rfl, by omega, by omega, C3, X3, Y3, L3⟩
  case round =>
    obtain ⟨k, t, hk, rfl, rfl, hts, t0, t1, K, X, Y, L⟩ := hrel
    clear C3 X3 Y3 L3
    by_cases hlt : k < n
    · obtain ⟨bk, off, p, q, r, s, rfl, hbk, hx, d0, d1, d2', d3⟩ := rdI4_at (L.own.rd enI4_len) (i := k) (by rw [HN.out]; exact hlt)
      have hok := okV_at HALL.out (k := k) (by rw [HN.out]; exact hlt)
      have hgx : xs.getD k (0, 0, 0, 0) = (p, q, r, s) := by rw [List.getD_eq_getElem?_getD, hx]; rfl
      rw [hgx] at hok
      unfold okV at hok
      have hok := of_decide_eq_true hok
      obtain ⟨⟨r0, r1⟩, s0, s1⟩ := hok
      replace r0 : 0 ≤ r := r0
      replace r1 : r ≤ 1000000 := r1
      replace s0 : -1000000 ≤ s := s0
      replace s1 : s ≤ 1000000 := s1
      have HTS : Hid (t + r = lsum xs (k + 1)) := Lib.hid (by simp only [lsum]; rw [hgx, hts.out])
      obtain ⟨hq, hp0, hp1⟩ := HP.out _ (List.mem_of_getElem? hx)
      replace hp0 : 0 ≤ p := hp0
      replace hp1 : p ≤ 7 := hp1
      have hq0 : 0 ≤ q := by have : q = 0 ∨ q = 1 := hq; omega
      have hq1 : q ≤ 1 := by have : q = 0 ∨ q = 1 := hq; omega
      clear hgx hx hq
      have ea : IntKind.i64.wrap (t + r) = t + r := IntWalk.i64_in _ (by omega)
      go_wp2_with fail
      refine (VText.vt_i p q r s (by omega) (by omega) (by omega) (by omega) _ (HT.out.below K.bel)).mono ?_
      rintro e w4 ⟨rfl, hb4⟩
      have hLb : bk < wr.heap.size := by have := L.le; omega
      have X := X.below hb4
      have Y := Y.below hb4
      have K := K.below hb4
      have L := L.below hb4
      replace d0 := (hb4.cell (p := ⟨bk, off + k * 4, none⟩) hLb).trans d0
      replace d2' := (hb4.cell (p := ⟨bk, off + k * 4 + 2, none⟩) hLb).trans d2'
      have hsz := size_pos (p := p) (q := q) (s := s) r0
      go_wp2_with fail
      go_quiet (first | (go_at_call 13; exact gradeI _ _ _) | (go_at_call 14; exact gradeS _ _ _))
      go_wp2_with fail
      go_roundw
      case rel => exact ⟨k + 1, t + r, by omega, by first | rfl | trivial, by go_num, HTS, by omega, by omega, Cd.below K (below_drewN (Below.refl _ _) _), Bx.below X (below_drewN (Below.refl _ _) _), Bx.below Y (below_drewN (Below.refl _ _) _), Bl.below L (below_drewN (Below.refl _ _) _)⟩
      case measure => simp [intOf]; omega
    · obtain rfl : k = n := by omega
      obtain rfl : t = b + b2 := by rw [hts.out, HBB.out, HN.out]
      obtain ⟨x0, x1, x2, x3, x4⟩ := X.row.c5
      have hxl := X.row.lt
      by_cases ha : a = 0
      · have hb0 := HAB.out ha
        subst ha hb0
        go_wp2_with fail
        refine (rate0 0 c d A2 gs.length c2 wr).mono ?_
        rintro e w4 ⟨rfl, hb4⟩
        have K := K.below hb4
        have Y := Y.below hb4
        have X := X.below hb4
        clear x0 x1 x2 x3 x4 hxl
        obtain ⟨x0, x1, x2, x3, x4⟩ := X.row.c5
        obtain ⟨y0, y1, y2, y3, y4⟩ := Y.row.c5
        have eb : (b2 == 0 + b2) = true := by simp
        have eb2 : (b2 == b2) = true := by simp
        go_wp2_with fail
        go_ret
        exact ⟨rfl, K.bel⟩
      · have ea : (a == 0) = false := by simp [ha]
        have ha1 : 1 ≤ a := by omega
        clear ha
        go_wp2_with fail
        refine (rate1 a b c d A2 gs.length c2 wr ha1 b0 b300).mono ?_
        rintro e w4 ⟨rfl, hb4⟩
        have K := K.below hb4
        have Y := Y.below hb4
        have X := X.below hb4
        clear x0 x1 x2 x3 x4 hxl
        obtain ⟨x0, x1, x2, x3, x4⟩ := X.row.c5
        obtain ⟨y0, y1, y2, y3, y4⟩ := Y.row.c5
        have eq : Int.tdiv b a = b / a := Int.tdiv_eq_ediv_of_nonneg b0
        have hq : b / a ≤ b := Int.ediv_le_self _ b0
        have hq0 : 0 ≤ b / a := Int.ediv_nonneg b0 (by omega)
        have ew : IntKind.i64.wrap (b / a) = b / a := IntWalk.i64_in _ (by omega)
        have e1 : (b / a == b / a) = true := by simp
        have e2 : IntKind.i64.wrap (a + a2) = (k : Int) := by rw [HAA.out, HN.out]; exact IntWalk.i64_in _ (by omega)
        have e3 : ((k : Int) == (k : Int)) = true := by simp
        have e4 : IntKind.i64.wrap (b + b2) = b + b2 := IntWalk.i64_in _ (by omega)
        have e5 : (b + b2 == b + b2) = true := by simp
        have e6 : (a == a) = true := by simp
        have hne : a ≠ 0 := by omega
        go_wp2_with fail
        go_quiet ((go_at_call 16; exact sumQ _ A2 c2 gs a HSUM.out w4 _ (X.own.rd enI_len) HGS.out (by rw [HGL.out]; exact Nat.le_refl _)))
        go_wp2_with fail
        go_ret
        exact ⟨rfl, below_drewN K.bel _⟩
end Go.Proofs.YtahpdboehpicoaaDoor.SumsLaw
