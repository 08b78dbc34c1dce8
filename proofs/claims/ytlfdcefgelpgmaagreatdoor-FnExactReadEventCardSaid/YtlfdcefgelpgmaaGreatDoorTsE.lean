/-
  l01Value, l01Split and ReadRoll of the reference: what they return. Conditions: each theorem's own.
-/
import Derived.Test.YtlfdcefgelpgmaaGreatDoorTsD
set_option linter.unusedVariables false
set_option linter.unusedSimpArgs false
namespace Go.Proofs.YtlfdcefgelpgmaaGreatDoor.TsI
open Go.ChangeShapes Go.WideShapes Go.ChangeAt Go.RowKit Base Ints Own JoinN PlP TxP Num Bd1 Bd5 RegF RegG TxI

theorem pow15 {k : Nat} (h : k ≤ 15) : ((10 : Int) ^ k) ≤ 1000000000000000 := by
  have : (10 : Nat) ^ k ≤ 10 ^ 15 := Nat.pow_le_pow_right (by omega) h
  have h2 : ((10 ^ k : Nat) : Int) ≤ ((10 ^ 15 : Nat) : Int) := by exact_mod_cast this
  simpa using h2
theorem all_take {l : By} {k : Nat} {x : UInt8} (h : (l.take k).all isD = true) (hx : l[k]? = some x) (hd : isD x = true) : (l.take (k + 1)).all isD = true := by
  rw [take_succ l k x hx, List.all_append, h]
  simp [hd]
theorem numU_take {l : By} : ∀ (k j : Nat), k ≤ j → numU (l.take j) k = numU l k := by
  intro k
  induction k with
  | zero => intro j _; rfl
  | succ k ih =>
    intro j hj
    simp only [numU]
    rw [ih j (by omega)]
    have : (l.take j).getD k 0 = l.getD k 0 := by rw [List.getD_eq_getElem?_getD, List.getD_eq_getElem?_getD, List.getElem?_take, if_pos (by omega)]
    rw [this]
set_option maxHeartbeats 2000000 in
set_option maxRecDepth 100000 in
theorem val_s (l : By) (hl : l.length ≤ 4194304) (w : World) :
    Calls Tryz.prog 55 #[.string (bs l)] w fun e w' => e = .returned (.tuple #[.int .i64 (valS l).1, .bool (valS l).2]) ∧ Below w.heap.size w w' := by
  obtain ⟨⟨rv, ro⟩, hR⟩ : ∃ z, valS l = z := ⟨_, rfl⟩
  rw [hR]
  simp only
  obtain ⟨s, hs⟩ : ∃ s, bs l = s := ⟨_, rfl⟩
  have hsz : s.size = l.length := by rw [← hs]; exact bs_size l
  have hsd : s.data.toList = l := by rw [← hs]; rfl
  obtain ⟨n, hn⟩ : ∃ n, l.length = n := ⟨_, rfl⟩
  rw [hn] at hsz hl
  rw [hs]
  have HR := Lib.hid hR
  have HN := Lib.hid hn
  have HSD := Lib.hid hsd
  have HSZ := Lib.hid hsz
  clear hR hs hn hsd
  by_cases n0 : n = 0
  · obtain ⟨rfl, rfl⟩ : (0 : Int) = rv ∧ false = ro := by have := HR.out; unfold valS at this; rw [if_pos (.inl (by rw [HN.out]; exact n0))] at this; simpa using this
    have e0 : ((s.size : Int) == 0) = true := by rw [hsz]; simp [n0]
    clear hsz n0 HR
    go_enter Tryz.func55, Tryz.ntmps55
    go_wp2_with fail
    go_ret2
    exact ⟨rfl, Below.refl _ _⟩
  have e0 : ((s.size : Int) == 0) = false := by rw [hsz]; simp; omega
  by_cases n15 : 15 < n
  · obtain ⟨rfl, rfl⟩ : (0 : Int) = rv ∧ false = ro := by have := HR.out; unfold valS at this; rw [if_pos (.inr (.inl (by rw [HN.out]; exact n15)))] at this; simpa using this
    have e1 : decide ((15 : Int) < (s.size : Int)) = true := decide_eq_true (by rw [hsz]; omega)
    clear hsz n0 HR n15
    go_enter Tryz.func55, Tryz.ntmps55
    go_wp2_with fail
    go_ret2
    exact ⟨rfl, Below.refl _ _⟩
  have e1 : decide ((15 : Int) < (s.size : Int)) = false := decide_eq_false (by rw [hsz]; omega)
  have h0 : 0 < s.size := by omega
  obtain ⟨x0, hx0⟩ : ∃ x, (s[0]'h0) = x := ⟨_, rfl⟩
  have hl0 : l[0]? = some x0 := by have := Lib.data_getElem? s 0 h0; rw [HSD.out, hx0] at this; exact this
  obtain ⟨z0, hz0⟩ : ∃ z : Nat, x0.toNat = z := ⟨_, rfl⟩
  have hzd0 : (s[0]'h0).toNat = z0 := by rw [hx0, hz0]
  have hg0 : l.getD 0 0 = x0 := by rw [List.getD_eq_getElem?_getD, hl0]; rfl
  have h48 : (l.getD 0 0 = 48) ↔ z0 = 48 := by
    rw [hg0, ← hz0]
    constructor
    · intro h; rw [h]; rfl
    · intro h; exact UInt8.toNat_inj.1 (by rw [h]; rfl)
  have H48 := Lib.hid h48
  clear hx0 hl0 hz0 hg0 h48
  by_cases hf : 1 < n ∧ z0 = 48
  · obtain ⟨rfl, rfl⟩ : (0 : Int) = rv ∧ false = ro := by have := HR.out; unfold valS at this; rw [if_pos (.inr (.inr ⟨by rw [HN.out]; exact hf.1, H48.out.2 hf.2⟩))] at this; simpa using this
    have e2 : decide ((1 : Int) < (s.size : Int)) = true := decide_eq_true (by rw [hsz]; omega)
    have e3 : ((z0 : Int) == 48) = true := by simp [hf.2]
    clear hsz n0 HR n15 hf
    go_enter Tryz.func55, Tryz.ntmps55
    go_wp2_with fail
    go_ret2
    exact ⟨rfl, Below.refl _ _⟩
  have HV : Hid ((rv, ro) = if l.all isD then (numU l n, true) else (0, false)) := by
    show _ = _
    rw [← HR.out]
    unfold valS
    rw [HN.out, if_neg (by
      rintro (h | h | h)
      · exact n0 h
      · exact n15 h
      · exact hf ⟨h.1, H48.out.1 h.2⟩)]
  have hn15 : n ≤ 15 := by omega
  have HF : Hid (¬ (1 < n ∧ z0 = 48)) := Lib.hid hf
  have hsz' : (s.size : Int) = (n : Int) := by rw [hsz]
  clear HR n15 hf
  by_cases h1 : 1 < n
  · have e2 : decide ((1 : Int) < (s.size : Int)) = true := decide_eq_true (by rw [hsz]; omega)
    have e3 : ((z0 : Int) == 48) = false := by have := HF.out; simp; omega
    clear hsz hsz' n0
    go_enter Tryz.func55, Tryz.ntmps55
    go_wp2_with fail
    clear e0 e1 e2 hzd0
    go_loopw [4, 5] (fun m i wr => ∃ (k : Nat) (a : Int), k ≤ n ∧ i = .int .i64 (k : Int) ∧ m = .int .i64 a ∧ Hid (numU l k = a) ∧ Hid ((l.take k).all isD = true) ∧ (0 ≤ a ∧ a < 1000000000000000) ∧ wr = w) (fun _ i _ => n - (intOf i).toNat)
    case atStart => exact ⟨0, 0, Nat.zero_le _, rfl, rfl, rfl, rfl, ⟨by omega, by omega⟩, rfl⟩
    case round =>
      obtain ⟨k, a, hk, rfl, rfl, hv, hall, ⟨a0, a1⟩, rfl⟩ := hrel
      by_cases hlt : k < n
      · have hlt' : k < s.size := by rw [HSZ.out]; exact hlt
        have dlt : decide ((k : Int) < (s.size : Int)) = true := decide_eq_true (by omega)
        obtain ⟨x, hxx⟩ : ∃ x, (s[k]'hlt') = x := ⟨_, rfl⟩
        have hx := Lib.data_getElem? s k hlt'
        rw [hxx, HSD.out] at hx
        obtain ⟨z, hz⟩ : ∃ z : Nat, x.toNat = z := ⟨_, rfl⟩
        have hzd : (s[k]'hlt').toNat = z := by rw [hxx, hz]
        have HX := Lib.hid hx
        have HZ := Lib.hid hz
        clear hxx hx hz
        by_cases hD : 48 ≤ z ∧ z ≤ 57
        · have hDx : isD x = true := by unfold isD; rw [HZ.out]; exact decide_eq_true hD
          have HALL2 := Lib.hid (all_take hall.out HX.out hDx)
          have hg : l.getD k 0 = x := by rw [List.getD_eq_getElem?_getD, HX.out]; rfl
          have HV2 : Hid (numU l (k + 1) = 10 * a + ((z : Int) - 48)) := by show _ = _; simp only [numU]; rw [hv.out, hg, HZ.out]
          have hbd := num_bd (l := l.take (k + 1)) HALL2.out (k + 1) (by rw [List.length_take, HN.out]; omega)
          rw [numU_take (k + 1) (k + 1) (Nat.le_refl _), HV2.out] at hbd
          have hp := pow15 (k := k + 1) (by omega)
          have hb2 : 0 ≤ 10 * a + ((z : Int) - 48) ∧ 10 * a + ((z : Int) - 48) < 1000000000000000 := ⟨hbd.1, Int.lt_of_lt_of_le hbd.2 hp⟩
          obtain ⟨hd0, hd1⟩ := hD
          have d1 : decide ((z : Int) < 48) = false := decide_eq_false (by omega)
          have d2 : decide ((57 : Int) < (z : Int)) = false := decide_eq_false (by omega)
          have eu : IntKind.u8.wrap ((z : Int) - 48) = (z : Int) - 48 := IntWalk.u8_in _ (by omega)
          have ea1 : IntKind.i64.wrap (10 * a) = 10 * a := IntWalk.i64_in _ (by omega)
          have ea2 : IntKind.i64.wrap (10 * a + ((z : Int) - 48)) = 10 * a + ((z : Int) - 48) := IntWalk.i64_in _ (by omega)
          have ez : IntKind.i64.wrap ((z : Int) - 48) = (z : Int) - 48 := IntWalk.i64_in _ (by omega)
          clear hDx hg hbd hp
          go_wp2_with fail
          go_roundw
          case rel => exact ⟨k + 1, 10 * a + ((z : Int) - 48), by omega, by go_num, rfl, HV2, HALL2, hb2, by first | rfl | trivial⟩
          case measure => simp [intOf]; omega
        · have hRn : (0 : Int) = rv ∧ false = ro := by
            have h1 := HV.out
            have hna : ¬ l.all isD = true := by
              intro ha
              have := List.all_eq_true.1 ha x (List.mem_of_getElem? HX.out)
              unfold isD at this
              rw [HZ.out] at this
              exact hD (of_decide_eq_true this)
            rw [if_neg hna] at h1
            simpa using h1.symm
          obtain ⟨rfl, rfl⟩ := hRn
          clear HV
          by_cases h48 : z < 48
          · have d1 : decide ((z : Int) < 48) = true := decide_eq_true (by omega)
            clear hD h48
            go_wp2_with fail
            go_ret2
            exact ⟨rfl, Below.refl _ _⟩
          · have d1 : decide ((z : Int) < 48) = false := decide_eq_false (by omega)
            have d2 : decide ((57 : Int) < (z : Int)) = true := decide_eq_true (by omega)
            clear hD h48
            go_wp2_with fail
            go_ret2
            exact ⟨rfl, Below.refl _ _⟩
      · obtain rfl : k = n := by omega
        have hge : ¬ k < s.size := by have := HSZ.out; omega
        have dlt : decide (k < s.size) = false := decide_eq_false hge
        have hRn : a = rv ∧ true = ro := by
          have h1 := HV.out
          have ha := hall.out
          rw [List.take_of_length_le (by rw [HN.out]; exact Nat.le_refl _)] at ha
          rw [if_pos ha, hv.out] at h1
          simpa using h1.symm
        obtain ⟨rfl, rfl⟩ := hRn
        clear HV hv hall
        go_wp2_with fail
        go_ret2
        exact ⟨rfl, Below.refl _ _⟩
  · have e2 : decide ((1 : Int) < (s.size : Int)) = false := decide_eq_false (by rw [hsz]; omega)
    clear hsz hsz' n0
    go_enter Tryz.func55, Tryz.ntmps55
    go_wp2_with fail
    clear e0 e1 e2 hzd0
    go_loopw [4, 5] (fun m i wr => ∃ (k : Nat) (a : Int), k ≤ n ∧ i = .int .i64 (k : Int) ∧ m = .int .i64 a ∧ Hid (numU l k = a) ∧ Hid ((l.take k).all isD = true) ∧ (0 ≤ a ∧ a < 1000000000000000) ∧ wr = w) (fun _ i _ => n - (intOf i).toNat)
    case atStart => exact ⟨0, 0, Nat.zero_le _, rfl, rfl, rfl, rfl, ⟨by omega, by omega⟩, rfl⟩
    case round =>
      obtain ⟨k, a, hk, rfl, rfl, hv, hall, ⟨a0, a1⟩, rfl⟩ := hrel
      by_cases hlt : k < n
      · have hlt' : k < s.size := by rw [HSZ.out]; exact hlt
        have dlt : decide ((k : Int) < (s.size : Int)) = true := decide_eq_true (by omega)
        obtain ⟨x, hxx⟩ : ∃ x, (s[k]'hlt') = x := ⟨_, rfl⟩
        have hx := Lib.data_getElem? s k hlt'
        rw [hxx, HSD.out] at hx
        obtain ⟨z, hz⟩ : ∃ z : Nat, x.toNat = z := ⟨_, rfl⟩
        have hzd : (s[k]'hlt').toNat = z := by rw [hxx, hz]
        have HX := Lib.hid hx
        have HZ := Lib.hid hz
        clear hxx hx hz
        by_cases hD : 48 ≤ z ∧ z ≤ 57
        · have hDx : isD x = true := by unfold isD; rw [HZ.out]; exact decide_eq_true hD
          have HALL2 := Lib.hid (all_take hall.out HX.out hDx)
          have hg : l.getD k 0 = x := by rw [List.getD_eq_getElem?_getD, HX.out]; rfl
          have HV2 : Hid (numU l (k + 1) = 10 * a + ((z : Int) - 48)) := by show _ = _; simp only [numU]; rw [hv.out, hg, HZ.out]
          have hbd := num_bd (l := l.take (k + 1)) HALL2.out (k + 1) (by rw [List.length_take, HN.out]; omega)
          rw [numU_take (k + 1) (k + 1) (Nat.le_refl _), HV2.out] at hbd
          have hp := pow15 (k := k + 1) (by omega)
          have hb2 : 0 ≤ 10 * a + ((z : Int) - 48) ∧ 10 * a + ((z : Int) - 48) < 1000000000000000 := ⟨hbd.1, Int.lt_of_lt_of_le hbd.2 hp⟩
          obtain ⟨hd0, hd1⟩ := hD
          have d1 : decide ((z : Int) < 48) = false := decide_eq_false (by omega)
          have d2 : decide ((57 : Int) < (z : Int)) = false := decide_eq_false (by omega)
          have eu : IntKind.u8.wrap ((z : Int) - 48) = (z : Int) - 48 := IntWalk.u8_in _ (by omega)
          have ea1 : IntKind.i64.wrap (10 * a) = 10 * a := IntWalk.i64_in _ (by omega)
          have ea2 : IntKind.i64.wrap (10 * a + ((z : Int) - 48)) = 10 * a + ((z : Int) - 48) := IntWalk.i64_in _ (by omega)
          have ez : IntKind.i64.wrap ((z : Int) - 48) = (z : Int) - 48 := IntWalk.i64_in _ (by omega)
          clear hDx hg hbd hp
          go_wp2_with fail
          go_roundw
          case rel => exact ⟨k + 1, 10 * a + ((z : Int) - 48), by omega, by go_num, rfl, HV2, HALL2, hb2, by first | rfl | trivial⟩
          case measure => simp [intOf]; omega
        · have hRn : (0 : Int) = rv ∧ false = ro := by
            have h1 := HV.out
            have hna : ¬ l.all isD = true := by
              intro ha
              have := List.all_eq_true.1 ha x (List.mem_of_getElem? HX.out)
              unfold isD at this
              rw [HZ.out] at this
              exact hD (of_decide_eq_true this)
            rw [if_neg hna] at h1
            simpa using h1.symm
          obtain ⟨rfl, rfl⟩ := hRn
          clear HV
          by_cases h48 : z < 48
          · have d1 : decide ((z : Int) < 48) = true := decide_eq_true (by omega)
            clear hD h48
            go_wp2_with fail
            go_ret2
            exact ⟨rfl, Below.refl _ _⟩
          · have d1 : decide ((z : Int) < 48) = false := decide_eq_false (by omega)
            have d2 : decide ((57 : Int) < (z : Int)) = true := decide_eq_true (by omega)
            clear hD h48
            go_wp2_with fail
            go_ret2
            exact ⟨rfl, Below.refl _ _⟩
      · obtain rfl : k = n := by omega
        have hge : ¬ k < s.size := by have := HSZ.out; omega
        have dlt : decide (k < s.size) = false := decide_eq_false hge
        have hRn : a = rv ∧ true = ro := by
          have h1 := HV.out
          have ha := hall.out
          rw [List.take_of_length_le (by rw [HN.out]; exact Nat.le_refl _)] at ha
          rw [if_pos ha, hv.out] at h1
          simpa using h1.symm
        obtain ⟨rfl, rfl⟩ := hRn
        clear HV hv hall
        go_wp2_with fail
        go_ret2
        exact ⟨rfl, Below.refl _ _⟩
set_option maxHeartbeats 1000000 in
set_option maxRecDepth 100000 in
theorem rroll_s (v : Vr) (hv : okV v = true) (t : By) (hl : t.length ≤ 4194304) (w : World) :
    Calls Tryz.prog 78 #[.agg #[.int .i64 v.p, .int .i64 v.c, .int .i64 v.h, .int .i64 v.s], .string (bs t)] w fun e w' => e = .returned (.tuple #[.agg #[.int .i64 (optR (rdR v t)).1.1, .int .i64 (optR (rdR v t)).1.2], .bool (optR (rdR v t)).2]) ∧ Below w.heap.size w w' := by
  obtain ⟨R, hR⟩ : ∃ r, optR (rdR v t) = r := ⟨_, rfl⟩
  rw [hR]
  have HR := Lib.hid hR
  have hz := bs_size t
  clear hR
  go_enter Tryz.func78, Tryz.ntmps78
  go_upto_region 1 with (fail)
  refine wp_gen (fun W' => Below w.heap.size w W' ∧ RowB W' w.heap.size 25 [.int .i64 v.p, .int .i64 v.c, .int .i64 v.h, .int .i64 v.s] ∧ RowB W' (w.heap.size + 1) 49 [.int .i64 0, .int .i64 0]) ⟨by go_grown, (RowB.new _ _ _).alloc _, RowB.new' _ _ _ (by simp)⟩ ?_
  rintro w1 ⟨hb1, rv, rr⟩
  have hlr := rr.lt
  have frr := rr.frozen
  by_cases h2 : t.length = 2
  case neg =>
    have hRn : R = ((0, 0), false) := by rw [← HR.out]; unfold rdR; rw [if_neg (fun h => h2 h.1)]; rfl
    subst hRn
    have e1 : (((bs t).size : Int) == 2) = false := by rw [hz]; simp; omega
    have e2 : (((bs t).size : Int) != 2) = true := by rw [hz]; simp; omega
    obtain ⟨r0, r1⟩ := rr.c2
    clear hz h2
    go_wp2_with fail
    refine bp_gen (fun W' => Below w.heap.size w W' ∧ RowB W' (w.heap.size + 1) 49 [.int .i64 0, .int .i64 0]) ⟨(hb1.setCell (p := ⟨w.heap.size + 1, 0, none⟩) (by show w.heap.size ≤ w.heap.size + 1; omega) _).setCell (p := ⟨w.heap.size + 1, 1, none⟩) (by show w.heap.size ≤ w.heap.size + 1; omega) _, (rr.set 0 _).set 1 _⟩ ?_
    rintro w8 ⟨hb8, r8⟩
    obtain ⟨z0, z1⟩ := r8.c2
    refine bodyPost_ret (v := .tuple #[.agg #[.int .i64 0, .int .i64 0], .bool false]) (by simp [results, Tryz.results78, go_sem, z0, z1]) rfl ?_
    exact ⟨rfl, hb8⟩
  obtain ⟨a, b, rfl⟩ := list2 h2
  have e1 : (((bs [a, b]).size : Int) != 2) = false := by rw [hz]; rfl
  have g0 : (bs [a, b]).size = 2 := by rw [hz]; rfl
  clear hz h2 hl
  go_upto_region 3 with (fail)
  refine region_rel [some 11, some 12, some 13, some 14, some 15, some 16, some 17, some 18, some 19, some 6, none] 11 (Pl [some (.string (bs [a, b])), some (.int .u8 (a.toNat : Int)), some (.int .i64 (a.toNat : Int)), some (.int .i64 ((a.toNat : Int) - 48)), some (.string (bs [a, b])), some (.int .u8 (b.toNat : Int)), some (.int .i64 (b.toNat : Int)), some (.int .i64 ((b.toNat : Int) - 48)), some (.agg #[.int .i64 ((a.toNat : Int) - 48), .int .i64 ((b.toNat : Int) - 48)]), none, none]) (fun L vals w' => RrF w1 ((a.toNat : Int) - 48) ((b.toNat : Int) - 48) (L 9) (L 10) (vals 9) w') (by kernel_rfl) (by kernel_rfl) (by kernel_rfl) (by kernel_rfl) (by kernel_rfl) (by kernel_rfl) (by kernel_rfl) ?g0_1 ?gst_1 ?gfin_1
  case g0_1 => exact ⟨(Below.refl _ _).drew, fun h => absurd h (by decide), fun h => absurd h (by decide)⟩
  case gst_1 =>
    refine RelFrom.run rfl (fun L vals A w9 hno hdl hcl hu hp h0 F K hK => ?_) ?_
    · have e1 : A.tmps[1]?.getD undef = .string (bs [a, b]) := h0 1 (fun j _ hj => absurd (List.mem_of_getElem? hj) (by decide))
      clear hu h0 hp
      have ha := a.toNat_lt
      have hb := b.toNat_lt
      have wa : IntKind.i64.wrap (a.toNat : Int) = (a.toNat : Int) := IntWalk.i64_in _ (by omega)
      have wb : IntKind.i64.wrap (b.toNat : Int) = (b.toNat : Int) := IntWalk.i64_in _ (by omega)
      have wc : IntKind.i64.wrap ((a.toNat : Int) - 48) = (a.toNat : Int) - 48 := IntWalk.i64_in _ (by omega)
      have wd : IntKind.i64.wrap ((b.toNat : Int) - 48) = (b.toNat : Int) - 48 := IntWalk.i64_in _ (by omega)
      go_simp
      exact hK.out _ w9 (Pl.fix rfl) (F.skip 0 _ (by decide) (by decide))
    refine RelFrom.run rfl (fun L vals A w9 hno hdl hcl hu hp h0 F K hK => ?_) ?_
    · have e11 : A.tmps[11]?.getD undef = .string (bs [a, b]) := (hu 0 11 (by kernel_rfl) rfl).trans (hp 0 (by kernel_rfl) _ rfl)
      clear hu h0 hp
      have ha := a.toNat_lt
      have hb := b.toNat_lt
      have wa : IntKind.i64.wrap (a.toNat : Int) = (a.toNat : Int) := IntWalk.i64_in _ (by omega)
      have wb : IntKind.i64.wrap (b.toNat : Int) = (b.toNat : Int) := IntWalk.i64_in _ (by omega)
      have wc : IntKind.i64.wrap ((a.toNat : Int) - 48) = (a.toNat : Int) - 48 := IntWalk.i64_in _ (by omega)
      have wd : IntKind.i64.wrap ((b.toNat : Int) - 48) = (b.toNat : Int) - 48 := IntWalk.i64_in _ (by omega)
      go_simp
      exact hK.out _ w9 (Pl.fix rfl) (F.skip 1 _ (by decide) (by decide))
    refine RelFrom.run rfl (fun L vals A w9 hno hdl hcl hu hp h0 F K hK => ?_) ?_
    · have e12 : A.tmps[12]?.getD undef = .int .u8 (a.toNat : Int) := (hu 1 12 (by kernel_rfl) rfl).trans (hp 1 (by kernel_rfl) _ rfl)
      clear hu h0 hp
      have ha := a.toNat_lt
      have hb := b.toNat_lt
      have wa : IntKind.i64.wrap (a.toNat : Int) = (a.toNat : Int) := IntWalk.i64_in _ (by omega)
      have wb : IntKind.i64.wrap (b.toNat : Int) = (b.toNat : Int) := IntWalk.i64_in _ (by omega)
      have wc : IntKind.i64.wrap ((a.toNat : Int) - 48) = (a.toNat : Int) - 48 := IntWalk.i64_in _ (by omega)
      have wd : IntKind.i64.wrap ((b.toNat : Int) - 48) = (b.toNat : Int) - 48 := IntWalk.i64_in _ (by omega)
      go_simp
      exact hK.out _ w9 (Pl.fix rfl) (F.skip 2 _ (by decide) (by decide))
    refine RelFrom.run rfl (fun L vals A w9 hno hdl hcl hu hp h0 F K hK => ?_) ?_
    · have e13 : A.tmps[13]?.getD undef = .int .i64 (a.toNat : Int) := (hu 2 13 (by kernel_rfl) rfl).trans (hp 2 (by kernel_rfl) _ rfl)
      clear hu h0 hp
      have ha := a.toNat_lt
      have hb := b.toNat_lt
      have wa : IntKind.i64.wrap (a.toNat : Int) = (a.toNat : Int) := IntWalk.i64_in _ (by omega)
      have wb : IntKind.i64.wrap (b.toNat : Int) = (b.toNat : Int) := IntWalk.i64_in _ (by omega)
      have wc : IntKind.i64.wrap ((a.toNat : Int) - 48) = (a.toNat : Int) - 48 := IntWalk.i64_in _ (by omega)
      have wd : IntKind.i64.wrap ((b.toNat : Int) - 48) = (b.toNat : Int) - 48 := IntWalk.i64_in _ (by omega)
      go_simp
      exact hK.out _ w9 (Pl.fix rfl) (F.skip 3 _ (by decide) (by decide))
    refine RelFrom.run rfl (fun L vals A w9 hno hdl hcl hu hp h0 F K hK => ?_) ?_
    · have e1 : A.tmps[1]?.getD undef = .string (bs [a, b]) := h0 1 (fun j _ hj => absurd (List.mem_of_getElem? hj) (by decide))
      clear hu h0 hp
      have ha := a.toNat_lt
      have hb := b.toNat_lt
      have wa : IntKind.i64.wrap (a.toNat : Int) = (a.toNat : Int) := IntWalk.i64_in _ (by omega)
      have wb : IntKind.i64.wrap (b.toNat : Int) = (b.toNat : Int) := IntWalk.i64_in _ (by omega)
      have wc : IntKind.i64.wrap ((a.toNat : Int) - 48) = (a.toNat : Int) - 48 := IntWalk.i64_in _ (by omega)
      have wd : IntKind.i64.wrap ((b.toNat : Int) - 48) = (b.toNat : Int) - 48 := IntWalk.i64_in _ (by omega)
      go_simp
      exact hK.out _ w9 (Pl.fix rfl) (F.skip 4 _ (by decide) (by decide))
    refine RelFrom.run rfl (fun L vals A w9 hno hdl hcl hu hp h0 F K hK => ?_) ?_
    · have e15 : A.tmps[15]?.getD undef = .string (bs [a, b]) := (hu 4 15 (by kernel_rfl) rfl).trans (hp 4 (by kernel_rfl) _ rfl)
      clear hu h0 hp
      have ha := a.toNat_lt
      have hb := b.toNat_lt
      have wa : IntKind.i64.wrap (a.toNat : Int) = (a.toNat : Int) := IntWalk.i64_in _ (by omega)
      have wb : IntKind.i64.wrap (b.toNat : Int) = (b.toNat : Int) := IntWalk.i64_in _ (by omega)
      have wc : IntKind.i64.wrap ((a.toNat : Int) - 48) = (a.toNat : Int) - 48 := IntWalk.i64_in _ (by omega)
      have wd : IntKind.i64.wrap ((b.toNat : Int) - 48) = (b.toNat : Int) - 48 := IntWalk.i64_in _ (by omega)
      go_simp
      exact hK.out _ w9 (Pl.fix rfl) (F.skip 5 _ (by decide) (by decide))
    refine RelFrom.run rfl (fun L vals A w9 hno hdl hcl hu hp h0 F K hK => ?_) ?_
    · have e16 : A.tmps[16]?.getD undef = .int .u8 (b.toNat : Int) := (hu 5 16 (by kernel_rfl) rfl).trans (hp 5 (by kernel_rfl) _ rfl)
      clear hu h0 hp
      have ha := a.toNat_lt
      have hb := b.toNat_lt
      have wa : IntKind.i64.wrap (a.toNat : Int) = (a.toNat : Int) := IntWalk.i64_in _ (by omega)
      have wb : IntKind.i64.wrap (b.toNat : Int) = (b.toNat : Int) := IntWalk.i64_in _ (by omega)
      have wc : IntKind.i64.wrap ((a.toNat : Int) - 48) = (a.toNat : Int) - 48 := IntWalk.i64_in _ (by omega)
      have wd : IntKind.i64.wrap ((b.toNat : Int) - 48) = (b.toNat : Int) - 48 := IntWalk.i64_in _ (by omega)
      go_simp
      exact hK.out _ w9 (Pl.fix rfl) (F.skip 6 _ (by decide) (by decide))
    refine RelFrom.run rfl (fun L vals A w9 hno hdl hcl hu hp h0 F K hK => ?_) ?_
    · have e17 : A.tmps[17]?.getD undef = .int .i64 (b.toNat : Int) := (hu 6 17 (by kernel_rfl) rfl).trans (hp 6 (by kernel_rfl) _ rfl)
      clear hu h0 hp
      have ha := a.toNat_lt
      have hb := b.toNat_lt
      have wa : IntKind.i64.wrap (a.toNat : Int) = (a.toNat : Int) := IntWalk.i64_in _ (by omega)
      have wb : IntKind.i64.wrap (b.toNat : Int) = (b.toNat : Int) := IntWalk.i64_in _ (by omega)
      have wc : IntKind.i64.wrap ((a.toNat : Int) - 48) = (a.toNat : Int) - 48 := IntWalk.i64_in _ (by omega)
      have wd : IntKind.i64.wrap ((b.toNat : Int) - 48) = (b.toNat : Int) - 48 := IntWalk.i64_in _ (by omega)
      go_simp
      exact hK.out _ w9 (Pl.fix rfl) (F.skip 7 _ (by decide) (by decide))
    refine RelFrom.run rfl (fun L vals A w9 hno hdl hcl hu hp h0 F K hK => ?_) ?_
    · have e14 : A.tmps[14]?.getD undef = .int .i64 ((a.toNat : Int) - 48) := (hu 3 14 (by kernel_rfl) rfl).trans (hp 3 (by kernel_rfl) _ rfl)
      have e18 : A.tmps[18]?.getD undef = .int .i64 ((b.toNat : Int) - 48) := (hu 7 18 (by kernel_rfl) rfl).trans (hp 7 (by kernel_rfl) _ rfl)
      clear hu h0 hp
      have ha := a.toNat_lt
      have hb := b.toNat_lt
      have wa : IntKind.i64.wrap (a.toNat : Int) = (a.toNat : Int) := IntWalk.i64_in _ (by omega)
      have wb : IntKind.i64.wrap (b.toNat : Int) = (b.toNat : Int) := IntWalk.i64_in _ (by omega)
      have wc : IntKind.i64.wrap ((a.toNat : Int) - 48) = (a.toNat : Int) - 48 := IntWalk.i64_in _ (by omega)
      have wd : IntKind.i64.wrap ((b.toNat : Int) - 48) = (b.toNat : Int) - 48 := IntWalk.i64_in _ (by omega)
      go_simp
      exact hK.out _ w9 (Pl.fix rfl) (F.skip 8 _ (by decide) (by decide))
    refine RelFrom.run rfl (fun L vals A w9 hno hdl hcl hu hp h0 F K hK => ?_) ?_
    · clear hu h0 hp
      go_simp
      exact hK.out _ _ (Pl.any rfl) (by simpa [upd] using F.s9 (fun h => hno (hcl 10 9 (by kernel_rfl) h)))
    refine RelFrom.run rfl (fun L vals A w9 hno hdl hcl hu hp h0 F K hK => ?_) ?_
    · have e6 : A.tmps[6]?.getD undef = vals 9 := hu 9 6 (by kernel_rfl) rfl
      have e19 : A.tmps[19]?.getD undef = .agg #[.int .i64 ((a.toNat : Int) - 48), .int .i64 ((b.toNat : Int) - 48)] := (hu 8 19 (by kernel_rfl) rfl).trans (hp 8 (by kernel_rfl) _ rfl)
      clear hu h0 hp
      refine (F.f9 (hdl 9 (by kernel_rfl))).elim fun g q => ?_
      refine q.2.2.elim fun p0 q2 => ?_
      refine q2.elim fun p1 q3 => ?_
      have em := e6.trans q.1
      clear e6
      have fr := q3.frozen
      have hl := q3.lt
      have zz := q3.c2
      have z0 := zz.1
      have z1 := zz.2
      go_simp
      exact hK.out undef _ (Pl.any rfl) (by simpa [upd, q.1] using F.s10 q.1 q.2.1 q3)
    exact RelFrom.nil (by decide)
  case gfin_1 =>
    intro vals w9 hp F
    simp only [Fr, Act.put, List.setIfInBounds_toArray, List.set_cons_zero, List.set_cons_succ, Nat.reduceAdd]
    have hb9 := F.bel
    obtain ⟨g, hg1, hg2, hg3⟩ := F.f10 trivial
    rw [hg1]
    have rv := rv.below hb9 rv.lt
    have rr := rr.below hb9 rr.lt
    have hb1 := hb1.trans (hb9.mono hb1.size)
    have hgs : w.heap.size + 2 ≤ g := by omega
    clear F hp hg1 hg2 hb9 hlr frr
    obtain ⟨x, hx⟩ : ∃ x, (a.toNat : Int) - 48 = x := ⟨_, rfl⟩
    obtain ⟨y, hy⟩ : ∃ y, (b.toNat : Int) - 48 = y := ⟨_, rfl⟩
    rw [hx, hy] at hg3
    obtain ⟨c, hc⟩ : ∃ c, rollB v x y = c := ⟨_, rfl⟩
    have hR2 : R = if c = true then ((x, y), true) else ((0, 0), false) := by
      rw [← HR.out]
      unfold rdR
      simp only [List.getD_cons_zero, List.getD_cons_succ, hx, hy, hc, List.length_cons, List.length_nil]
      cases c <;> rfl
    have CR := Lib.hid (fun w9 => isroll_ws v hv x y c hc w9)
    have HR2 := Lib.hid hR2
    clear hR2 hc hx hy HR
    obtain ⟨q0, q1, q2, q3⟩ := rv.c4
    obtain ⟨x0, x1⟩ := hg3.c2
    have hlv := rv.lt
    have hlg := hg3.lt
    go_wp2_with fail
    refine (CR.out _).mono ?_
    rintro e w5 ⟨rfl, hb⟩
    have hb1 := hb1.trans (hb.mono hb1.size)
    have rr := rr.below hb rr.lt
    have hg3 := hg3.below hb hlg
    clear q0 q1 q2 q3 x0 x1 hlv hlg hb CR
    obtain ⟨x0, x1⟩ := hg3.c2
    have hlg := hg3.lt
    have hlr := rr.lt
    have frr := rr.frozen
    obtain ⟨r0, r1⟩ := rr.c2
    cases c
    case false =>
      have hRn : R = ((0, 0), false) := HR2.out
      subst hRn
      clear HR2
      go_wp2_with fail
      refine bp_gen (fun W' => Below w.heap.size w W' ∧ RowB W' (w.heap.size + 1) 49 [.int .i64 0, .int .i64 0]) ⟨(hb1.setCell (p := ⟨w.heap.size + 1, 0, none⟩) (by show w.heap.size ≤ w.heap.size + 1; omega) _).setCell (p := ⟨w.heap.size + 1, 1, none⟩) (by show w.heap.size ≤ w.heap.size + 1; omega) _, (rr.set 0 _).set 1 _⟩ ?_
      rintro w8 ⟨hb8, r8⟩
      obtain ⟨z0, z1⟩ := r8.c2
      refine bodyPost_ret (v := .tuple #[.agg #[.int .i64 0, .int .i64 0], .bool false]) (by simp [results, Tryz.results78, go_sem, z0, z1]) rfl ?_
      exact ⟨rfl, hb8⟩
    have hRn : R = ((x, y), true) := HR2.out
    subst hRn
    clear HR2
    go_wp2_with fail
    refine bp_gen (fun W' => Below w.heap.size w W' ∧ RowB W' (w.heap.size + 1) 49 [.int .i64 x, .int .i64 y]) ⟨(hb1.setCell (p := ⟨w.heap.size + 1, 0, none⟩) (by show w.heap.size ≤ w.heap.size + 1; omega) _).setCell (p := ⟨w.heap.size + 1, 1, none⟩) (by show w.heap.size ≤ w.heap.size + 1; omega) _, (rr.set 0 _).set 1 _⟩ ?_
    rintro w8 ⟨hb8, r8⟩
    obtain ⟨z0, z1⟩ := r8.c2
    refine bodyPost_ret (v := .tuple #[.agg #[.int .i64 x, .int .i64 y], .bool true]) (by simp [results, Tryz.results78, go_sem, z0, z1]) rfl ?_
    exact ⟨rfl, hb8⟩

end Go.Proofs.YtlfdcefgelpgmaaGreatDoor.TsI
