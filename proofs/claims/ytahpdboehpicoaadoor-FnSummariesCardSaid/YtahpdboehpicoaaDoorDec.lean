/-
  l09Decimal: a number's decimal numeral. Conditions: each theorem's own.
-/
import Derived.Test.YtahpdboehpicoaaDoorOwn
import Derived.Test.YtahpdboehpicoaaDoorInts
import Derived.Laws.IdiomStrings
import Derived.Laws.AppendOwnNone
import Derived.Lib.ItoaNum
import Derived.WalkKit
set_option linter.unusedVariables false
namespace Go.Proofs.YtahpdboehpicoaaDoor.Dec
open Go.ChangeShapes Go.WideShapes Go.ChangeAt Go.RowKit Base Ints Own

theorem enB_len (x : Int) : (enB x).length = 1 := rfl
theorem one_B (x : Int) : ∀ u ∈ enB x, u.oneCell' = true := by intro u hu; simp [enB] at hu; subst hu; rfl
theorem infoB : (Tryd.prog.info? 5).map (fun i => (i.zero, i.size, i.bytes)) = some (some (.int .u8 0), 1, 1) := by kernel_rfl
def nums (l : List UInt8) : List Int := l.map fun b => (b.toNat : Int)
theorem nums_len (l : List UInt8) : (nums l).length = l.length := by unfold nums; rw [List.length_map]
theorem convL (W : World) (B : Nat) (b off cap : Nat) (l : List UInt8) (h : RdS W B 1 enB (some ⟨b, off, none⟩) (nums l)) : (convert 28 9 (.slice (some ⟨b, off, none⟩) l.length cap)).run Tryd.prog W = .ok (.string ⟨l.toArray⟩) W := by
  refine run_convert_bytes_back W 28 9 5 ⟨b, off, none⟩ cap l Tryd.underlying28 Tryd.underlying5 Tryd.underlying9 ?_
  intro j hj
  obtain ⟨b', off', he, _, hc⟩ := h.2 (by rw [nums_len]; omega)
  simp only [Option.some.injEq, Addr.mk.injEq, and_true] at he
  obtain ⟨rfl, rfl⟩ := he
  have hx : (nums l)[j]? = some ((l[j].toNat : Nat) : Int) := by unfold nums; rw [List.getElem?_map, List.getElem?_eq_getElem hj]; rfl
  have h1 := hc j _ hx 0 _ rfl
  have hadd : (⟨b, off, none⟩ : Addr).add j = ⟨b, off + j, none⟩ := by unfold Addr.add; split <;> simp_all
  rw [hadd]
  simpa using h1

theorem one_Bs (xs : List Int) : ∀ u ∈ xs.flatMap enB, u.oneCell' = true := by
  intro u hu
  obtain ⟨y, _, hy⟩ := List.mem_flatMap.1 hu
  exact one_B y u hy
theorem news_b {w : World} {lo hi b cp : Nat} {e : TypeId} {l : List UInt8} (h : OwnS w lo hi e 1 enB (.slice (some ⟨b, 0, none⟩) l.length cp) (nums l)) : ∀ j u, ((nums l).flatMap enB)[j]? = some u → w.cell? ((⟨b, 0, none⟩ : Addr).add j) = some u := by
  intro j u hu
  have hj : j < ((nums l).flatMap enB).length := (List.getElem?_eq_some_iff.1 hu).1
  rw [flatMap_len enB_len, Nat.mul_one] at hj
  obtain ⟨b', off, he, _, hc⟩ := (h.rd enB_len).2 (by omega)
  simp only [Option.some.injEq, Addr.mk.injEq, and_true] at he
  obtain ⟨rfl, rfl⟩ := he
  have hx : (nums l)[j]? = some (nums l)[j] := List.getElem?_eq_getElem hj
  have h1 := flatMap_at enB_len (nums l) j _ hx 0 _ rfl
  rw [Nat.mul_one, Nat.add_zero, hu] at h1
  have h2 := hc j _ hx 0 _ rfl
  rw [← h1, Nat.mul_one, Nat.add_zero] at h2
  have hadd : (⟨b, 0, none⟩ : Addr).add j = ⟨b, 0 + j, none⟩ := by unfold Addr.add; split <;> simp_all
  rw [hadd]; exact h2

/-- What of the numeral is still to come, in front of the digits l, where r is left. -/
def pre (r : Nat) (l : List UInt8) : List UInt8 := if r = 0 ∧ l ≠ [] then [] else Lib.decDigits r
theorem pre_step {r : Nat} {l : List UInt8} (h : r ≠ 0 ∨ l = []) : pre r l ++ l = pre (r / 10) (UInt8.ofNat (48 + r % 10) :: l) ++ (UInt8.ofNat (48 + r % 10) :: l) := by
  have e : pre r l = Lib.decDigits r := by
    unfold pre
    rw [if_neg]
    rintro ⟨h1, h2⟩
    rcases h with h | h
    · exact h h1
    · exact h2 h
  rw [e]
  by_cases h10 : r < 10
  · have e2 : pre (r / 10) (UInt8.ofNat (48 + r % 10) :: l) = [] := by unfold pre; rw [if_pos ⟨by omega, by simp⟩]
    rw [e2, Lib.decDigits_one h10, show r % 10 = r from by omega]
    rfl
  · have e2 : pre (r / 10) (UInt8.ofNat (48 + r % 10) :: l) = Lib.decDigits (r / 10) := by
      unfold pre
      rw [if_neg]
      rintro ⟨h1, _⟩
      omega
    rw [e2]
    conv => lhs; rw [Lib.decDigits, dif_neg h10]
    simp
theorem pre_end {l : List UInt8} (h : l ≠ []) : pre 0 l = [] := by unfold pre; rw [if_pos ⟨rfl, h⟩]
theorem grownBy_of_below {w w' : World} (h : Below w.heap.size w w') (row : Option Nat) : w.grownBy w' row := ⟨h.os, h.tape, h.output, h.size, fun i hi _ => h.block i hi⟩

def mz : Value → Nat := fun | .slice _ n _ => (if n = 0 then 1 else 0) | _ => 0
theorem tdiv_abs (r : Int) : (r.tdiv 10).natAbs = r.natAbs / 10 := by rw [Int.natAbs_tdiv]; rfl
theorem tmod_abs (r : Int) : (r.tmod 10).natAbs = r.natAbs % 10 := by rw [Int.natAbs_tmod]; rfl
set_option maxHeartbeats 2000000 in
set_option maxRecDepth 100000 in
theorem dec (n : Int) (h0 : -9223372036854775808 ≤ n) (h1 : n ≤ 9223372036854775807) (w : World) :
    Calls Tryd.prog 17 #[.int .i64 n] w fun e w' => e = .returned (.string ⟨(Lib.itoa n).toArray⟩) ∧ Below w.heap.size w w' := by
  obtain ⟨i0, hi0, hz0, hz1, hz2⟩ := info_parts infoB
  go_enter Tryd.func17, Tryd.ntmps17
  go_wp2_with fail
  go_loopw [3, 4] (fun v' r' wr => ∃ (b cp : Nat) (l : List UInt8) (r : Int), v' = .slice (some ⟨b, 0, none⟩) l.length cp ∧ r' = .int .i64 r ∧ Hid (pre r.natAbs l ++ l = Lib.decDigits n.natAbs) ∧ (-9223372036854775808 ≤ r ∧ r ≤ 9223372036854775807) ∧ OwnS wr w.heap.size wr.heap.size 5 1 enB (.slice (some ⟨b, 0, none⟩) l.length cp) (nums l) ∧ l.length ≤ 20 ∧ Hid (r.natAbs < 10 ^ (20 - l.length)) ∧ Below w.heap.size w wr) (fun v' r' _ => 2 * (intOf r').natAbs + mz v')
  case atStart => exact ⟨_, _, [], n, rfl, rfl, (by show pre _ _ ++ [] = _; unfold pre; simp), ⟨h0, h1⟩, (RowB.new w 5 []).own (xs := ([] : List Int)) (en := enB) enB_len (Nat.le_refl _) (by simp) (by decide), by simp, (by show n.natAbs < 100000000000000000000; omega), by go_grown⟩
  case round =>
    obtain ⟨b, cp, l, r, rfl, rfl, hp, ⟨hr0, hr1⟩, o, hl20, hlt, hb⟩ := hrel
    by_cases hc : r ≠ 0 ∨ l = []
    · obtain ⟨dg, hdg⟩ : ∃ dg, r.tmod 10 = dg := ⟨_, rfl⟩
      obtain ⟨r2, hr2⟩ : ∃ r2, r.tdiv 10 = r2 := ⟨_, rfl⟩
      have a1 := tmod_abs r
      have a2 := tdiv_abs r
      rw [hdg] at a1
      rw [hr2] at a2
      obtain ⟨k, hk⟩ : ∃ k, dg.natAbs = k := ⟨_, rfl⟩
      have hk9 : k < 10 := by omega
      have hd9 : -10 < dg ∧ dg < 10 := by omega
      have e3 : (if dg < -dg then -dg else dg) = (k : Int) := by split <;> omega
      obtain ⟨c, hc'⟩ : ∃ c, 48 + k = c := ⟨_, rfl⟩
      have e4 : (48 : Int) + (k : Int) = (c : Int) := by omega
      have hc2 : c < 256 := by omega
      have hr2b : -9223372036854775808 ≤ r2 ∧ r2 ≤ 9223372036854775807 := by omega
      have HP : Hid (pre r2.natAbs (UInt8.ofNat c :: l) ++ (UInt8.ofNat c :: l) = Lib.decDigits n.natAbs) := by
        show _ = _
        have h5 := pre_step (r := r.natAbs) (l := l) (hc.imp_left (fun h => by omega))
        rw [← a1, hk, hc', ← a2] at h5
        exact h5.symm.trans hp.out
      have hl19 : l.length < 20 ∧ r2.natAbs < 10 ^ (20 - (l.length + 1)) := by
        have hq := hlt.out
        rcases hc with hc | rfl
        · have hlt20 : l.length < 20 := by
            rcases Nat.lt_or_ge l.length 20 with h | h
            · exact h
            · rw [show 20 - l.length = 0 from by omega] at hq
              omega
          refine ⟨hlt20, ?_⟩
          rw [show 20 - l.length = (20 - (l.length + 1)) + 1 from by omega, Nat.pow_succ] at hq
          rw [a2]
          exact Nat.div_lt_of_lt_mul (by rw [Nat.mul_comm]; exact hq)
        · refine ⟨by simp, ?_⟩
          simp only [List.length_nil] at hq ⊢
          show r2.natAbs < 10000000000000000000
          have hq' : r.natAbs < 100000000000000000000 := hq
          omega
      have HL2 := Lib.hid hl19.2
      have hl20 := hl19.1
      have HM : Hid (2 * r2.natAbs < 2 * r.natAbs + (if l.length = 0 then 1 else 0)) := by
        show _ < _
        rcases hc with hc | rfl
        · omega
        · simp; omega
      have hnum : ((UInt8.ofNat c).toNat : Int) = (c : Int) := by simp; omega
      have HNU : Hid (nums (UInt8.ofNat c :: l) = (c : Int) :: nums l) := by show _ = _; unfold nums; rw [List.map_cons, hnum]
      have hof : OwnS (wr.alloc (.cells #[.int .u8 (c : Int)] 5)) w.heap.size (wr.alloc (.cells #[.int .u8 (c : Int)] 5)).heap.size 5 1 enB (.slice (some ⟨wr.heap.size, 0, none⟩) 1 1) [(c : Int)] := (RowB.new wr 5 [.int .u8 (c : Int)]).own (xs := [(c : Int)]) (en := enB) enB_len hb.size (by simp) (by show 1 ≤ maxLen; decide)
      clear a1 a2 hk hc' hl19 hnum hp hlt
      by_cases hr : r = 0
      · have e0 : (r != 0) = false := by simp [hr]
        have hl0 : l.length = 0 := by rcases hc with h | h; exact absurd hr h; rw [h]; rfl
        clear hc hr
        go_wp2_with (at_builtin; refine wpList_append_own _ rfl _ _ _ rfl w.heap.size 5 i0 (.int .u8 0) 1 1 Tryd.underlying28 hi0 hz0 hz1 hz2 rfl (by decide) _ 1 [.int .u8 (c : Int)] rfl hof.1 ⟨b, 0, none⟩ l.length cp ((nums l).flatMap enB) rfl (by rw [flatMap_len enB_len, nums_len, Nat.mul_one]) (news_b (o.alloc _)) (one_Bs _) ?c1 ?c2 ?c3 ?_)
        case c1 => unfold maxLen; omega
        case c2 => omega
        case c3 => simp only [World.size_alloc]; have := hb.size; omega
        intro v3 w3 hown hgr _
        have hown : w3.ownsRow w.heap.size 5 1 v3 (1 + l.length) (((c : Int) :: nums l).flatMap enB) := by rw [hl0]; exact hown
        rw [← HNU.out] at hown
        have hb3 : Below w.heap.size w w3 := (hb.alloc hb.size _).grown hgr (by simp only [World.size_alloc]; have := hb.size; omega) (fun g hg => by simp [Value.ownBlock] at hg; have := hb.size; omega)
        rcases hown.2 with ⟨rfl, hn0⟩ | ⟨g3, cap3, cur3, rfl, q1, q2, q3, q4, q5, q6⟩
        · omega
        · have ho3 : OwnS w3 w.heap.size w3.heap.size 5 1 enB (.slice (some ⟨g3, 0, none⟩) (UInt8.ofNat c :: l).length cap3) (nums (UInt8.ofNat c :: l)) := by
            have e5 : (UInt8.ofNat c :: l).length = 1 + l.length := by rw [List.length_cons, Nat.add_comm]
            have e6 : (nums (UInt8.ofNat c :: l)).length = 1 + l.length := by rw [nums_len, e5]
            refine ⟨?_, fun k hk => (hown.lt k hk).2⟩
            rw [e5, e6]
            exact hown
          have e5 : 1 + l.length = (UInt8.ofNat c :: l).length := by rw [List.length_cons, Nat.add_comm]
          clear hown hgr q1 q2 q3 q4 q5 q6 o hof
          go_wp2_with fail
          go_roundw
          case rel => exact ⟨g3, cap3, UInt8.ofNat c :: l, r2, by rw [e5], rfl, HP, hr2b, ho3, by simp; omega, HL2, hb3⟩
          case measure => exact (by have := HM.out; simp only [intOf, mz]; (first | (rw [if_neg (by omega)]; exact this) | (rw [if_neg (by omega)]; simpa [hl0] using this)))
      · have e0 : (r != 0) = true := by simp [hr]
        clear hc hr
        go_wp2_with (at_builtin; refine wpList_append_own _ rfl _ _ _ rfl w.heap.size 5 i0 (.int .u8 0) 1 1 Tryd.underlying28 hi0 hz0 hz1 hz2 rfl (by decide) _ 1 [.int .u8 (c : Int)] rfl hof.1 ⟨b, 0, none⟩ l.length cp ((nums l).flatMap enB) rfl (by rw [flatMap_len enB_len, nums_len, Nat.mul_one]) (news_b (o.alloc _)) (one_Bs _) ?c1 ?c2 ?c3 ?_)
        case c1 => unfold maxLen; omega
        case c2 => omega
        case c3 => simp only [World.size_alloc]; have := hb.size; omega
        intro v3 w3 hown hgr _
        have hown : w3.ownsRow w.heap.size 5 1 v3 (1 + l.length) (((c : Int) :: nums l).flatMap enB) := hown
        rw [← HNU.out] at hown
        have hb3 : Below w.heap.size w w3 := (hb.alloc hb.size _).grown hgr (by simp only [World.size_alloc]; have := hb.size; omega) (fun g hg => by simp [Value.ownBlock] at hg; have := hb.size; omega)
        rcases hown.2 with ⟨rfl, hn0⟩ | ⟨g3, cap3, cur3, rfl, q1, q2, q3, q4, q5, q6⟩
        · omega
        · have ho3 : OwnS w3 w.heap.size w3.heap.size 5 1 enB (.slice (some ⟨g3, 0, none⟩) (UInt8.ofNat c :: l).length cap3) (nums (UInt8.ofNat c :: l)) := by
            have e5 : (UInt8.ofNat c :: l).length = 1 + l.length := by rw [List.length_cons, Nat.add_comm]
            have e6 : (nums (UInt8.ofNat c :: l)).length = 1 + l.length := by rw [nums_len, e5]
            refine ⟨?_, fun k hk => (hown.lt k hk).2⟩
            rw [e5, e6]
            exact hown
          have e5 : 1 + l.length = (UInt8.ofNat c :: l).length := by rw [List.length_cons, Nat.add_comm]
          clear hown hgr q1 q2 q3 q4 q5 q6 o hof
          go_wp2_with fail
          go_roundw
          case rel => exact ⟨g3, cap3, UInt8.ofNat c :: l, r2, by rw [e5], rfl, HP, hr2b, ho3, by simp; omega, HL2, hb3⟩
          case measure => exact (by have := HM.out; simp only [intOf, mz]; (first | (rw [if_neg (by omega)]; exact this) | (rw [if_neg (by omega)]; simpa [hl0] using this)))
    · obtain ⟨rfl, hl⟩ : r = 0 ∧ l ≠ [] := by
        by_cases h : r = 0
        · exact ⟨h, fun h' => hc (.inr h')⟩
        · exact absurd (.inl h) hc
      have hpe := hp.out
      rw [show (0 : Int).natAbs = 0 from rfl, pre_end hl, List.nil_append] at hpe
      have hlen : l.length ≠ 0 := fun h => hl (List.eq_nil_of_length_eq_zero h)
      have hle : (((l.length : Nat) : Int) == 0) = false := by simp; exact hl
      obtain ⟨t, ht⟩ : ∃ t : ByteArray, t = ⟨l.toArray⟩ := ⟨_, rfl⟩
      have qc := convL wr _ b 0 cp l (by have := o.rd enB_len; exact this)
      rw [← ht] at qc
      have hts : t.size = l.length := by rw [ht]; simp [ByteArray.size]
      have hsz : ¬ 9223372036854775807 < 1 + t.size := by omega
      have hsz2 : ¬ 9223372036854775807 < t.size + 1 := by omega
      by_cases hneg : n < 0
      · have HI : Hid (Ending.returned (.string ((⟨#[45]⟩ : ByteArray) ++ t)) = Ending.returned (.string ⟨(Lib.itoa n).toArray⟩)) := by
          show _ = _
          unfold Lib.itoa
          rw [if_pos hneg, ← hpe, ht]
          congr 2
        have hd := decide_eq_true hneg
        clear ht hpe hl hc hp
        go_wp2_with fail
        go_ret
        exact ⟨HI.out, hb⟩
      · have HI : Hid (Ending.returned (.string t) = Ending.returned (.string ⟨(Lib.itoa n).toArray⟩)) := by
          show _ = _
          unfold Lib.itoa
          rw [if_neg hneg, show n.toNat = n.natAbs from by omega, ← hpe, ht]
        have hd := decide_eq_false hneg
        clear ht hpe hl hc hp
        go_wp2_with fail
        go_ret
        exact ⟨HI.out, hb⟩
end Go.Proofs.YtahpdboehpicoaaDoor.Dec
