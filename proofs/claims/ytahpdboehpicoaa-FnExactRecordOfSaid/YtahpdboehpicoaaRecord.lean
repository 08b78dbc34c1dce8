/-
  The record of a text, of the program and of the reference. Conditions: each theorem's own.
-/
import Derived.Test.YtahpdboehpicoaaChecksum
import Derived.Test.YtahpdboehpicoaaOwn
import Derived.Lib.AppendStr
import Derived.Lib.ConvBytes
set_option linter.unusedVariables false
namespace Go.Proofs.Ytahpdboehpicoaa.Record
open Go.ChangeShapes Go.WideShapes Go.ChangeAt Go.RowKit Base Bytes Own Checksum

/-- A string's bytes. -/
def bsOf (s : ByteArray) : List Int := s.data.toList.map (fun b => (b.toNat : Int))
theorem bsOf_len (s : ByteArray) : (bsOf s).length = s.size := by unfold bsOf; rw [List.length_map]; rfl
theorem bsOf_wf (s : ByteArray) : ∀ x ∈ bsOf s, (Lit.int .u8 x).wf = true := by
  intro x hx
  obtain ⟨b, _, rfl⟩ := List.mem_map.1 hx
  have := b.toNat_lt
  exact WalkArith.wf_u8 ⟨by omega, by omega⟩
theorem strCells_eq (s : ByteArray) : Lib.strCells s = (bsOf s).flatMap enB := by
  unfold Lib.strCells bsOf
  induction s.data.toList with
  | nil => rfl
  | cons b l ih => simp only [List.map_cons, List.flatMap_cons, ih]; rfl
theorem bsOf_at (s : ByteArray) (k : Nat) (hk : k < s.size) : (bsOf s)[k]? = some ((s[k].toNat : Nat) : Int) := by
  unfold bsOf
  rw [List.getElem?_map]
  have hk' : k < s.data.toList.length := hk
  rw [List.getElem?_eq_getElem hk']
  rfl
theorem one_B (x : Int) : ∀ u ∈ enB x, u.oneCell' = true := by intro u hu; simp [enB] at hu; subst hu; rfl

theorem implS (s : ByteArray) (w : World) (hs : s.size ≤ 9223372036854775807) :
    Calls Try.prog 43 #[.string s] w fun e w' => e = .returned (.int .i64 (ck (bsOf s))) ∧ w = w' := by
  have HW := Lib.hid (bsOf_wf s)
  have HL := Lib.hid (bsOf_len s)
  have HA := Lib.hid (bsOf_at s)
  generalize hx : bsOf s = xs at *
  have HX := Lib.hid hx; clear hx
  go_enter Try.func43, Try.ntmps43
  go_wp2
  go_loop [3, 7] (fun t i => ∃ (k : Nat) (c : Int), k ≤ s.size ∧ i = .int .i64 k ∧ 0 ≤ c ∧ c ≤ 65520 ∧ t = .int .i64 c ∧ Hid (c = ck (xs.take k))) (fun t i => s.size - (intOf i).toNat)
  case atStart => exact ⟨0, 1, Nat.zero_le _, rfl, by omega, by omega, rfl, rfl⟩
  case round =>
    obtain ⟨k, c, hk, rfl, hs0, hs1, rfl, hc⟩ := hrel
    by_cases hlt : k < s.size
    · have hx := HA.out k hlt
      obtain ⟨x, hxe⟩ : ∃ x : Int, ((s[k].toNat : Nat) : Int) = x := ⟨_, rfl⟩
      rw [hxe] at hx
      have hb8 := bounds_u8 (HW.out x (List.mem_of_getElem? hx))
      obtain ⟨hx0, hx1⟩ := hb8
      have hst := Lib.hid (ck_snoc xs k x hx c hc.out)
      have hix : ∀ w, (Instr.index 9 (.string s) (.int .i64 (k : Int))).run Try.prog w = .ok (.int .u8 x) w := fun w => by
        rw [run_index_string w _ s .i64 k (by kernel_rfl), dif_pos ⟨by omega, by omega⟩, ← hxe]
        rfl
      clear hx hxe
      go_wp2
      go_round
      case rel => exact ⟨k + 1, (257 * c + x) % 65521, by omega, by go_num, by omega, by omega, rfl, hst⟩
      case measure => simp [intOf]; omega
    · obtain rfl : k = s.size := by omega
      have hs' : Hid (c = ck xs) := by
        have := hc.out
        rw [List.take_of_length_le (by rw [HL.out]; exact Nat.le_refl _)] at this
        exact this
      go_wp2
      go_ret
      exact ⟨by rw [← hs'.out]; rfl, rfl⟩

/-- The record: the length, the bytes, the checksum's two bytes. -/
def recL (s : ByteArray) : List Int := [(s.size : Int)] ++ bsOf s ++ [ck (bsOf s) / 256, ck (bsOf s) % 256]
def rcL (s : ByteArray) : List Int := if s.size ≤ 250 then recL s else []
def rcB (s : ByteArray) : Bool := decide (s.size ≤ 250)
theorem rcL_len (s : ByteArray) : (rcL s).length ≤ 253 := by
  unfold rcL
  split
  · have := bsOf_len s; simp [recL]; omega
  · simp
theorem ck_bd (xs : List Int) : 0 ≤ ck xs ∧ ck xs ≤ 65520 := by
  unfold ck
  have : ∀ (xs : List Int) (a : Int), 0 ≤ a → a ≤ 65520 → 0 ≤ xs.foldl (fun s x => (257 * s + x) % 65521) a ∧ xs.foldl (fun s x => (257 * s + x) % 65521) a ≤ 65520 := by
    intro xs
    induction xs with
    | nil => intro a h0 h1; exact ⟨h0, h1⟩
    | cons x xs ih => intro a h0 h1; exact ih ((257 * a + x) % 65521) (by omega) (by omega)
  exact this xs 1 (by omega) (by omega)

theorem news_rd {w : World} {B : Nat} {ad : Addr} {xs : List Int} (h : RdS w B 1 enB (some ad) xs) : ∀ j u, (xs.flatMap enB)[j]? = some u → w.cell? (ad.add j) = some u := by
  intro j u hu
  have hj : j < (xs.flatMap enB).length := (List.getElem?_eq_some_iff.1 hu).1
  rw [flatMap_len enB_len, Nat.mul_one] at hj
  obtain ⟨b, off, he, _, hc⟩ := h.2 (by omega)
  simp only [Option.some.injEq] at he
  subst he
  have hx : xs[j]? = some xs[j] := List.getElem?_eq_getElem hj
  have h1 := flatMap_at enB_len xs j _ hx 0 _ rfl
  have h2 := hc j _ hx 0 _ rfl
  rw [Nat.mul_one, Nat.add_zero, hu] at h1
  simp only [Option.some.injEq] at h1
  subst h1
  rw [Nat.mul_one, Nat.add_zero] at h2
  have hadd : (⟨b, off, none⟩ : Addr).add j = ⟨b, off + j, none⟩ := by unfold Addr.add; split <;> simp_all
  rw [hadd]; exact h2
theorem bytes_rd (w : World) (s : ByteArray) (hs : s.size ≤ maxLen) : RdS (Lib.bytesWorld w 5 s) (w.heap.size + 1) 1 enB (some ⟨w.heap.size, 0, none⟩) (bsOf s) := by
  refine ⟨by rw [bsOf_len]; exact hs, fun _ => ⟨w.heap.size, 0, rfl, by omega, fun i x hx j u hu => ?_⟩⟩
  have hi : i < s.size := by rw [← bsOf_len]; exact (List.getElem?_eq_some_iff.1 hx).1
  have hj : j = 0 := by
    have := (List.getElem?_eq_some_iff.1 hu).1
    simp [enB] at this
    exact this
  subst hj
  simp [enB] at hu
  subst hu
  have := Lib.bytesWorld_cell w 5 s i hi
  rw [show 0 + i * 1 + 0 = i from by omega, this]
  rw [bsOf_at s i hi] at hx
  simp only [Option.some.injEq] at hx
  rw [← hx]
  have hk' : i < s.data.toList.length := hi
  rw [List.getD_eq_getElem?_getD, List.getElem?_eq_getElem hk']
  rfl
theorem bytes_below (w : World) (s : ByteArray) : Below w.heap.size w (Lib.bytesWorld w 5 s) := by
  refine ⟨?_, ?_, ?_, ?_, fun i hi => Lib.bytesWorld_at_old w _ s i hi⟩
  · rfl
  · rfl
  · rfl
  · rw [Lib.bytesWorld_size]; omega

theorem specS (B : Nat) (A : Option Addr) (c n : Nat) (xs : List Int) (w : World) (hn : xs.length = n) (hr : RdS w B 1 enB A xs) (hw : ∀ x ∈ xs, (Lit.int .u8 x).wf = true) :
    Calls Try.prog 10 #[.slice A n c] w fun e w' => e = .returned (.int .i64 (ck xs)) ∧ w = w' := by
  subst hn
  exact Checksum.spec B A c xs w hr hw
theorem one_Bs (xs : List Int) : ∀ u ∈ xs.flatMap enB, u.oneCell' = true := by
  intro u hu
  obtain ⟨y, _, hy⟩ := List.mem_flatMap.1 hu
  exact one_B y u hy

set_option maxHeartbeats 1000000 in
theorem recS (s : ByteArray) (w : World) (hs : s.size ≤ 250) :
    Calls Try.prog 32 #[.string s] w fun e w' => (∃ v, e = .returned v ∧ OwnS w' w.heap.size w'.heap.size 5 1 enB v (recL s)) ∧ Below w.heap.size w w' := by
  obtain ⟨i0, hi0, hz0, hz1, hz2⟩ := info_parts info
  have cv := fun w : World => Lib.run_convert_string_bytes (P := Try.prog) w 9 24 5 s (u := .string) (by kernel_rfl) (by kernel_rfl) (by kernel_rfl)
  have ws : IntKind.u8.wrap (s.size : Int) = (s.size : Int) := IntWalk.u8_in _ (by omega)
  have ms : s.size ≤ maxLen := by unfold maxLen; omega
  have HL := Lib.hid (bsOf_len s)
  have hb := ck_bd (bsOf s)
  have HRL : Hid (recL s = [(s.size : Int)] ++ bsOf s ++ [ck (bsOf s) / 256, ck (bsOf s) % 256]) := rfl
  go_enter Try.func32, Try.ntmps32
  go_wp2_with fail
  have r1 := bytes_rd w s ms
  refine (specS _ _ _ _ (bsOf s) _ HL.out r1 (bsOf_wf s)).mono ?_
  rintro e w' ⟨rfl, rfl⟩
  have q1 := bytes_below w s
  have z1 := Lib.bytesWorld_size w 5 s
  generalize Lib.bytesWorld w 5 s = w1 at *
  have z2 : w.heap.size + 1 ≤ w1.heap.size := by omega
  clear z1
  generalize grownCap w s.size 0 5 = cap
  generalize hck : ck (bsOf s) = c at *
  have HC := Lib.hid hck
  obtain ⟨b0, b1⟩ := hb
  have wq : IntKind.u8.wrap (c / 256) = c / 256 := IntWalk.u8_in _ (by omega)
  have wr : IntKind.u8.wrap (c % 256) = c % 256 := IntWalk.u8_in _ (by omega)
  have tq : c.tdiv 256 = c / 256 := by rw [Int.tdiv_eq_ediv_of_nonneg b0]
  have tr : c.tmod 256 = c % 256 := by rw [Int.tmod_eq_emod_of_nonneg b0]
  clear cv hck
  go_wp2_with (at_builtin; refine wpList_append_own _ rfl _ _ _ rfl w1.heap.size 5 i0 (.int .u8 0) 1 1 Try.underlying24 hi0 hz0 hz1 hz2 rfl (by decide) _ 1 [.int .u8 (s.size : Int)] rfl ((RowB.new w1 5 [.int .u8 (s.size : Int)]).own (xs := [(s.size : Int)]) (en := enB) enB_len (Nat.le_refl _) (by simp) (by show 1 ≤ maxLen; decide) : OwnS _ w1.heap.size (w1.alloc (.cells #[.int .u8 (s.size : Int)] 5)).heap.size 5 1 enB _ [(s.size : Int)]).1 ⟨w.heap.size, 0, none⟩ s.size cap ((bsOf s).flatMap enB) rfl (by rw [flatMap_len enB_len, HL.out]) (news_rd (r1.below (show Below w1.heap.size w1 _ from by go_grown) (by omega))) (one_Bs _) ?c1 ?c2 ?c3 ?_)
  case c1 => unfold maxLen; omega
  case c2 => omega
  case c3 => go_size
  intro v2 w2 hown hgr _
  have hown : w2.ownsRow w1.heap.size 5 1 v2 ([(s.size : Int)] ++ bsOf s).length (([(s.size : Int)] ++ bsOf s).flatMap enB) := by
    rw [List.flatMap_append, List.length_append, HL.out]; exact hown
  have o2 : OwnS w2 w1.heap.size w2.heap.size 5 1 enB v2 ([(s.size : Int)] ++ bsOf s) := ⟨hown, fun g hg => (hown.lt g hg).2⟩
  have t2 : Below w1.heap.size w1 w2 := ((Below.refl w1.heap.size w1).alloc (Nat.le_refl _) _).grown hgr (by go_size) (fun g hg => by simp [Value.ownBlock] at hg; omega)
  have q2 := q1.trans (t2.mono (by omega))
  have s2 := t2.size
  clear hown hgr q1 r1
  have hl2 : ([(s.size : Int)] ++ bsOf s).length = 1 + s.size := by rw [List.length_append, HL.out]; rfl
  go_wp2_with (at_builtin; refine wpL_app rfl _ _ _ rfl w1.heap.size w2.heap.size 5 i0 (.int .u8 0) 1 1 Try.underlying24 hi0 hz0 hz1 hz2 rfl (by decide) enB_len one_B v2 ([(s.size : Int)] ++ bsOf s) [c / 256, c % 256] rfl (o2.alloc _) ⟨w2.heap.size, 0, none⟩ 2 2 rfl rfl (news_new (RowB.new _ _ _)) (by decide) ?d1 ?d2 ?d3 ?_)
  case d1 => rw [hl2]; unfold maxLen; omega
  case d2 => rw [hl2]; omega
  case d3 => go_size
  intro g cp w3 o3 hgr hat hlt
  have hb2 := o2.block
  have q3 : Below w.heap.size w w3 := (q2.alloc q2.size _).grown hgr (by have := q2.size; go_size) (fun k hk => by have := hb2 k hk; omega)
  have o4 := Lib.hid (OwnS.less (lo' := w.heap.size) o3 (by omega))
  clear hgr hat o2 q2 t2 o3
  go_wp2_with fail
  go_ret
  exact ⟨⟨_, rfl, by rw [HRL.out]; exact o4.out⟩, q3⟩

set_option maxHeartbeats 1000000 in
theorem recI (s : ByteArray) (w : World) (hs : s.size ≤ 250) :
    Calls Try.prog 33 #[.string s] w fun e w' => (∃ v, e = .returned v ∧ OwnS w' w.heap.size w'.heap.size 5 1 enB v (recL s)) ∧ Below w.heap.size w w' := by
  obtain ⟨i0, hi0, hz0, hz1, hz2⟩ := info_parts info
  have ws : IntKind.u8.wrap (s.size : Int) = (s.size : Int) := IntWalk.u8_in _ (by omega)
  have ms : s.size ≤ maxLen := by unfold maxLen; omega
  have HL := Lib.hid (bsOf_len s)
  have hb := ck_bd (bsOf s)
  have HRL : Hid (recL s = [(s.size : Int)] ++ bsOf s ++ [ck (bsOf s) / 256, ck (bsOf s) % 256]) := rfl
  go_enter Try.func33, Try.ntmps33
  go_wp2_with (at_builtin; refine Lib.wpList_append_own_string _ rfl _ _ _ _ rfl w.heap.size 5 i0 Try.underlying24 Try.underlying9 hi0 hz0 hz1 hz2 _ 1 [.int .u8 (s.size : Int)] rfl ((RowB.new w 5 [.int .u8 (s.size : Int)]).own (xs := [(s.size : Int)]) (en := enB) enB_len (Nat.le_refl _) (by simp) (by show 1 ≤ maxLen; decide) : OwnS _ w.heap.size (w.alloc (.cells #[.int .u8 (s.size : Int)] 5)).heap.size 5 1 enB _ [(s.size : Int)]).1 s rfl ?c1 ?c2 ?c3 ?_)
  case c1 => unfold maxLen; omega
  case c2 => omega
  case c3 => go_size
  intro v2 w2 hown hgr _
  have hown : w2.ownsRow w.heap.size 5 1 v2 ([(s.size : Int)] ++ bsOf s).length (([(s.size : Int)] ++ bsOf s).flatMap enB) := by
    rw [List.flatMap_append, List.length_append, HL.out, ← strCells_eq]; exact hown
  have o2 : OwnS w2 w.heap.size w2.heap.size 5 1 enB v2 ([(s.size : Int)] ++ bsOf s) := ⟨hown, fun g hg => (hown.lt g hg).2⟩
  have q2 : Below w.heap.size w w2 := ((Below.refl w.heap.size w).alloc (Nat.le_refl _) _).grown hgr (by go_size) (fun g hg => by simp [Value.ownBlock] at hg; omega)
  have s2 := q2.size
  clear hown hgr
  have hl2 : ([(s.size : Int)] ++ bsOf s).length = 1 + s.size := by rw [List.length_append, HL.out]; rfl
  go_wp2_with fail
  refine (implS s _ (by omega)).mono ?_
  rintro e w' ⟨rfl, rfl⟩
  generalize hck : ck (bsOf s) = c at *
  have HC := Lib.hid hck
  obtain ⟨b0, b1⟩ := hb
  have wq : IntKind.u8.wrap (c / 256) = c / 256 := IntWalk.u8_in _ (by omega)
  have wr : IntKind.u8.wrap c = c % 256 := by rw [IntKind.wrap_u8]
  clear hck
  go_wp2_with (at_builtin; refine wpL_app rfl _ _ _ rfl w.heap.size w2.heap.size 5 i0 (.int .u8 0) 1 1 Try.underlying24 hi0 hz0 hz1 hz2 rfl (by decide) enB_len one_B v2 ([(s.size : Int)] ++ bsOf s) [c / 256, c % 256] rfl (o2.alloc _) ⟨w2.heap.size, 0, none⟩ 2 2 rfl rfl (news_new (RowB.new _ _ _)) (by decide) ?d1 ?d2 ?d3 ?_)
  case d1 => rw [hl2]; unfold maxLen; omega
  case d2 => rw [hl2]; omega
  case d3 => go_size
  intro g cp w3 o3 hgr hat hlt
  have hb2 := o2.block
  have q3 : Below w.heap.size w w3 := (q2.alloc q2.size _).grown hgr (by have := q2.size; go_size) (fun k hk => by have := hb2 k hk; omega)
  have o4 := Lib.hid o3
  clear hgr hat o2 q2 o3
  go_wp2_with fail
  go_ret
  exact ⟨⟨_, rfl, by rw [HRL.out]; exact o4.out⟩, q3⟩
end Go.Proofs.Ytahpdboehpicoaa.Record
