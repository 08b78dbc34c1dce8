/-
  impl.decimal and impl.joinNumbers. Conditions: each theorem's own.
-/
import Derived.Test.YtahpdboehpicoaaDoorOwn
import Derived.Test.YtahpdboehpicoaaDoorInts
import Derived.Test.YtahpdboehpicoaaDoorShelf
import Derived.Laws.MakeOwn
import Derived.WalkKit
import Derived.Deep.QuietTactic
import Derived.Deep.RegionHeld3
set_option linter.unusedVariables false
namespace Go.Proofs.YtahpdboehpicoaaDoor.JoinN
open Go.ChangeShapes Go.WideShapes Go.ChangeAt Go.RowKit Go.Sort Base Ints Own

theorem grow_bel (w : World) (k : Nat) (os : Array Obj) : Below w.heap.size w (grow (w.drewN k) os) :=
  ⟨rfl, rfl, rfl, by simp [grow], fun i hi => by
    show (w.heap ++ os)[i]? = w.heap[i]?
    exact Array.getElem?_append_left hi⟩
def TabOk (w : World) : Prop := Lib.TabIs Tryd.prog w "internal/strconv.uint64pow10" .u64 Lib.pow10Tab
theorem tab_glob : ∃ g, Tryd.prog.globalNamed "internal/strconv.uint64pow10" = some g := by
  have h : (Tryd.prog.globalNamed "internal/strconv.uint64pow10").isSome = true := by kernel_rfl
  exact Option.isSome_iff_exists.1 h
theorem TabOk.below {w w' : World} (h : TabOk w) (hb : Below w.heap.size w w') : TabOk w' := by
  obtain ⟨g, hg⟩ := tab_glob
  unfold TabOk Lib.TabIs at h ⊢
  rw [← h]
  unfold World.var? at h ⊢
  rw [hg] at h ⊢
  have hl : g < w.heap.size := by
    rcases Nat.lt_or_ge g w.heap.size with h1 | h1
    · exact h1
    · replace h : (match w.heap[g]? with | some (.cells cs _ _) => some cs | _ => none) = _ := h
      rw [Array.getElem?_eq_none h1] at h
      cases h
  show (match w'.heap[g]? with | some (.cells cs _ _) => some cs | _ => none) = (match w.heap[g]? with | some (.cells cs _ _) => some cs | _ => none)
  rw [hb.block g hl]


set_option maxHeartbeats 1000000 in
set_option maxRecDepth 100000 in
theorem decimal (n : Int) (h0 : -9223372036854775808 ≤ n) (h1 : n ≤ 9223372036854775807) (w : World) (ht : TabOk w) :
    Calls Tryd.prog 23 #[.int .i64 n] w fun e w' => e = .returned (.string ⟨(Lib.itoa n).toArray⟩) ∧ Below w.heap.size w w' := by
  go_enter Tryd.func23, Tryd.ntmps23
  go_wp2_with fail
  refine (Tryd.strconv_FormatInt_10 n h0 h1 _ ht).mono ?_
  rintro e w1 ⟨rfl, k, os, rfl⟩
  go_wp2_with fail
  go_ret
  exact ⟨rfl, grow_bel _ _ _⟩

def enT (x : Int) : List Value := [.string ⟨(Lib.itoa x).toArray⟩]
theorem enT_len (x : Int) : (enT x).length = 1 := rfl
theorem infoT : (Tryd.prog.info? 9).map (fun i => (i.zero, i.size, i.bytes)) = some (some (.string ⟨#[]⟩), 1, 16) := by kernel_rfl
set_option maxHeartbeats 2000000 in
set_option maxRecDepth 100000 in
theorem join (A : Option Addr) (cp B : Nat) (xs : List Int) (sep : ByteArray) (w : World) (hB : B ≤ w.heap.size) (hr : RdS w B 1 enI A xs) (hx : ∀ x ∈ xs, -9223372036854775808 ≤ x ∧ x ≤ 9223372036854775807) (h0 : 0 < xs.length) (hlen : (Lib.join (xs.map Lib.itoa) sep.data.toList).length ≤ 140737488355328) (hn : xs.length ≤ 1048576) (ht : TabOk w) :
    Calls Tryd.prog 18 #[.slice A xs.length cp, .string sep] w fun e w' => e = .returned (.string ⟨(Lib.join (xs.map Lib.itoa) sep.data.toList).toArray⟩) ∧ Below w.heap.size w w' := by
  obtain ⟨i0, hi, hz0, hz1, hz2⟩ := info_parts infoT
  generalize hnn : xs.length = n at *
  have H := Lib.hid hnn; clear hnn
  go_enter Tryd.func18, Tryd.ntmps18
  go_wp2_with (at_make; refine wpList_make_full _ rfl _ _ _ rfl w.heap.size 9 i0 _ 1 Tryd.underlying43 hi hz0 hz1 _ _ _ _ n rfl rfl rfl rfl ?c1 ?c2 (Nat.le_refl _) ?_)
  case c1 => rw [hz2]; omega
  case c2 => unfold maxLen; omega
  intro w1 hown hgrow
  have hrow := Lib.hid (RowB.of_own hown)
  have hbel : Below w.heap.size w w1 := (Below.refl _ _).grown hgrow (Nat.le_refl _) (by simp)
  have hsz : w.heap.size < w1.heap.size := hrow.out.lt
  clear hown hgrow
  go_wp2_with fail
  go_loopw [13] (fun i wr => ∃ k : Nat, k ≤ n ∧ i = .int .i64 (k : Int) ∧ Below w.heap.size w wr ∧ Hid (RowB wr w.heap.size 9 ((xs.take k).flatMap enT ++ List.replicate (n - k) (.string ⟨#[]⟩)))) (fun i _ => n - (intOf i).toNat)
  case atStart => exact ⟨0, Nat.zero_le _, rfl, hbel, by simpa [made_rep] using hrow⟩
  case round =>
    obtain ⟨k, hk, rfl, hbe, hR⟩ := hrel
    clear hbel hrow hsz
    have hl := hR.out.lt
    by_cases hlt : k < n
    · obtain ⟨b, off, x, rfl, hb, hxk, hc⟩ := rdI_at (hr.below hbe hB) (by rw [H.out]; exact hlt)
      obtain ⟨x0, x1⟩ := hx x (List.mem_of_getElem? hxk)
      have HX := Lib.hid hxk
      clear hxk
      go_wp2_with fail
      refine (decimal x x0 x1 _ (ht.below hbe)).mono ?_
      rintro e w2 ⟨rfl, hb2⟩
      have hR2 := Lib.hid (hR.out.below hb2 hl)
      have hbe2 := hbe.trans (hb2.mono hbe.size)
      have hl2 := hR2.out.lt
      have hf2 := hR2.out.frozen
      obtain ⟨z, hz⟩ : ∃ z, w2.cell? ⟨w.heap.size, k, none⟩ = some z := by
        rw [hR2.out.cell]
        refine ⟨_, List.getElem?_eq_getElem ?_⟩
        rw [List.length_append, flatMap_len enT_len, List.length_take, List.length_replicate, H.out]
        omega
      have HF : Hid (RowB (w2.setCell ⟨w.heap.size, k, none⟩ (.string ⟨(Lib.itoa x).toArray⟩)) w.heap.size 9 ((xs.take (k + 1)).flatMap enT ++ List.replicate (n - (k + 1)) (.string ⟨#[]⟩))) := by
        have h3 := hR2.out.set k (.string ⟨(Lib.itoa x).toArray⟩)
        obtain ⟨m, hm⟩ : ∃ m, n - k = m + 1 := ⟨n - k - 1, by omega⟩
        rw [hm, fill1 HX.out rfl enT_len] at h3
        rw [show n - (k + 1) = m from by omega]
        exact h3
      have qs := Lib.hid (hbe2.setCell (p := ⟨w.heap.size, k, none⟩) (Nat.le_refl _) (.string ⟨(Lib.itoa x).toArray⟩))
      clear hc hb
      go_wp2_with fail
      go_roundw
      case rel => exact ⟨k + 1, by omega, by go_num, qs.out, HF⟩
      case measure => simp [intOf]; omega
    · obtain rfl : k = n := by omega
      have row := hR.out
      rw [Nat.sub_self, List.replicate_zero, List.append_nil, List.take_of_length_le (by rw [H.out]; exact Nat.le_refl _)] at row
      have HJ : Hid ((xs.map fun x => (⟨(Lib.itoa x).toArray⟩ : ByteArray)).map (·.data.toList) = xs.map Lib.itoa) := by show _ = _; rw [List.map_map]; exact List.map_congr_left fun x _ => rfl
      have CJ := Tryd.strings_Join w.heap.size 0 k (xs.map fun x => (⟨(Lib.itoa x).toArray⟩ : ByteArray)) sep wr (fun j x hj => by
        rw [List.getElem?_map] at hj
        obtain ⟨y, hy, rfl⟩ := Option.map_eq_some_iff.1 hj
        rw [Nat.zero_add, row.cell]
        have := flatMap_at enT_len xs j y hy 0 _ rfl
        simpa using this) row.lt (by rw [List.length_map, H.out]; omega) (by rw [List.length_map, H.out]; exact Nat.le_refl _) (by rw [HJ.out]; exact hlen)
      rw [List.length_map, H.out, HJ.out] at CJ
      clear hR
      go_wp2_with fail
      refine CJ.mono ?_
      rintro e w2 ⟨rfl, hb2⟩
      go_wp2_with fail
      go_ret
      exact ⟨rfl, hbe.trans (hb2.mono hbe.size)⟩
end Go.Proofs.YtahpdboehpicoaaDoor.JoinN
