/-
  l01Split of the reference: what it returns. Conditions: each theorem's own.
-/
import Derived.Test.YtlfdcefgelpgmaaGreatDoorTsE
set_option linter.unusedVariables false
set_option linter.unusedSimpArgs false
namespace Go.Proofs.YtlfdcefgelpgmaaGreatDoor.TsI
open Go.ChangeShapes Go.WideShapes Go.ChangeAt Go.RowKit Base Ints Own JoinN PlP TxP Num Bd1 Bd5 RegF RegG TxI

theorem one_Bst (x : By) : ∀ u ∈ enBs x, u.oneCell' = true := by intro u hu; simp [enBs] at hu; subst hu; rfl
/-- Pieces of l so far: the first f bytes are split into X, none of the next up to k is the byte. -/
structure Spl (c : UInt8) (l : By) (f k : Nat) (X : List By) : Prop where
  fk : f ≤ k
  kl : k ≤ l.length
  no : ∀ x ∈ (l.drop f).take (k - f), x ≠ c
  eq : spl c l = X ++ spl c (l.drop f)
  len : X.length ≤ k
theorem Spl.zero (c : UInt8) (l : By) : Spl c l 0 0 [] := ⟨Nat.le_refl _, Nat.zero_le _, by simp, by simp, by simp⟩
theorem Spl.end_ {c : UInt8} {l : By} {f : Nat} {X : List By} (h : Spl c l f l.length X) : spl c l = X ++ [(l.drop f).take (l.length - f)] := by
  have e : (l.drop f).take (l.length - f) = l.drop f := List.take_of_length_le (by simp)
  have hn := h.no
  rw [e] at hn ⊢
  rw [h.eq, spl_no _ _ hn]
theorem drop_at {l : By} {f k : Nat} {x : UInt8} (hf : f ≤ k) (hx : l[k]? = some x) : l.drop f = (l.drop f).take (k - f) ++ x :: l.drop (k + 1) := by
  have h1 : (l.drop f).drop (k - f) = x :: l.drop (k + 1) := by
    rw [List.drop_drop, show f + (k - f) = k by omega]
    have hk := (List.getElem?_eq_some_iff.1 hx)
    obtain ⟨hk1, hk2⟩ := hk
    rw [List.drop_eq_getElem_cons hk1, hk2]
  conv => lhs; rw [← List.take_append_drop (k - f) (l.drop f)]
  rw [h1]
theorem Spl.hit {c : UInt8} {l : By} {f k : Nat} {X : List By} (h : Spl c l f k X) (hx : l[k]? = some c) : Spl c l (k + 1) (k + 1) (X ++ [(l.drop f).take (k - f)]) := by
  have hk := (List.getElem?_eq_some_iff.1 hx).1
  refine ⟨Nat.le_refl _, hk, by simp, ?_, by have := h.len; simp; omega⟩
  rw [h.eq, List.append_assoc]
  congr 1
  rw [drop_at h.fk hx, spl_at _ _ _ h.no]
  have e : ((l.drop f).take (k - f) ++ c :: l.drop (k + 1)).take (k - f) = (l.drop f).take (k - f) := by
    rw [List.take_append_of_le_length (by rw [List.length_take, List.length_drop]; omega), List.take_of_length_le (by rw [List.length_take]; omega)]
  simp [e]
theorem Spl.go {c x : UInt8} {l : By} {f k : Nat} {X : List By} (h : Spl c l f k X) (hx : l[k]? = some x) (hn : x ≠ c) : Spl c l f (k + 1) X := by
  have hk := (List.getElem?_eq_some_iff.1 hx).1
  refine ⟨by have := h.fk; omega, hk, ?_, h.eq, by have := h.len; omega⟩
  intro y hy
  have hf := h.fk
  have hg : (l.drop f)[k - f]? = some x := by rw [List.getElem?_drop, show f + (k - f) = k by omega]; exact hx
  rw [show k + 1 - f = (k - f) + 1 by omega, take_succ _ _ _ hg, List.mem_append] at hy
  rcases hy with hy | hy
  · exact h.no y hy
  · simp at hy; rw [hy]; exact hn
set_option maxHeartbeats 4000000 in
set_option maxRecDepth 100000 in
theorem split_s (l : By) (c : UInt8) (cz : Int) (hcz : (c.toNat : Int) = cz) (hl : l.length ≤ 4194304) (w : World) :
    Calls Tryz.prog 54 #[.string (bs l), .int .u8 cz] w fun e w' => ∃ sv, e = .returned sv ∧ OwnS w' w.heap.size w'.heap.size 9 1 enBs sv (spl c l) ∧ Below w.heap.size w w' := by
  obtain ⟨i4, hi4, hz0, hz1, hz2⟩ := info_parts infoT
  obtain ⟨s, hs⟩ : ∃ s, bs l = s := ⟨_, rfl⟩
  have hsz : s.size = l.length := by rw [← hs]; exact bs_size l
  have hsd : s.data.toList = l := by rw [← hs]; rfl
  obtain ⟨n, hn⟩ : ∃ n, l.length = n := ⟨_, rfl⟩
  have HEX := Lib.hid (fun a b => show s.extract a b = bs ((l.drop a).take (b - a)) from by rw [Lib.extract_eq, hsd]; rfl)
  rw [hn] at hsz hl
  rw [hs]
  have HN := Lib.hid hn
  have HSD := Lib.hid hsd
  have HSZ := Lib.hid hsz
  have HCZ := Lib.hid hcz
  clear hs hn hsd hsz hcz
  go_enter Tryz.func54, Tryz.ntmps54
  go_wp2_with fail
  go_loopw [5, 6, 7] (fun vl fr i wr => ∃ (f k : Nat) (X : List By), k ≤ n + 1 ∧ i = .int .i64 (k : Int) ∧ fr = .int .i64 (f : Int) ∧ Hid (Below w.heap.size w wr) ∧ Hid (OwnS wr w.heap.size wr.heap.size 9 1 enBs vl X) ∧ Hid (if k ≤ n then Spl c l f k X else spl c l = X) ∧ f ≤ k) (fun _ _ i _ => n + 1 - (intOf i).toNat)
  case atStart => exact ⟨0, 0, [], Nat.zero_le _, rfl, rfl, Lib.hid ((Below.refl _ _).alloc (Nat.le_refl _) _), Lib.hid ((RowB.new w 9 []).own (xs := ([] : List By)) (en := enBs) enBs_len (Nat.le_refl _) (by simp) (by decide)), Lib.hid (by rw [if_pos (Nat.zero_le _)]; exact Spl.zero c l), Nat.le_refl _⟩
  case round =>
    obtain ⟨f, k, X, hk, rfl, rfl, hb, ho, hX, hfk⟩ := hrel
    obtain ⟨Av, cv, hvl, _⟩ := ho.out.form enBs_len
    by_cases hlt : k ≤ n
    · have hS : Spl c l f k X := by have := hX.out; rw [if_pos hlt] at this; exact this
      have HS := Lib.hid hS
      have hxl := hS.len
      obtain ⟨xn, hxn⟩ : ∃ m, X.length = m := ⟨_, rfl⟩
      rw [hxn] at hvl hxl
      subst hvl
      have HXN := Lib.hid hxn
      have hkle : k ≤ s.size := by rw [HSZ.out]; exact hlt
      have hsmax : s.size ≤ 4194304 := by rw [HSZ.out]; exact hl
      have hext := HEX.out f k
      obtain ⟨p, hp⟩ : ∃ p, (l.drop f).take (k - f) = p := ⟨_, rfl⟩
      rw [hp] at hext
      have HP := Lib.hid hp
      clear hX hS hp
      by_cases hend : k = n
      · have e0 : ((k : Int) == (s.size : Int)) = true := by have := HSZ.out; simp; omega
        have e0' : k = s.size := by rw [HSZ.out]; exact hend
        have HQ : Hid (spl c l = X ++ [p]) := by
          have h := HS.out
          have hkl : k = l.length := by rw [HN.out]; exact hend
          subst hkl
          show _ = _
          rw [h.end_, HP.out]
        have HKN := Lib.hid hend
        have hsb := hb.out.size
        clear e0' hend
        go_wp2_with (at_builtin; refine wpL_app rfl _ _ _ rfl w.heap.size _ 9 i4 (.string ⟨#[]⟩) 1 16 Tryz.underlying92 hi4 hz0 hz1 hz2 rfl (by decide) enBs_len one_Bst (.slice Av xn cv) X [p] rfl (ho.out.alloc _) ⟨wr.heap.size, 0, none⟩ 1 1 (by first | rfl | (simp; rfl) | (simp [go_sem]; done)) rfl (news_new (RowB.new _ _ _)) (by decide) ?c1 ?c2 ?c3 ?_)
        case c1 => unfold maxLen; omega
        case c2 => omega
        case c3 => go_size
        intro k2 c2 w7 ho7 hg7 hat7 hlt7
        have hrow : ∀ g, (Value.slice Av xn cv).ownBlock = some g → w.heap.size ≤ g := fun g hg => (ho.out.block g hg).1
        have hg8 : wr.grownBy w7 (Value.slice Av xn cv).ownBlock := below_grown (w := wr) (by go_grown) hg7
        have hbn := Lib.hid (hb.out.grown hg8 hb.out.size (fun g hg => hrow g hg))
        have hoN := Lib.hid ho7
        obtain ⟨Y, hY⟩ : ∃ Y, X ++ [p] = Y := ⟨_, rfl⟩
        rw [hY] at HQ hoN
        clear hg7 hg8 hat7 ho7 hrow hY hb ho
        go_wp2_with fail
        go_roundw
        case rel => exact ⟨k + 1, k + 1, Y, by omega, by first | rfl | trivial | go_num, by first | rfl | trivial | go_num, hbn, hoN, Lib.hid (by have := HKN.out; rw [if_neg (by omega)]; exact HQ.out), Nat.le_refl _⟩
        case measure => simp [intOf]; omega
      · have hlt' : k < s.size := by rw [HSZ.out]; omega
        have e0 : ((k : Int) == (s.size : Int)) = false := by simp; omega
        obtain ⟨x, hxx⟩ : ∃ x, (s[k]'hlt') = x := ⟨_, rfl⟩
        have hx := Lib.data_getElem? s k hlt'
        rw [hxx, HSD.out] at hx
        obtain ⟨z, hz⟩ : ∃ z : Nat, x.toNat = z := ⟨_, rfl⟩
        have hzd : (s[k]'hlt').toNat = z := by rw [hxx, hz]
        have HX := Lib.hid hx
        have HZ := Lib.hid hz
        have hkn : k + 1 ≤ n := by omega
        have hsb := hb.out.size
        clear hxx hx hz
        by_cases hxc : x = c
        · have e1 : ((z : Int) == cz) = true := by rw [← HCZ.out, ← HZ.out, hxc]; simp
          have HQ : Hid (Spl c l (k + 1) (k + 1) (X ++ [p])) := by
            have h := HS.out.hit (by rw [HX.out, hxc])
            rw [HP.out] at h
            exact Lib.hid h
          clear hxc
          go_wp2_with (at_builtin; refine wpL_app rfl _ _ _ rfl w.heap.size _ 9 i4 (.string ⟨#[]⟩) 1 16 Tryz.underlying92 hi4 hz0 hz1 hz2 rfl (by decide) enBs_len one_Bst (.slice Av xn cv) X [p] rfl (ho.out.alloc _) ⟨wr.heap.size, 0, none⟩ 1 1 (by first | rfl | (simp; rfl) | (simp [go_sem]; done)) rfl (news_new (RowB.new _ _ _)) (by decide) ?c1 ?c2 ?c3 ?_)
          case c1 => unfold maxLen; omega
          case c2 => omega
          case c3 => go_size
          intro k2 c2 w7 ho7 hg7 hat7 hlt7
          have hrow : ∀ g, (Value.slice Av xn cv).ownBlock = some g → w.heap.size ≤ g := fun g hg => (ho.out.block g hg).1
          have hg8 : wr.grownBy w7 (Value.slice Av xn cv).ownBlock := below_grown (w := wr) (by go_grown) hg7
          have hbn := Lib.hid (hb.out.grown hg8 hb.out.size (fun g hg => hrow g hg))
          have hoN := Lib.hid ho7
          obtain ⟨Y, hY⟩ : ∃ Y, X ++ [p] = Y := ⟨_, rfl⟩
          rw [hY] at HQ hoN
          clear hg7 hg8 hat7 ho7 hrow hY hb ho
          go_wp2_with fail
          go_roundw
          case rel => exact ⟨k + 1, k + 1, Y, by omega, by first | rfl | trivial | go_num, by first | rfl | trivial | go_num, hbn, hoN, Lib.hid (by rw [if_pos hkn]; exact HQ.out), Nat.le_refl _⟩
          case measure => simp [intOf]; omega
        · have e1 : ((z : Int) == cz) = false := by
            rw [← HCZ.out, ← HZ.out]
            simp
            intro h
            exact hxc (UInt8.toNat_inj.1 (by omega))
          have HQ := Lib.hid (HS.out.go HX.out hxc)
          clear hxc
          go_wp2_with fail
          go_roundw
          case rel => exact ⟨f, k + 1, X, by omega, by first | rfl | trivial | go_num, by first | rfl | trivial | go_num, hb, ho, Lib.hid (by rw [if_pos hkn]; exact HQ.out), by omega⟩
          case measure => simp [intOf]; omega
    · have hS : spl c l = X := by have := hX.out; rw [if_neg hlt] at this; exact this
      have HS := Lib.hid hS
      have hge : ¬ k ≤ s.size := by rw [HSZ.out]; exact hlt
      have dge : decide (k ≤ s.size) = false := decide_eq_false hge
      subst hvl
      clear hX hS
      go_wp2_with fail
      go_ret
      exact ⟨_, rfl, by rw [HS.out]; exact ho.out, hb.out⟩
end Go.Proofs.YtlfdcefgelpgmaaGreatDoor.TsI
