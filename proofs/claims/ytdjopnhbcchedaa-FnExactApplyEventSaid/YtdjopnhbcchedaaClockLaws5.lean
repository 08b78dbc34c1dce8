/-
  The law on ApplyEvent. Conditions: none beyond the given row's.
-/
import Derived.Test.YtdjopnhbcchedaaClockA
import Derived.Test.YtdjopnhbcchedaaClockRun
import Derived.Test.YtdjopnhbcchedaaClockEvS
set_option linter.unusedVariables false
namespace Go.Proofs.Ytdjopnhbcchedaa.ClockLaws5
open Go.ChangeShapes Go.WideShapes Go.ChangeAt Go.RowKit Base Base2 Ints Clock ClockSt ClockR ClockT ClockA ClockRun Draw

theorem ap_len {r d b : Int} {xs : List Int} {turn since used : Int} {run : Bool} {fallen kind time : Int} {gs : List Int} {tu si us : Int} {ru : Bool} {fa co : Int} (h : apR r d b xs turn since used run fallen kind time = (gs, tu, si, us, ru, fa, co)) (hx : xs.length ≤ 1048576) : gs.length ≤ 1048576 := by
  unfold apR at h
  split at h
  · split at h
    · split at h
      · split at h
        · simp only [Prod.mk.injEq] at h; rw [← h.1, List.length_set]; exact hx
        · split at h
          · simp only [Prod.mk.injEq] at h; rw [← h.1, List.length_set]; exact hx
          · split at h
            · simp only [Prod.mk.injEq] at h; rw [← h.1]; exact hx
            · simp only [Prod.mk.injEq] at h; rw [← h.1]; exact hx
      · simp only [Prod.mk.injEq] at h; rw [← h.1]; simp
    · simp only [Prod.mk.injEq] at h; rw [← h.1]; simp
  · simp only [Prod.mk.injEq] at h; rw [← h.1]; simp

/-- The arguments as they came in. -/
structure La (W w : World) (r d b kind time : Int) (A : Option Addr) (cp : Nat) (xs : List Int) (turn since used : Int) (run : Bool) (fallen : Int) : Prop where
  ra : RowB w W.heap.size 23 [.int .i64 r, .int .i64 d, .int .i64 b]
  rs : RowB w (W.heap.size + 1) 36 [.slice A xs.length cp, .int .i64 turn, .int .i64 since, .int .i64 used, .bool run, .int .i64 fallen]
  re : RowB w (W.heap.size + 2) 56 [.int .i64 kind, .int .i64 time]
  rd : RdS w W.heap.size 1 enI A xs
  bel : Below W.heap.size W w
section
variable {W w w' : World} {r d b kind time : Int} {A : Option Addr} {cp : Nat} {xs : List Int} {turn since used : Int} {run : Bool} {fallen : Int}
theorem La.below (h : La W w r d b kind time A cp xs turn since used run fallen) (hb : Below w.heap.size w w') : La W w' r d b kind time A cp xs turn since used run fallen :=
  ⟨h.ra.below hb h.ra.lt, h.rs.below hb h.rs.lt, h.re.below hb h.re.lt, h.rd.below hb h.bel.size, h.bel.trans (hb.mono h.bel.size)⟩
theorem La.grown {row : Option Nat} (h : La W w r d b kind time A cp xs turn since used run fallen) (hg : w.grownBy w' row) (hr : ∀ k, row = some k → W.heap.size + 3 ≤ k) : La W w' r d b kind time A cp xs turn since used run fallen :=
  ⟨h.ra.grown hg (fun k hk => by have := hr k hk; omega), h.rs.grown hg (fun k hk => by have := hr k hk; omega), h.re.grown hg (fun k hk => by have := hr k hk; omega), h.rd.grown hg h.bel.size (fun k hk => by have := hr k hk; omega), h.bel.grown hg h.bel.size (fun k hk => by have := hr k hk; omega)⟩
end
/-- A box with a state, and the state's own row; all above base. -/
structure Bx (base : Nat) (w : World) (g : Nat) (A : Option Addr) (c lo hi : Nat) (gs : List Int) (tu si us : Int) (ru : Bool) (fa : Int) (vs : List Int) : Prop where
  rb : RowB w g 30 [.slice A gs.length c, .int .i64 tu, .int .i64 si, .int .i64 us, .bool ru, .int .i64 fa]
  own : OwnS w lo hi 2 1 enI (.slice A gs.length c) vs
  hhi : hi ≤ w.heap.size
  hlo : base ≤ lo
  hg : base ≤ g
  far : g < lo ∨ hi ≤ g
section
variable {base : Nat} {w w' : World} {g : Nat} {A : Option Addr} {c lo hi : Nat} {gs : List Int} {tu si us : Int} {ru : Bool} {fa : Int} {vs : List Int}
theorem Bx.below (h : Bx base w g A c lo hi gs tu si us ru fa vs) (hb : Below w.heap.size w w') : Bx base w' g A c lo hi gs tu si us ru fa vs :=
  ⟨h.rb.below hb h.rb.lt, h.own.below hb h.hhi, Nat.le_trans h.hhi hb.size, h.hlo, h.hg, h.far⟩
/-- Another's row has been written. -/
theorem Bx.grown {row : Option Nat} (h : Bx base w g A c lo hi gs tu si us ru fa vs) (hg : w.grownBy w' row) (hr : ∀ k, row = some k → k ≠ g ∧ (k < lo ∨ hi ≤ k)) : Bx base w' g A c lo hi gs tu si us ru fa vs :=
  ⟨h.rb.grown hg (fun k hk => (hr k hk).1), h.own.grown hg (fun k hk => (hr k hk).2), Nat.le_trans h.hhi hg.size, h.hlo, h.hg, h.far⟩
/-- Its own row has been written. -/
theorem Bx.mine {vs' : List Int} (h : Bx base w g A c lo hi gs tu si us ru fa vs) (hg : w.grownBy w' (Value.slice A gs.length c).ownBlock) (ho : OwnS w' lo hi 2 1 enI (.slice A gs.length c) vs') : Bx base w' g A c lo hi gs tu si us ru fa vs' :=
  ⟨h.rb.grown hg (fun k hk => by have := h.own.block k hk; have := h.far; omega), ho, Nat.le_trans h.hhi hg.size, h.hlo, h.hg, h.far⟩
theorem Bx.row (h : Bx base w g A c lo hi gs tu si us ru fa vs) : ∀ k, (Value.slice A gs.length c).ownBlock = some k → lo ≤ k ∧ k < hi ∧ k ≠ g := fun k hk => by
  have := h.own.block k hk; have := h.far; exact ⟨by omega, by omega, by omega⟩
end

set_option maxHeartbeats 16000000 in
set_option maxRecDepth 100000 in
theorem applyEvent (r d b : Int) (A : Option Addr) (cp : Nat) (xs : List Int) (turn since used : Int) (run : Bool) (fallen kind time : Int) (W : World) (w1 : (Lit.int .i64 r).wf = true) (w2 : (Lit.int .i64 d).wf = true) (w3 : (Lit.int .i64 b).wf = true) (hr : RdS W W.heap.size 1 enI A xs) (hw : ∀ x ∈ xs, (Lit.int .i64 x).wf = true) (w5 : (Lit.int .i64 turn).wf = true) (w6 : (Lit.int .i64 since).wf = true) (w7 : (Lit.int .i64 used).wf = true) (w9 : (Lit.int .i64 fallen).wf = true) (w10 : (Lit.int .i64 kind).wf = true) (w11 : (Lit.int .i64 time).wf = true) :
    Calls Try.prog 9 #[.agg #[.int .i64 r, .int .i64 d, .int .i64 b], .agg #[.slice A xs.length cp, .int .i64 turn, .int .i64 since, .int .i64 used, .bool run, .int .i64 fallen], .agg #[.int .i64 kind, .int .i64 time]] W fun e w' => e = .returned (.bool true) ∧ Below W.heap.size W w' := by
  clear w1 w2 w3 hw w5 w6 w7 w9 w10 w11
  by_cases hn : xs.length ≤ 1048576
  case neg =>
    go_enter Try.func9, Try.ntmps9
    go_wp2_with fail
    refine (CS.sz turn since used run fallen A xs.length cp 1048576 _ hr.1 (by decide) (by decide)).mono ?_
    rw [if_pos (by omega)]
    rintro e w1 ⟨rfl, hb1⟩
    have q1 : Below W.heap.size W w1 := Below.then_ (by go_grown) hb1 (by go_size)
    go_wp2_with fail
    go_ret
    exact ⟨rfl, q1⟩
  rcases hap : apR r d b xs turn since used run fallen kind time with ⟨gs, tu, si, us, ru, fa, co⟩
  have hlen := ap_len hap hn
  have HAP := Lib.hid hap; clear hap
  have ec : (co != co) = false := by simp
  go_enter Try.func9, Try.ntmps9
  go_wp2_with fail
  refine (CS.sz turn since used run fallen A xs.length cp 1048576 _ hr.1 (by decide) (by decide)).mono ?_
  rw [if_neg (by omega)]
  rintro e w1 ⟨rfl, hb1⟩
  have q1 : Below W.heap.size W w1 := Below.then_ (by go_grown) hb1 (by go_size)
  have M : La W w1 r d b kind time A cp xs turn since used run fallen := ⟨((RowB.new' _ _ _ rfl).alloc _).alloc _ |>.below hb1 (by go_size), ((RowB.new' _ _ _ (by simp)).alloc _).below hb1 (by go_size), (RowB.new' _ _ _ (by simp)).below hb1 (by go_size), hr.below q1 (Nat.le_refl _), q1⟩
  clear hb1 hr q1
  go_upto_region 5 with (fail)
  have HS : Hid (∀ v : World, Below w1.heap.size w1 v → (v.cell? ⟨W.heap.size, 0, none⟩ = some (.int .i64 r) ∧ v.cell? ⟨W.heap.size, 1, none⟩ = some (.int .i64 d) ∧ v.cell? ⟨W.heap.size, 2, none⟩ = some (.int .i64 b)) ∧ (v.cell? ⟨W.heap.size + 1, 0, none⟩ = some (.slice A xs.length cp) ∧ v.cell? ⟨W.heap.size + 1, 1, none⟩ = some (.int .i64 turn) ∧ v.cell? ⟨W.heap.size + 1, 2, none⟩ = some (.int .i64 since) ∧ v.cell? ⟨W.heap.size + 1, 3, none⟩ = some (.int .i64 used) ∧ v.cell? ⟨W.heap.size + 1, 4, none⟩ = some (.bool run) ∧ v.cell? ⟨W.heap.size + 1, 5, none⟩ = some (.int .i64 fallen)) ∧ (v.cell? ⟨W.heap.size + 2, 0, none⟩ = some (.int .i64 kind) ∧ v.cell? ⟨W.heap.size + 2, 1, none⟩ = some (.int .i64 time))) := fun v hb => ⟨(M.ra.below hb M.ra.lt).c3, (M.rs.below hb M.rs.lt).c6, (M.re.below hb M.re.lt).c2⟩
  have hM := M.bel.size
  go_cut [8, 9] from 24 to 32 (fun t8 t9 wx => ∃ (g : Nat) (Aw : Option Addr) (cw lo hi : Nat), t8 = .pointer (some ⟨g, 0, none⟩) ∧ t9 = .int .i64 co ∧ Below w1.heap.size w1 wx ∧ Bx w1.heap.size wx g Aw cw lo hi gs tu si us ru fa gs)
  case first =>
    have hT : Below w1.heap.size w1 w1 := Below.refl _ _
    go_region_held3 (fun v => (v.cell? ⟨W.heap.size, 0, none⟩ = some (.int .i64 r) ∧ v.cell? ⟨W.heap.size, 1, none⟩ = some (.int .i64 d) ∧ v.cell? ⟨W.heap.size, 2, none⟩ = some (.int .i64 b)) ∧ (v.cell? ⟨W.heap.size + 1, 0, none⟩ = some (.slice A xs.length cp) ∧ v.cell? ⟨W.heap.size + 1, 1, none⟩ = some (.int .i64 turn) ∧ v.cell? ⟨W.heap.size + 1, 2, none⟩ = some (.int .i64 since) ∧ v.cell? ⟨W.heap.size + 1, 3, none⟩ = some (.int .i64 used) ∧ v.cell? ⟨W.heap.size + 1, 4, none⟩ = some (.bool run) ∧ v.cell? ⟨W.heap.size + 1, 5, none⟩ = some (.int .i64 fallen)) ∧ (v.cell? ⟨W.heap.size + 2, 0, none⟩ = some (.int .i64 kind) ∧ v.cell? ⟨W.heap.size + 2, 1, none⟩ = some (.int .i64 time))) (exact HS.out _ (by go_grown)) (first | (go_at_call 14; refine (copyCR r d b _).mono ?_; rintro e v1 ⟨rfl, hb1⟩; have t1 : Below w1.heap.size w1 v1 := Below.then_ (by go_grown) hb1 (by go_size); have y1 := t1.size; have hT := hT.trans (t1.mono hT.size); (try (have hlz := rz.lt; have rz := RowB.below rz t1 rz.lt)); (try (have rz := RowB.below (RowB.new w1 _ _) hb1 (by go_size))); (try (have rz := RowB.below (RowB.drew (RowB.new w1 _ _)) hb1 (by go_size)))) | (go_at_call 23; refine (CS.copy turn since used run fallen A cp W.heap.size xs _ (by have := hT.size; first | omega | (simp only [World.size_alloc]; omega)) hn (by exact M.rd.below (B' := w1.heap.size) (by go_grown) hM)).mono ?_; rintro e v2 ⟨A2', rfl, hb2, o2⟩; have t2 : Below v1.heap.size v1 v2 := Below.then_ (by go_grown) hb2 (by go_size); have y2 := t2.size; have hT := hT.trans (t2.mono hT.size); (try (have hlz := rz.lt; have rz := RowB.below rz t2 rz.lt)); (try (have rz := RowB.below (RowB.new v1 _ _) hb2 (by go_size))); (try (have rz := RowB.below (RowB.drew (RowB.new v1 _ _)) hb2 (by go_size)))) | (go_at_call 35; refine (CeS.copy1 kind time _).mono ?_; rintro e v3 ⟨rfl, hb3⟩; have t3 : Below v2.heap.size v2 v3 := Below.then_ (by go_grown) hb3 (by go_size); have y3 := t3.size; have hT := hT.trans (t3.mono hT.size); (try (have hlz := rz.lt; have rz := RowB.below rz t3 rz.lt)); have o2 := o2.below t3 (by first | exact Nat.le_refl _ | omega); (try (have rz := RowB.below (RowB.new v2 _ _) hb3 (by go_size))); (try (have rz := RowB.below (RowB.drew (RowB.new v2 _ _)) hb3 (by go_size)))) | (go_at_call 34; refine (ap_spec r d b A2' xs.length v2.heap.size xs turn since used run fallen kind time _ gs tu si us ru fa co (by first | omega | (simp only [World.size_alloc]; omega) | go_size) (by first | exact o2.rd enI_len | exact (o2.alloc _).rd enI_len) HAP.out).mono ?_; rintro e v4 ⟨A4', c4', rfl, hb4, o4⟩; have t4 : Below v3.heap.size v3 v4 := Below.then_ (by go_grown) hb4 (by go_size); have y4 := t4.size; have hT := hT.trans (t4.mono hT.size); (try (have hlz := rz.lt; have rz := RowB.below rz t4 rz.lt)); (try (have rz := RowB.below (RowB.new v3 _ _) hb4 (by go_size))); (try (have rz := RowB.below (RowB.drew (RowB.new v3 _ _)) hb4 (by go_size))); (try (obtain ⟨z0, z1, z2, z3, z4, z5⟩ := rz.c6; have hfz := rz.frozen)); (first | (have hq : RowB v4 v3.heap.size _ _ := rz; have o4 := OwnS.less (lo' := v3.heap.size + 1) o4 (by go_size)) | have o4 := OwnS.less (lo' := v3.heap.size) o4 (by go_size))) | fail)
    all_goals go_wp2_with fail
    all_goals go_meet
    · exact ⟨v4.heap.size, A4', c4', _, _, rfl, rfl, by go_grown, RowB.new _ _ _, o4.alloc _, by go_size, by omega, by omega, .inr (Nat.le_refl _)⟩
    all_goals exact ⟨_, A4', c4', _, _, rfl, rfl, hT.grown (grown_six _ _ _ _ _ _ _ _) hT.size (fun k hk => by simp at hk; omega), six rz _ _ _ _ _ _, o4.grown (grown_six _ _ _ _ _ _ _ _) (fun k hk => by simp at hk; omega), by go_size, by omega, by omega, .inl (by omega)⟩
  case rest =>
    obtain ⟨g8, Aw, cw, lo8, hi8, rfl, rfl, hbw, X8⟩ := hcut
    have hb8 := X8.hhi; have hg8 := X8.rb.lt; have hw1 := M.re.lt
    have M := M.below hbw
    have z1 := hbw.size
    clear HS hbw
    obtain ⟨s0, s1, s2, s3, s4, s5⟩ := M.rs.c6
    go_wp2_with fail
    clear s0 s1 s2 s3 s4 s5
    refine (CS.copy turn since used run fallen A cp W.heap.size xs _ (by have := M.bel.size; omega) hn M.rd).mono ?_
    rintro e w2 ⟨Ax, rfl, hb2, ox⟩
    have M := M.below hb2
    have X8 := X8.below hb2
    have z2 := hb2.size
    clear hb2
    go_upto_region 7 with (fail)
    refine wpS (fun W' => La W W' r d b kind time A cp xs turn since used run fallen ∧ Bx w1.heap.size W' g8 Aw cw lo8 hi8 gs tu si us ru fa gs ∧ Bx w1.heap.size W' w2.heap.size Ax xs.length wc.heap.size w2.heap.size xs turn since used run fallen xs ∧ w2.heap.size + 1 ≤ W'.heap.size) ⟨M.below ((Below.refl _ _).alloc (Nat.le_refl _) _), X8.below ((Below.refl _ _).alloc (Nat.le_refl _) _), ⟨RowB.new _ _ _, ox.alloc _, by go_size, by omega, by omega, .inr (Nat.le_refl _)⟩, by go_size⟩ ?_
    clear M X8 ox
    rintro w3 ⟨M, X8, X10, z3⟩
    go_upto_region 7 with (fail)
    have HS : Hid (∀ v : World, Below w3.heap.size w3 v → (v.cell? ⟨W.heap.size, 0, none⟩ = some (.int .i64 r) ∧ v.cell? ⟨W.heap.size, 1, none⟩ = some (.int .i64 d) ∧ v.cell? ⟨W.heap.size, 2, none⟩ = some (.int .i64 b)) ∧ (v.cell? ⟨W.heap.size + 2, 0, none⟩ = some (.int .i64 kind) ∧ v.cell? ⟨W.heap.size + 2, 1, none⟩ = some (.int .i64 time)) ∧ (v.cell? ⟨w2.heap.size, 0, none⟩ = some (.slice Ax xs.length xs.length) ∧ v.cell? ⟨w2.heap.size, 1, none⟩ = some (.int .i64 turn) ∧ v.cell? ⟨w2.heap.size, 2, none⟩ = some (.int .i64 since) ∧ v.cell? ⟨w2.heap.size, 3, none⟩ = some (.int .i64 used) ∧ v.cell? ⟨w2.heap.size, 4, none⟩ = some (.bool run) ∧ v.cell? ⟨w2.heap.size, 5, none⟩ = some (.int .i64 fallen))) := fun v hb => ⟨(M.ra.below hb M.ra.lt).c3, (M.re.below hb M.re.lt).c2, (X10.rb.below hb X10.rb.lt).c6⟩
    have hM := M.bel.size
    go_cut [11, 12] from 36 to 43 (fun t11 t12 wx => ∃ (g : Nat) (Aw : Option Addr) (cw lo hi : Nat), t11 = .pointer (some ⟨g, 0, none⟩) ∧ t12 = .int .i64 co ∧ Below w3.heap.size w3 wx ∧ Bx w3.heap.size wx g Aw cw lo hi gs tu si us ru fa gs)
    case first =>
      have hT : Below w3.heap.size w3 w3 := Below.refl _ _
      go_region_held3 (fun v => (v.cell? ⟨W.heap.size, 0, none⟩ = some (.int .i64 r) ∧ v.cell? ⟨W.heap.size, 1, none⟩ = some (.int .i64 d) ∧ v.cell? ⟨W.heap.size, 2, none⟩ = some (.int .i64 b)) ∧ (v.cell? ⟨W.heap.size + 2, 0, none⟩ = some (.int .i64 kind) ∧ v.cell? ⟨W.heap.size + 2, 1, none⟩ = some (.int .i64 time)) ∧ (v.cell? ⟨w2.heap.size, 0, none⟩ = some (.slice Ax xs.length xs.length) ∧ v.cell? ⟨w2.heap.size, 1, none⟩ = some (.int .i64 turn) ∧ v.cell? ⟨w2.heap.size, 2, none⟩ = some (.int .i64 since) ∧ v.cell? ⟨w2.heap.size, 3, none⟩ = some (.int .i64 used) ∧ v.cell? ⟨w2.heap.size, 4, none⟩ = some (.bool run) ∧ v.cell? ⟨w2.heap.size, 5, none⟩ = some (.int .i64 fallen))) (exact HS.out _ (by go_grown)) (first | (go_at_call 14; refine (copyCR r d b _).mono ?_; rintro e v1 ⟨rfl, hb1⟩; have t1 : Below w3.heap.size w3 v1 := Below.then_ (by go_grown) hb1 (by go_size); have y1 := t1.size; have hT := hT.trans (t1.mono hT.size); (try (have hlz := rz.lt; have rz := RowB.below rz t1 rz.lt)); (try (have rz := RowB.below (RowB.new w3 _ _) hb1 (by go_size))); (try (have rz := RowB.below (RowB.drew (RowB.new w3 _ _)) hb1 (by go_size)))) | (go_at_call 35; refine (CeS.copy1 kind time _).mono ?_; rintro e v2 ⟨rfl, hb2⟩; have t2 : Below v1.heap.size v1 v2 := Below.then_ (by go_grown) hb2 (by go_size); have y2 := t2.size; have hT := hT.trans (t2.mono hT.size); (try (have hlz := rz.lt; have rz := RowB.below rz t2 rz.lt)); (try (have rz := RowB.below (RowB.new v1 _ _) hb2 (by go_size))); (try (have rz := RowB.below (RowB.drew (RowB.new v1 _ _)) hb2 (by go_size)))) | (go_at_call 32; refine (ap_impl r d b Ax xs.length w2.heap.size xs turn since used run fallen kind time _ gs tu si us ru fa co (by have := hT.size; first | omega | (simp only [World.size_alloc]; omega)) (by exact (X10.own.rd enI_len).below (B' := w3.heap.size) (by go_grown) (by omega)) HAP.out).mono ?_; rintro e v3 ⟨A3', c3', rfl, hb3, o3⟩; have t3 : Below v2.heap.size v2 v3 := Below.then_ (by go_grown) hb3 (by go_size); have y3 := t3.size; have hT := hT.trans (t3.mono hT.size); (try (have hlz := rz.lt; have rz := RowB.below rz t3 rz.lt)); (try (have rz := RowB.below (RowB.new v2 _ _) hb3 (by go_size))); (try (have rz := RowB.below (RowB.drew (RowB.new v2 _ _)) hb3 (by go_size))); (try (obtain ⟨z0, z1, z2, z3, z4, z5⟩ := rz.c6; have hfz := rz.frozen)); (first | (have hq : RowB v3 v2.heap.size _ _ := rz; have o3 := OwnS.less (lo' := v2.heap.size + 1) o3 (by go_size)) | have o3 := OwnS.less (lo' := v2.heap.size) o3 (by go_size))) | fail)
      all_goals go_wp2_with fail
      all_goals go_meet
      · exact ⟨v3.heap.size, A3', c3', _, _, rfl, rfl, by go_grown, RowB.new _ _ _, o3.alloc _, by go_size, by omega, by omega, .inr (Nat.le_refl _)⟩
      all_goals exact ⟨_, A3', c3', _, _, rfl, rfl, hT.grown (grown_six _ _ _ _ _ _ _ _) hT.size (fun k hk => by simp at hk; omega), six rz _ _ _ _ _ _, o3.grown (grown_six _ _ _ _ _ _ _ _) (fun k hk => by simp at hk; omega), by go_size, by omega, by omega, .inl (by omega)⟩
    case rest =>
      obtain ⟨g11, Ag, cg, lo11, hi11, rfl, rfl, hbw, X11⟩ := hcut
      have M := M.below hbw
      have X8 := X8.below hbw
      have X10 := X10.below hbw
      have z4 := hbw.size
      have hX8 := X8.hhi; have hX8g := X8.rb.lt; have hX10 := X10.hhi; have hX10g := X10.rb.lt; have hX11 := X11.hhi; have hX11g := X11.rb.lt
      have hL11 := X11.hlo; have hG11 := X11.hg; have hL8 := X8.hlo; have hG8 := X8.hg; have hL10 := X10.hlo
      clear HS hbw
      obtain ⟨b00, b01, b02, b03, b04, b05⟩ := X11.rb.c6
      obtain ⟨b10, b11, b12, b13, b14, b15⟩ := X8.rb.c6
      go_wp2_with fail
      clear b00 b01 b02 b03 b04 b05 b10 b11 b12 b13 b14 b15
      refine (CS.eq tu si us ru fa Ag Aw cg cw _ _ gs _ (X11.own.rd enI_len) (X8.own.rd enI_len) (X11.hhi) (X8.hhi)).mono ?_
      rintro e w5 ⟨rfl, hb⟩
      have M := M.below hb
      have X8 := X8.below hb
      have X10 := X10.below hb
      have X11 := X11.below hb
      have zz_w5 := hb.size
      clear hb
      have hM := M.bel.size
      obtain ⟨s0, s1, s2, s3, s4, s5⟩ := M.rs.c6
      obtain ⟨b00, b01, b02, b03, b04, b05⟩ := X10.rb.c6
      have HS : Hid (∀ v : World, Below w5.heap.size w5 v → (v.cell? ⟨W.heap.size + 1, 0, none⟩ = some (.slice A xs.length cp) ∧ v.cell? ⟨W.heap.size + 1, 1, none⟩ = some (.int .i64 turn) ∧ v.cell? ⟨W.heap.size + 1, 2, none⟩ = some (.int .i64 since) ∧ v.cell? ⟨W.heap.size + 1, 3, none⟩ = some (.int .i64 used) ∧ v.cell? ⟨W.heap.size + 1, 4, none⟩ = some (.bool run) ∧ v.cell? ⟨W.heap.size + 1, 5, none⟩ = some (.int .i64 fallen)) ∧ (v.cell? ⟨w2.heap.size, 0, none⟩ = some (.slice Ax xs.length xs.length) ∧ v.cell? ⟨w2.heap.size, 1, none⟩ = some (.int .i64 turn) ∧ v.cell? ⟨w2.heap.size, 2, none⟩ = some (.int .i64 since) ∧ v.cell? ⟨w2.heap.size, 3, none⟩ = some (.int .i64 used) ∧ v.cell? ⟨w2.heap.size, 4, none⟩ = some (.bool run) ∧ v.cell? ⟨w2.heap.size, 5, none⟩ = some (.int .i64 fallen))) := fun v hb => ⟨(M.rs.below hb M.rs.lt).c6, (X10.rb.below hb X10.rb.lt).c6⟩
      go_wp2_with fail
      clear s0 s1 s2 s3 s4 s5 b00 b01 b02 b03 b04 b05
      go_region_held3 (fun v => (v.cell? ⟨W.heap.size + 1, 0, none⟩ = some (.slice A xs.length cp) ∧ v.cell? ⟨W.heap.size + 1, 1, none⟩ = some (.int .i64 turn) ∧ v.cell? ⟨W.heap.size + 1, 2, none⟩ = some (.int .i64 since) ∧ v.cell? ⟨W.heap.size + 1, 3, none⟩ = some (.int .i64 used) ∧ v.cell? ⟨W.heap.size + 1, 4, none⟩ = some (.bool run) ∧ v.cell? ⟨W.heap.size + 1, 5, none⟩ = some (.int .i64 fallen)) ∧ (v.cell? ⟨w2.heap.size, 0, none⟩ = some (.slice Ax xs.length xs.length) ∧ v.cell? ⟨w2.heap.size, 1, none⟩ = some (.int .i64 turn) ∧ v.cell? ⟨w2.heap.size, 2, none⟩ = some (.int .i64 since) ∧ v.cell? ⟨w2.heap.size, 3, none⟩ = some (.int .i64 used) ∧ v.cell? ⟨w2.heap.size, 4, none⟩ = some (.bool run) ∧ v.cell? ⟨w2.heap.size, 5, none⟩ = some (.int .i64 fallen))) (first | exact HS.out _ (by go_grown)) (first | (go_at_call 23; refine (CS.copy turn since used run fallen A cp W.heap.size xs _ (by go_size) hn (by first | exact M.rd | exact M.rd.drew)).mono ?_; rintro e w6 ⟨A6, rfl, hb6, o6⟩; have t6 : Below w5.heap.size w5 w6 := Below.then_ (by go_grown) hb6 (by go_size)) | (go_at_call 18; refine (CS.eq turn since used run fallen Ax A6 xs.length xs.length _ _ xs _ ((X10.below t6).own.rd enI_len) (o6.rd enI_len) (by have := X10.hhi; have := t6.size; omega) (by go_size)).mono ?_; rintro e w7 ⟨rfl, hb7⟩; have t7 : Below w6.heap.size w6 w7 := Below.then_ (by go_grown) hb7 (by go_size); have t7' := t6.trans (t7.mono t6.size)) | fail)
      have M := M.below t7'
      have X8 := X8.below t7'
      have X10 := X10.below t7'
      have X11 := X11.below t7'
      clear t6 t7 t7' hb6 hb7 o6 HS
      have zz_w7 := M.bel.size
      obtain ⟨b00, b01, b02, b03, b04, b05⟩ := X10.rb.c6
      go_wp2_with fail
      clear b00 b01 b02 b03 b04 b05
      refine (CS.mark turn since used run fallen _ _ xs.length xs.length Ax 1 xs _ hn (by omega) rfl (by exact X10.own) (by exact X10.hhi)).mono ?_
      rintro e w8 ⟨rfl, hgm, ho⟩
      have row := X10.row
      have M := M.grown hgm (fun k hk => by have := row k hk; omega)
      have X8 := X8.grown hgm (fun k hk => by have := row k hk; omega)
      have X11 := X11.grown hgm (fun k hk => by have := row k hk; omega)
      have X10 := X10.mine hgm ho
      have zz_w8 := hgm.size
      clear hgm ho row
      have hd0 : decide (((1 + xs.length : Nat) : Int) < 0) = false := decide_eq_false (by omega)
      obtain ⟨b00, b01, b02, b03, b04, b05⟩ := X11.rb.c6
      obtain ⟨b10, b11, b12, b13, b14, b15⟩ := X8.rb.c6
      go_wp2_with fail
      clear b00 b01 b02 b03 b04 b05 b10 b11 b12 b13 b14 b15
      refine (CS.eq tu si us ru fa Ag Aw cg cw _ _ gs _ (X11.own.rd enI_len) (X8.own.rd enI_len) (X11.hhi) (X8.hhi)).mono ?_
      rintro e w9 ⟨rfl, hb⟩
      have M := M.below hb
      have X8 := X8.below hb
      have X10 := X10.below hb
      have X11 := X11.below hb
      have zz_w9 := hb.size
      clear hb
      obtain ⟨b00, b01, b02, b03, b04, b05⟩ := X11.rb.c6
      go_wp2_with fail
      clear b00 b01 b02 b03 b04 b05
      refine (CS.mark tu si us ru fa lo11 hi11 cg gs.length Ag 1 gs _ hlen (by omega) rfl (by exact X11.own) (by exact X11.hhi)).mono ?_
      rintro e w10 ⟨rfl, hgm, ho⟩
      have row := X11.row
      have M := M.grown hgm (fun k hk => by have := row k hk; omega)
      have X8 := X8.grown hgm (fun k hk => by have := row k hk; omega)
      have X10 := X10.grown hgm (fun k hk => by have := row k hk; omega)
      have X11 := X11.mine hgm ho
      have zz_w10 := hgm.size
      clear hgm ho row
      have hd1 : decide (((1 + gs.length : Nat) : Int) < 0) = false := decide_eq_false (by omega)
      have ek : (((1 + gs.length : Nat) : Int) != ((1 + gs.length : Nat) : Int)) = false := by simp
      obtain ⟨b00, b01, b02, b03, b04, b05⟩ := X11.rb.c6
      go_wp2_with fail
      clear b00 b01 b02 b03 b04 b05
      refine (CS.held tu si us ru fa hi11 gs.length Ag cg 1 _ (X11.hhi) hlen (by omega) (by exact X11.own.rd enI_len)).mono ?_
      rintro e w11 ⟨rfl, hb⟩
      have M := M.below hb
      have X8 := X8.below hb
      have X10 := X10.below hb
      have X11 := X11.below hb
      have zz_w11 := hb.size
      clear hb
      go_upto_region 24 with (fail)
      have HS : Hid (∀ v : World, Below w11.heap.size w11 v → (v.cell? ⟨W.heap.size, 0, none⟩ = some (.int .i64 r) ∧ v.cell? ⟨W.heap.size, 1, none⟩ = some (.int .i64 d) ∧ v.cell? ⟨W.heap.size, 2, none⟩ = some (.int .i64 b)) ∧ (v.cell? ⟨W.heap.size + 1, 0, none⟩ = some (.slice A xs.length cp) ∧ v.cell? ⟨W.heap.size + 1, 1, none⟩ = some (.int .i64 turn) ∧ v.cell? ⟨W.heap.size + 1, 2, none⟩ = some (.int .i64 since) ∧ v.cell? ⟨W.heap.size + 1, 3, none⟩ = some (.int .i64 used) ∧ v.cell? ⟨W.heap.size + 1, 4, none⟩ = some (.bool run) ∧ v.cell? ⟨W.heap.size + 1, 5, none⟩ = some (.int .i64 fallen)) ∧ (v.cell? ⟨W.heap.size + 2, 0, none⟩ = some (.int .i64 kind) ∧ v.cell? ⟨W.heap.size + 2, 1, none⟩ = some (.int .i64 time))) := fun v hb => ⟨(M.ra.below hb M.ra.lt).c3, (M.rs.below hb M.rs.lt).c6, (M.re.below hb M.re.lt).c2⟩
      have hM := M.bel.size
      go_cut [16, 17] from 86 to 94 (fun t16 t17 wx => ∃ (g : Nat) (Aw : Option Addr) (cw lo hi : Nat), t16 = .pointer (some ⟨g, 0, none⟩) ∧ t17 = .int .i64 co ∧ Below w11.heap.size w11 wx ∧ Bx w11.heap.size wx g Aw cw lo hi gs tu si us ru fa gs)
      case first =>
        have hT : Below w11.heap.size w11 w11 := Below.refl _ _
        go_region_held3 (fun v => (v.cell? ⟨W.heap.size, 0, none⟩ = some (.int .i64 r) ∧ v.cell? ⟨W.heap.size, 1, none⟩ = some (.int .i64 d) ∧ v.cell? ⟨W.heap.size, 2, none⟩ = some (.int .i64 b)) ∧ (v.cell? ⟨W.heap.size + 1, 0, none⟩ = some (.slice A xs.length cp) ∧ v.cell? ⟨W.heap.size + 1, 1, none⟩ = some (.int .i64 turn) ∧ v.cell? ⟨W.heap.size + 1, 2, none⟩ = some (.int .i64 since) ∧ v.cell? ⟨W.heap.size + 1, 3, none⟩ = some (.int .i64 used) ∧ v.cell? ⟨W.heap.size + 1, 4, none⟩ = some (.bool run) ∧ v.cell? ⟨W.heap.size + 1, 5, none⟩ = some (.int .i64 fallen)) ∧ (v.cell? ⟨W.heap.size + 2, 0, none⟩ = some (.int .i64 kind) ∧ v.cell? ⟨W.heap.size + 2, 1, none⟩ = some (.int .i64 time))) (exact HS.out _ (by go_grown)) (first | (go_at_call 14; refine (copyCR r d b _).mono ?_; rintro e v1 ⟨rfl, hb1⟩; have t1 : Below w11.heap.size w11 v1 := Below.then_ (by go_grown) hb1 (by go_size); have y1 := t1.size; have hT := hT.trans (t1.mono hT.size); (try (have hlz := rz.lt; have rz := RowB.below rz t1 rz.lt)); (try (have rz := RowB.below (RowB.new w11 _ _) hb1 (by go_size))); (try (have rz := RowB.below (RowB.drew (RowB.new w11 _ _)) hb1 (by go_size)))) | (go_at_call 23; refine (CS.copy turn since used run fallen A cp W.heap.size xs _ (by have := hT.size; first | omega | (simp only [World.size_alloc]; omega)) hn (by exact M.rd.below (B' := w11.heap.size) (by go_grown) hM)).mono ?_; rintro e v2 ⟨A2', rfl, hb2, o2⟩; have t2 : Below v1.heap.size v1 v2 := Below.then_ (by go_grown) hb2 (by go_size); have y2 := t2.size; have hT := hT.trans (t2.mono hT.size); (try (have hlz := rz.lt; have rz := RowB.below rz t2 rz.lt)); (try (have rz := RowB.below (RowB.new v1 _ _) hb2 (by go_size))); (try (have rz := RowB.below (RowB.drew (RowB.new v1 _ _)) hb2 (by go_size)))) | (go_at_call 35; refine (CeS.copy1 kind time _).mono ?_; rintro e v3 ⟨rfl, hb3⟩; have t3 : Below v2.heap.size v2 v3 := Below.then_ (by go_grown) hb3 (by go_size); have y3 := t3.size; have hT := hT.trans (t3.mono hT.size); (try (have hlz := rz.lt; have rz := RowB.below rz t3 rz.lt)); have o2 := o2.below t3 (by first | exact Nat.le_refl _ | omega); (try (have rz := RowB.below (RowB.new v2 _ _) hb3 (by go_size))); (try (have rz := RowB.below (RowB.drew (RowB.new v2 _ _)) hb3 (by go_size)))) | (go_at_call 32; refine (ap_impl r d b A2' xs.length v2.heap.size xs turn since used run fallen kind time _ gs tu si us ru fa co (by first | omega | (simp only [World.size_alloc]; omega) | go_size) (by first | exact o2.rd enI_len | exact (o2.alloc _).rd enI_len) HAP.out).mono ?_; rintro e v4 ⟨A4', c4', rfl, hb4, o4⟩; have t4 : Below v3.heap.size v3 v4 := Below.then_ (by go_grown) hb4 (by go_size); have y4 := t4.size; have hT := hT.trans (t4.mono hT.size); (try (have hlz := rz.lt; have rz := RowB.below rz t4 rz.lt)); (try (have rz := RowB.below (RowB.new v3 _ _) hb4 (by go_size))); (try (have rz := RowB.below (RowB.drew (RowB.new v3 _ _)) hb4 (by go_size))); (try (obtain ⟨z0, z1, z2, z3, z4, z5⟩ := rz.c6; have hfz := rz.frozen)); (first | (have hq : RowB v4 v3.heap.size _ _ := rz; have o4 := OwnS.less (lo' := v3.heap.size + 1) o4 (by go_size)) | have o4 := OwnS.less (lo' := v3.heap.size) o4 (by go_size))) | fail)
        all_goals go_wp2_with fail
        all_goals go_meet
        · exact ⟨v4.heap.size, A4', c4', _, _, rfl, rfl, by go_grown, RowB.new _ _ _, o4.alloc _, by go_size, by omega, by omega, .inr (Nat.le_refl _)⟩
        all_goals exact ⟨_, A4', c4', _, _, rfl, rfl, hT.grown (grown_six _ _ _ _ _ _ _ _) hT.size (fun k hk => by simp at hk; omega), six rz _ _ _ _ _ _, o4.grown (grown_six _ _ _ _ _ _ _ _) (fun k hk => by simp at hk; omega), by go_size, by omega, by omega, .inl (by omega)⟩
      case rest =>
        obtain ⟨g16, Ah, ch, lo16, hi16, rfl, rfl, hbw, X16⟩ := hcut
        have M := M.below hbw
        have X8 := X8.below hbw
        have X11 := X11.below hbw
        clear HS hbw X10
        obtain ⟨b00, b01, b02, b03, b04, b05⟩ := X16.rb.c6
        obtain ⟨b10, b11, b12, b13, b14, b15⟩ := X8.rb.c6
        go_wp2_with fail
        clear b00 b01 b02 b03 b04 b05 b10 b11 b12 b13 b14 b15
        refine (CS.eq tu si us ru fa Ah Aw ch cw _ _ gs _ (X16.own.rd enI_len) (X8.own.rd enI_len) (X16.hhi) (X8.hhi)).mono ?_
        rintro e w12 ⟨rfl, hb⟩
        have M := M.below hb
        have X8 := X8.below hb
        have X11 := X11.below hb
        have X16 := X16.below hb
        have zz_w12 := hb.size
        clear hb
        obtain ⟨b00, b01, b02, b03, b04, b05⟩ := X11.rb.c6
        go_wp2_with fail
        clear b00 b01 b02 b03 b04 b05
        refine (CS.held tu si us ru fa hi11 gs.length Ag cg 1 _ (X11.hhi) hlen (by omega) (by exact X11.own.rd enI_len)).mono ?_
        rintro e w13 ⟨rfl, hb⟩
        have M := M.below hb
        have X8 := X8.below hb
        have X11 := X11.below hb
        have X16 := X16.below hb
        have zz_w13 := hb.size
        clear hb
        go_wp2_with fail
        go_ret
        exact ⟨rfl, M.bel⟩

end Go.Proofs.Ytdjopnhbcchedaa.ClockLaws5
