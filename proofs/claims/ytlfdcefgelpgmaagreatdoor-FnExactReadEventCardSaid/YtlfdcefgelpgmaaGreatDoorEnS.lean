/-
  Steps in memory. Conditions: each theorem's own.
-/
import Derived.Test.YtlfdcefgelpgmaaGreatDoorPlP
import Derived.Test.YtlfdcefgelpgmaaGreatDoorInts
set_option linter.unusedVariables false
namespace Go.Proofs.YtlfdcefgelpgmaaGreatDoor.Bd5
open Go.ChangeShapes Go.WideShapes Go.RowKit Base PlP
def enSt (s : Stp) : List Value := [.int .i64 s.1, .int .i64 s.2.1, .int .i64 s.2.2.1, .bool s.2.2.2]
theorem enSt_len (s : Stp) : (enSt s).length = 4 := rfl
theorem one_St (s : Stp) : ∀ u ∈ enSt s, u.oneCell' = true := by intro u hu; simp [enSt] at hu; rcases hu with rfl | rfl | rfl | rfl <;> rfl
theorem infoSt : (Tryz.prog.info? 91).map (fun i => (i.zero, i.size, i.bytes)) = some (some (.agg #[.int .i64 0, .int .i64 0, .int .i64 0, .bool false]), 4, 32) := by kernel_rfl
theorem rdStp_at {w : World} {B : Nat} {A : Option Addr} {xs : List Stp} (h : RdS w B 4 enSt A xs) {i : Nat} (hi : i < xs.length) :
    ∃ b off p q r s, A = some ⟨b, off, none⟩ ∧ b < B ∧ xs[i]? = some (p, q, r, s) ∧ w.cell? ⟨b, off + i * 4, none⟩ = some (.int .i64 p) ∧ w.cell? ⟨b, off + i * 4 + 1, none⟩ = some (.int .i64 q) ∧ w.cell? ⟨b, off + i * 4 + 2, none⟩ = some (.int .i64 r) ∧ w.cell? ⟨b, off + i * 4 + 3, none⟩ = some (.bool s) := by
  obtain ⟨b, off, ⟨p, q, r, s⟩, e, hb, hx, hc⟩ := h.at_ hi
  exact ⟨b, off, p, q, r, s, e, hb, hx, hc 0 _ rfl, hc 1 _ rfl, hc 2 _ rfl, hc 3 _ rfl⟩
end Go.Proofs.YtlfdcefgelpgmaaGreatDoor.Bd5
