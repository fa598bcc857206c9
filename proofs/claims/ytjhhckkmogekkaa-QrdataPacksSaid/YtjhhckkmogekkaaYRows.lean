/- A version's row of the table of versions, out of the array. No condition. -/
import Derived.Test.YtjhhckkmogekkaaYTable
import Derived.Test.YtjhhckkmogekkaaYIndex
import Derived.Test.YtjhhckkmogekkaaXx17
namespace Go.Proofs.Ytjhhckkmogekkaa.X
open Go.RowKit Go.Proofs.YtjhhckkmogekkaaW.PrintWords Go.Proofs.YtjhhckkmogekkaaW.PrintLast Go.Proofs.YtjhhckkmogekkaaW.PrintMore
set_option linter.unusedVariables false
set_option linter.unusedSimpArgs false

theorem valid_is (a0 : Int) : qrversion_valid.f a0 = some (decide (1 ≤ a0 ∧ a0 ≤ 40)) := by
  unfold qrversion_valid.f
  by_cases h1 : a0 ≥ 1
  · rw [if_pos h1]; simp; omega
  · rw [if_neg h1]; simp; omega

theorem qr_extract : ∀ n, n < 40 → qrCells.extract (n * 10) (n * 10 + 10) = ((qrTable.getD n []).map (Value.int .i64)).toArray
  | 0, _ => by kernel_rfl
  | 1, _ => by kernel_rfl
  | 2, _ => by kernel_rfl
  | 3, _ => by kernel_rfl
  | 4, _ => by kernel_rfl
  | 5, _ => by kernel_rfl
  | 6, _ => by kernel_rfl
  | 7, _ => by kernel_rfl
  | 8, _ => by kernel_rfl
  | 9, _ => by kernel_rfl
  | 10, _ => by kernel_rfl
  | 11, _ => by kernel_rfl
  | 12, _ => by kernel_rfl
  | 13, _ => by kernel_rfl
  | 14, _ => by kernel_rfl
  | 15, _ => by kernel_rfl
  | 16, _ => by kernel_rfl
  | 17, _ => by kernel_rfl
  | 18, _ => by kernel_rfl
  | 19, _ => by kernel_rfl
  | 20, _ => by kernel_rfl
  | 21, _ => by kernel_rfl
  | 22, _ => by kernel_rfl
  | 23, _ => by kernel_rfl
  | 24, _ => by kernel_rfl
  | 25, _ => by kernel_rfl
  | 26, _ => by kernel_rfl
  | 27, _ => by kernel_rfl
  | 28, _ => by kernel_rfl
  | 29, _ => by kernel_rfl
  | 30, _ => by kernel_rfl
  | 31, _ => by kernel_rfl
  | 32, _ => by kernel_rfl
  | 33, _ => by kernel_rfl
  | 34, _ => by kernel_rfl
  | 35, _ => by kernel_rfl
  | 36, _ => by kernel_rfl
  | 37, _ => by kernel_rfl
  | 38, _ => by kernel_rfl
  | 39, _ => by kernel_rfl
  | n + 40, h => absurd h (by omega)

def okRow : List Int → Bool
  | [c, r, k1, k2, k3, k4, b1, b2, b3, b4] => decide (26 ≤ c ∧ c ≤ 3706 ∧ 0 ≤ r ∧ r ≤ 7 ∧ 7 ≤ k1 ∧ k1 ≤ 30 ∧ 7 ≤ k2 ∧ k2 ≤ 30 ∧ 7 ≤ k3 ∧ k3 ≤ 30 ∧ 7 ≤ k4 ∧ k4 ≤ 30 ∧ 1 ≤ b1 ∧ b1 ≤ 81 ∧ 1 ≤ b2 ∧ b2 ≤ 81 ∧ 1 ≤ b3 ∧ b3 ≤ 81 ∧ 1 ≤ b4 ∧ b4 ≤ 81) && (decide (k1 * b1 + b1 ≤ c) && (decide (k2 * b2 + b2 ≤ c) && (decide (k3 * b3 + b3 ≤ c) && decide (k4 * b4 + b4 ≤ c))))
  | _ => false
theorem qr_ok : ∀ row ∈ qrTable, okRow row = true := by decide +kernel

theorem ok_parts {row : List Int} (h : okRow row = true) : ∃ c r k1 k2 k3 k4 b1 b2 b3 b4 : Int, row = [c, r, k1, k2, k3, k4, b1, b2, b3, b4] ∧ (26 ≤ c ∧ c ≤ 3706 ∧ 0 ≤ r ∧ r ≤ 7 ∧ 7 ≤ k1 ∧ k1 ≤ 30 ∧ 7 ≤ k2 ∧ k2 ≤ 30 ∧ 7 ≤ k3 ∧ k3 ≤ 30 ∧ 7 ≤ k4 ∧ k4 ≤ 30 ∧ 1 ≤ b1 ∧ b1 ≤ 81 ∧ 1 ≤ b2 ∧ b2 ≤ 81 ∧ 1 ≤ b3 ∧ b3 ≤ 81 ∧ 1 ≤ b4 ∧ b4 ≤ 81) ∧ k1 * b1 + b1 ≤ c ∧ k2 * b2 + b2 ≤ c ∧ k3 * b3 + b3 ≤ c ∧ k4 * b4 + b4 ≤ c := by
  unfold okRow at h
  split at h
  · simp only [Bool.and_eq_true, decide_eq_true_eq] at h
    exact ⟨_, _, _, _, _, _, _, _, _, _, rfl, h.1, h.2⟩
  · exact absurd h (by simp)

theorem qr_row (a0 : Int) (h0 : 1 ≤ a0) (h1 : a0 ≤ 40) : ∃ c r k1 k2 k3 k4 b1 b2 b3 b4 : Int, qrTable.getD (a0 - 1).toNat [] = [c, r, k1, k2, k3, k4, b1, b2, b3, b4] ∧
    (∀ W, (Instr.index 98 (.agg qrCells) (.int .i64 (a0 - 1))).run Try.prog W = .ok (.agg #[.int .i64 c, .int .i64 r, .int .i64 k1, .int .i64 k2, .int .i64 k3, .int .i64 k4, .int .i64 b1, .int .i64 b2, .int .i64 b3, .int .i64 b4]) W) ∧
    (26 ≤ c ∧ c ≤ 3706 ∧ 0 ≤ r ∧ r ≤ 7 ∧ 7 ≤ k1 ∧ k1 ≤ 30 ∧ 7 ≤ k2 ∧ k2 ≤ 30 ∧ 7 ≤ k3 ∧ k3 ≤ 30 ∧ 7 ≤ k4 ∧ k4 ≤ 30 ∧ 1 ≤ b1 ∧ b1 ≤ 81 ∧ 1 ≤ b2 ∧ b2 ≤ 81 ∧ 1 ≤ b3 ∧ b3 ≤ 81 ∧ 1 ≤ b4 ∧ b4 ≤ 81) ∧ k1 * b1 + b1 ≤ c ∧ k2 * b2 + b2 ≤ c ∧ k3 * b3 + b3 ≤ c ∧ k4 * b4 + b4 ≤ c := by
  have hl : (a0 - 1).toNat < qrTable.length := by show _ < 40; omega
  have hm : qrTable.getD (a0 - 1).toNat [] ∈ qrTable := by
    rw [List.getD_eq_getElem?_getD, List.getElem?_eq_getElem hl]
    exact List.getElem_mem hl
  obtain ⟨c, r, k1, k2, k3, k4, b1, b2, b3, b4, hrow, hb⟩ := ok_parts (qr_ok _ hm)
  refine ⟨c, r, k1, k2, k3, k4, b1, b2, b3, b4, hrow, fun W => ?_, hb⟩
  rw [run_index_agg (n := 40) (sz := 10) (e := 97) Try.underlying98 Try.underlying97 rfl (by kernel_rfl) (a0 - 1) (by omega) (by omega) W, qr_extract _ hl, hrow]
  rfl

end Go.Proofs.Ytjhhckkmogekkaa.X
