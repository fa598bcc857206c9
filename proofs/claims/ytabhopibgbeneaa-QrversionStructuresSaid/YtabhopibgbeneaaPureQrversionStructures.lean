/- QrversionStructures: the law's answer is true at every version and level, as plain Lean. No condition. -/
import Derived.Test.YtabhopibgbeneaaXx6
namespace Go.Proofs.Ytabhopibgbeneaa.Pure
open Go.RowKit Go.Proofs.Ytabhopibgbeneaa.X Go.Proofs.YtabhopibgbeneaaW.PrintWords Go.Proofs.YtabhopibgbeneaaW.PrintLast

theorem alive_is2 : barscanlaw17_alive.f 20 = some true := by decide +kernel
theorem structures_in : ∀ n : Nat, n < 40 → ∀ l : Nat, l < 4 → barscanlaw17_QrversionStructures.f 20 ((n : Int) + 1) ((l : Int) + 1) = some true := by decide +kernel

theorem capacity_out {a0 a1 x : Int} (h : qrversion_level.f a0 a1 = some x) (h0 : x ≠ 0) : qrversion_Capacity.f a0 a1 = some (0, x) := by
  unfold qrversion_Capacity.f
  rw [h]
  simp only [Option.bind_some]
  rw [if_neg h0]

theorem QrversionStructures : barscanlaw17_QrversionStructures.Pure := by
  intro a0 a1 _ _
  refine ⟨20, ?_⟩
  by_cases hr : 1 ≤ a0 ∧ a0 ≤ 40
  · by_cases hl : 1 ≤ a1 ∧ a1 ≤ 4
    · have := structures_in (a0 - 1).toNat (by omega) (a1 - 1).toNat (by omega)
      rw [show (((a0 - 1).toNat : Nat) : Int) + 1 = a0 by omega, show (((a1 - 1).toNat : Nat) : Int) + 1 = a1 by omega] at this
      exact this
    · have e1 : qrversion_Structure.f a0 a1 = some (0, 0, 0, 0, 15) := by unfold qrversion_Structure.f; rw [if_pos hr, if_neg hl]
      have e2 : barscanref17_Structure.f a0 a1 = some (0, 0, 0, 0, 15) := by unfold barscanref17_Structure.f; rw [if_pos hr, if_neg hl]
      have e3 : qrversion_Capacity.f a0 a1 = some (0, 15) := capacity_out (by rw [level_is, if_pos hr, if_neg hl]) (by decide)
      have e4 : barscanref17_Capacity.f a0 a1 = some (0, 15) := by unfold barscanref17_Capacity.f; rw [e2]; decide +kernel
      unfold barscanlaw17_QrversionStructures.f
      rw [e1, e2, e3, e4]
      simp only [Option.bind_some, if_true]
      rw [alive_is2]
      rfl
  · have e1 : qrversion_Structure.f a0 a1 = some (0, 0, 0, 0, 14) := by unfold qrversion_Structure.f; rw [if_neg hr]
    have e2 : barscanref17_Structure.f a0 a1 = some (0, 0, 0, 0, 14) := by unfold barscanref17_Structure.f; rw [if_neg hr]
    have e3 : qrversion_Capacity.f a0 a1 = some (0, 14) := capacity_out (by rw [level_is, if_neg hr]) (by decide)
    have e4 : barscanref17_Capacity.f a0 a1 = some (0, 14) := by unfold barscanref17_Capacity.f; rw [e2]; decide +kernel
    unfold barscanlaw17_QrversionStructures.f
    rw [e1, e2, e3, e4]
    simp only [Option.bind_some, if_true]
    rw [alive_is2]
    rfl

end Go.Proofs.Ytabhopibgbeneaa.Pure
