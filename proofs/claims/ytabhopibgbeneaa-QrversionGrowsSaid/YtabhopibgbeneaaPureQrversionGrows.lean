/- QrversionGrows: the law's answer is true at every version and level, as plain Lean. No condition. -/
import Derived.Test.YtabhopibgbeneaaXx8
namespace Go.Proofs.Ytabhopibgbeneaa.Pure
open Go.RowKit Go.Proofs.Ytabhopibgbeneaa.X Go.Proofs.YtabhopibgbeneaaW.PrintWords Go.Proofs.YtabhopibgbeneaaW.PrintLast

theorem alive_is5 : barscanlaw17_alive.f 20 = some true := by decide +kernel
theorem grows_in : ∀ n : Nat, n < 40 → ∀ l : Nat, l < 4 → barscanlaw17_QrversionGrows.f 20 ((n : Int) + 1) ((l : Int) + 1) = some true := by decide +kernel

theorem QrversionGrows : barscanlaw17_QrversionGrows.Pure := by
  intro a0 a1 _ _
  refine ⟨20, ?_⟩
  have out : ∀ x : Int, x ≠ 0 → qrversion_level.f a0 a1 = some x → barscanlaw17_QrversionGrows.f 20 a0 a1 = some true := by
    intro x h0 h
    have e : qrversion_Capacity.f a0 a1 = some (0, x) := by
      unfold qrversion_Capacity.f
      rw [h]
      simp only [Option.bind_some]
      rw [if_neg h0]
    unfold barscanlaw17_QrversionGrows.f
    rw [e]
    simp only [Option.bind_some]
    rw [if_neg h0]
    simp only [if_true]
    rw [alive_is5]
    rfl
  by_cases hr : 1 ≤ a0 ∧ a0 ≤ 40
  · by_cases hl : 1 ≤ a1 ∧ a1 ≤ 4
    · have := grows_in (a0 - 1).toNat (by omega) (a1 - 1).toNat (by omega)
      rw [show (((a0 - 1).toNat : Nat) : Int) + 1 = a0 by omega, show (((a1 - 1).toNat : Nat) : Int) + 1 = a1 by omega] at this
      exact this
    · exact out 15 (by decide) (by rw [level_is, if_pos hr, if_neg hl])
  · exact out 14 (by decide) (by rw [level_is, if_neg hr])

end Go.Proofs.Ytabhopibgbeneaa.Pure
