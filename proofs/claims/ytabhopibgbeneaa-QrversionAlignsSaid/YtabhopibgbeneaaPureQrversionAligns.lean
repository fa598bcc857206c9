/- QrversionAligns: the law's answer is true at every version, as plain Lean. No condition. -/
import Derived.Test.YtabhopibgbeneaaXx7
namespace Go.Proofs.Ytabhopibgbeneaa.Pure
open Go.RowKit Go.Proofs.Ytabhopibgbeneaa.X Go.Proofs.YtabhopibgbeneaaW.PrintWords Go.Proofs.YtabhopibgbeneaaW.PrintLast

theorem alive_is3 : barscanlaw17_alive.f 20 = some true := by decide +kernel
theorem aligns_in : ∀ n : Nat, n < 40 → barscanlaw17_QrversionAligns.f 40 ((n : Int) + 1) = some true := by decide +kernel

theorem QrversionAligns : barscanlaw17_QrversionAligns.Pure := by
  intro a0 h
  by_cases hr : 1 ≤ a0 ∧ a0 ≤ 40
  · have := aligns_in (a0 - 1).toNat (by omega)
    rw [show (((a0 - 1).toNat : Nat) : Int) + 1 = a0 by omega] at this
    exact ⟨40, this⟩
  · refine ⟨21, ?_⟩
    have hv : qrversion_valid.f a0 = some false := by rw [valid_is, decide_eq_false hr]
    have e1 : qrversion_Size.f a0 = some (0, 14) := by unfold qrversion_Size.f; rw [hv]; rfl
    have e3 : qrversion_Aligns.f a0 = some ([], 14) := by unfold qrversion_Aligns.f; rw [if_neg hr]
    unfold barscanlaw17_QrversionAligns.f
    rw [e1, e3]
    simp only [Option.bind_some]
    rw [if_neg (by decide)]
    simp only [barscanlaw17_QrversionAligns.j0]
    rw [alive_is3]
    rfl

end Go.Proofs.Ytabhopibgbeneaa.Pure
