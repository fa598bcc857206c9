/- QrversionSizes: the law's answer is true at every version, as plain Lean. No condition. -/
import Derived.Test.YtabhopibgbeneaaXx5
namespace Go.Proofs.Ytabhopibgbeneaa.Pure
open Go.RowKit Go.Proofs.Ytabhopibgbeneaa.X Go.Proofs.YtabhopibgbeneaaW.PrintWords Go.Proofs.YtabhopibgbeneaaW.PrintLast

theorem alive_is : barscanlaw17_alive.f 20 = some true := by decide +kernel
theorem sizes_in : ∀ n : Nat, n < 40 → barscanlaw17_QrversionSizes.f 30 ((n : Int) + 1) = some true := by decide +kernel

theorem valid_out {a0 : Int} (h : ¬ (1 ≤ a0 ∧ a0 ≤ 40)) : qrversion_valid.f a0 = some false := by rw [valid_is, decide_eq_false h]

theorem QrversionSizes : barscanlaw17_QrversionSizes.Pure := by
  intro a0 h
  by_cases hr : 1 ≤ a0 ∧ a0 ≤ 40
  · have := sizes_in (a0 - 1).toNat (by omega)
    rw [show (((a0 - 1).toNat : Nat) : Int) + 1 = a0 by omega] at this
    exact ⟨30, this⟩
  · refine ⟨20, ?_⟩
    have e1 : qrversion_Size.f a0 = some (0, 14) := by unfold qrversion_Size.f; rw [valid_out hr]; rfl
    have e2 : barscanref17_Size.f a0 = some (0, 14) := by
      unfold barscanref17_Size.f
      by_cases h1 : a0 < 1
      · rw [if_pos h1]
      · rw [if_neg h1, if_pos (by omega)]
    have e3 : qrversion_Aligns.f a0 = some ([], 14) := by unfold qrversion_Aligns.f; rw [if_neg hr]
    have e4 : barscanref17_Aligns.f 20 a0 = some ([], 14) := by
      unfold barscanref17_Aligns.f
      by_cases h1 : a0 < 1
      · rw [if_pos h1]; rfl
      · rw [if_neg h1, decide_eq_true (by omega)]; rfl
    have e5 : qrversion_Codewords.f a0 = some (0, 0, 14) := by unfold qrversion_Codewords.f; rw [if_neg hr]
    have e6 : barscanref17_Codewords.f 20 a0 = some (0, 0, 14) := by
      unfold barscanref17_Codewords.f
      by_cases h1 : a0 < 1
      · rw [if_pos h1]; rfl
      · rw [if_neg h1, decide_eq_true (by omega)]; rfl
    have e7 : barscanref01_Ints.f 20 [] [] = some true := by decide +kernel
    unfold barscanlaw17_QrversionSizes.f
    rw [e1, e2, e3, e4, e5, e6]
    simp only [Option.bind_some, if_true]
    rw [e7, alive_is]
    rfl

end Go.Proofs.Ytabhopibgbeneaa.Pure
