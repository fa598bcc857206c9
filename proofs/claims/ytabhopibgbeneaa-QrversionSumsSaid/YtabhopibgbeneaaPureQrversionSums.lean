/- QrversionSums: the law's answer is true at every version and level, as plain Lean. No condition. -/
import Derived.Test.YtabhopibgbeneaaXx6
namespace Go.Proofs.Ytabhopibgbeneaa.Pure
open Go.RowKit Go.Proofs.Ytabhopibgbeneaa.X Go.Proofs.YtabhopibgbeneaaW.PrintWords Go.Proofs.YtabhopibgbeneaaW.PrintLast

theorem alive_is4 : barscanlaw17_alive.f 20 = some true := by decide +kernel
/-- Levels 0 to 5: those that are none, too. -/
theorem sums_in : ∀ n : Nat, n < 40 → ∀ l : Nat, l < 6 → barscanlaw17_QrversionSums.f 30 ((n : Int) + 1) (l : Int) = some true := by decide +kernel

/-- Two levels that are none, on one side, answer alike. -/
theorem sums_alike {a0 a b : Int} (hs : qrversion_Structure.f a0 a = qrversion_Structure.f a0 b) (hc : qrversion_Capacity.f a0 a = qrversion_Capacity.f a0 b) (h1 : a < 1 ↔ b < 1) (h4 : a > 4 ↔ b > 4) (k : Nat) :
    barscanlaw17_QrversionSums.f k a0 a = barscanlaw17_QrversionSums.f k a0 b := by
  have j3 : ∀ k x9 y, barscanlaw17_QrversionSums.j3 k a0 a x9 y = barscanlaw17_QrversionSums.j3 k a0 b x9 y := by
    intro k x9 y
    cases k with
    | zero => rfl
    | succ k => simp only [barscanlaw17_QrversionSums.j3, hs, hc, h1, h4]
  have j2 : ∀ k x5 x9 x10 x13, barscanlaw17_QrversionSums.j2 k a0 a x5 x9 x10 x13 = barscanlaw17_QrversionSums.j2 k a0 b x5 x9 x10 x13 := by
    intro k x5 x9 x10 x13
    cases k with
    | zero => rfl
    | succ k => simp only [barscanlaw17_QrversionSums.j2, j3]
  have j1 : ∀ k x5 x9 x10 x12 x13, barscanlaw17_QrversionSums.j1 k a0 a x5 x9 x10 x12 x13 = barscanlaw17_QrversionSums.j1 k a0 b x5 x9 x10 x12 x13 := by
    intro k x5 x9 x10 x12 x13
    cases k with
    | zero => rfl
    | succ k => simp only [barscanlaw17_QrversionSums.j1, j2]
  have j0 : ∀ k x5 x6 x7 x9 x10 y, barscanlaw17_QrversionSums.j0 k a0 a x5 x6 x7 x9 x10 y = barscanlaw17_QrversionSums.j0 k a0 b x5 x6 x7 x9 x10 y := by
    intro k x5 x6 x7 x9 x10 y
    cases k with
    | zero => rfl
    | succ k => simp only [barscanlaw17_QrversionSums.j0, j1]
  simp only [barscanlaw17_QrversionSums.f, j0]

theorem struct_none {a0 a1 : Int} (hr : 1 ≤ a0 ∧ a0 ≤ 40) (hl : ¬ (1 ≤ a1 ∧ a1 ≤ 4)) : qrversion_Structure.f a0 a1 = some (0, 0, 0, 0, 15) ∧ qrversion_Capacity.f a0 a1 = some (0, 15) := by
  constructor
  · unfold qrversion_Structure.f
    rw [if_pos hr, if_neg hl]
  · unfold qrversion_Capacity.f
    rw [level_is, if_pos hr, if_neg hl]
    rfl

theorem QrversionSums : barscanlaw17_QrversionSums.Pure := by
  intro a0 a1 _ _
  by_cases hr : 1 ≤ a0 ∧ a0 ≤ 40
  · refine ⟨30, ?_⟩
    have hn : ((a0 - 1).toNat : Int) + 1 = a0 := by omega
    by_cases hl : 1 ≤ a1 ∧ a1 ≤ 4
    · have := sums_in (a0 - 1).toNat (by omega) a1.toNat (by omega)
      rw [hn, show ((a1.toNat : Nat) : Int) = a1 by omega] at this
      exact this
    · have s1 := struct_none hr hl
      by_cases h1 : a1 < 1
      · have s2 := struct_none (a1 := 0) hr (by omega)
        rw [sums_alike (s1.1.trans s2.1.symm) (s1.2.trans s2.2.symm) (by omega) (by omega)]
        have := sums_in (a0 - 1).toNat (by omega) 0 (by omega)
        rwa [hn] at this
      · have s2 := struct_none (a1 := 5) hr (by omega)
        rw [sums_alike (s1.1.trans s2.1.symm) (s1.2.trans s2.2.symm) (by omega) (by omega)]
        have := sums_in (a0 - 1).toNat (by omega) 5 (by omega)
        rwa [hn] at this
  · refine ⟨21, ?_⟩
    have hv : qrversion_valid.f a0 = some false := by rw [valid_is, decide_eq_false hr]
    have e1 : qrversion_Size.f a0 = some (0, 14) := by unfold qrversion_Size.f; rw [hv]; rfl
    have e3 : qrversion_Aligns.f a0 = some ([], 14) := by unfold qrversion_Aligns.f; rw [if_neg hr]
    have e5 : qrversion_Codewords.f a0 = some (0, 0, 14) := by unfold qrversion_Codewords.f; rw [if_neg hr]
    unfold barscanlaw17_QrversionSums.f
    rw [e1, e3, e5]
    simp only [Option.bind_some, if_true]
    simp only [barscanlaw17_QrversionSums.j0]
    rw [alive_is4]
    rfl

end Go.Proofs.Ytabhopibgbeneaa.Pure
