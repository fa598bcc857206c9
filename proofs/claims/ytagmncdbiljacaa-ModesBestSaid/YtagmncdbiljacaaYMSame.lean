/- Lists of segments that are the same; the classes of the statements. No condition. -/
import Derived.Test.YtagmncdbiljacaaYMOpt
import Derived.Test.YtagmncdbiljacaaXx21
namespace Go.Proofs.Ytagmncdbiljacaa.X
open Go.RowKit Go.Proofs.YtagmncdbiljacaaW.PrintWords Go.Proofs.YtagmncdbiljacaaW.PrintLast Go.Proofs.YtagmncdbiljacaaW.PrintMore
set_option linter.unusedVariables false
set_option linter.unusedSimpArgs false

theorem segSame_ev (l : List S33) (hl : l.length ≤ 1000000) : Ev (fun k => barscanref16_Same.f k l l) true := by
  have key : ∀ (d i : Nat), i + d = l.length → Ev (fun k => barscanref16_Same.l0 k l l (i : Int)) true := by
    intro d
    induction d with
    | zero =>
      intro i hi
      refine Ev.step (fun k => by rw [barscanref16_Same.l0]) ?_
      exact ev_else (by omega) (Ev.now _)
    | succ d ih =>
      intro i hi
      have ih := ih (i + 1) (by omega)
      refine Ev.step (fun k => by rw [barscanref16_Same.l0]) ?_
      refine ev_if (by omega) (ev_if (by omega) (ev_if (by omega) (ev_if rfl (ev_if rfl ?_))))
      rw [show wrap64 ((i : Int) + 1) = ((i + 1 : Nat) : Int) from w_is (by omega) (by omega) (by omega)]
      exact ih
  unfold barscanref16_Same.f
  exact ev_if rfl (key l.length 0 (by omega))
theorem class3 {a : Int} (h : (Lit.int .u8 a).wf = true) : ∃ c : Int, wrap64 (Int.tmod a 3) = c ∧ 0 ≤ c ∧ c ≤ 2 := by
  obtain ⟨h0, h1⟩ := wf8 h
  refine ⟨a % 3, ?_, by omega, by omega⟩
  rw [Int.tmod_eq_emod_of_nonneg h0]
  exact w_is rfl (by omega) (by omega)
theorem tmod_cls {a c : Int} (h : wrap64 (Int.tmod a 3) = c) : wrap64 (Int.tmod a 3) = c := h
end Go.Proofs.Ytagmncdbiljacaa.X
