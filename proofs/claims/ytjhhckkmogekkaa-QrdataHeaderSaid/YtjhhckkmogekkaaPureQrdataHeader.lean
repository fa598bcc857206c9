/- The pure law of QrdataHeader. No condition. -/
import Derived.Test.YtjhhckkmogekkaaXx29b
import Derived.Test.YtjhhckkmogekkaaYQRef
namespace Go.Proofs.Ytjhhckkmogekkaa.Pure
open Go.RowKit Go.Proofs.Ytjhhckkmogekkaa.X Go.Proofs.YtjhhckkmogekkaaW.PrintWords Go.Proofs.YtjhhckkmogekkaaW.PrintLast Go.Proofs.YtjhhckkmogekkaaW.PrintMore
set_option linter.unusedVariables false
set_option linter.unusedSimpArgs false

theorem bits18_ev (l : List Bool) (hl : l.length ≤ 1000000) : Ev (fun k => barscanlaw18_bits.f k l l) true := by
  have key : ∀ (d i : Nat), i + d = l.length → Ev (fun k => barscanlaw18_bits.l0 k l l (l.length : Int) (i : Int)) true := by
    intro d
    induction d with
    | zero =>
      intro i hi
      refine Ev.step (fun k => by rw [barscanlaw18_bits.l0]) ?_
      exact ev_else (by omega) (Ev.now _)
    | succ d ih =>
      intro i hi
      have ih := ih (i + 1) (by omega)
      refine Ev.step (fun k => by rw [barscanlaw18_bits.l0]) ?_
      refine ev_if (by omega) (ev_if (by omega) (ev_if (by omega) (ev_if (by omega) (ev_else (by simp) ?_))))
      rw [show wrap64 ((i : Int) + 1) = ((i + 1 : Nat) : Int) from w_is (by omega) (by omega) (by omega)]
      exact ih
  unfold barscanlaw18_bits.f
  exact ev_if rfl (key l.length 0 (by omega))
theorem QrdataHeader (a0_0 a0_1 a0_2 : Int) (h0 : (Lit.int .i64 a0_0).wf = true) (h1 : (Lit.int .i64 a0_1).wf = true) (h2 : (Lit.int .i64 a0_2).wf = true) : ∃ k, X.barscanlaw18_QrdataHeader.f k a0_0 a0_1 a0_2 = some true := by
  refine Ev.rounds ?_
  unfold X.barscanlaw18_QrdataHeader.f
  refine ev_is (a := headR a0_0 a0_1 a0_2) rfl (Ev.bind (refHeader18_ev a0_0 a0_1 a0_2) ?_)
  have := headR_length a0_0 a0_1 a0_2
  exact Ev.bind (bits18_ev _ (by omega)) (ev_if rfl (ev_if rfl (ev_some (Ev.now _))))
end Go.Proofs.Ytjhhckkmogekkaa.Pure
