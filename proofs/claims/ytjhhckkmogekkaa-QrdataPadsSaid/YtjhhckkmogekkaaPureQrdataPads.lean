/- The pure law of QrdataPads. No condition. -/
import Derived.Test.YtjhhckkmogekkaaXx31a
import Derived.Test.YtjhhckkmogekkaaYQPadRef
namespace Go.Proofs.Ytjhhckkmogekkaa.Pure
open Go.RowKit Go.Proofs.Ytjhhckkmogekkaa.X Go.Proofs.YtjhhckkmogekkaaW.PrintWords Go.Proofs.YtjhhckkmogekkaaW.PrintLast Go.Proofs.YtjhhckkmogekkaaW.PrintMore
set_option linter.unusedVariables false
set_option linter.unusedSimpArgs false

theorem QrdataPads (l0 : List Bool) (a1 : Int) (h0 : l0.length ≤ maxLen) (h1 : ∀ y ∈ l0, True) (h2 : (Lit.int .i64 a1).wf = true) : ∃ k, X.barscanlaw18_QrdataPads.f k l0 a1 = some true := by
  refine Ev.rounds ?_
  unfold X.barscanlaw18_QrdataPads.f
  refine ev_is (a := padR l0 a1) rfl (Ev.bind (refPad_ev l0 a1) ?_)
  have := padR_length l0 a1
  exact Ev.bind (same18_ev _ (by omega)) (ev_if rfl (ev_if rfl (ev_some (Ev.now _))))
end Go.Proofs.Ytjhhckkmogekkaa.Pure
