/- The pure law of ModesBest. No condition. -/
import Derived.Test.YtagmncdbiljacaaXx32b
import Derived.Test.YtagmncdbiljacaaYMRefBest
import Derived.Test.YtagmncdbiljacaaYMSame
namespace Go.Proofs.Ytagmncdbiljacaa.Pure
open Go.RowKit Go.Proofs.Ytagmncdbiljacaa.X Go.Proofs.YtagmncdbiljacaaW.PrintWords Go.Proofs.YtagmncdbiljacaaW.PrintLast Go.Proofs.YtagmncdbiljacaaW.PrintMore
set_option linter.unusedVariables false
set_option linter.unusedSimpArgs false

theorem ModesBest : barscanlaw16_ModesBest.Pure := by
  intro l0 a1 hl0 hn0 hw0 h1
  refine Ev.rounds ?_
  unfold barscanlaw16_ModesBest.f
  refine ev_cond (fun _ => ev_some (Ev.now _)) (fun e => ?_)
  refine Ev.bind (best_ev l0 a1) (Ev.bind (refBest_ev l0 a1 (fun x hx => wf8 (hw0 x hx))) ?_)
  have hl : (bestR l0 a1).1.length ≤ 1000000 := by
    unfold bestR
    split
    · simp
    split
    · simp
    · rename_i h1 h2
      have := (cut_props (by omega : 0 ≤ a1 ∧ a1 ≤ 2) l0.length l0 (Nat.le_refl _) (by omega)).2.2.2.2
      show (cutD a1 l0.length l0).length ≤ 1000000
      omega
  exact Ev.bind (segSame_ev _ hl) (ev_if rfl (ev_if rfl (ev_if rfl (ev_some (Ev.now _)))))
end Go.Proofs.Ytagmncdbiljacaa.Pure
