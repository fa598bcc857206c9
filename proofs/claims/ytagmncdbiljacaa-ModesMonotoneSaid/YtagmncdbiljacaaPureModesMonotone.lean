/- The pure law of ModesMonotone. No condition. -/
import Derived.Test.YtagmncdbiljacaaXx37
import Derived.Test.YtagmncdbiljacaaYMSame
namespace Go.Proofs.Ytagmncdbiljacaa.Pure
open Go.RowKit Go.Proofs.Ytagmncdbiljacaa.X Go.Proofs.YtagmncdbiljacaaW.PrintWords Go.Proofs.YtagmncdbiljacaaW.PrintLast Go.Proofs.YtagmncdbiljacaaW.PrintMore
set_option linter.unusedVariables false
set_option linter.unusedSimpArgs false

theorem ModesMonotone : barscanlaw16_ModesMonotone.Pure := by
  intro l0 l1 a2 hl0 hn0 _ hl1 hn1 _ h2
  obtain ⟨c, hc, c0, c2⟩ := class3 h2
  refine Ev.rounds ?_
  unfold barscanlaw16_ModesMonotone.f
  rw [hc]
  clear hc h2
  have bad : ∀ b, b = true → Ev (fun k => barscanlaw16_ModesMonotone.j0 k l0 l1 c b) true := by
    intro b hb
    refine Ev.step (fun k => by rw [barscanlaw16_ModesMonotone.j0]) ?_
    exact ev_if hb (ev_some (Ev.now _))
  refine ev_cond (fun _ => bad _ rfl) (fun e => ?_)
  by_cases e1 : (l1.length : Int) > 200
  · exact bad _ (by simpa using e1)
  refine Ev.step (fun k => by rw [barscanlaw16_ModesMonotone.j0]) ?_
  refine ev_else (by simpa using e1) (ev_if (by simp; omega) (ev_some ?_))
  simp only [List.nil_append]
  refine ev_if (by omega) ?_
  have m := best_mono ⟨c0, c2⟩ l0 l1 (by rw [List.length_append]; omega)
  have b0 := best_range ⟨c0, c2⟩ l0 (by omega)
  have b1 := best_range ⟨c0, c2⟩ l1 (by omega)
  have ok : ∀ p : List Int, p.length ≤ 400 → bestR p c = (cutD c p.length p, (best c p).f0, 0) := by
    intro p hp
    unfold bestR
    rw [if_neg (by omega), if_neg (by omega)]
  refine Ev.bind (best_ev l0 c) (Ev.bind (best_ev l1 c) (Ev.bind (best_ev (l0 ++ l1) c) ?_))
  rw [ok l0 (by omega), ok l1 (by omega), ok (l0 ++ l1) (by rw [List.length_append]; omega)]
  refine ev_if rfl (ev_if rfl (ev_if rfl (ev_if m.1 (ev_if ?_ (ev_some (Ev.now _))))))
  show (best c (l0 ++ l1)).f0 ≤ wrap64 ((best c l0).f0 + (best c l1).f0)
  rw [w_is rfl (by omega) (by omega)]
  exact m.2
end Go.Proofs.Ytagmncdbiljacaa.Pure
