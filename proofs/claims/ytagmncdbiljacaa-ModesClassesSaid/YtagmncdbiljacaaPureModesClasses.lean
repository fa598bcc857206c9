/- The pure law of ModesClasses. No condition. -/
import Derived.Test.YtagmncdbiljacaaXx45
import Derived.Test.YtagmncdbiljacaaYMRefParts
namespace Go.Proofs.Ytagmncdbiljacaa.Pure
open Go.RowKit Go.Proofs.Ytagmncdbiljacaa.X Go.Proofs.YtagmncdbiljacaaW.PrintWords Go.Proofs.YtagmncdbiljacaaW.PrintLast Go.Proofs.YtagmncdbiljacaaW.PrintMore
set_option linter.unusedVariables false
set_option linter.unusedSimpArgs false

theorem class_ev (v : Int) : ∃ r, Ev (fun k => modes_Class.f k v) r ∧ Ev (fun k => barscanref16_Class.f k v) r := by
  have key : ∀ b : Bool, ∃ r, Ev (fun k => modes_Class.j0 k v b) r ∧ Ev (fun k => barscanref16_Class.j0 k v b) r := by
    intro b
    refine ⟨if b = true then (0, 14) else if v ≤ 9 then (0, 0) else if v ≤ 26 then (1, 0) else (2, 0), Ev.step (fun k => by rw [modes_Class.j0]) ?_, Ev.step (fun k => by rw [barscanref16_Class.j0]) ?_⟩ <;>
    · refine ev_cond (fun e => ?_) (fun e => ?_)
      · rw [if_pos e]; exact Ev.now _
      rw [if_neg e]
      refine ev_cond (fun e => ?_) (fun e => ?_)
      · rw [if_pos e]; exact Ev.now _
      rw [if_neg e]
      refine ev_cond (fun e => ?_) (fun e => ?_)
      · rw [if_pos e]; exact Ev.now _
      · rw [if_neg e]; exact Ev.now _
  unfold modes_Class.f barscanref16_Class.f
  by_cases h : v < 1
  · obtain ⟨r, h1, h2⟩ := key true
    exact ⟨r, ev_if h h1, ev_if h h2⟩
  · obtain ⟨r, h1, h2⟩ := key (decide (v > 40))
    exact ⟨r, ev_else h h1, ev_else h h2⟩
theorem count_ev (m c : Int) : Ev (fun k => modes_CountBits.f k m c) (if cbOf m c = 0 then (0, 1) else (cbOf m c, 0)) := by
  unfold modes_CountBits.f
  refine Ev.bind (a := cbOf m c) ⟨1, fun k hk => by obtain ⟨j, rfl⟩ : ∃ j, k = j + 1 := ⟨k - 1, by omega⟩; exact countBits_is j m c⟩ ?_
  refine ev_cond (fun e => ?_) (fun e => ?_)
  · rw [if_pos e]; exact Ev.now _
  · rw [if_neg e]; exact Ev.now _

theorem ModesClasses : barscanlaw16_ModesClasses.Pure := by
  intro a0 a1 a2 a3 _ _ _ h3
  have h3 := wf8 h3
  refine Ev.rounds ?_
  unfold barscanlaw16_ModesClasses.f
  obtain ⟨r, hr, hs⟩ := class_ev a0
  refine Ev.bind hr (Ev.bind hs (Ev.bind (count_ev a1 a2) (Ev.bind (refCount_ev a1 a2) ?_)))
  refine ev_if rfl (ev_if rfl (ev_if rfl (ev_if rfl ?_)))
  refine ev_is (fits_is a1 a3) (Ev.bind (refFits_ev a1 a3 h3.1 h3.2) ?_)
  refine ev_if (by simp) ?_
  exact Ev.now _
end Go.Proofs.Ytagmncdbiljacaa.Pure
