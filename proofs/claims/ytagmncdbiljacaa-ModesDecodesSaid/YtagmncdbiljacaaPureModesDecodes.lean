/- The pure law of ModesDecodes. No condition. -/
import Derived.Test.YtagmncdbiljacaaXx32a
import Derived.Test.YtagmncdbiljacaaYMRefDec
import Derived.Test.YtagmncdbiljacaaYMSame
namespace Go.Proofs.Ytagmncdbiljacaa.Pure
open Go.RowKit Go.Proofs.Ytagmncdbiljacaa.X Go.Proofs.YtagmncdbiljacaaW.PrintWords Go.Proofs.YtagmncdbiljacaaW.PrintLast Go.Proofs.YtagmncdbiljacaaW.PrintMore
set_option linter.unusedVariables false
set_option linter.unusedSimpArgs false

theorem decD_count (c : Int) : ∀ (f : Nat) (l : List Bool) (out : List S33), out.length ≤ 4096 → (decD c f l out).1.length ≤ 4096 := by
  intro f
  induction f with
  | zero => intro l out h; exact h
  | succ f ih =>
    intro l out h
    unfold decD
    split
    · split
      · exact h
      · simp
    split
    · exact h
    split
    · simp
    split
    · simp
    split
    · simp
    · refine ih _ _ ?_
      rw [List.length_append]
      simp only [List.length_cons, List.length_nil]
      omega
theorem ModesDecodes (l0 : List Bool) (a1 : Int) (h0 : l0.length ≤ maxLen) (h1 : ∀ y ∈ l0, True) (h2 : (Lit.int .i64 a1).wf = true) : ∃ k, X.barscanlaw16_ModesDecodes.f k l0 a1 = some true := by
  refine Ev.rounds ?_
  unfold X.barscanlaw16_ModesDecodes.f
  refine ev_cond (fun _ => ev_some (Ev.now _)) (fun e => ?_)
  refine ev_is (a := decR l0 a1) rfl (Ev.bind (refDecode_ev l0 (by omega) a1) ?_)
  have hl : (decR l0 a1).1.length ≤ 4096 := by
    unfold decR
    split
    · simp
    split
    · simp
    · exact decD_count a1 _ _ _ (by simp)
  exact Ev.bind (segSame_ev _ (by omega)) (ev_if rfl (ev_if rfl (ev_some (Ev.now _))))
end Go.Proofs.Ytagmncdbiljacaa.Pure
