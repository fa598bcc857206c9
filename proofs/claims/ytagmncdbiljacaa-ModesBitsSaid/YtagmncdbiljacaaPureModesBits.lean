/- The pure law of ModesBits. No condition. -/
import Derived.Test.YtagmncdbiljacaaXx43
import Derived.Test.YtagmncdbiljacaaYMRefEnc
import Derived.Test.YtagmncdbiljacaaYMJoin
import Derived.Test.YtagmncdbiljacaaYMSame
namespace Go.Proofs.Ytagmncdbiljacaa.Pure
open Go.RowKit Go.Proofs.Ytagmncdbiljacaa.X Go.Proofs.YtagmncdbiljacaaW.PrintWords Go.Proofs.YtagmncdbiljacaaW.PrintLast Go.Proofs.YtagmncdbiljacaaW.PrintMore
set_option linter.unusedVariables false
set_option linter.unusedSimpArgs false

theorem join_ev (l : List S33) (hl : l.length ≤ 100000000000) (hj : (joinD l).length < 140737488355328) : Ev (fun k => modes_Join.f k l) (joinD l) := by
  have key : ∀ (d i : Nat), i + d = l.length → Ev (fun k => modes_Join.l0 k (joinD (l.take i)) l (l.length : Int) (i : Int)) (joinD l) := by
    intro d
    induction d with
    | zero =>
      intro i hi
      refine Ev.step (fun k => by rw [modes_Join.l0]) ?_
      refine ev_else (by omega) ?_
      rw [List.take_of_length_le (by omega)]
      exact Ev.now _
    | succ d ih =>
      intro i hi
      have hlt : i < l.length := by omega
      have h1 := joinD_take l i hlt
      have h2 := joinD_take_le l (i + 1)
      refine Ev.step (fun k => by rw [modes_Join.l0]) ?_
      rw [rdS_at l i hlt]
      refine ev_if (by omega) (ev_if (by omega) (ev_if (by omega) (ev_if (by rw [h1, List.length_append] at h2; omega) ?_)))
      rw [← h1, show wrap64 ((i : Int) + 1) = ((i + 1 : Nat) : Int) from w_is (by omega) (by omega) (by omega)]
      exact ih (i + 1) (by omega)
  unfold modes_Join.f
  exact key l.length 0 (by omega)
theorem ModesBits (l0 : List S33) (a1 : Int) (h0 : l0.length ≤ maxLen) (h1 : ∀ y ∈ l0, (Lit.int .i64 y.f0).wf = true ∧ y.f1.length ≤ maxLen ∧ ∀ c ∈ y.f1, (Lit.int .u8 c).wf = true) (h2 : (Lit.int .i64 a1).wf = true) : ∃ k, X.barscanlaw16_ModesBits.f k l0 a1 = some true := by
  have hb : ∀ s ∈ l0, ∀ x ∈ s.f1, 0 ≤ x ∧ x < 256 := fun s hs x hx => wf8 ((h1 s hs).2.2 x hx)
  clear h1 h2 h0
  refine Ev.rounds ?_
  unfold X.barscanlaw16_ModesBits.f
  refine Ev.bind (small_ev l0) ?_
  refine ev_cond (fun e => ?_) (fun _ => ev_some (Ev.now _))
  obtain ⟨hl, hd⟩ := smallL_iff e
  have hj := smallL_join hd
  refine ev_is (a := mbits l0 a1) rfl (Ev.bind (refBits_ev l0 a1 (by omega) hb) (ev_is (a := encR l0 a1) rfl (Ev.bind (refEncode_ev l0 a1 hb (by omega)) ?_)))
  have hr : (encR l0 a1).1.length ≤ 1048576 := by
    unfold encR
    split
    · rename_i e1
      have h1 := mbits_le e1
      have h2 := encAll_length a1 l0
      show (encAll a1 l0).length ≤ 1048576
      omega
    · simp
  refine ev_if rfl (ev_if rfl (Ev.bind (refSame_ev _ hr) (ev_if rfl (ev_if rfl ?_))))
  refine Ev.bind (join_ev l0 (by omega) (by omega)) (Ev.bind (refJoin_ev l0 (by omega) (by omega)) ?_)
  exact ev_if rfl (ev_some (Ev.now _))
end Go.Proofs.Ytagmncdbiljacaa.Pure
