/- Join of the reference and the statements' 'small', in plain Lean. No condition. -/
import Derived.Test.YtagmncdbiljacaaYMRefBits
import Derived.Test.YtagmncdbiljacaaXx35
import Derived.Test.YtagmncdbiljacaaXx33
namespace Go.Proofs.Ytagmncdbiljacaa.X
open Go.RowKit Go.Proofs.YtagmncdbiljacaaW.PrintWords Go.Proofs.YtagmncdbiljacaaW.PrintLast Go.Proofs.YtagmncdbiljacaaW.PrintMore
set_option linter.unusedVariables false
set_option linter.unusedSimpArgs false

theorem joinD_take (l : List S33) (i : Nat) (h : i < l.length) : joinD (l.take (i + 1)) = joinD (l.take i) ++ l[i].f1 := by
  unfold joinD
  rw [List.take_succ_eq_append_getElem h, List.flatMap_append]
  simp
theorem joinD_take_le (l : List S33) (i : Nat) : (joinD (l.take i)).length ≤ (joinD l).length := by
  conv => rhs; rw [← List.take_append_drop i l]
  unfold joinD
  rw [List.flatMap_append, List.length_append]
  omega
theorem refJoin_ev (l : List S33) (hl : l.length ≤ 100000000000) (hj : (joinD l).length < 140737488355328) : Ev (fun k => barscanref16_Join.f k l) (joinD l) := by
  have key : ∀ (d i : Nat), i + d = l.length → Ev (fun k => barscanref16_Join.l0 k l (joinD (l.take i)) (i : Int)) (joinD l) := by
    intro d
    induction d with
    | zero =>
      intro i hi
      refine Ev.step (fun k => by rw [barscanref16_Join.l0]) ?_
      refine ev_else (by omega) ?_
      rw [List.take_of_length_le (by omega)]
      exact Ev.now _
    | succ d ih =>
      intro i hi
      have hlt : i < l.length := by omega
      have h1 := joinD_take l i hlt
      have h2 := joinD_take_le l (i + 1)
      refine Ev.step (fun k => by rw [barscanref16_Join.l0]) ?_
      rw [rdS_at l i hlt]
      refine ev_if (by omega) (ev_if (by omega) (ev_if (by rw [h1, List.length_append] at h2; omega) ?_))
      rw [← h1, show wrap64 ((i : Int) + 1) = ((i + 1 : Nat) : Int) from w_is (by omega) (by omega) (by omega)]
      exact ih (i + 1) (by omega)
  unfold barscanref16_Join.f
  exact key l.length 0 (by omega)
/-- Whether a list is small. -/
def smallL (l : List S33) : Bool := decide (l.length ≤ 40) && l.all (fun s => decide (s.f1.length ≤ 150))
theorem small_ev (l : List S33) : Ev (fun k => barscanlaw16_small.f k l) (smallL l) := by
  unfold barscanlaw16_small.f
  refine ev_cond (fun e => ?_) (fun e => ?_)
  · unfold smallL
    rw [decide_eq_false (by omega), Bool.false_and]
    exact Ev.now _
  have key : ∀ (d i : Nat), i + d = l.length → (l.take i).any (fun s => !decide (s.f1.length ≤ 150)) = false → Ev (fun k => barscanlaw16_small.l0 k l (i : Int)) (smallL l) := by
    intro d
    induction d with
    | zero =>
      intro i hi hp
      have hp := any_full (by omega) hp
      refine Ev.step (fun k => by rw [barscanlaw16_small.l0]) ?_
      refine ev_else (by omega) ?_
      unfold smallL
      rw [decide_eq_true (by omega), Bool.true_and, List.all_eq_not_any_not, hp]
      exact Ev.now _
    | succ d ih =>
      intro i hi hp
      have hlt : i < l.length := by omega
      refine Ev.step (fun k => by rw [barscanlaw16_small.l0]) ?_
      rw [rdS_at l i hlt]
      refine ev_if (by omega) (ev_if (by omega) ?_)
      refine ev_cond (fun e2 => ?_) (fun e2 => ?_)
      · have h1 : l.any (fun s => !decide (s.f1.length ≤ 150)) = true := any_at hlt (by simp; omega)
        unfold smallL
        rw [List.all_eq_not_any_not, h1, Bool.not_true, Bool.and_false]
        exact Ev.now _
      · rw [show wrap64 ((i : Int) + 1) = ((i + 1 : Nat) : Int) from w_is (by omega) (by omega) (by omega)]
        exact ih (i + 1) (by omega) (any_take_succ _ _ _ hlt hp (by simp; omega))
  exact key l.length 0 (by omega) (by simp)
theorem smallL_iff {l : List S33} (h : smallL l = true) : l.length ≤ 40 ∧ ∀ s ∈ l, s.f1.length ≤ 150 := by
  unfold smallL at h
  simpa using h
theorem smallL_join {l : List S33} (h : ∀ s ∈ l, s.f1.length ≤ 150) : (joinD l).length ≤ 150 * l.length := by
  induction l with
  | nil => simp [joinD]
  | cons s l ih =>
    have h1 := ih (fun s hs => h s (by simp [hs]))
    have h2 := h s (by simp)
    unfold joinD at *
    rw [List.flatMap_cons, List.length_append, List.length_cons]
    omega
end Go.Proofs.Ytagmncdbiljacaa.X
