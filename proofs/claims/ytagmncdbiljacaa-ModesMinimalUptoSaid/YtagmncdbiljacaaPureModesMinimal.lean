/- The pure law of ModesMinimal. No condition. -/
import Derived.Test.YtagmncdbiljacaaXx36
import Derived.Test.YtagmncdbiljacaaYMJoin
import Derived.Test.YtagmncdbiljacaaYMSame
namespace Go.Proofs.Ytagmncdbiljacaa.Pure
open Go.RowKit Go.Proofs.Ytagmncdbiljacaa.X Go.Proofs.YtagmncdbiljacaaW.PrintWords Go.Proofs.YtagmncdbiljacaaW.PrintLast Go.Proofs.YtagmncdbiljacaaW.PrintMore
set_option linter.unusedVariables false
set_option linter.unusedSimpArgs false

theorem ModesMinimal (l0 : List S33) (a1 : Int) (h0 : l0.length ≤ 100000000000) (hj : (joinD l0).length < 140737488355328) (h2 : (Lit.int .u8 a1).wf = true) : ∃ k, barscanlaw16_ModesMinimal.f k l0 a1 = some true := by
  obtain ⟨c, hc, c0, c2⟩ := class3 h2
  refine Ev.rounds ?_
  unfold barscanlaw16_ModesMinimal.f
  rw [hc]
  clear hc h2
  refine ev_is (a := mbits l0 c) rfl (Ev.bind (refJoin_ev l0 h0 hj) (Ev.bind (small_ev l0) ?_))
  have bad : ∀ b, b = true → Ev (fun k => barscanlaw16_ModesMinimal.j0 k c (mbits l0 c).1 (joinD l0) b) true := by
    intro b hb
    refine Ev.step (fun k => by rw [barscanlaw16_ModesMinimal.j0]) ?_
    exact ev_if hb (ev_some (Ev.now _))
  refine ev_cond (fun e => ?_) (fun _ => bad _ rfl)
  refine ev_cond (fun e1 => ?_) (fun _ => bad _ rfl)
  by_cases e2 : ((joinD l0).length : Int) > 600
  · exact bad _ (by simpa using e2)
  obtain ⟨_, hv, _, hm⟩ := bits_okSegs e1
  have hsum := mbits_le e1
  obtain ⟨i1, i2, i3, i4, i5⟩ := cut_props ⟨c0, c2⟩ (joinD l0).length (joinD l0) (Nat.le_refl _) (by omega)
  have hle := best_le ⟨c0, c2⟩ l0 hv (by omega)
  have hb : bestR (joinD l0) c = (cutD c (joinD l0).length (joinD l0), (best c (joinD l0)).f0, 0) := by
    unfold bestR
    rw [if_neg (by omega), if_neg (by omega)]
  generalize hB : cutD c (joinD l0).length (joinD l0) = B at i1 i2 i3 i4 i5 hb
  have hBb : mbits B c = (sumBits c B, 0) := okSegs_bits ⟨c0, c2⟩ i1 (by omega) (by omega)
  refine Ev.step (fun k => by rw [barscanlaw16_ModesMinimal.j0]) ?_
  refine ev_else (by simpa using e2) (Ev.bind (best_ev (joinD l0) c) ?_)
  rw [hb]
  refine ev_is (a := mbits B c) rfl ?_
  rw [hBb, hm]
  have key : ∀ (d i : Nat), i + d = B.length → Ev (fun k => barscanlaw16_ModesMinimal.l0 k (sumBits c l0) (joinD l0) B (best c (joinD l0)).f0 0 (sumBits c B) 0 (i : Int)) true := by
    intro d
    induction d with
    | zero =>
      intro i hi
      refine Ev.step (fun k => by rw [barscanlaw16_ModesMinimal.l0]) ?_
      refine ev_else (by omega) (ev_if rfl (ev_if rfl (ev_if i3.symm (ev_if hle ?_))))
      have hj2 := refJoin_ev B (by omega) (by rw [i2]; omega)
      rw [i2] at hj2
      exact Ev.bind hj2 (ev_if rfl (ev_some (Ev.now _)))
    | succ d ih =>
      intro i hi
      have hlt : i < B.length := by omega
      refine Ev.step (fun k => by rw [barscanlaw16_ModesMinimal.l0]) ?_
      rw [rdS_at B i hlt]
      have h4 := i4 B[i] (List.getElem_mem hlt)
      refine ev_if (by omega) (ev_if (by omega) (ev_else (fun h => h4 ?_) ?_))
      · exact List.eq_nil_of_length_eq_zero (by omega)
      rw [show wrap64 ((i : Int) + 1) = ((i + 1 : Nat) : Int) from w_is (by omega) (by omega) (by omega)]
      exact ih (i + 1) (by omega)
  exact key B.length 0 (by omega)
end Go.Proofs.Ytagmncdbiljacaa.Pure
