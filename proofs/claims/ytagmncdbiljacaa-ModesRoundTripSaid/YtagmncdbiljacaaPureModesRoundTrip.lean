/- The pure law of ModesRoundTrip. No condition. -/
import Derived.Test.YtagmncdbiljacaaXx34
import Derived.Test.YtagmncdbiljacaaYMTrip
import Derived.Test.YtagmncdbiljacaaYMJoin
import Derived.Test.YtagmncdbiljacaaYMSame
namespace Go.Proofs.Ytagmncdbiljacaa.Pure
open Go.RowKit Go.Proofs.Ytagmncdbiljacaa.X Go.Proofs.YtagmncdbiljacaaW.PrintWords Go.Proofs.YtagmncdbiljacaaW.PrintLast Go.Proofs.YtagmncdbiljacaaW.PrintMore
set_option linter.unusedVariables false
set_option linter.unusedSimpArgs false

theorem wf16 {n : Int} (h : (Lit.int .u16 n).wf = true) : 0 ≤ n ∧ n < 65536 := by
  simp [Lit.wf, IntKind.min, IntKind.max, IntKind.signed, IntKind.bits] at h
  omega
theorem ModesRoundTrip (l0 : List S33) (a1 : Int) (a2 : Int) (l3 : List Bool) (h0 : l0.length ≤ maxLen) (h1 : ∀ y ∈ l0, (Lit.int .i64 y.f0).wf = true ∧ y.f1.length ≤ maxLen ∧ ∀ c ∈ y.f1, (Lit.int .u8 c).wf = true) (h2 : (Lit.int .u8 a1).wf = true) (h3 : (Lit.int .u16 a2).wf = true) (h4 : l3.length ≤ maxLen) (h5 : ∀ y ∈ l3, True) : ∃ k, X.barscanlaw16_ModesRoundTrip.f k l0 a1 a2 l3 = some true := by
  have hb : ∀ s ∈ l0, ∀ x ∈ s.f1, 0 ≤ x ∧ x < 256 := fun s hs x hx => wf8 ((h1 s hs).2.2 x hx)
  obtain ⟨c, hc, c0, c2⟩ := class3 h2
  obtain ⟨z, hz, hz2⟩ : ∃ z : Nat, wrap64 (Int.tmod a2 300) = (z : Int) ∧ z < 300 := by
    obtain ⟨b0, b1⟩ := wf16 h3
    refine ⟨(a2 % 300).toNat, ?_, by omega⟩
    rw [Int.tmod_eq_emod_of_nonneg b0]
    exact w_is (by omega) (by omega) (by omega)
  clear h0 h1 h2 h3 h4 h5
  refine Ev.rounds ?_
  unfold X.barscanlaw16_ModesRoundTrip.f
  rw [hc]
  refine ev_is (a := mbits l0 c) rfl (Ev.bind (small_ev l0) ?_)
  have bad : ∀ b, b = true → Ev (fun k => barscanlaw16_ModesRoundTrip.j0 k l0 a2 l3 c (mbits l0 c).1 b) true := by
    intro b hb
    refine Ev.step (fun k => by rw [barscanlaw16_ModesRoundTrip.j0]) ?_
    exact ev_if hb (ev_some (Ev.now _))
  refine ev_cond (fun e => ?_) (fun _ => bad _ rfl)
  refine ev_cond (fun e1 => ?_) (fun _ => bad _ rfl)
  by_cases e2 : (l3.length : Int) > 300
  · exact bad _ (by simpa using e2)
  obtain ⟨hl, hd⟩ := smallL_iff e
  obtain ⟨_, hv, _, hm⟩ := bits_okSegs e1
  have hlen := encAll_length c l0
  have hsum : sumBits c l0 ≤ 50000 := by
    have : ∀ l : List S33, (∀ s ∈ l, s.f1.length ≤ 150) → sumBits c l ≤ 1220 * l.length := by
      intro l
      induction l with
      | nil => intro _; simp [sumBits]
      | cons s l ih =>
        intro h
        have a := ih (fun s hs => h s (by simp [hs]))
        have b := h s (by simp)
        have d := dbOf_range s.f0 s.f1.length (by omega)
        have e := cbOf_range s.f0 c
        simp only [sumBits, segBits, List.length_cons]
        omega
    have := this l0 hd
    omega
  have hE : encR l0 c = (encAll c l0, 0) := by unfold encR; rw [if_pos e1]
  refine Ev.step (fun k => by rw [barscanlaw16_ModesRoundTrip.j0]) ?_
  refine ev_else (by simpa using e2) (ev_is (a := encR l0 c) rfl ?_)
  rw [hE, hm]
  refine ev_if (by simp only [List.length_nil]; omega) ?_
  rw [List.nil_append]
  have t1 := trip_zeros ⟨c0, c2⟩ hv hb (by omega) z (by omega)
  have t2 := trip_end ⟨c0, c2⟩ hv hb (by omega) l3 (by omega)
  have hs := segSame_ev l0 (by omega)
  have key : ∀ (d i : Nat), i + d = z → Ev (fun k => barscanlaw16_ModesRoundTrip.l0 k l0 a2 l3 c (sumBits c l0) (encAll c l0) 0 (encAll c l0 ++ List.replicate i false) (i : Int)) true := by
    intro d
    induction d with
    | zero =>
      intro i hi
      obtain rfl : i = z := by omega
      refine Ev.step (fun k => by rw [barscanlaw16_ModesRoundTrip.l0]) ?_
      rw [hz]
      refine ev_else (by omega) (ev_if (by simp only [List.length_nil]; omega) (ev_some (ev_some ?_)))
      simp only [List.nil_append]
      refine ev_if (by simp only [List.length_cons, List.length_nil]; omega) (ev_some ?_)
      refine ev_if (by simp only [List.length_append, List.length_cons, List.length_nil]; omega) ?_
      refine ev_is (a := (l0, 0)) (congrArg some t1) (ev_is (a := (l0, 0)) (congrArg some (by rw [List.append_assoc]; exact t2)) ?_)
      refine ev_if trivial (ev_if rfl (ev_if rfl (ev_if hlen ?_)))
      exact Ev.bind hs (ev_if rfl (Ev.bind hs (ev_if rfl (ev_some (Ev.now _)))))
    | succ d ih =>
      intro i hi
      have ih := ih (i + 1) (by omega)
      rw [List.replicate_succ', ← List.append_assoc] at ih
      refine Ev.step (fun k => by rw [barscanlaw16_ModesRoundTrip.l0]) ?_
      rw [hz]
      refine ev_if (by omega) (ev_if (by rw [List.length_append, List.length_replicate]; omega) ?_)
      rw [show wrap64 ((i : Int) + 1) = ((i + 1 : Nat) : Int) from w_is (by omega) (by omega) (by omega)]
      exact ih
  have h0 := key z 0 (by omega)
  rw [List.replicate_zero, List.append_nil] at h0
  exact h0
end Go.Proofs.Ytagmncdbiljacaa.Pure
