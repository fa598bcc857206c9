/- The reference's Bits, Join and the statements' 'small', in plain Lean. No condition. -/
import Derived.Test.YtagmncdbiljacaaYMOpt
import Derived.Test.YtagmncdbiljacaaXx19
namespace Go.Proofs.Ytagmncdbiljacaa.X
open Go.RowKit Go.Proofs.YtagmncdbiljacaaW.PrintWords Go.Proofs.YtagmncdbiljacaaW.PrintLast Go.Proofs.YtagmncdbiljacaaW.PrintMore
set_option linter.unusedVariables false
set_option linter.unusedSimpArgs false

theorem rdS_at (l : List S33) (i : Nat) (h : i < l.length) : rd_T33 l (i : Int) = l[i] := by
  unfold rd_T33
  rw [show ((i : Int)).toNat = i by omega]
  simp [List.getD_eq_getElem?_getD, h]
theorem any_at {α : Type} {p : α → Bool} {l : List α} {i : Nat} (hi : i < l.length) (hp : p l[i] = true) : l.any p = true := List.any_eq_true.mpr ⟨l[i], List.getElem_mem hi, hp⟩
theorem rd_ofNat (l : List Int) (i : Nat) (h : i < l.length) : rd l (i : Int) = l[i] := by simp [rd, List.getElem?_eq_getElem h]
theorem any_full {α : Type} {p : α → Bool} {l : List α} {i : Nat} (hi : l.length ≤ i) (h : (l.take i).any p = false) : l.any p = false := by rwa [List.take_of_length_le hi] at h
theorem mbits_le {l : List S33} {cls : Int} (h : (mbits l cls).2 = 0) : sumBits cls l ≤ 1048576 := by
  unfold mbits at h
  split at h
  · simp at h
  split at h
  · simp at h
  split at h
  · simp at h
  split at h
  · simp at h
  · omega
theorem sumBits_take (cls : Int) (l : List S33) (i : Nat) (h : i < l.length) : sumBits cls (l.take (i + 1)) = sumBits cls (l.take i) + segBits cls l[i] := by
  rw [List.take_succ_eq_append_getElem h, sumBits_append]
  simp [sumBits]

section
variable (l : List S33) (c : Int) (hc : 0 ≤ c ∧ c ≤ 2) (hb : ∀ s ∈ l, ∀ x ∈ s.f1, 0 ≤ x ∧ x < 256)

theorem refBits_l3 (i : Nat) (acc : Int) (hi : i < l.length) (hb : ∀ s ∈ l, ∀ x ∈ s.f1, 0 ≤ x ∧ x < 256) (hcb : cbOf l[i].f0 c ≠ 0) (hlen : l[i].f1.length ≤ 1000000) (r : Int × Int) (hbad : badChar l[i] = true → r = (0, 6))
    (hok : badChar l[i] = false → Ev (fun k => barscanref16_Bits.l2 k l c (wrap64 (acc + segBits c l[i])) (wrap64 ((i : Int) + 1))) r) : ∀ (d j : Nat), j + d = l[i].f1.length → (l[i].f1.take j).any (fun x => !fitOf l[i].f0 x) = false → Ev (fun k => barscanref16_Bits.l3 k l c acc (i : Int) (j : Int)) r := by
  intro d
  induction d with
  | zero =>
    intro j hj hp
    refine Ev.step (fun k => by rw [barscanref16_Bits.l3]) ?_
    rw [rdS_at l i hi]
    refine ev_if (by omega) (ev_if (by omega) (ev_else (by omega) ?_))
    exact Ev.bind (refSize_ev _ c _ hcb (by omega) (by omega)) (hok (any_full (by omega) hp))
  | succ d ih =>
    intro j hj hp
    have hlt : j < l[i].f1.length := by omega
    refine Ev.step (fun k => by rw [barscanref16_Bits.l3]) ?_
    rw [rdS_at l i hi, rd_ofNat _ j hlt]
    refine ev_if (by omega) (ev_if (by omega) (ev_if (by omega) (ev_if (by omega) ?_)))
    have hx := hb l[i] (List.getElem_mem hi) l[i].f1[j] (List.getElem_mem hlt)
    refine Ev.bind (refFits_ev _ _ hx.1 hx.2) ?_
    by_cases e : fitOf l[i].f0 l[i].f1[j] = true
    · refine ev_if e ?_
      rw [show wrap64 ((j : Int) + 1) = ((j + 1 : Nat) : Int) from w_is (by omega) (by omega) (by omega)]
      exact ih (j + 1) (by omega) (any_take_succ _ _ _ hlt hp (by simp [e]))
    · refine ev_else e ?_
      rw [hbad (by unfold badChar; exact any_at hlt (by simp [e]))]
      exact Ev.now _
theorem refBits_l2 (hl : l.length ≤ 4096) (hb : ∀ s ∈ l, ∀ x ∈ s.f1, 0 ≤ x ∧ x < 256) (hbm : l.any (badMode c) = false) (htl : l.any (tooLong c) = false) (r : Int × Int) (hr : r = if l.any badChar = true then (0, 6) else if 1048576 < sumBits c l then (0, 4) else (sumBits c l, 0)) :
    ∀ (d i : Nat), i + d = l.length → (l.take i).any badChar = false → Ev (fun k => barscanref16_Bits.l2 k l c (sumBits c (l.take i)) (i : Int)) r := by
  have hs := sumBits_range c l htl
  intro d
  induction d with
  | zero =>
    intro i hi hp
    refine Ev.step (fun k => by rw [barscanref16_Bits.l2]) ?_
    refine ev_else (by omega) ?_
    have hp := any_full (by omega) hp
    rw [if_neg (by rw [hp]; simp)] at hr
    rw [List.take_of_length_le (by omega)]
    refine ev_cond (fun e => ?_) (fun e => ?_)
    · rw [hr, if_pos e]; exact Ev.now _
    · rw [hr, if_neg e]; exact Ev.now _
  | succ d ih =>
    intro i hi hp
    have hlt : i < l.length := by omega
    have hm : l[i] ∈ l := List.getElem_mem hlt
    have h1 := List.any_eq_false.mp hbm l[i] hm
    have h2 : tooLong c l[i] = false := by simpa using List.any_eq_false.mp htl l[i] hm
    have h3 := segBits_range c l[i] h2
    have h4 : (l.take (i + 1)).any (tooLong c) = false := List.any_eq_false.mpr fun x hx => List.any_eq_false.mp htl x (List.mem_of_mem_take hx)
    have h5 := sumBits_range c _ h4
    have h6 : (l.take (i + 1)).length ≤ 4096 := by rw [List.length_take]; omega
    refine Ev.step (fun k => by rw [barscanref16_Bits.l2]) ?_
    refine ev_if (by omega) ?_
    refine refBits_l3 l c i _ hlt hb (by unfold badMode at h1; simpa using h1) (by omega) r (fun e => ?_) (fun e => ?_) l[i].f1.length 0 (by omega) (by simp)
    · rw [hr, if_pos (any_at hlt e)]
    · rw [← sumBits_take c l i hlt, w_is rfl (by omega) (by omega), show wrap64 ((i : Int) + 1) = ((i + 1 : Nat) : Int) from w_is (by omega) (by omega) (by omega)]
      exact ih (i + 1) (by omega) (any_take_succ _ _ _ hlt hp e)
theorem refBits_l1 (hl : l.length ≤ 4096) (hb : ∀ s ∈ l, ∀ x ∈ s.f1, 0 ≤ x ∧ x < 256) (hbm : l.any (badMode c) = false) (r : Int × Int) (hr : r = if l.any (tooLong c) = true then (0, 4) else if l.any badChar = true then (0, 6) else if 1048576 < sumBits c l then (0, 4) else (sumBits c l, 0)) :
    ∀ (d i : Nat), i + d = l.length → (l.take i).any (tooLong c) = false → Ev (fun k => barscanref16_Bits.l1 k l c (i : Int)) r := by
  intro d
  induction d with
  | zero =>
    intro i hi hp
    have hp := any_full (by omega) hp
    refine Ev.step (fun k => by rw [barscanref16_Bits.l1]) ?_
    refine ev_else (by omega) ?_
    rw [if_neg (by rw [hp]; simp)] at hr
    exact refBits_l2 l c hl hb hbm hp r hr l.length 0 (by omega) (by simp)
  | succ d ih =>
    intro i hi hp
    have hlt : i < l.length := by omega
    have h1 := List.any_eq_false.mp hbm l[i] (List.getElem_mem hlt)
    have hcb : cbOf l[i].f0 c ≠ 0 := by unfold badMode at h1; simpa using h1
    have hpw : ((2 ^ (cbOf l[i].f0 c).toNat : Nat) : Int) = (2 : Int) ^ (cbOf l[i].f0 c).toNat := by simp
    refine Ev.step (fun k => by rw [barscanref16_Bits.l1]) ?_
    rw [rdS_at l i hlt]
    refine ev_if (by omega) (ev_if (by omega) (Ev.bind (refMost_ev _ c hcb) ?_))
    refine ev_cond (fun e => ?_) (fun e => ?_)
    · rw [hr, if_pos (any_at hlt (decide_eq_true (by omega)))]; exact Ev.now _
    · rw [show wrap64 ((i : Int) + 1) = ((i + 1 : Nat) : Int) from w_is (by omega) (by omega) (by omega)]
      exact ih (i + 1) (by omega) (any_take_succ _ _ _ hlt hp (decide_eq_false (by omega)))
theorem refBits_ev (hl : l.length ≤ 1000000) (hb : ∀ s ∈ l, ∀ x ∈ s.f1, 0 ≤ x ∧ x < 256) : Ev (fun k => barscanref16_Bits.f k l c) (mbits l c) := by
  unfold barscanref16_Bits.f
  have bad : c < 0 ∨ 2 < c → ∀ b, b = true → Ev (fun k => barscanref16_Bits.j0 k l c b) (mbits l c) := by
    intro h b hb
    refine Ev.step (fun k => by rw [barscanref16_Bits.j0]) ?_
    refine ev_if hb ?_
    unfold mbits
    rw [if_pos (by omega)]
    exact Ev.now _
  refine ev_cond (fun e => bad (.inl e) _ rfl) (fun e => ?_)
  by_cases e2 : 2 < c
  · exact bad (.inr e2) _ (by simpa using e2)
  refine Ev.step (fun k => by rw [barscanref16_Bits.j0]) ?_
  refine ev_else (by simpa using e2) ?_
  have key : ∀ (d i : Nat), i + d = l.length → (l.take i).any (badMode c) = false → Ev (fun k => barscanref16_Bits.l0 k l c (i : Int)) (mbits l c) := by
    intro d
    induction d with
    | zero =>
      intro i hi hp
      have hp := any_full (by omega) hp
      refine Ev.step (fun k => by rw [barscanref16_Bits.l0]) ?_
      refine ev_else (by omega) ?_
      unfold mbits
      rw [if_neg (by rw [hp]; simp; omega)]
      refine ev_cond (fun e => ?_) (fun e => ?_)
      · rw [if_pos (by omega)]; exact Ev.now _
      · refine refBits_l1 l c (by omega) hb hp _ ?_ l.length 0 (by omega) (by simp)
        by_cases e3 : l.any (tooLong c) = true
        · rw [if_pos (.inr e3), if_pos e3]
        · rw [if_neg (fun h => h.elim (fun h => e (by omega)) e3), if_neg e3]
    | succ d ih =>
      intro i hi hp
      have hlt : i < l.length := by omega
      refine Ev.step (fun k => by rw [barscanref16_Bits.l0]) ?_
      rw [rdS_at l i hlt]
      refine ev_if (by omega) (ev_if (by omega) (ev_is (known_is _) ?_))
      have hk := cbOf_known l[i].f0 c
      by_cases e3 : l[i].f0 = 1 ∨ l[i].f0 = 2 ∨ l[i].f0 = 4
      · refine ev_if (decide_eq_true e3) ?_
        rw [show wrap64 ((i : Int) + 1) = ((i + 1 : Nat) : Int) from w_is (by omega) (by omega) (by omega)]
        refine ih (i + 1) (by omega) (any_take_succ _ _ _ hlt hp (decide_eq_false fun h => ?_))
        exact hk.mp h ⟨e3, by omega, by omega⟩
      · refine ev_else (by simp [e3]) ?_
        have : l.any (badMode c) = true := any_at hlt (decide_eq_true (hk.mpr fun h => e3 h.1))
        unfold mbits
        rw [if_pos (.inr (.inr this))]
        exact Ev.now _
  exact key l.length 0 (by omega) (by simp)
end
end Go.Proofs.Ytagmncdbiljacaa.X
