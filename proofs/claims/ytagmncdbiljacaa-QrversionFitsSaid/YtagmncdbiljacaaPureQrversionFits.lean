/- The pure law of QrversionFits. No condition. -/
import Derived.Test.YtagmncdbiljacaaXx46
import Derived.Test.YtagmncdbiljacaaYQSmall
namespace Go.Proofs.Ytagmncdbiljacaa.Pure
open Go.RowKit Go.Proofs.Ytagmncdbiljacaa.X Go.Proofs.YtagmncdbiljacaaW.PrintWords Go.Proofs.YtagmncdbiljacaaW.PrintLast Go.Proofs.YtagmncdbiljacaaW.PrintMore
set_option linter.unusedVariables false
set_option linter.unusedSimpArgs false

theorem rdS_at (l : List S33) (i : Nat) (h : i < l.length) : rd_T33 l (i : Int) = l[i] := by
  unfold rd_T33
  rw [show ((i : Int)).toNat = i by omega]
  simp [List.getD_eq_getElem?_getD, h]
theorem joinD_take (l : List S33) (i : Nat) (h : i < l.length) : joinD (l.take (i + 1)) = joinD (l.take i) ++ l[i].f1 := by
  unfold joinD
  rw [List.take_succ_eq_append_getElem h, List.flatMap_append]
  simp
theorem joinD_take_le (l : List S33) (i : Nat) : (joinD (l.take i)).length ≤ (joinD l).length := by
  conv => rhs; rw [← List.take_append_drop i l]
  unfold joinD
  rw [List.flatMap_append, List.length_append]
  omega
theorem join_ev (l : List S33) (hl : l.length ≤ 100000000000) (hj : (joinD l).length < 140737488355328) : Ev (fun k => modes_Join.f k l) (joinD l) := by
  have key : ∀ (d i : Nat), i + d = l.length → Ev (fun k => modes_Join.l0 k (joinD (l.take i)) l (l.length : Int) (i : Int)) (joinD l) := by
    intro d
    induction d with
    | zero =>
      intro i hi
      refine Ev.step (fun k => by rw [modes_Join.l0]) ?_
      refine ev_else (by omega) ?_
      rw [List.take_of_length_le (by omega)]
      exact Ev.now _
    | succ d ih =>
      intro i hi
      have hlt : i < l.length := by omega
      have h1 := joinD_take l i hlt
      have h2 := joinD_take_le l (i + 1)
      refine Ev.step (fun k => by rw [modes_Join.l0]) ?_
      rw [rdS_at l i hlt]
      refine ev_if (by omega) (ev_if (by omega) (ev_if (by omega) (ev_if (by rw [h1, List.length_append] at h2; omega) ?_)))
      rw [← h1, show wrap64 ((i : Int) + 1) = ((i + 1 : Nat) : Int) from w_is (by omega) (by omega) (by omega)]
      exact ih (i + 1) (by omega)
  unfold modes_Join.f
  exact key l.length 0 (by omega)
theorem capacityE_in {v lv : Int} (h1 : 1 ≤ v) (h2 : v ≤ 40) (l1 : 1 ≤ lv) (l4 : lv ≤ 4) : qrversion_Capacity.f v lv = some (capOf v lv, 0) := by
  unfold qrversion_Capacity.f qrversion_level.f qrversion_valid.f
  rw [if_pos h1, decide_eq_true h2]
  simp only [Option.bind_some, if_true]
  rw [if_neg (by omega), if_neg (by omega)]
  simp only [Option.bind_some, if_true]
  rw [capacity_in h1 h2 l1 l4]
  rfl
section
variable (p : List Int) (hp : p.length ≤ 700) (lv ex : Int) (l1 : 1 ≤ lv) (l4 : lv ≤ 4) (V : Int) (S : List S33) (E last : Int)
include hp l1 l4
theorem fits_loop (hlast : last ≤ 40) (hno : ∀ u, 1 ≤ u → u ≤ last → ((E = 0 ∧ u = V) ∧ roomy p lv ex u ∧ S = cutD (clsOf V) p.length p) ∨ (¬ (E = 0 ∧ u = V) ∧ u ≠ V ∧ ¬ roomy p lv ex u)) :
    ∀ (d : Nat) (v : Int), v + d = last + 1 → 1 ≤ v → Ev (fun k => barscanlaw17_QrversionFits.l0 k p lv ex V S E last v) true := by
  intro d
  induction d with
  | zero =>
    intro v h1 h2
    refine Ev.step (fun k => by rw [barscanlaw17_QrversionFits.l0]) ?_
    exact ev_else (by omega) (ev_some (Ev.now _))
  | succ d ih =>
    intro v h1 h2
    have v40 : v ≤ 40 := by omega
    have hvl : v ≤ last := by omega
    have hcl := clsOf_range v
    have hcap := cap_range (v := v) (lv := lv) h2 v40 l1 l4
    have hB := best_range hcl p (by omega)
    obtain ⟨i1, i2, i3, i4, i5⟩ := cut_props hcl p.length p (Nat.le_refl _) (by omega)
    have hmb := okSegs_bits hcl i1 (by omega) (by omega)
    have hj := join_ev (cutD (clsOf v) p.length p) (by omega) (by rw [i2]; omega)
    rw [i2] at hj
    have hb : bestR p (clsOf v) = (cutD (clsOf v) p.length p, (best (clsOf v) p).f0, 0) := by
      unfold bestR
      rw [if_neg (by omega), if_neg (by omega)]
    have hbe := best_ev p (clsOf v)
    rw [hb] at hbe
    have ih := ih (v + 1) (by omega) (by omega)
    have hn := hno v h2 hvl
    have wv : wrap64 (v + 1) = v + 1 := w_is rfl (by omega) (by omega)
    have w8 : wrap64 (8 * capOf v lv) = 8 * capOf v lv := by clear wv; exact w_is rfl (by omega) (by omega)
    have wb : wrap64 (8 * capOf v lv - (best (clsOf v) p).f0) = 8 * capOf v lv - (best (clsOf v) p).f0 := by clear wv w8; exact w_is rfl (by omega) (by omega)
    rw [← wv] at ih
    clear wv hcap hB hno
    refine Ev.step (fun k => by rw [barscanlaw17_QrversionFits.l0]) ?_
    refine ev_if hvl (Ev.bind (class_in h2 v40) (Ev.bind hbe (ev_is (capacityE_in h2 v40 l1 l4) (ev_if rfl (ev_if rfl (ev_if rfl ?_))))))
    have good : (E = 0 ∧ v = V) ∧ roomy p lv ex v ∧ S = cutD (clsOf V) p.length p → ∀ b, b = false → Ev (fun k => barscanlaw17_QrversionFits.j2 k p lv ex V S E last v (clsOf v) (best (clsOf v) p).f0 b) true := by
      rintro ⟨⟨hE, hV⟩, hr, hS⟩ b hbf
      refine Ev.step (fun k => by rw [barscanlaw17_QrversionFits.j2]) ?_
      refine ev_else (by rw [hbf]; decide) (ev_if hV ?_)
      rw [hS, ← hV] at ih ⊢
      refine ev_is (a := mbits (cutD (clsOf v) p.length p) (clsOf v)) rfl ?_
      rw [hmb]
      exact ev_if rfl (ev_if i3 (Ev.bind hj (ev_if rfl ih)))
    have none : v ≠ V → ∀ b, b = false → Ev (fun k => barscanlaw17_QrversionFits.j2 k p lv ex V S E last v (clsOf v) (best (clsOf v) p).f0 b) true := by
      intro hV b hbf
      refine Ev.step (fun k => by rw [barscanlaw17_QrversionFits.j2]) ?_
      exact ev_else (by rw [hbf]; decide) (ev_else hV ih)
    have hw : wrap64 (wrap64 (8 * capOf v lv) - (best (clsOf v) p).f0) = 8 * capOf v lv - (best (clsOf v) p).f0 := by rw [w8, wb]
    show Ev (fun k => if E = 0 then barscanlaw17_QrversionFits.j2 k p lv ex V S E last v (clsOf v) (best (clsOf v) p).f0 (decide (ex ≤ wrap64 (wrap64 (8 * capOf v lv) - (best (clsOf v) p).f0)) != (v == V)) else barscanlaw17_QrversionFits.j2 k p lv ex V S E last v (clsOf v) (best (clsOf v) p).f0 (decide (ex ≤ wrap64 (wrap64 (8 * capOf v lv) - (best (clsOf v) p).f0)) != false)) true
    rw [hw]
    rcases hn with hn | ⟨hn, hv, hr⟩
    · have hr := hn.2.1
      unfold roomy at hr
      refine ev_if hn.1.1 (good hn _ ?_)
      rw [decide_eq_true hr, hn.1.2]
      simp
    · unfold roomy at hr
      refine ev_cond (fun _ => none hv _ ?_) (fun _ => none hv _ ?_)
      · rw [decide_eq_false hr]
        have : (v == V) = false := by simpa using hv
        rw [this]
        rfl
      · rw [decide_eq_false hr]
        rfl
end
theorem QrversionFits : barscanlaw17_QrversionFits.Pure := by
  intro l0 a1 a2 _ _ _ _ _
  refine Ev.rounds ?_
  unfold barscanlaw17_QrversionFits.f
  refine ev_cond (fun _ => ev_some (Ev.now _)) (fun e => ?_)
  have hp : l0.length ≤ 700 := by omega
  refine Ev.bind (small17_ev l0 a1 a2) ?_
  unfold smallR
  by_cases e1 : a1 < 1 ∨ 4 < a1
  · rw [if_pos e1]
    exact ev_else (by decide) (ev_else (by decide) (ev_if rfl (ev_if rfl (ev_some (Ev.now _)))))
  rw [if_neg e1]
  by_cases e2 : a2 < 0
  · rw [if_pos e2]
    exact ev_else (by decide) (ev_else (by decide) (ev_if rfl (ev_if rfl (ev_some (Ev.now _)))))
  rw [if_neg e2, if_neg (by omega)]
  rcases smD_props l0 a1 a2 40 1 (by decide) with ⟨v', h1, h2, h3, h4, h5⟩ | ⟨h1, h2⟩
  · rw [h3]
    refine ev_if rfl (Ev.step (fun k => by rw [barscanlaw17_QrversionFits.j0]) ?_)
    refine fits_loop l0 hp a1 a2 (by omega) (by omega) v' _ 0 v' h2 (fun u u1 u2 => ?_) v'.toNat 1 (by omega) (by decide)
    by_cases eu : u = v'
    · rw [eu]
      exact .inl ⟨⟨rfl, rfl⟩, h4, rfl⟩
    · exact .inr ⟨fun h => eu h.2, eu, h5 u u1 (by omega)⟩
  · rw [h1]
    refine ev_else (by decide) (ev_if rfl (Ev.step (fun k => by rw [barscanlaw17_QrversionFits.j0]) ?_))
    refine fits_loop l0 hp a1 a2 (by omega) (by omega) 0 _ 16 40 (by decide) (fun u u1 u2 => ?_) 40 1 (by decide) (by decide)
    exact .inr ⟨fun h => by omega, by omega, h2 u u1 u2⟩
end Go.Proofs.Ytagmncdbiljacaa.Pure
