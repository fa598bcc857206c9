/- The pure law of QrversionSmallest. No condition. -/
import Derived.Test.YtagmncdbiljacaaXx18
import Derived.Test.YtagmncdbiljacaaYQSmall
import Derived.Test.YtagmncdbiljacaaYMRefBest
import Derived.Test.YtagmncdbiljacaaYGval
namespace Go.Proofs.Ytagmncdbiljacaa.Pure
open Go.RowKit Go.Proofs.Ytagmncdbiljacaa.X Go.Proofs.YtagmncdbiljacaaW.PrintWords Go.Proofs.YtagmncdbiljacaaW.PrintLast Go.Proofs.YtagmncdbiljacaaW.PrintMore
set_option linter.unusedVariables false
set_option linter.unusedSimpArgs false

theorem rcap_all : ∀ n : Nat, n < 40 → ∀ l : Nat, l < 4 → barscanref17_Capacity.f ((n : Int) + 1) ((l : Int) + 1) = some (capOf ((n : Int) + 1) ((l : Int) + 1), 0) := by decide +kernel
theorem rcap_in {v lv : Int} (h1 : 1 ≤ v) (h2 : v ≤ 40) (l1 : 1 ≤ lv) (l4 : lv ≤ 4) : barscanref17_Capacity.f v lv = some (capOf v lv, 0) := by
  have := rcap_all (v - 1).toNat (by omega) (lv - 1).toNat (by omega)
  rwa [show (((v - 1).toNat : Nat) : Int) + 1 = v by omega, show (((lv - 1).toNat : Nat) : Int) + 1 = lv by omega] at this
theorem seg17_ev (l : List S33) (hl : l.length ≤ 1000000) : Ev (fun k => barscanref17_Segments.f k l l) true := by
  have key : ∀ (d i : Nat), i + d = l.length → Ev (fun k => barscanref17_Segments.l0 k l l (i : Int)) true := by
    intro d
    induction d with
    | zero =>
      intro i hi
      refine Ev.step (fun k => by rw [barscanref17_Segments.l0]) ?_
      exact ev_else (by omega) (Ev.now _)
    | succ d ih =>
      intro i hi
      have ih := ih (i + 1) (by omega)
      refine Ev.step (fun k => by rw [barscanref17_Segments.l0]) ?_
      refine ev_if (by omega) (ev_if (by omega) (ev_if (by omega) (ev_if rfl (ev_if rfl ?_))))
      rw [show wrap64 ((i : Int) + 1) = ((i + 1 : Nat) : Int) from w_is (by omega) (by omega) (by omega)]
      exact ih
  unfold barscanref17_Segments.f
  exact ev_if rfl (key l.length 0 (by omega))
section
variable (p : List Int) (hp : p.length ≤ 4096) (hb : ∀ x ∈ p, 0 ≤ x ∧ x < 256) (lv ex : Int) (l1 : 1 ≤ lv) (l4 : lv ≤ 4)
include hp l1 l4
theorem ref_l1 (c lo hi : Int) (c0 : 0 ≤ c) (c2 : c ≤ 2) (hlo : 1 ≤ lo) (hhi : hi ≤ 41) (hcl : ∀ v, lo ≤ v → v < hi → clsOf v = c) (hrd : rd [1, 10, 27, 41] (c + 1) = hi) (hn : Ev (fun k => barscanref17_Smallest.l0 k p lv ex [1, 10, 27, 41] (c + 1)) (smD p lv ex (41 - hi).toNat hi)) :
    ∀ (d : Nat) (v : Int), v + d = hi → lo ≤ v → Ev (fun k => barscanref17_Smallest.l1 k p lv ex [1, 10, 27, 41] c (cutD c p.length p) (best c p).f0 v) (smD p lv ex (41 - v).toNat v) := by
  have wc : wrap64 (c + 1) = c + 1 := w_is rfl (by omega) (by omega)
  intro d
  induction d with
  | zero =>
    intro v h1 h2
    obtain rfl : v = hi := by clear wc; omega
    have z1 : 0 ≤ c + 1 := by clear wc; omega
    have z2 : c + 1 < (([1, 10, 27, 41] : List Int).length : Int) := by clear wc; show c + 1 < 4; omega
    refine Ev.step (fun k => by rw [barscanref17_Smallest.l1]) ?_
    rw [wc, hrd]
    exact ev_if z1 (ev_if z2 (ev_else (Int.lt_irrefl _) hn))
  | succ d ih =>
    intro v h1 h2
    have z1 : 0 ≤ c + 1 := by clear wc; omega
    have z2 : c + 1 < (([1, 10, 27, 41] : List Int).length : Int) := by clear wc; show c + 1 < 4; omega
    have z3 : v < hi := by clear wc; omega
    have z4 : 1 ≤ v := by clear wc; omega
    have z5 : v ≤ 40 := by clear wc; omega
    have hc := hcl v h2 z3
    have ih := ih (v + 1) (by clear wc; omega) (by clear wc; omega)
    have e1 : (41 - v).toNat = (41 - (v + 1)).toNat + 1 := by clear wc; omega
    rw [e1]
    unfold smD
    have hB := best_range (cls := c) ⟨c0, c2⟩ p hp
    have hcap := cap_range z4 z5 l1 l4
    have wv : wrap64 (v + 1) = v + 1 := by clear wc; exact w_is rfl (by omega) (by omega)
    have w8 : wrap64 (8 * capOf v lv) = 8 * capOf v lv := by clear wc wv; exact w_is rfl (by omega) (by omega)
    have wb : wrap64 (8 * capOf v lv - (best c p).f0) = 8 * capOf v lv - (best c p).f0 := by clear wc wv w8; exact w_is rfl (by omega) (by omega)
    refine Ev.step (fun k => by rw [barscanref17_Smallest.l1]) ?_
    rw [wc, hrd, wv]
    refine ev_if z1 (ev_if z2 (ev_if z3 (ev_is (rcap_in z4 z5 l1 l4) ?_)))
    show Ev (fun k => if ex ≤ wrap64 (wrap64 (8 * capOf v lv) - (best c p).f0) then _ else _) _
    rw [w8, wb]
    have hr : roomy p lv ex v ↔ ex ≤ 8 * capOf v lv - (best c p).f0 := by unfold roomy; rw [hc]
    rw [hc]
    refine ev_cond (fun e => ?_) (fun e => ?_)
    · rw [if_pos (hr.mpr e)]; exact Ev.now _
    · rw [if_neg (fun h => e (hr.mp h))]; exact ih
include hb in
theorem ref_l0 (c lo hi : Int) (c0 : 0 ≤ c) (c2 : c ≤ 2) (hlo : 1 ≤ lo) (hlh : lo ≤ hi) (hhi : hi ≤ 41) (hcl : ∀ v, lo ≤ v → v < hi → clsOf v = c) (hrl : rd [1, 10, 27, 41] c = lo) (hrd : rd [1, 10, 27, 41] (c + 1) = hi) (hn : Ev (fun k => barscanref17_Smallest.l0 k p lv ex [1, 10, 27, 41] (c + 1)) (smD p lv ex (41 - hi).toNat hi)) :
    Ev (fun k => barscanref17_Smallest.l0 k p lv ex [1, 10, 27, 41] c) (smD p lv ex (41 - lo).toNat lo) := by
  have h := ref_l1 p hp lv ex l1 l4 c lo hi c0 c2 hlo hhi hcl hrd hn (hi - lo).toNat lo (by omega) (by omega)
  have hbr : bestR p c = (cutD c p.length p, (best c p).f0, 0) := by
    unfold bestR
    rw [if_neg (by omega), if_neg (by omega)]
  have hbe := refBest_ev p c hb
  rw [hbr] at hbe
  refine Ev.step (fun k => by rw [barscanref17_Smallest.l0]) ?_
  rw [hrl]
  exact ev_if (by omega) (Ev.bind hbe (ev_if rfl (ev_if c0 (ev_if (by show c < 4; omega) h))))
end
theorem ref17_ev (p : List Int) (hb : ∀ x ∈ p, 0 ≤ x ∧ x < 256) (lv ex : Int) : Ev (fun k => barscanref17_Smallest.f k p lv ex) (smallR p lv ex) := by
  unfold barscanref17_Smallest.f smallR
  have bad : lv < 1 ∨ 4 < lv → ∀ b, b = true → Ev (fun k => barscanref17_Smallest.j0 k p lv ex b) ((0 : Int), ([] : List S33), (15 : Int)) := by
    intro h b hb
    refine Ev.step (fun k => by rw [barscanref17_Smallest.j0]) ?_
    exact ev_if hb (Ev.now _)
  refine ev_cond (fun e => ?_) (fun e => ?_)
  · rw [if_pos (.inl e)]
    exact bad (.inl e) _ rfl
  by_cases e1 : 4 < lv
  · rw [if_pos (.inr e1)]
    exact bad (.inr e1) _ (by simpa using e1)
  rw [if_neg (by omega)]
  refine Ev.step (fun k => by rw [barscanref17_Smallest.j0]) ?_
  refine ev_else (by simpa using e1) ?_
  refine ev_cond (fun e2 => ?_) (fun e2 => ?_)
  · rw [if_pos e2]; exact Ev.now _
  rw [if_neg e2]
  by_cases e3 : 4096 < p.length
  · rw [if_pos e3]
    have hbr : bestR p 0 = ([], 0, 4) := by
      unfold bestR
      rw [if_neg (by omega), if_pos e3]
    have hbe := refBest_ev p 0 hb
    rw [hbr] at hbe
    refine Ev.step (fun k => by rw [barscanref17_Smallest.l0]) ?_
    exact ev_if (by decide) (Ev.bind hbe (ev_else (by decide) (Ev.now _)))
  rw [if_neg e3]
  have h3 : Ev (fun k => barscanref17_Smallest.l0 k p lv ex [1, 10, 27, 41] 3) (smD p lv ex (41 - 41 : Int).toNat 41) := by
    refine Ev.step (fun k => by rw [barscanref17_Smallest.l0]) ?_
    exact ev_else (by decide) (Ev.now _)
  have h2 := ref_l0 p (by omega) hb lv ex (by omega) (by omega) 2 27 41 (by decide) (by decide) (by decide) (by decide) (by decide) (fun v a b => by unfold clsOf; rw [if_neg (by omega), if_neg (by omega)]) rfl rfl h3
  have h1 := ref_l0 p (by omega) hb lv ex (by omega) (by omega) 1 10 27 (by decide) (by decide) (by decide) (by decide) (by decide) (fun v a b => by unfold clsOf; rw [if_neg (by omega), if_pos (by omega)]) rfl rfl h2
  exact ref_l0 p (by omega) hb lv ex (by omega) (by omega) 0 1 10 (by decide) (by decide) (by decide) (by decide) (by decide) (fun v a b => by unfold clsOf; rw [if_pos (by omega)]) rfl rfl h1
theorem smallR_len (p : List Int) (lv ex : Int) : (smallR p lv ex).2.1.length ≤ 4096 := by
  unfold smallR
  split
  · simp
  split
  · simp
  split
  · simp
  · rename_i h
    rcases smD_props p lv ex 40 1 (by decide) with ⟨v', h1, h2, h3, _⟩ | ⟨h1, _⟩
    · rw [h3]
      have := (cut_props (clsOf_range v') p.length p (Nat.le_refl _) (by omega)).2.2.2.2
      show (cutD (clsOf v') p.length p).length ≤ 4096
      omega
    · rw [h1]; simp
theorem QrversionSmallest : barscanlaw17_QrversionSmallest.Pure := by
  intro l0 a1 a2 _ _ hw _ _
  have hb : ∀ x ∈ l0, 0 ≤ x ∧ x < 256 := fun x hx => wf8 (hw x hx)
  clear hw
  refine Ev.rounds ?_
  unfold barscanlaw17_QrversionSmallest.f
  have main : ∀ b, Ev (fun k => barscanlaw17_QrversionSmallest.j0 k l0 a1 a2 b) true := by
    intro b
    refine Ev.step (fun k => by rw [barscanlaw17_QrversionSmallest.j0]) ?_
    refine ev_cond (fun _ => ev_some (Ev.now _)) (fun _ => ?_)
    have hl := smallR_len l0 a1 a2
    refine Ev.bind (small17_ev l0 a1 a2) (Ev.bind (ref17_ev l0 hb a1 a2) (ev_if rfl (Ev.bind (seg17_ev _ (by omega)) (ev_if rfl (ev_if rfl (ev_some (Ev.now _)))))))
  exact ev_cond (fun _ => main _) (fun _ => main _)
end Go.Proofs.Ytagmncdbiljacaa.Pure
