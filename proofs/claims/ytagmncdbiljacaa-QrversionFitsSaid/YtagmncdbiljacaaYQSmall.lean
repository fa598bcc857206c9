/- qrversion.Smallest as a plain function: the first version that has room. No condition. -/
import Derived.Test.YtagmncdbiljacaaYMOpt
import Derived.Test.YtagmncdbiljacaaYCapacity
import Derived.Test.YtagmncdbiljacaaXx8
namespace Go.Proofs.Ytagmncdbiljacaa.X
open Go.RowKit Go.Proofs.YtagmncdbiljacaaW.PrintWords Go.Proofs.YtagmncdbiljacaaW.PrintLast Go.Proofs.YtagmncdbiljacaaW.PrintMore
set_option linter.unusedVariables false
set_option linter.unusedSimpArgs false

def clsOf (v : Int) : Int := if v ≤ 9 then 0 else if v ≤ 26 then 1 else 2
theorem clsOf_range (v : Int) : 0 ≤ clsOf v ∧ clsOf v ≤ 2 := by unfold clsOf; split <;> (try split) <;> omega
theorem class_in {v : Int} (h1 : 1 ≤ v) (h2 : v ≤ 40) : Ev (fun k => modes_Class.f k v) (clsOf v, 0) := by
  unfold modes_Class.f clsOf
  refine ev_else (by omega) (Ev.step (fun k => by rw [modes_Class.j0]) ?_)
  refine ev_else (by simp; omega) ?_
  refine ev_cond (fun e => ?_) (fun e => ?_)
  · rw [if_pos e]; exact Ev.now _
  rw [if_neg e]
  refine ev_cond (fun e => ?_) (fun e => ?_)
  · rw [if_pos e]; exact Ev.now _
  · rw [if_neg e]; exact Ev.now _
theorem cap_all : ∀ n : Nat, n < 40 → ∀ l : Nat, l < 4 → 0 ≤ capOf ((n : Int) + 1) ((l : Int) + 1) ∧ capOf ((n : Int) + 1) ((l : Int) + 1) ≤ 4000 := by decide +kernel
theorem cap_range {v lv : Int} (h1 : 1 ≤ v) (h2 : v ≤ 40) (l1 : 1 ≤ lv) (l4 : lv ≤ 4) : 0 ≤ capOf v lv ∧ capOf v lv ≤ 4000 := by
  have := cap_all (v - 1).toNat (by omega) (lv - 1).toNat (by omega)
  rwa [show (((v - 1).toNat : Nat) : Int) + 1 = v by omega, show (((lv - 1).toNat : Nat) : Int) + 1 = lv by omega] at this
theorem capacity_in {v lv : Int} (h1 : 1 ≤ v) (h2 : v ≤ 40) (l1 : 1 ≤ lv) (l4 : lv ≤ 4) : qrversion_capacity.f v lv = some (capOf v lv) := by
  unfold qrversion_capacity.f
  rw [if_pos ⟨h1, h2, l1, l4⟩]
/-- Whether a version has room. -/
def roomy (p : List Int) (lv ex v : Int) : Prop := ex ≤ 8 * capOf v lv - (best (clsOf v) p).f0
instance (p : List Int) (lv ex v : Int) : Decidable (roomy p lv ex v) := inferInstanceAs (Decidable (ex ≤ 8 * capOf v lv - (best (clsOf v) p).f0))
def smD (p : List Int) (lv ex : Int) : Nat → Int → Int × List S33 × Int
  | 0, _ => (0, [], 16)
  | d + 1, v => if roomy p lv ex v then (v, cutD (clsOf v) p.length p, 0) else smD p lv ex d (v + 1)
def smallR (p : List Int) (lv ex : Int) : Int × List S33 × Int :=
  if lv < 1 ∨ 4 < lv then (0, [], 15) else if ex < 0 then (0, [], 3) else if 4096 < p.length then (0, [], 4) else smD p lv ex 40 1
theorem smD_props (p : List Int) (lv ex : Int) : ∀ (d : Nat) (v : Int), v + d = 41 →
    (∃ v', v ≤ v' ∧ v' ≤ 40 ∧ smD p lv ex d v = (v', cutD (clsOf v') p.length p, 0) ∧ roomy p lv ex v' ∧ ∀ u, v ≤ u → u < v' → ¬ roomy p lv ex u) ∨ (smD p lv ex d v = (0, [], 16) ∧ ∀ u, v ≤ u → u ≤ 40 → ¬ roomy p lv ex u) := by
  intro d
  induction d with
  | zero =>
    intro v h
    exact .inr ⟨rfl, fun u h1 h2 => by omega⟩
  | succ d ih =>
    intro v h
    unfold smD
    by_cases e : roomy p lv ex v
    · rw [if_pos e]
      exact .inl ⟨v, by omega, by omega, rfl, e, fun u h1 h2 => by omega⟩
    · rw [if_neg e]
      rcases ih (v + 1) (by omega) with ⟨v', h1, h2, h3, h4, h5⟩ | ⟨h1, h2⟩
      · refine .inl ⟨v', by omega, h2, h3, h4, fun u u1 u2 => ?_⟩
        by_cases eu : u = v
        · rw [eu]; exact e
        · exact h5 u (by omega) u2
      · refine .inr ⟨h1, fun u u1 u2 => ?_⟩
        by_cases eu : u = v
        · rw [eu]; exact e
        · exact h2 u (by omega) u2
theorem small_loop (p : List Int) (hp : p.length ≤ 4096) (lv ex : Int) (l1 : 1 ≤ lv) (l4 : lv ≤ 4) (hex : 0 ≤ ex) : ∀ (d : Nat) (v c : Int) (S : List S33) (B : Int), v + d = 41 → 1 ≤ v → (c = -1 ∨ S = cutD c p.length p ∧ B = (best c p).f0) →
    Ev (fun k => qrversion_Smallest.l0 k p lv ex c S B v) (smD p lv ex d v) := by
  intro d
  induction d with
  | zero =>
    intro v c S B h1 h2 h3
    refine Ev.step (fun k => by rw [qrversion_Smallest.l0]) ?_
    exact ev_else (by omega) (Ev.now _)
  | succ d ih =>
    intro v c S B h1 h2 h3
    have hcl := clsOf_range v
    have hcap := cap_range (v := v) (lv := lv) h2 (by omega) l1 l4
    have hB := best_range hcl p hp
    have y0 : (best (clsOf v) p).f0 ≤ 200000 := by omega
    have a1 : -1000000000000 ≤ 8 * capOf v lv := by omega
    have a2 : 8 * capOf v lv ≤ 1000000000000 := by omega
    have a3 : -1000000000000 ≤ 8 * capOf v lv - (best (clsOf v) p).f0 := by omega
    have a4 : 8 * capOf v lv - (best (clsOf v) p).f0 ≤ 1000000000000 := by omega
    have a5 : -1000000000000 ≤ v + 1 := by omega
    have a6 : v + 1 ≤ 1000000000000 := by omega
    have a7 : v ≤ 40 := by omega
    have a8 : v + 1 + d = 41 := by omega
    have a9 : 1 ≤ v + 1 := by omega
    have nb : ¬ (best (clsOf v) p).f0 ≤ 8 * capOf v lv → ¬ roomy p lv ex v := by
      unfold roomy; omega
    have next := ih (v + 1) (clsOf v) (cutD (clsOf v) p.length p) (best (clsOf v) p).f0 a8 a9 (.inr ⟨rfl, rfl⟩)
    have stepE : Ev (fun k => (if (best (clsOf v) p).f0 ≤ (wrap64 (8 * capOf v lv)) then (if ex ≤ (wrap64 ((wrap64 (8 * capOf v lv)) - (best (clsOf v) p).f0)) then (some (v, cutD (clsOf v) p.length p, (0 : Int))) else (qrversion_Smallest.l0 k p lv ex (clsOf v) (cutD (clsOf v) p.length p) (best (clsOf v) p).f0 (wrap64 (v + 1)))) else (qrversion_Smallest.l0 k p lv ex (clsOf v) (cutD (clsOf v) p.length p) (best (clsOf v) p).f0 (wrap64 (v + 1))))) (smD p lv ex (d + 1) v) := by
      rw [w_is (a := 8 * capOf v lv) rfl a1 a2, w_is (a := 8 * capOf v lv - (best (clsOf v) p).f0) rfl a3 a4, w_is (a := v + 1) rfl a5 a6]
      unfold smD
      refine ev_cond (fun e => ?_) (fun e => ?_)
      · refine ev_cond (fun e2 => ?_) (fun e2 => ?_)
        · have e2 : roomy p lv ex v := e2
          rw [if_pos e2]; exact Ev.now _
        · have e2 : ¬ roomy p lv ex v := e2
          rw [if_neg e2]; exact next
      · rw [if_neg (nb e)]; exact next
    clear next nb hcap hB y0 a1 a2 a3 a4 a5 a6 a8 a9 ih
    refine Ev.step (fun k => by rw [qrversion_Smallest.l0]) ?_
    refine ev_if a7 (Ev.bind (class_in h2 a7) ?_)
    refine ev_cond (fun e => ?_) (fun e => ?_)
    · refine ev_is (capacity_in h2 a7 l1 l4) ?_
      rcases h3 with h3 | ⟨hS, hB⟩
      · have e : clsOf v = c := e
        omega
      · have e : clsOf v = c := e
        rw [hS, hB, ← e]
        exact stepE
    · have hb : bestR p (clsOf v) = (cutD (clsOf v) p.length p, (best (clsOf v) p).f0, 0) := by
        unfold bestR
        rw [if_neg (by omega), if_neg (by omega)]
      have hbe := best_ev p (clsOf v)
      rw [hb] at hbe
      refine Ev.bind hbe (ev_if rfl (ev_is (capacity_in h2 a7 l1 l4) stepE))
theorem small17_ev (p : List Int) (lv ex : Int) : Ev (fun k => qrversion_Smallest.f k p lv ex) (smallR p lv ex) := by
  unfold qrversion_Smallest.f smallR
  have hl : qrversion_level.f 1 lv = some (if lv < 1 ∨ 4 < lv then 15 else 0) := by
    unfold qrversion_level.f
    rw [show qrversion_valid.f 1 = some true from rfl]
    by_cases e : lv < 1
    · rw [if_pos (show lv < 1 ∨ 4 < lv from Or.inl e)]
      simp [e]
    · by_cases e2 : 4 < lv
      · rw [if_pos (show lv < 1 ∨ 4 < lv from Or.inr e2)]
        simp [e, e2]
      · rw [if_neg (show ¬ (lv < 1 ∨ 4 < lv) by omega)]
        simp [e, e2]
  refine ev_is hl ?_
  by_cases e : lv < 1 ∨ 4 < lv
  · rw [if_pos e, if_pos e]
    exact ev_else (by decide) (Ev.now _)
  rw [if_neg e, if_neg e]
  refine ev_if rfl ?_
  refine ev_cond (fun e2 => ?_) (fun e2 => ?_)
  · rw [if_pos e2]; exact Ev.now _
  rw [if_neg e2]
  by_cases e3 : 4096 < p.length
  · rw [if_pos e3]
    refine Ev.step (fun k => by rw [qrversion_Smallest.l0]) ?_
    refine ev_if (by decide) (Ev.bind (class_in (v := 1) (by decide) (by decide)) ?_)
    have hcl : clsOf 1 = 0 := rfl
    rw [hcl]
    refine ev_else (by decide) ?_
    have hb : bestR p 0 = ([], 0, 4) := by
      unfold bestR
      rw [if_neg (by omega), if_pos e3]
    have hbe := best_ev p 0
    rw [hb] at hbe
    exact Ev.bind hbe (ev_else (by decide) (Ev.now _))
  · rw [if_neg e3]
    exact small_loop p (by omega) lv ex (by omega) (by omega) (by omega) 40 1 (-1) [] 0 (by decide) (by decide) (.inl rfl)
end Go.Proofs.Ytagmncdbiljacaa.X
