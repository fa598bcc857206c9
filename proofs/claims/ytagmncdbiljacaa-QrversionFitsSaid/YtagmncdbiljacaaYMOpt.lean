/- The best plans are optimal: no list of segments has fewer bits. No condition. -/
import Derived.Test.YtagmncdbiljacaaYMBest
import Derived.Test.YtagmncdbiljacaaYMBits
namespace Go.Proofs.Ytagmncdbiljacaa.X
open Go.RowKit Go.Proofs.YtagmncdbiljacaaW.PrintWords Go.Proofs.YtagmncdbiljacaaW.PrintLast Go.Proofs.YtagmncdbiljacaaW.PrintMore
set_option linter.unusedVariables false
set_option linter.unusedSimpArgs false

/-- A segment that its mode can hold. -/
def okSeg (cls : Int) (s : S33) : Prop := (s.f0 = 1 ∨ s.f0 = 2 ∨ s.f0 = 4) ∧ s.f1.length ≤ 2 ^ (cbOf s.f0 cls).toNat - 1 ∧ ∀ x ∈ s.f1, fitOf s.f0 x = true
def okSegs (cls : Int) (l : List S33) : Prop := ∀ s ∈ l, okSeg cls s
def joinD (l : List S33) : List Int := l.flatMap (·.f1)
theorem okSegs_cons {cls : Int} {s : S33} {l : List S33} : okSegs cls (s :: l) ↔ okSeg cls s ∧ okSegs cls l := by
  simp [okSegs]
theorem fitRun_all (m : Int) (a b : List Int) (h : ∀ x ∈ a, fitOf m x = true) : a.length ≤ fitRun m (a ++ b) := by
  induction a with
  | nil => simp
  | cons x a ih =>
    have ih := ih (fun y hy => h y (List.mem_cons_of_mem _ hy))
    unfold fitRun at *
    rw [List.cons_append, List.takeWhile_cons, if_pos (h x (by simp))]
    simp only [List.length_cons]
    omega
theorem fitRun_take (m : Int) (s : List Int) (k : Nat) (h : k ≤ fitRun m s) : ∀ x ∈ s.take k, fitOf m x = true := by
  intro x hx
  obtain ⟨i, hi, rfl⟩ := List.getElem_of_mem hx
  rw [List.length_take] at hi
  have := fitRun_lt m s i (by omega)
  rw [List.getElem_take]
  simpa [List.getD_eq_getElem?_getD, List.getElem?_eq_getElem (show i < s.length by omega)] using this
theorem dbOf_mono (m : Int) (a b : Nat) (h : a ≤ b) : dbOf m a ≤ dbOf m b := by
  unfold dbOf
  split
  · repeat' split
    all_goals omega
  · split
    · split <;> split <;> omega
    · omega
theorem segBits_nonneg (cls : Int) (s : S33) : 4 ≤ segBits cls s := by
  have h1 := cbOf_range s.f0 cls
  have h2 := dbOf_range s.f0 s.f1.length (by omega)
  unfold segBits
  omega
/-- No segmentation has fewer bits than the best. -/
theorem best_le {cls : Int} (hc : 0 ≤ cls ∧ cls ≤ 2) : ∀ l : List S33, okSegs cls l → (joinD l).length ≤ 4096 → (best cls (joinD l)).f0 ≤ sumBits cls l := by
  intro l
  induction l with
  | nil => intro _ _; simp [joinD, best, tab, sumBits, z93]
  | cons s l ih =>
    intro hv hl
    obtain ⟨⟨hm, hlen, hfit⟩, hv⟩ := okSegs_cons.mp hv
    have hj : joinD (s :: l) = s.f1 ++ joinD l := rfl
    rw [hj] at hl ⊢
    rw [List.length_append] at hl
    have ih := ih hv (by omega)
    have hs := segBits_nonneg cls s
    simp only [sumBits]
    by_cases e : s.f1.length = 0
    · rw [List.eq_nil_of_length_eq_zero e, List.nil_append]; omega
    · have hk : s.f1.length ≤ kmax cls s.f0 (s.f1 ++ joinD l) := by
        have := fitRun_all s.f0 s.f1 (joinD l) hfit
        unfold kmax
        omega
      have hb := bet_bits ((best_props hc (s.f1 ++ joinD l) (by rw [List.length_append]; omega) (by rw [List.length_append]; omega)).2 s.f0 s.f1.length hm (by omega) hk)
      rw [List.drop_left] at hb
      have hb' : (best cls (s.f1 ++ joinD l)).f0 ≤ 4 + cbOf s.f0 cls + dbOf s.f0 s.f1.length + (best cls (joinD l)).f0 := hb
      unfold segBits
      omega
theorem cut_props {cls : Int} (hc : 0 ≤ cls ∧ cls ≤ 2) : ∀ (f : Nat) (s : List Int), s.length ≤ f → s.length ≤ 4096 →
    okSegs cls (cutD cls f s) ∧ joinD (cutD cls f s) = s ∧ sumBits cls (cutD cls f s) = (best cls s).f0 ∧ (∀ x ∈ cutD cls f s, x.f1 ≠ []) ∧ (cutD cls f s).length ≤ s.length := by
  intro f
  induction f with
  | zero =>
    intro s h1 h2
    obtain rfl : s = [] := List.eq_nil_of_length_eq_zero (by omega)
    simp [cutD, okSegs, joinD, sumBits, best, tab, z93]
  | succ f ih =>
    intro s h1 h2
    by_cases e : s.length = 0
    · obtain rfl : s = [] := List.eq_nil_of_length_eq_zero e
      simp [cutD, okSegs, joinD, sumBits, best, tab, z93]
    · obtain ⟨⟨m, k, hm, k1, k2, k3, hb⟩, _⟩ := best_props hc s (by omega) h2
      have hd : (s.drop k).length = s.length - k := List.length_drop
      obtain ⟨i1, i2, i3, i4, i5⟩ := ih (s.drop k) (by omega) (by omega)
      have h2f : (best cls s).f2 = (k : Int) := by rw [hb]
      have h3f : (best cls s).f3 = m := by rw [hb]
      have h0f : (best cls s).f0 = 4 + cbOf m cls + dbOf m k + (best cls (s.drop k)).f0 := by rw [hb]
      have htk : (s.take k).length = k := by rw [List.length_take]; omega
      have hcut : cutD cls (f + 1) s = ⟨m, s.take k⟩ :: cutD cls f (s.drop k) := by
        simp only [cutD, if_neg e, h2f, h3f]
        rw [show ((k : Int)).toNat = k by omega]
      have k4 : k ≤ fitRun m s := Nat.le_trans k2 (Nat.min_le_left _ _)
      have k5 : k ≤ 2 ^ (cbOf m cls).toNat - 1 := Nat.le_trans k2 (Nat.min_le_right _ _)
      rw [hcut]
      refine ⟨okSegs_cons.mpr ⟨⟨hm, by rw [htk]; exact k5, fitRun_take m s k k4⟩, i1⟩, ?_, ?_, ?_, ?_⟩
      · show s.take k ++ joinD (cutD cls f (s.drop k)) = s
        rw [i2, List.take_append_drop]
      · show segBits cls ⟨m, s.take k⟩ + sumBits cls (cutD cls f (s.drop k)) = _
        rw [i3, h0f]
        unfold segBits
        simp only [htk]
      · intro x hx
        rcases List.mem_cons.mp hx with rfl | hx
        · intro h0
          have : (s.take k).length = 0 := by rw [show s.take k = [] from h0]; rfl
          omega
        · exact i4 x hx
      · simp only [List.length_cons]; omega
theorem okSeg_facts {cls : Int} (hc : 0 ≤ cls ∧ cls ≤ 2) {s : S33} (h : okSeg cls s) : badMode cls s = false ∧ tooLong cls s = false ∧ badChar s = false := by
  obtain ⟨hm, hl, hf⟩ := h
  have hcb := cb_mode hc hm
  have hp := Nat.one_le_two_pow (n := (cbOf s.f0 cls).toNat)
  refine ⟨decide_eq_false (by omega), decide_eq_false (by omega), ?_⟩
  unfold badChar
  rw [List.any_eq_false]
  intro x hx
  simp [hf x hx]
theorem okSegs_bits {cls : Int} (hc : 0 ≤ cls ∧ cls ≤ 2) {l : List S33} (h : okSegs cls l) (hl : l.length ≤ 4096) (hs : sumBits cls l ≤ 1048576) : mbits l cls = (sumBits cls l, 0) := by
  have h1 : l.any (badMode cls) = false := by rw [List.any_eq_false]; intro x hx; simp [(okSeg_facts hc (h x hx)).1]
  have h2 : l.any (tooLong cls) = false := by rw [List.any_eq_false]; intro x hx; simp [(okSeg_facts hc (h x hx)).2.1]
  have h3 : l.any badChar = false := by rw [List.any_eq_false]; intro x hx; simp [(okSeg_facts hc (h x hx)).2.2]
  unfold mbits
  rw [if_neg (by simp [h1]; omega), if_neg (by simp [h2]; omega), if_neg (by simp [h3]), if_neg (by omega)]
theorem bits_okSegs {cls : Int} {l : List S33} (h : (mbits l cls).2 = 0) : (0 ≤ cls ∧ cls ≤ 2) ∧ okSegs cls l ∧ l.length ≤ 4096 ∧ mbits l cls = (sumBits cls l, 0) := by
  have key : (0 ≤ cls ∧ cls ≤ 2) ∧ l.any (badMode cls) = false ∧ l.length ≤ 4096 ∧ l.any (tooLong cls) = false ∧ l.any badChar = false ∧ mbits l cls = (sumBits cls l, 0) := by
    unfold mbits at h ⊢
    split at h
    · simp at h
    · rename_i h1
      split at h
      · simp at h
      · rename_i h2
        split at h
        · simp at h
        · rename_i h3
          split at h
          · simp at h
          · rename_i h4
            rw [if_neg h1, if_neg h2, if_neg h3, if_neg h4]
            simp only [not_or] at h1 h2
            exact ⟨by omega, by simpa using h1.2.2, by omega, by simpa using h2.2, by simpa using h3, rfl⟩
  obtain ⟨hc, h1, h4, h2, h3, h5⟩ := key
  refine ⟨hc, fun s hs => ?_, h4, h5⟩
  have h1 := List.any_eq_false.mp h1 s hs
  have h2 := List.any_eq_false.mp h2 s hs
  have h3 := List.any_eq_false.mp h3 s hs
  have h1' : ¬ cbOf s.f0 cls = 0 := by simpa [badMode] using h1
  have h2' : s.f1.length < 2 ^ (cbOf s.f0 cls).toNat := by simpa [tooLong] using h2
  refine ⟨?_, by omega, ?_⟩
  · by_cases e : s.f0 = 1 ∨ s.f0 = 2 ∨ s.f0 = 4
    · exact e
    · exact absurd ((cbOf_known s.f0 cls).mpr (fun h => e h.1)) h1'
  · intro x hx
    unfold badChar at h3
    have := List.any_eq_false.mp (show s.f1.any (fun x => !fitOf s.f0 x) = false by simpa using h3) x hx
    simpa using this
/-- Cutting a segmentation down to the beginning of its data doesn't make it longer. -/
theorem trunc {cls : Int} : ∀ (l : List S33) (p q : List Int), okSegs cls l → joinD l = p ++ q → ∃ l', okSegs cls l' ∧ joinD l' = p ∧ sumBits cls l' ≤ sumBits cls l := by
  intro l
  induction l with
  | nil =>
    intro p q _ h
    have h : [] = p ++ q := h
    have : p = [] := (List.append_eq_nil_iff.mp h.symm).1
    exact ⟨[], by simp [okSegs], by rw [this]; rfl, by simp [sumBits]⟩
  | cons s l ih =>
    intro p q hv h
    obtain ⟨hs, hv⟩ := okSegs_cons.mp hv
    have h : s.f1 ++ joinD l = p ++ q := h
    by_cases e : s.f1.length ≤ p.length
    · have hp : p = s.f1 ++ p.drop s.f1.length := by
        have h1 := congrArg (List.take s.f1.length) h
        rw [List.take_left, List.take_append_of_le_length e] at h1
        conv => lhs; rw [← List.take_append_drop s.f1.length p]
        rw [← h1]
      have h2 : joinD l = p.drop s.f1.length ++ q := by
        have h1 := congrArg (List.drop s.f1.length) h
        rwa [List.drop_left, List.drop_append_of_le_length e] at h1
      obtain ⟨l', a, b, c⟩ := ih _ q hv h2
      refine ⟨s :: l', okSegs_cons.mpr ⟨hs, a⟩, ?_, ?_⟩
      · show s.f1 ++ joinD l' = p
        rw [b]; exact hp.symm
      · simp only [sumBits]; omega
    · obtain ⟨hm, hl, hf⟩ := hs
      have hp : p = s.f1.take p.length := by
        have h1 := congrArg (List.take p.length) h
        rw [List.take_left, List.take_append_of_le_length (by omega)] at h1
        exact h1.symm
      refine ⟨[⟨s.f0, p⟩], ?_, ?_, ?_⟩
      · intro x hx
        obtain rfl := List.mem_singleton.mp hx
        refine ⟨hm, by show p.length ≤ 2 ^ (cbOf s.f0 cls).toNat - 1; omega, fun y hy => hf y ?_⟩
        have hy : y ∈ p := hy
        rw [hp] at hy
        exact List.mem_of_mem_take hy
      · simp [joinD]
      · have h1 := dbOf_mono s.f0 p.length s.f1.length (by omega)
        have h2 : ∀ l : List S33, 0 ≤ sumBits cls l := by
          intro l
          induction l with
          | nil => simp [sumBits]
          | cons s l ih => have := segBits_nonneg cls s; simp only [sumBits]; omega
        have h2 := h2 l
        simp only [sumBits, segBits]
        omega
theorem best_mono {cls : Int} (hc : 0 ≤ cls ∧ cls ≤ 2) (p q : List Int) (h : (p ++ q).length ≤ 4096) : (best cls p).f0 ≤ (best cls (p ++ q)).f0 ∧ (best cls (p ++ q)).f0 ≤ (best cls p).f0 + (best cls q).f0 := by
  rw [List.length_append] at h
  obtain ⟨a1, a2, a3, _⟩ := cut_props hc p.length p (Nat.le_refl _) (by omega)
  obtain ⟨b1, b2, b3, _⟩ := cut_props hc q.length q (Nat.le_refl _) (by omega)
  obtain ⟨c1, c2, c3, _⟩ := cut_props hc (p ++ q).length (p ++ q) (Nat.le_refl _) (by rw [List.length_append]; omega)
  constructor
  · obtain ⟨l', d1, d2, d3⟩ := trunc _ p q c1 c2
    have := best_le hc l' d1 (by rw [d2]; omega)
    rw [d2] at this
    omega
  · have hj : joinD (cutD cls p.length p ++ cutD cls q.length q) = p ++ q := by
      unfold joinD at *
      rw [List.flatMap_append, a2, b2]
    have hv : okSegs cls (cutD cls p.length p ++ cutD cls q.length q) := by
      intro s hs
      rcases List.mem_append.mp hs with hs | hs
      · exact a1 s hs
      · exact b1 s hs
    have := best_le hc _ hv (by rw [hj, List.length_append]; omega)
    rw [hj, sumBits_append, a3, b3] at this
    exact this
theorem best_range {cls : Int} (hc : 0 ≤ cls ∧ cls ≤ 2) (s : List Int) (h : s.length ≤ 4096) : 0 ≤ (best cls s).f0 ∧ (best cls s).f0 ≤ 28 * s.length := by
  have := tab_range hc s h 0
  unfold best
  omega
end Go.Proofs.Ytagmncdbiljacaa.X
