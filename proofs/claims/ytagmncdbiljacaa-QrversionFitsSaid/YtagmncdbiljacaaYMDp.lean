/- modes.Best as a plain function: the table of the best plans, and the segments that it tells. No condition. -/
import Derived.Test.YtagmncdbiljacaaYMRefParts
import Derived.Test.YtagmncdbiljacaaYCloneB
import Derived.Test.YtagmncdbiljacaaXx6
namespace Go.Proofs.Ytagmncdbiljacaa.X
open Go.RowKit Go.Proofs.YtagmncdbiljacaaW.PrintWords Go.Proofs.YtagmncdbiljacaaW.PrintLast Go.Proofs.YtagmncdbiljacaaW.PrintMore
set_option linter.unusedVariables false
set_option linter.unusedSimpArgs false

/-- Whether a plan is better than another one. -/
def bet (a b : S93) : Bool := if a.f0 = b.f0 then (if a.f1 = b.f1 then (if a.f2 = b.f2 then decide (a.f3 < b.f3) else decide (a.f2 > b.f2)) else decide (a.f1 < b.f1)) else decide (a.f0 < b.f0)
theorem better_is (a b : S93) : modes_plan_better.f a.f0 a.f1 a.f2 a.f3 b.f0 b.f1 b.f2 b.f3 = some (bet a b) := by
  unfold modes_plan_better.f bet
  repeat' split
  all_goals rfl
theorem bet_iff (a b : S93) : bet a b = true ↔ (a.f0 < b.f0 ∨ (a.f0 = b.f0 ∧ (a.f1 < b.f1 ∨ (a.f1 = b.f1 ∧ (a.f2 > b.f2 ∨ (a.f2 = b.f2 ∧ a.f3 < b.f3)))))) := by
  unfold bet
  repeat' split
  all_goals simp only [decide_eq_true_eq]
  all_goals omega
/-- No better than: the order of the plans. -/
theorem bet_not (a b : S93) : bet a b = false ↔ ¬ (a.f0 < b.f0 ∨ (a.f0 = b.f0 ∧ (a.f1 < b.f1 ∨ (a.f1 = b.f1 ∧ (a.f2 > b.f2 ∨ (a.f2 = b.f2 ∧ a.f3 < b.f3)))))) := by
  rw [← bet_iff]; simp
theorem bet_trans {a b c : S93} (h : bet b a = false) (k : bet c b = false) : bet c a = false := by
  rw [bet_not] at *
  omega
theorem bet_asymm {a b : S93} (h : bet b a = true) : bet a b = false := by
  rw [bet_iff] at h
  rw [bet_not]
  omega
theorem bet_bits {a b : S93} (h : bet b a = false) : a.f0 ≤ b.f0 := by
  rw [bet_not] at h
  omega
def fitRun (m : Int) (s : List Int) : Nat := (s.takeWhile (fitOf m)).length
theorem fitRun_le (m : Int) (s : List Int) : fitRun m s ≤ s.length := by
  induction s with
  | nil => simp [fitRun]
  | cons x s ih =>
    unfold fitRun at *
    rw [List.takeWhile_cons]
    split
    · simp only [List.length_cons]; omega
    · simp
theorem fitRun_lt (m : Int) (s : List Int) : ∀ i, i < fitRun m s → fitOf m (s.getD i 0) = true := by
  induction s with
  | nil => intro i h; simp [fitRun] at h
  | cons x s ih =>
    intro i h
    unfold fitRun at *
    rw [List.takeWhile_cons] at h
    split at h
    · rename_i hx
      cases i with
      | zero => simpa using hx
      | succ i => simpa using ih i (by simpa using h)
    · simp at h
theorem fitRun_at (m : Int) (s : List Int) (h : fitRun m s < s.length) : fitOf m (s.getD (fitRun m s) 0) = false := by
  induction s with
  | nil => simp at h
  | cons x s ih =>
    unfold fitRun at *
    rw [List.takeWhile_cons] at h ⊢
    split at h
    · rename_i hx
      rw [if_pos hx]
      simpa using ih (by simpa using h)
    · rename_i hx
      rw [if_neg hx]
      simpa using hx
/-- How many bytes the longest segment of a mode has. -/
def kmax (cls m : Int) (s : List Int) : Nat := min (fitRun m s) (2 ^ (cbOf m cls).toNat - 1)
/-- The plan that begins with k bytes of a mode; R: the plans of the shorter rests. -/
def cand (cls m : Int) (R : List S93) (k : Nat) : S93 := ⟨4 + cbOf m cls + dbOf m k + (R.getD (k - 1) z93).f0, 1 + (R.getD (k - 1) z93).f1, k, m⟩
def stepP (b c : S93) : S93 := if bet c b = true then c else b
def goP (cls m : Int) (R : List S93) : Nat → Nat → S93 → S93
  | 0, _, b => b
  | d + 1, k, b => goP cls m R d (k + 1) (stepP b (cand cls m R k))
def inP (cls m : Int) (s : List Int) (R : List S93) (b : S93) : S93 := goP cls m R (kmax cls m s) 1 b
def farP : S93 := ⟨1099511627776, 0, 0, 0⟩
def pick (cls : Int) (s : List Int) (R : List S93) : S93 := inP cls 4 s R (inP cls 2 s R (inP cls 1 s R farP))
def tab (cls : Int) : List Int → List S93
  | [] => [z93]
  | x :: s => pick cls (x :: s) (tab cls s) :: tab cls s
def best (cls : Int) (s : List Int) : S93 := (tab cls s).getD 0 z93
def cutD (cls : Int) : Nat → List Int → List S33
  | 0, _ => []
  | f + 1, s => if s.length = 0 then [] else ⟨(best cls s).f3, s.take (best cls s).f2.toNat⟩ :: cutD cls f (s.drop (best cls s).f2.toNat)
def bestR (p : List Int) (cls : Int) : List S33 × Int × Int :=
  if cls < 0 ∨ 2 < cls then ([], 0, 1) else if 4096 < p.length then ([], 0, 4) else (cutD cls p.length p, (best cls p).f0, 0)

theorem goP_props (cls m : Int) (R : List S93) : ∀ (d k : Nat) (b : S93), (goP cls m R d k b = b ∨ ∃ j, k ≤ j ∧ j < k + d ∧ goP cls m R d k b = cand cls m R j) ∧ bet b (goP cls m R d k b) = false ∧ ∀ j, k ≤ j → j < k + d → bet (cand cls m R j) (goP cls m R d k b) = false := by
  have refl : ∀ a : S93, bet a a = false := fun a => by rw [bet_not]; omega
  intro d
  induction d with
  | zero => intro k b; exact ⟨.inl rfl, refl _, fun j h1 h2 => absurd h2 (by omega)⟩
  | succ d ih =>
    intro k b
    obtain ⟨h1, h2, h3⟩ := ih (k + 1) (stepP b (cand cls m R k))
    have hb : bet b (stepP b (cand cls m R k)) = false := by
      unfold stepP
      split
      · rename_i h; exact bet_asymm h
      · exact refl _
    have hc : bet (cand cls m R k) (stepP b (cand cls m R k)) = false := by
      unfold stepP
      split
      · exact refl _
      · rename_i h; simpa using h
    simp only [goP]
    refine ⟨?_, bet_trans h2 hb, fun j j1 j2 => ?_⟩
    · rcases h1 with h1 | ⟨j, j1, j2, h1⟩
      · rw [h1]
        unfold stepP
        split
        · exact .inr ⟨k, by omega, by omega, rfl⟩
        · exact .inl rfl
      · exact .inr ⟨j, by omega, by omega, h1⟩
    · by_cases e : j = k
      · subst e; exact bet_trans h2 hc
      · exact h3 j (by omega) (by omega)
theorem cand_far (cls m : Int) (R : List S93) (k : Nat) (hk : k ≤ 5000) (hR : (R.getD (k - 1) z93).f0 ≤ 1000000) : bet (cand cls m R k) farP = true := by
  rw [bet_iff]
  have h1 := cbOf_range m cls
  have h2 := dbOf_range m k (by omega)
  refine .inl ?_
  show 4 + cbOf m cls + dbOf m k + (R.getD (k - 1) z93).f0 < 1099511627776
  omega
theorem cb_mode {cls m : Int} (hc : 0 ≤ cls ∧ cls ≤ 2) (hm : m = 1 ∨ m = 2 ∨ m = 4) : 8 ≤ cbOf m cls ∧ cbOf m cls ≤ 16 := by
  unfold cbOf
  rw [if_pos hc]
  rcases hm with rfl | rfl | rfl
  · simp; omega
  · simp; omega
  · simp; split <;> omega
theorem kmax_le (cls m : Int) (s : List Int) : kmax cls m s ≤ s.length := Nat.le_trans (Nat.min_le_left _ _) (fitRun_le m s)
theorem kmax_byte {cls : Int} (hc : 0 ≤ cls ∧ cls ≤ 2) (x : Int) (s : List Int) : 1 ≤ kmax cls 4 (x :: s) := by
  have h := cb_mode hc (.inr (.inr rfl) : (4 : Int) = 1 ∨ (4 : Int) = 2 ∨ (4 : Int) = 4)
  have hp := Nat.pow_le_pow_right (n := 2) (by omega) (show 8 ≤ (cbOf 4 cls).toNat by omega)
  have hf : 1 ≤ fitRun 4 (x :: s) := by
    unfold fitRun
    rw [List.takeWhile_cons, if_pos (by simp [fitOf, modes_Fits.f])]
    simp
  unfold kmax
  omega
/-- What is picked: one of the plans that there are, and none is better. -/
theorem pick_props {cls : Int} (hc : 0 ≤ cls ∧ cls ≤ 2) (x : Int) (s : List Int) (hs : s.length < 4096) (R : List S93) (hR : ∀ i, (R.getD i z93).f0 ≤ 1000000) :
    (∃ m k, (m = 1 ∨ m = 2 ∨ m = 4) ∧ 1 ≤ k ∧ k ≤ kmax cls m (x :: s) ∧ pick cls (x :: s) R = cand cls m R k) ∧ ∀ m k, (m = 1 ∨ m = 2 ∨ m = 4) → 1 ≤ k → k ≤ kmax cls m (x :: s) → bet (cand cls m R k) (pick cls (x :: s) R) = false := by
  have p1 := goP_props cls 1 R (kmax cls 1 (x :: s)) 1 farP
  have p2 := goP_props cls 2 R (kmax cls 2 (x :: s)) 1 (inP cls 1 (x :: s) R farP)
  have p4 := goP_props cls 4 R (kmax cls 4 (x :: s)) 1 (inP cls 2 (x :: s) R (inP cls 1 (x :: s) R farP))
  have hall : ∀ m k, (m = 1 ∨ m = 2 ∨ m = 4) → 1 ≤ k → k ≤ kmax cls m (x :: s) → bet (cand cls m R k) (pick cls (x :: s) R) = false := by
    intro m k hm h1 h2
    rcases hm with rfl | rfl | rfl
    · exact bet_trans (bet_trans p4.2.1 p2.2.1) (p1.2.2 k h1 (by omega))
    · exact bet_trans p4.2.1 (p2.2.2 k h1 (by omega))
    · exact p4.2.2 k h1 (by omega)
  refine ⟨?_, hall⟩
  rcases p4.1 with h4 | ⟨k, k1, k2, h4⟩
  · rcases p2.1 with h2 | ⟨k, k1, k2, h2⟩
    · rcases p1.1 with h1 | ⟨k, k1, k2, h1⟩
      · exfalso
        have hb := kmax_byte hc x s
        have := hall 4 1 (.inr (.inr rfl)) (by omega) hb
        have e : pick cls (x :: s) R = farP := h4.trans (h2.trans h1)
        rw [e, cand_far cls 4 R 1 (by omega) (hR _)] at this
        exact absurd this (by simp)
      · exact ⟨1, k, .inl rfl, k1, by omega, h4.trans (h2.trans h1)⟩
    · exact ⟨2, k, .inr (.inl rfl), k1, by omega, h4.trans h2⟩
  · exact ⟨4, k, .inr (.inr rfl), k1, by omega, h4⟩
theorem tab_length (cls : Int) (s : List Int) : (tab cls s).length = s.length + 1 := by
  induction s with
  | nil => rfl
  | cons x s ih => simp [tab, ih]
theorem tab_drop (cls : Int) (s : List Int) : ∀ i, i ≤ s.length → (tab cls s).drop i = tab cls (s.drop i) := by
  induction s with
  | nil => intro i hi; obtain rfl : i = 0 := by simpa using hi
           rfl
  | cons x s ih =>
    intro i hi
    cases i with
    | zero => rfl
    | succ i => simp only [tab, List.drop_succ_cons]; exact ih i (by simpa using hi)
theorem tab_at (cls : Int) (s : List Int) (i : Nat) (hi : i ≤ s.length) : (tab cls s).getD i z93 = best cls (s.drop i) := by
  unfold best
  rw [← tab_drop cls s i hi]
  simp [List.getD_eq_getElem?_getD]
theorem dbOf_byte (k : Int) : dbOf 4 k = k * 8 := by unfold dbOf; simp
/-- What the best plans are. -/
theorem tab_range {cls : Int} (hc : 0 ≤ cls ∧ cls ≤ 2) : ∀ s : List Int, s.length ≤ 4096 → ∀ i, 0 ≤ ((tab cls s).getD i z93).f0 ∧ ((tab cls s).getD i z93).f0 ≤ 28 * s.length ∧ 0 ≤ ((tab cls s).getD i z93).f1 ∧ ((tab cls s).getD i z93).f1 ≤ s.length := by
  intro s
  induction s with
  | nil =>
    intro _ i
    cases i with
    | zero => simp [tab, z93]
    | succ i => simp [tab, z93]
  | cons x s ih =>
    intro hs i
    have ih := ih (by simp at hs; omega)
    simp only [List.length_cons] at hs ⊢
    cases i with
    | succ i => have := ih i; simp only [tab, List.getD_cons_succ]; omega
    | zero =>
      obtain ⟨⟨m, k, hm, k1, k2, he⟩, hall⟩ := pick_props hc x s (by omega) (tab cls s) (fun i => by have := ih i; omega)
      have h41 := bet_bits (hall 4 1 (.inr (.inr rfl)) (by omega) (kmax_byte hc x s))
      have hr := ih (k - 1)
      have h0 := ih 0
      have hcb := cb_mode hc hm
      have hcb4 := cb_mode hc (.inr (.inr rfl) : (4 : Int) = 1 ∨ (4 : Int) = 2 ∨ (4 : Int) = 4)
      have hdb := dbOf_range m k (by omega)
      have hk := kmax_le cls m (x :: s)
      simp only [tab, List.getD_cons_zero]
      have e0 : (pick cls (x :: s) (tab cls s)).f0 = 4 + cbOf m cls + dbOf m k + ((tab cls s).getD (k - 1) z93).f0 := by rw [he]; rfl
      have e1 : (pick cls (x :: s) (tab cls s)).f1 = 1 + ((tab cls s).getD (k - 1) z93).f1 := by rw [he]; rfl
      have e4 : (cand cls 4 (tab cls s) 1).f0 = 4 + cbOf 4 cls + 8 + ((tab cls s).getD 0 z93).f0 := by unfold cand; rw [dbOf_byte]; rfl
      rw [e4] at h41
      refine ⟨by omega, by omega, by omega, by omega⟩
end Go.Proofs.Ytagmncdbiljacaa.X
