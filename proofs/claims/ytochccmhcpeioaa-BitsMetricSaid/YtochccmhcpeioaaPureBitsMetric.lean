/- The pure law of BitsMetric. No condition. -/
import Derived.Test.YtochccmhcpeioaaXx8
import Derived.Test.YtochccmhcpeioaaYTexts
namespace Go.Proofs.Ytochccmhcpeioaa.Pure
open Go.RowKit Go.Proofs.Ytochccmhcpeioaa.X Go.Proofs.YtochccmhcpeioaaW.PrintWords Go.Proofs.YtochccmhcpeioaaW.PrintLast Go.Proofs.YtochccmhcpeioaaW.PrintMore
set_option linter.unusedVariables false
set_option linter.unusedSimpArgs false

theorem dist_bound : ∀ (a b : List Bool), 0 ≤ dist a b ∧ dist a b ≤ a.length
  | [], b => by simp [dist]
  | x :: a, [] => by simp [dist]; omega
  | x :: a, y :: b => by
    have := dist_bound a b
    simp only [dist, List.length_cons]
    split <;> omega
theorem dist_comm : ∀ (a b : List Bool), dist a b = dist b a
  | [], [] => rfl
  | [], y :: b => rfl
  | x :: a, [] => rfl
  | x :: a, y :: b => by
    simp only [dist]
    rw [dist_comm a b]
    cases x <;> cases y <;> rfl
theorem dist_tri : ∀ (a b c : List Bool), a.length = b.length → b.length = c.length → dist a c ≤ dist a b + dist b c
  | [], b, c, _, _ => by
    have h1 := dist_bound [] b
    have h2 := dist_bound b c
    simp only [dist]
    omega
  | x :: a, y :: b, z :: c, h1, h2 => by
    have := dist_tri a b c (by simpa using h1) (by simpa using h2)
    simp only [dist]
    cases x <;> cases y <;> cases z <;> simp <;> omega
  | x :: a, [], c, h1, _ => by simp at h1
  | x :: a, y :: b, [], _, h2 => by simp at h2
theorem dist_zero : ∀ (a b : List Bool), a.length = b.length → (dist a b = 0 ↔ a = b)
  | [], [], _ => by simp [dist]
  | x :: a, y :: b, h => by
    have ih := dist_zero a b (by simpa using h)
    have hb := dist_bound a b
    simp only [dist, List.cons.injEq]
    cases x <;> cases y <;> simp <;> first | exact ih | omega
  | [], y :: b, h => by simp at h
  | x :: a, [], h => by simp at h
theorem dist_weight : ∀ (a : List Bool), dist a (List.replicate a.length false) = weight a
  | [] => rfl
  | x :: a => by
    rw [List.length_cons, List.replicate_succ, weight_cons]
    simp only [dist]
    rw [dist_weight a]
    cases x <;> rfl
theorem dist_set : ∀ (a b : List Bool) (i : Nat) (v : Bool), dist a (b.set i v) ≤ dist a b + 1
  | [], b, i, v => by simp [dist]
  | x :: a, [], i, v => by simp [dist]
  | x :: a, y :: b, 0, v => by
    simp only [List.set_cons_zero, dist]
    cases x <;> cases y <;> cases v <;> simp <;> omega
  | x :: a, y :: b, i + 1, v => by
    have := dist_set a b i v
    simp only [List.set_cons_succ, dist]
    omega

theorem last_ok (b c d : List Bool) (x : List Int) (k : Nat) (hb : b.length ≤ 500) (hc : c.length = b.length) (hd : d.length = b.length) (hx : dist b c ≤ x.length) (hk : 600 < k) (y : List Int) (i len : Int) (hi : ¬ i < len) :
    X.barscanlaw01_BitsMetric.l1 (k + 2) b x y c d len i = some true := by
  have t := dist_tri b c d hc.symm (hc.trans hd.symm)
  have b1 := dist_bound b c
  have b2 := dist_bound c d
  simp only [X.barscanlaw01_BitsMetric.l1]
  rw [if_neg hi, Distance_is _ _ _ (by omega) (by omega), Distance_is _ _ _ (by omega) (by omega), Distance_is _ _ _ (by omega) (by omega), Distance_is _ _ _ (by omega) (by omega), Distance_is _ _ _ (by omega) (by omega)]
  unfold distR
  rw [if_pos hc.symm, if_pos (hc.trans hd.symm), if_pos hd.symm, if_pos hc, if_pos (by simp)]
  simp only [Option.bind_some, if_true, Int.toNat_natCast]
  rw [if_pos (by omega), if_pos (by omega)]
  simp only [X.barscanlaw01_BitsMetric.j3]
  rw [if_neg (by simp), if_pos hx, if_pos (dist_comm b c), w64 (by omega), if_pos t, Same_is _ _ _ (by omega) (by omega), Option.bind_some, if_pos ?_, Weight_is _ _ (by omega) (by omega), Option.bind_some, dist_weight, if_pos rfl]
  · rfl
  · have z := dist_zero b c hc.symm
    by_cases h : b = c
    · rw [z.2 h, decide_eq_true h]
      rfl
    · rw [decide_eq_false h, beq_eq_false_iff_ne.mpr (fun e => h (z.1 e))]
      rfl
theorem second_ok (b c : List Bool) (x y : List Int) (hy : y.length ≤ 500) (hb : b.length ≤ 500) (hc : c.length = b.length) (hx : dist b c ≤ x.length) : ∀ (n i k : Nat) (d : List Bool), i + n = y.length → d.length = b.length → n + 610 < k →
    X.barscanlaw01_BitsMetric.l1 k b x y c d (y.length : Int) i = some true := by
  intro n
  induction n with
  | zero =>
    intro i k d hi hd hk
    obtain ⟨k, rfl⟩ : ∃ m, k = m + 2 := ⟨k - 2, by omega⟩
    exact last_ok b c d x k hb hc hd hx (by omega) y _ _ (by omega)
  | succ n ih =>
    intro i k d hi hd hk
    obtain ⟨k, rfl⟩ : ∃ m, k = m + 1 := ⟨k - 1, by omega⟩
    simp only [X.barscanlaw01_BitsMetric.l1]
    rw [if_pos (by omega), if_pos (by omega), if_pos (by omega), w64 (by omega), show (i : Int) + 1 = ((i + 1 : Nat) : Int) by omega]
    by_cases h1 : rd y (i : Int) ≥ 0
    · rw [if_pos h1]
      by_cases h2 : rd y (i : Int) < (d.length : Int)
      · rw [if_pos h2, if_pos h1]
        exact ih _ _ _ (by omega) (by rw [List.length_set]; exact hd) (by omega)
      · rw [if_neg h2]
        exact ih _ _ _ (by omega) hd (by omega)
    · rw [if_neg h1]
      exact ih _ _ _ (by omega) hd (by omega)
theorem first_ok (b : List Bool) (x y : List Int) (hy : y.length ≤ 500) (hxl : x.length ≤ 500) (hb : b.length ≤ 500) : ∀ (n i k : Nat) (c : List Bool), i + n = x.length → c.length = b.length → dist b c ≤ i → n + 1200 < k →
    X.barscanlaw01_BitsMetric.l0 k b x y c b (x.length : Int) i = some true := by
  intro n
  induction n with
  | zero =>
    intro i k c hi hc hx hk
    obtain ⟨k, rfl⟩ : ∃ m, k = m + 1 := ⟨k - 1, by omega⟩
    simp only [X.barscanlaw01_BitsMetric.l0]
    rw [if_neg (by omega)]
    exact second_ok b c x y hy hb hc (by omega) y.length 0 k b (by omega) rfl (by omega)
  | succ n ih =>
    intro i k c hi hc hx hk
    obtain ⟨k, rfl⟩ : ∃ m, k = m + 1 := ⟨k - 1, by omega⟩
    simp only [X.barscanlaw01_BitsMetric.l0]
    rw [if_pos (by omega), if_pos (by omega), if_pos (by omega), w64 (by omega), show (i : Int) + 1 = ((i + 1 : Nat) : Int) by omega]
    by_cases h1 : rd x (i : Int) ≥ 0
    · rw [if_pos h1]
      by_cases h2 : rd x (i : Int) < (c.length : Int)
      · rw [if_pos h2, if_pos h1]
        exact ih _ _ _ (by omega) (by rw [List.length_set]; exact hc) (by have := dist_set b c (rd x (i : Int)).toNat (!rdOf false c (rd x (i : Int))); omega) (by omega)
      · rw [if_neg h2]
        exact ih _ _ _ (by omega) hc (by omega) (by omega)
    · rw [if_neg h1]
      exact ih _ _ _ (by omega) hc (by omega) (by omega)
theorem BitsMetric (l0 : List Bool) (l1 : List Int) (l2 : List Int) (h0 : l0.length ≤ maxLen) (h1 : ∀ y ∈ l0, True) (h2 : l1.length ≤ maxLen) (h3 : ∀ y ∈ l1, (Lit.int .i64 y).wf = true) (h4 : l2.length ≤ maxLen) (h5 : ∀ y ∈ l2, (Lit.int .i64 y).wf = true) : ∃ k, X.barscanlaw01_BitsMetric.f k l0 l1 l2 = some true := by
  refine ⟨2000, ?_⟩
  unfold X.barscanlaw01_BitsMetric.f
  have hj : ∀ b, (b = false → l0.length ≤ 500 ∧ l1.length ≤ 500 ∧ l2.length ≤ 500) → X.barscanlaw01_BitsMetric.j0 2000 l0 l1 l2 b = some true := by
    intro b hb
    rw [show 2000 = 1999 + 1 from rfl, X.barscanlaw01_BitsMetric.j0]
    cases b with
    | true => rfl
    | false =>
      obtain ⟨k0, k1, k2⟩ := hb rfl
      rw [if_neg (by simp)]
      simp only [Option.bind_some, List.nil_append]
      rw [if_pos (by simp; omega), if_pos (by simp; omega)]
      exact first_ok l0 l1 l2 k2 k1 k0 l1.length 0 1999 l0 (by omega) rfl (by rw [(dist_zero l0 l0 rfl).2 rfl]; exact Int.le_refl _) (by omega)
  by_cases hl : (l0.length : Int) > 500
  · rw [if_pos hl]
    exact hj true (by simp)
  rw [if_neg hl]
  by_cases hl2 : (l1.length : Int) > 500
  · rw [if_pos hl2]
    exact hj true (by simp)
  rw [if_neg hl2]
  exact hj _ (fun h => ⟨by omega, by omega, by have := of_decide_eq_false h; omega⟩)
end Go.Proofs.Ytochccmhcpeioaa.Pure
