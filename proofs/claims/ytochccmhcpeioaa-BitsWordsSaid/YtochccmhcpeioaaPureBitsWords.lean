/- The pure law of BitsWords. No condition. -/
import Derived.Test.YtochccmhcpeioaaXx6
import Derived.Test.YtochccmhcpeioaaYWords
namespace Go.Proofs.Ytochccmhcpeioaa.Pure
open Go.RowKit Go.Proofs.Ytochccmhcpeioaa.X Go.Proofs.YtochccmhcpeioaaW.PrintWords Go.Proofs.YtochccmhcpeioaaW.PrintLast Go.Proofs.YtochccmhcpeioaaW.PrintMore
set_option linter.unusedVariables false
set_option linter.unusedSimpArgs false

theorem wordsR_len (l : List Bool) (size : Int) (fill : Bool) (hl : l.length ≤ 2000) : (wordsR l size fill).1.length ≤ 2000 := by
  unfold wordsR
  split
  · simp
  · rename_i h
    simp only [words, List.length_map, List.length_range]
    have h1 : 1 ≤ size.toNat := by omega
    have h2 : (l.length + size.toNat - 1) / size.toNat ≤ l.length := by
      rcases Nat.eq_zero_or_pos l.length with h3 | h3
      · rw [h3, Nat.zero_add, Nat.div_eq_of_lt (by omega)]
        exact Nat.le_refl _
      · apply Nat.le_of_lt_succ
        rw [Nat.div_lt_iff_lt_mul h1, Nat.succ_mul]
        have : l.length ≤ l.length * size.toNat := Nat.le_mul_of_pos_right _ h1
        omega
    omega
theorem fromR_len (l : List Int) (size : Int) : (fromR l size).1.length ≤ 1048576 := by
  unfold fromR
  split
  · simp
  split
  · simp
  split
  · rename_i h1 h2 h3
    obtain ⟨s, rfl⟩ : ∃ s : Nat, size = s := ⟨size.toNat, by omega⟩
    have h4 : (l.length : Int) * (s : Int) ≤ (1048576 / (s : Int)) * (s : Int) := Int.mul_le_mul_of_nonneg_right (by omega) (by omega)
    have h5 := Int.ediv_mul_le 1048576 (show (s : Int) ≠ 0 by omega)
    have h6 : ((l.length * s : Nat) : Int) ≤ ((1048576 : Nat) : Int) := by
      rw [Int.natCast_mul]
      exact Int.le_trans h4 h5
    have h7 : (l.flatMap (fun v => low v (s : Int).toNat)).length = l.length * s := by
      rw [List.length_flatMap, Int.toNat_natCast]
      simp only [low_length]
      rw [List.map_const', List.sum_replicate_nat]
    show (l.flatMap (fun v => low v (s : Int).toNat)).length ≤ 1048576
    rw [h7]
    exact Int.ofNat_le.mp h6
  · simp
theorem BitsWords (l0_0 : List Bool) (l0_1 : List Int) (a0_2 : Int) (a0_3 : Bool) (h0 : l0_0.length ≤ maxLen) (h1 : ∀ y ∈ l0_0, True) (h2 : l0_1.length ≤ maxLen) (h3 : ∀ y ∈ l0_1, (Lit.int .i64 y).wf = true) (h4 : (Lit.int .i64 a0_2).wf = true) : ∃ k, X.barscanlaw01_BitsWords.f k l0_0 l0_1 a0_2 a0_3 = some true := by
  refine ⟨2000000, ?_⟩
  unfold X.barscanlaw01_BitsWords.f
  have hj : ∀ b, (b = false → l0_0.length ≤ 2000 ∧ l0_1.length ≤ 300) → X.barscanlaw01_BitsWords.j0 2000000 b l0_0 l0_1 a0_2 a0_3 = some true := by
    intro b hb
    rw [show 2000000 = 1999999 + 1 from rfl, X.barscanlaw01_BitsWords.j0]
    unfold barscanlaw01_alive.f
    cases b with
    | true => rfl
    | false =>
      obtain ⟨l1, l2⟩ := hb rfl
      have hw := wordsR_len l0_0 a0_2 a0_3 l1
      have hf := fromR_len l0_1 a0_2
      rw [if_neg (by simp), Words_is _ _ _ (by omega), refWords_is _ _ _ _ (by omega) (by omega), FromWords_is _ _ _ (by omega) (by omega), refFromWords_is _ _ _ (by omega) (by omega)]
      simp only [Option.bind_some]
      rw [Ints_is _ _ _ (by omega) (by omega), Same_is _ _ _ (by omega) (by omega)]
      simp
  by_cases hl : (l0_0.length : Int) > 2000
  · rw [if_pos hl]
    exact hj true (by simp)
  rw [if_neg hl]
  exact hj _ (fun h => ⟨by omega, by have := of_decide_eq_false h; omega⟩)
end Go.Proofs.Ytochccmhcpeioaa.Pure
