/- The pure law of BitsTexts. No condition. -/
import Derived.Test.YtochccmhcpeioaaXx7
import Derived.Test.YtochccmhcpeioaaYTexts
namespace Go.Proofs.Ytochccmhcpeioaa.Pure
open Go.RowKit Go.Proofs.Ytochccmhcpeioaa.X Go.Proofs.YtochccmhcpeioaaW.PrintWords Go.Proofs.YtochccmhcpeioaaW.PrintLast Go.Proofs.YtochccmhcpeioaaW.PrintMore
set_option linter.unusedVariables false
set_option linter.unusedSimpArgs false

theorem parseR_len (s : ByteArray) : (parseR s).1.length ≤ s.size := by
  unfold parseR
  split
  · simp
  split
  · simp [nbytes_length]
  · simp
theorem BitsTexts (l0 : List Bool) (l1 : List Bool) (a2 : ByteArray) (h0 : l0.length ≤ maxLen) (h1 : ∀ y ∈ l0, True) (h2 : l1.length ≤ maxLen) (h3 : ∀ y ∈ l1, True) (h4 : a2.size ≤ maxLen) : ∃ k, X.barscanlaw01_BitsTexts.f k l0 l1 a2 = some true := by
  refine ⟨4000, ?_⟩
  unfold X.barscanlaw01_BitsTexts.f
  have hj : ∀ b, (b = false → l0.length ≤ 2000 ∧ l1.length ≤ 2000 ∧ a2.size ≤ 2000) → X.barscanlaw01_BitsTexts.j0 4000 l0 l1 a2 b = some true := by
    intro b hb
    rw [show 4000 = 3999 + 1 from rfl, X.barscanlaw01_BitsTexts.j0]
    unfold barscanlaw01_alive.f
    cases b with
    | true => rfl
    | false =>
      obtain ⟨l1, l2, l3⟩ := hb rfl
      have hp := parseR_len a2
      rw [if_neg (by simp), Parse_is _ _ (by omega), refParse_is _ _ (by omega), Distance_is _ _ _ (by omega) (by omega), refDistance_is _ _ _ (by omega) (by omega), Format_is _ _ (by omega) (by omega), refFormat_is _ _ (by omega) (by omega)]
      simp only [Option.bind_some, if_true]
      rw [Same_is _ _ _ (by omega) (by omega), Weight_is _ _ (by omega) (by omega), refWeight_is _ _ (by omega) (by omega)]
      simp
  by_cases hl : (l0.length : Int) > 2000
  · rw [if_pos hl]
    exact hj true (by simp)
  rw [if_neg hl]
  by_cases hl2 : (l1.length : Int) > 2000
  · rw [if_pos hl2]
    exact hj true (by simp)
  rw [if_neg hl2]
  exact hj _ (fun h => ⟨by omega, by omega, by have := of_decide_eq_false h; omega⟩)
end Go.Proofs.Ytochccmhcpeioaa.Pure
