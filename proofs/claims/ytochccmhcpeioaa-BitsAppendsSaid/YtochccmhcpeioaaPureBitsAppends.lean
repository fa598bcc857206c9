/- The pure law of BitsAppends. No condition. -/
import Derived.Test.YtochccmhcpeioaaXx4
import Derived.Test.YtochccmhcpeioaaYRefA
namespace Go.Proofs.Ytochccmhcpeioaa.Pure
open Go.RowKit Go.Proofs.Ytochccmhcpeioaa.X Go.Proofs.YtochccmhcpeioaaW.PrintWords Go.Proofs.YtochccmhcpeioaaW.PrintLast Go.Proofs.YtochccmhcpeioaaW.PrintMore
set_option linter.unusedVariables false
set_option linter.unusedSimpArgs false

theorem appendR_len (l : List Bool) (v n : Int) (hl : l.length ≤ 2000) : (appendR l v n).1.length ≤ 2062 := by
  unfold appendR
  split
  · simp
  split
  · simp
  · simp only [List.length_append, low_length]
    omega
theorem BitsAppends (l0 : List Bool) (a1_0 : Int) (a1_1 : Int) (a2 : Int) (h0 : l0.length ≤ maxLen) (h1 : ∀ y ∈ l0, True) (h2 : (Lit.int .i64 a1_0).wf = true) (h3 : (Lit.int .i64 a1_1).wf = true) (h4 : (Lit.int .i64 a2).wf = true) : ∃ k, X.barscanlaw01_BitsAppends.f k l0 a1_0 a1_1 a2 = some true := by
  refine ⟨3000, ?_⟩
  unfold X.barscanlaw01_BitsAppends.f barscanlaw01_alive.f
  by_cases hl : (l0.length : Int) > 2000
  · rw [if_pos hl]
    rfl
  rw [if_neg hl]
  have hlen := appendR_len l0 a1_0 a1_1 (by omega)
  rw [Append_is _ _ _ _ (by omega) (by omega), refAppend_is _ _ _ _ (by omega) (by omega), Take_is _ _ _ _ (by omega) (by omega), refTake_is _ _ _ _ (by omega) (by omega)]
  simp only [Option.bind_some]
  rw [Same_is _ _ _ (by omega) (by omega)]
  simp
end Go.Proofs.Ytochccmhcpeioaa.Pure
