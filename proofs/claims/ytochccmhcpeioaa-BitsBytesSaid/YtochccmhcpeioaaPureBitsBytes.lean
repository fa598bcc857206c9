/- The pure law of BitsBytes. No condition. -/
import Derived.Test.YtochccmhcpeioaaXx10
import Derived.Test.YtochccmhcpeioaaYBytes
namespace Go.Proofs.Ytochccmhcpeioaa.Pure
open Go.RowKit Go.Proofs.Ytochccmhcpeioaa.X Go.Proofs.YtochccmhcpeioaaW.PrintWords Go.Proofs.YtochccmhcpeioaaW.PrintLast Go.Proofs.YtochccmhcpeioaaW.PrintMore
set_option linter.unusedVariables false
set_option linter.unusedSimpArgs false

theorem fromBytesR_len (p : List Int) (n : Int) : (fromBytesR p n).1.length ≤ 1048576 := by
  unfold fromBytesR
  split
  · simp
  split
  · simp
  split
  · simp
  · simp only [List.length_map, List.length_range]
    omega
theorem BitsBytes (l0 : List Bool) (l1 : List Int) (a2 : Int) (h0 : l0.length ≤ maxLen) (h1 : ∀ y ∈ l0, True) (h2 : l1.length ≤ maxLen) (h3 : ∀ y ∈ l1, (Lit.int .u8 y).wf = true) (h4 : (Lit.int .i64 a2).wf = true) : ∃ k, X.barscanlaw01_BitsBytes.f k l0 l1 a2 = some true := by
  refine ⟨2000000, ?_⟩
  unfold X.barscanlaw01_BitsBytes.f
  have hj : ∀ b, (b = false → l0.length ≤ 2000) → X.barscanlaw01_BitsBytes.j0 2000000 l0 l1 a2 b = some true := by
    intro b hb
    rw [show 2000000 = 1999999 + 1 from rfl, X.barscanlaw01_BitsBytes.j0]
    unfold barscanlaw01_alive.f
    cases b with
    | true => rfl
    | false =>
      have k1 := hb rfl
      have hf := fromBytesR_len l1 a2
      rw [if_neg (by simp), FromBytes_is _ _ _ (by omega), refFromBytes_is _ _ _ (by omega), Bytes_is _ _ (by omega) (by omega), refBytes_is _ _ (by omega) (by omega)]
      simp only [Option.bind_some, if_true]
      rw [Same_is _ _ _ (by omega) (by omega)]
      simp
  by_cases hl : (l0.length : Int) > 2000
  · rw [if_pos hl]
    exact hj true (by simp)
  rw [if_neg hl]
  exact hj _ (fun h => by omega)
end Go.Proofs.Ytochccmhcpeioaa.Pure
