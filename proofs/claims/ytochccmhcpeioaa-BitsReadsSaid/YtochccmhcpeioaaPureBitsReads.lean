/- The pure law of BitsReads. No condition. -/
import Derived.Test.YtochccmhcpeioaaYReads
namespace Go.Proofs.Ytochccmhcpeioaa.Pure
open Go.RowKit Go.Proofs.Ytochccmhcpeioaa.X Go.Proofs.YtochccmhcpeioaaW.PrintWords Go.Proofs.YtochccmhcpeioaaW.PrintLast Go.Proofs.YtochccmhcpeioaaW.PrintMore
set_option linter.unusedVariables false
set_option linter.unusedSimpArgs false

theorem BitsReads (l0 : List Bool) (l1 : List Int) (h0 : l0.length ≤ maxLen) (h1 : ∀ y ∈ l0, True) (h2 : l1.length ≤ maxLen) (h3 : ∀ y ∈ l1, (Lit.int .i64 y).wf = true) : X.barscanlaw01_BitsReads.f l0 l1 = some true := by
  rfl

end Go.Proofs.Ytochccmhcpeioaa.Pure
