/- The pure law of BitsInverse. No condition. -/
import Derived.Test.YtochccmhcpeioaaYInverse
namespace Go.Proofs.Ytochccmhcpeioaa.Pure
open Go.RowKit Go.Proofs.Ytochccmhcpeioaa.X Go.Proofs.YtochccmhcpeioaaW.PrintWords Go.Proofs.YtochccmhcpeioaaW.PrintLast Go.Proofs.YtochccmhcpeioaaW.PrintMore
set_option linter.unusedVariables false
set_option linter.unusedSimpArgs false

theorem BitsInverse (l0 : List S24) (h0 : l0.length ≤ maxLen) (h1 : ∀ y ∈ l0, True) : X.barscanlaw01_BitsInverse.f l0 = some true := by
  rfl

end Go.Proofs.Ytochccmhcpeioaa.Pure
