/- The pure law of BitsNobody. No condition. -/
import Derived.Test.YtochccmhcpeioaaYNobody
namespace Go.Proofs.Ytochccmhcpeioaa.Pure
open Go.RowKit Go.Proofs.Ytochccmhcpeioaa.X Go.Proofs.YtochccmhcpeioaaW.PrintWords Go.Proofs.YtochccmhcpeioaaW.PrintLast Go.Proofs.YtochccmhcpeioaaW.PrintMore
set_option linter.unusedVariables false
set_option linter.unusedSimpArgs false

theorem BitsNobody (a0 : Int) (h0 : (Lit.int .i64 a0).wf = true) : X.barscanlaw01_BitsNobody.f a0 = some true := by
  rfl

end Go.Proofs.Ytochccmhcpeioaa.Pure
