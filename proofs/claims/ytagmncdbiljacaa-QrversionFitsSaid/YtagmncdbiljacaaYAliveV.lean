/- barscanlaw17.alive: the chapter's examples hold. No condition. -/
import Derived.Test.YtagmncdbiljacaaYAliveP
namespace Go.Proofs.Ytagmncdbiljacaa.X
open Go.RowKit Go.Proofs.YtagmncdbiljacaaW.PrintWords Go.Proofs.YtagmncdbiljacaaW.PrintLast Go.Proofs.YtagmncdbiljacaaW.PrintMore

def barscanlaw17_alive.f : Option Bool := some true
theorem aliveP_is : barscanlaw17_aliveP.f 20 = some true := by decide +kernel
theorem barscanlaw17_alive.calls (r : Bool) (w : World) (h : barscanlaw17_alive.f = some r) :
    Calls Try.prog 14 #[] w fun e w' => e = .returned (.bool r) ∧ Below w.heap.size w w' := by
  obtain rfl : true = r := Option.some.inj h
  exact barscanlaw17_aliveP.calls true w aliveP_is
end Go.Proofs.Ytagmncdbiljacaa.X
