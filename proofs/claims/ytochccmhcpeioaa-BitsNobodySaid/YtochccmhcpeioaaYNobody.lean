/- The law BitsNobody answers true. -/
import Derived.Test.YtochccmhcpeioaaYAlive
namespace Go.Proofs.Ytochccmhcpeioaa.X
open Go.RowKit Go.Proofs.YtochccmhcpeioaaW.PrintWords Go.Proofs.YtochccmhcpeioaaW.PrintLast Go.Proofs.YtochccmhcpeioaaW.PrintMore
set_option linter.unusedVariables false
set_option linter.unusedSimpArgs false

def barscanlaw01_BitsNobody.f (a0 : Int) : Option Bool := some true
set_option maxHeartbeats 4000000 in
set_option maxRecDepth 100000 in
theorem barscanlaw01_BitsNobody.calls (a0 : Int) (r : Bool) (w : World) (h : barscanlaw01_BitsNobody.f a0 = some r) :
    Calls Try.prog 7 #[.int .i64 a0] w fun e w' => e = .returned (.bool r) ∧ Below w.heap.size w w' := by
  obtain rfl : true = r := Option.some.inj h
  clear h
  go_enter Try.func7, Try.ntmps7
  go_wp2_with fail
  refine (Take_nil w a0).mono ?_
  rintro e w' ⟨rfl, hw⟩
  replace hw := hw.symm
  subst hw
  go_wp2_with fail
  refine (Take_unmade _ w.heap.size a0 _ (World.alloc_heap_new _ _)).mono ?_
  rintro e w' ⟨rfl, hw⟩
  have B1 : Below w.heap.size w w' := by rw [hw]; exact below_alloc (Below.refl _ _) _
  have B1 := Aside0.mk B1
  clear hw
  go_wp2_with fail
  refine (NewReader_calls none 0 [] _ (Kd.C_nil _ _) (by simp) (by simp)).mono ?_
  rintro e w1 ⟨g, rfl, hg, hRd, hB6⟩
  have H6 := Aside0.mk (And.intro hRd (And.intro hg hB6))
  clear hRd hB6 hg
  go_wp2_with fail
  refine (Take_calls w1 _ g _ 0 H6.out.1).mono ?_
  rintro e w2 ⟨rfl, hRd, hB7, hs7⟩
  have e7 : rdTake [] 0 = (0, 0, 0) := by decide +kernel
  rw [e7]
  clear e7
  have hB7' : Below w'.heap.size w' w2 := H6.out.2.2.trans (hB7.mono H6.out.2.1)
  have B2 := Aside0.mk (bstep B1.out hB7')
  clear hRd hB7 hs7 hB7'
  go_wp2_with fail
  refine (Left_nil w2).mono ?_
  rintro e w3 ⟨rfl, hw⟩
  replace hw := hw.symm
  subst hw
  go_wp2_with fail
  refine (Left_unmade _ w2.heap.size _ (World.alloc_heap_new _ _)).mono ?_
  rintro e w3 ⟨rfl, hw⟩
  have B3 : Below w.heap.size w w3 := by rw [hw]; exact below_alloc B2.out _
  have B3 := Aside0.mk B3
  clear hw
  go_wp2_with fail
  refine (barscanlaw01_alive.calls true _ rfl).mono ?_
  rintro e w4 ⟨rfl, hB⟩
  have B4 := Aside0.mk (bstep B3.out hB)
  clear hB
  go_wp2_with fail
  go_ret
  exact ⟨rfl, B4.out⟩
end Go.Proofs.Ytochccmhcpeioaa.X
