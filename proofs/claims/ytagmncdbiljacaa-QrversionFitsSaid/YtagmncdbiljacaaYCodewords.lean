/- A version's row of the table, and qrversion.Codewords. No condition. -/
import Derived.Test.YtagmncdbiljacaaYRows
import Derived.Test.YtagmncdbiljacaaXx1
namespace Go.Proofs.Ytagmncdbiljacaa.X
open Go.RowKit Go.Proofs.YtagmncdbiljacaaW.PrintWords Go.Proofs.YtagmncdbiljacaaW.PrintLast Go.Proofs.YtagmncdbiljacaaW.PrintMore
set_option linter.unusedVariables false
set_option linter.unusedSimpArgs false

def qrversion_Codewords.f (a0 : Int) : Option (Int × Int × Int) := if 1 ≤ a0 ∧ a0 ≤ 40 then some ((qrTable.getD (a0 - 1).toNat []).getD 0 0, (qrTable.getD (a0 - 1).toNat []).getD 1 0, 0) else some (0, 0, 14)

set_option maxHeartbeats 1000000 in
set_option maxRecDepth 100000 in
theorem qrversion_Codewords.calls (a0 : Int) (r1 : Int) (r2 : Int) (r3 : Int) (w : World) (h : qrversion_Codewords.f a0 = some (r1, r2, r3)) :
    Calls Try.prog 43 #[.int .i64 a0] w fun e w' => e = .returned (.tuple #[.int .i64 r1, .int .i64 r2, .int .i64 r3]) ∧ Below w.heap.size w w' := by
  unfold qrversion_Codewords.f at h
  have hv := valid_is a0
  split at h
  · rename_i hr
    simp only [Option.some.injEq, Prod.mk.injEq] at h
    obtain ⟨rfl, rfl, rfl⟩ := h
    rw [decide_eq_true hr] at hv
    have HV := Aside0.mk hv
    clear hv
    obtain ⟨c, r, k1, k2, k3, k4, b1, b2, b3, b4, hrow, hix, hbd⟩ := qr_row a0 hr.1 hr.2
    rw [hrow]
    have l1 := hr.1
    have l2 := hr.2
    clear hrow hr hbd
    go_enter Try.func43, Try.ntmps43
    go_wp2_with fail
    refine (qrversion_valid.calls a0 true _ HV.out).mono ?_
    rintro e w1 ⟨rfl, hD⟩
    have HD := Aside0.mk hD
    clear hD
    go_wp2_with fail
    refine (table_calls _).mono ?_
    rintro e w2 ⟨rfl, hb⟩
    have HB := Aside0.mk hb
    clear hb
    go_wp2_with fail
    go_quiet (fail)
    go_wp2_with fail
    go_ret3
    obtain ⟨m, rfl⟩ := HD.out
    exact ⟨rfl, pw_below_drewN (below_alloc (below_step (Drawn0.below ⟨m, rfl⟩) HB.out) _) _⟩
  · rename_i hr
    simp only [Option.some.injEq, Prod.mk.injEq] at h
    obtain ⟨rfl, rfl, rfl⟩ := h
    rw [decide_eq_false hr] at hv
    have HV := Aside0.mk hv
    clear hv hr
    go_enter Try.func43, Try.ntmps43
    go_wp2_with fail
    refine (qrversion_valid.calls a0 false _ HV.out).mono ?_
    rintro e w1 ⟨rfl, hD⟩
    have HD := Aside0.mk hD
    clear hD
    go_wp2_with fail
    go_ret3
    obtain ⟨m, rfl⟩ := HD.out
    exact ⟨rfl, Drawn0.below ⟨m, rfl⟩⟩

end Go.Proofs.Ytagmncdbiljacaa.X
