/- qrversion.capacity at a version and a level. The version and the level exist. -/
import Derived.Test.YtjhhckkmogekkaaYRows
namespace Go.Proofs.Ytjhhckkmogekkaa.X
open Go.RowKit Go.Proofs.YtjhhckkmogekkaaW.PrintWords Go.Proofs.YtjhhckkmogekkaaW.PrintLast Go.Proofs.YtjhhckkmogekkaaW.PrintMore
set_option linter.unusedVariables false
set_option linter.unusedSimpArgs false

def capOf (a0 a1 : Int) : Int :=
  (qrTable.getD (a0 - 1).toNat []).getD 0 0 - (qrTable.getD (a0 - 1).toNat []).getD (1 + a1.toNat) 0 * (qrTable.getD (a0 - 1).toNat []).getD (5 + a1.toNat) 0
def qrversion_capacity.f (a0 : Int) (a1 : Int) : Option (Int) := if 1 ≤ a0 ∧ a0 ≤ 40 ∧ 1 ≤ a1 ∧ a1 ≤ 4 then some (capOf a0 a1) else none

theorem mul_lo {k b : Int} (hk : 7 ≤ k) (hb : 1 ≤ b) : 0 ≤ k * b := Int.mul_nonneg (by omega) (by omega)

set_option maxHeartbeats 1000000 in
set_option maxRecDepth 100000 in
theorem qrversion_capacity.calls (a0 : Int) (a1 : Int) (r : Int) (w : World) (h : qrversion_capacity.f a0 a1 = some r) :
    Calls Try.prog 34 #[.int .i64 a0, .int .i64 a1] w fun e w' => e = .returned (.int .i64 r) ∧ Below w.heap.size w w' := by
  unfold qrversion_capacity.f at h
  split at h
  case isFalse => exact absurd h (by simp)
  rename_i hr
  obtain ⟨l1, l2, l3, l4⟩ := hr
  obtain ⟨c, rr, k1, k2, k3, k4, b1, b2, b3, b4, hrow, hix, ⟨q0, q1, _, _, d1, d2, d3, d4, d5, d6, d7, d8, e1, e2, e3, e4, e5, e6, e7, e8⟩, g1, g2, g3, g4⟩ := qr_row a0 l1 l2
  have m1 := mul_lo d1 e1
  have m2 := mul_lo d3 e3
  have m3 := mul_lo d5 e5
  have m4 := mul_lo d7 e7
  have hr := Option.some.inj h
  clear h
  subst hr
  unfold capOf
  rw [hrow]
  clear hrow
  have hcase : a1 = 1 ∨ a1 = 2 ∨ a1 = 3 ∨ a1 = 4 := by omega
  clear l3 l4
  rcases hcase with rfl | rfl | rfl | rfl
  all_goals
    go_enter Try.func34, Try.ntmps34
    go_wp2_with fail
    refine (table_calls _).mono ?_
    rintro e w2 ⟨rfl, hb⟩
    have HB := Aside0.mk hb
    clear hb
    go_wp2_with fail
    go_quiet (fail)
    go_wp2_with fail
    go_ret
    exact ⟨rfl, pw_below_drewN (below_alloc HB.out _) _⟩

end Go.Proofs.Ytjhhckkmogekkaa.X
