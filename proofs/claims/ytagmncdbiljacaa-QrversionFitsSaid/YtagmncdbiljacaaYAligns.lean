/- qrversion.Aligns hands back the alignment coordinates of a version, or the error. No condition. -/
import Derived.Test.YtagmncdbiljacaaYCenters
import Derived.Test.YtagmncdbiljacaaYIndex
import Derived.Test.YtagmncdbiljacaaXx1
namespace Go.Proofs.Ytagmncdbiljacaa.X
open Go.RowKit Go.Proofs.YtagmncdbiljacaaW.PrintWords Go.Proofs.YtagmncdbiljacaaW.PrintLast Go.Proofs.YtagmncdbiljacaaW.PrintMore
set_option linter.unusedVariables false
set_option linter.unusedSimpArgs false

def qrversion_Aligns.f (a0 : Int) : Option (List Int × Int) := if 1 ≤ a0 ∧ a0 ≤ 40 then some (qrCenters.getD (a0 - 1).toNat [], 0) else some ([], 14)

set_option maxHeartbeats 1000000 in
set_option maxRecDepth 100000 in
theorem qrversion_Aligns.calls (a0 : Int) (r1 : List Int) (r2 : Int) (w : World) (h : qrversion_Aligns.f a0 = some (r1, r2)) :
    Calls Try.prog 42 #[.int .i64 a0] w fun e w' => ∃ v0_ : Value, e = .returned (.tuple #[v0_, .int .i64 r2]) ∧ Kd.R (Kd.int .i64) 3 w' w.heap.size (fun _ => True) v0_ r1 ∧ Below w.heap.size w w' := by
  unfold qrversion_Aligns.f at h
  have hv : qrversion_valid.f a0 = some (decide (1 ≤ a0 ∧ a0 ≤ 40)) := by
    unfold qrversion_valid.f
    by_cases h1 : a0 ≥ 1
    · rw [if_pos h1]; simp; omega
    · rw [if_neg h1]; simp; omega
  split at h
  · rename_i hr
    simp only [Option.some.injEq, Prod.mk.injEq] at h
    obtain ⟨rfl, rfl⟩ := h
    have HV := Aside0.mk hv
    clear hv
    have hd : decide (1 ≤ a0 ∧ a0 ≤ 40) = true := decide_eq_true hr
    rw [hd] at HV
    have b1 := hr.1
    have b2 := hr.2
    clear hr hd
    have hget : ∃ xs, qrCenters[(a0 - 1).toNat]? = some xs ∧ qrCenters.getD (a0 - 1).toNat [] = xs := by
      have hl : (a0 - 1).toNat < qrCenters.length := by show _ < 40; omega
      exact ⟨_, List.getElem?_eq_getElem hl, by rw [List.getD_eq_getElem?_getD, List.getElem?_eq_getElem hl]; rfl⟩
    obtain ⟨xs, hx, hx2⟩ := hget
    rw [hx2]
    have HX := Aside0.mk hx
    clear hx hx2
    go_enter Try.func42, Try.ntmps42
    go_wp2_with fail
    refine (qrversion_valid.calls a0 true _ HV.out).mono ?_
    rintro e w1 ⟨rfl, hD⟩
    have HD := Aside0.mk hD
    clear hD
    go_wp2_with fail
    refine (centers_calls _).mono ?_
    rintro e w2 ⟨vs, rfl, hlen, hrd, hb⟩
    obtain ⟨v, hv, hR⟩ := hrd _ _ HX.out
    have hix : ∀ W, (Instr.index 114 (.agg vs.toArray) (.int .i64 (a0 - 1))).run Try.prog W = .ok v W := fun W =>
      run_index_part (n := 40) (e := 63) Try.underlying114 Try.underlying63 rfl (by kernel_rfl) (a0 - 1) (by omega) (by omega) (by simpa using hv) W
    have HB := Aside0.mk hb
    have HR := Aside0.mk hR
    clear hb hR hv hlen hrd
    go_wp2_with fail
    go_ret2
    obtain ⟨m, rfl⟩ := HD.out
    exact ⟨_, rfl, HR.out, below_step (Drawn0.below ⟨m, rfl⟩) HB.out⟩
  · rename_i hr
    simp only [Option.some.injEq, Prod.mk.injEq] at h
    obtain ⟨rfl, rfl⟩ := h
    rw [decide_eq_false hr] at hv
    have HV := Aside0.mk hv
    clear hv hr
    go_enter Try.func42, Try.ntmps42
    go_wp2_with fail
    refine (qrversion_valid.calls a0 false _ HV.out).mono ?_
    rintro e w1 ⟨rfl, hD⟩
    have HD := Aside0.mk hD
    clear hD
    go_wp2_with fail
    go_ret2
    obtain ⟨m, rfl⟩ := HD.out
    exact ⟨_, rfl, Kd.R_nil _ _ _ _ _, Drawn0.below ⟨m, rfl⟩⟩

end Go.Proofs.Ytagmncdbiljacaa.X
