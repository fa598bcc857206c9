/- The row of QrdataHeader. No condition. -/
import Derived.Test.YtjhhckkmogekkaaRows
import Derived.Test.YtjhhckkmogekkaaXx29b
import Derived.Test.YtjhhckkmogekkaaPureQrdataHeader
import Derived.Test.YtjhhckkmogekkaaYOpen
import Derived.WalkKit
import Derived.ProofKit
import Derived.OpenShut
import Derived.ShutString
import Derived.ChangeOld
import Derived.Below
import Derived.SizedLaws
import Derived.Lib.SmallJoins
namespace Go.Proofs.Ytjhhckkmogekkaa.qrdataHeader
open Go.ChangeShapes Go.WideShapes Go.ChangeAt Go.RowKit
open Go.ChangeMaps (open_string shut_string)
set_option linter.unusedVariables false
theorem own : ownKnob Try.prog.godebug = none := by kernel_rfl
theorem laidOut : laidOutB Try.prog = true := by kernel_rfl
set_option maxRecDepth 100000 in
theorem lifted (os : Os) (started : os.Started) (H : Type) (enc : TypeId × Value → H) :
    ReturnsInHanded {} Try.checked os 5 .any (Rows.qrdataHeaderSpec.pre6 enc Try.prog Try.f5 Rows.qrdataHeaderRow.domain false) (Rows.qrdataHeaderSpec.post enc Try.prog Try.f5 false true false false) := by
  refine returnsInHanded_of_change_sized (C := Try.checked) own started (by kernel_rfl) Try.func5
    (ChangeSpec.witness6 (enc := enc) (C := Try.checked) false ⟨#[], #[.agg #[.int .i64 0, .int .i64 0, .int .i64 0]], []⟩ 8 (by kernel_rfl) (by kernel_rfl) (by kernel_rfl) (by kernel_rfl)) ?_
  intro W base args ds gs before hval0 hW hcnd hsz0 _
  have hsz : (DataW.weightsEach Try.prog (Try.f5.params.toList ++ Rows.qrdataHeaderSpec.plain.varTypes Try.prog) (ds ++ gs)).all (· ≤ reachBytes) = true := hsz0
  have hval : ∀ (j : Nat) t v, Try.f5.params[j]? = some t → args[j]? = some v → Value.okWide Try.prog W .any base t v := hval0
  have hW' := hW
  obtain ⟨p, q, hA0, hV, rfl, hfz, hnd⟩ := hW
  have hA : DataW.TrodAll enc Try.prog W 0 (fun _ => true) true Try.f5.params.toList args.toList ds p := hA0
  rw [Try.params5] at hA hval hsz
  obtain ⟨v0, vs0, d0, ds0, p0, q0, hargs, rfl, rfl, h0, r0⟩ := trodAll_cons hA
  obtain ⟨rfl, rfl, rfl⟩ := trodAll_nil r0
  obtain rfl : args = #[v0] := by cases args; simp_all
  obtain ⟨rfl, rfl⟩ := trodVars_none hV
  obtain ⟨c0_0, c0_1, c0_2, y0_0, y0_1, y0_2, n0, rfl, hd0, hp0, r0_0, r0_1, r0_2⟩ := Go.Joins.open_agg3 Try.underlying25 (by kernel_rfl) (by kernel_rfl) (hval 0 _ v0 rfl rfl) h0
  have k0 := h0
  have lt0 : ∀ x ∈ p0, x.block < W.heap.size := by obtain ⟨m, hm⟩ := k0; exact DataW.trod_lt m _ _ _ hm
  obtain ⟨a0_0, hK0_0, hq0_0⟩ := (X.opens_int (k := .i64) Try.underlying3) _ _ _ r0_0
  obtain rfl : c0_0 = .int .i64 a0_0 := by injection hK0_0
  obtain ⟨a0_1, hK0_1, hq0_1⟩ := (X.opens_int (k := .i64) Try.underlying3) _ _ _ r0_1
  obtain rfl : c0_1 = .int .i64 a0_1 := by injection hK0_1
  obtain ⟨a0_2, hK0_2, hq0_2⟩ := (X.opens_int (k := .i64) Try.underlying3) _ _ _ r0_2
  obtain rfl : c0_2 = .int .i64 a0_2 := by injection hK0_2
  clear hA0 hval0 hsz0 hsz
  obtain ⟨k, h⟩ := Pure.QrdataHeader a0_0 a0_1 a0_2 hq0_0 hq0_1 hq0_2
  refine (X.barscanlaw18_QrdataHeader.calls k a0_0 a0_1 a0_2 true W  h).mono fun e W' ⟨he, bel0⟩ => ?_
  have bel : Below W.heap.size W W' := bel0
  subst he
  exact ⟨_, rfl, _, _, _, [], _, [], hW', trodAll_mk1 (shut_bool Try.underlying4 _), (trodAll_cons_mk (Below.trod laidOut (by kernel_rfl) (of_decide_eq_true (by kernel_rfl)) k0 bel lt0) trodAll_mk0), rfl, bel.frame _, fun h => by cases h⟩
theorem over : Rows.qrdataHeaderRow.holds Try.pinned (OpenSpec.ofChange Rows.qrdataHeaderSpec) :=
  OpenClaim.holds_of_wide 5 Try.f5 rfl rfl rfl rfl rfl rfl rfl ⟨rfl, rfl, rfl, rfl, rfl⟩ rfl rfl rfl rfl rfl (by kernel_rfl) Try.func5 (by kernel_rfl)
    (of_decide_eq_true (by kernel_rfl)) (by unfold Func.isWrapper; first | (rw [if_pos (by decide +kernel)]; kernel_rfl) | (rw [if_neg (by decide +kernel)]; exact ⟨rfl, rfl⟩))
    (fun os started H enc _ => lifted os started H enc)
theorem proved : Rows.QrdataHeaderSaid := over
#print axioms proved
end Go.Proofs.Ytjhhckkmogekkaa.qrdataHeader
namespace Go.Proofs.Ytjhhckkmogekkaa
/-- The row, under a short name, for the claim. -/
theorem qrdataHeader_holds : Rows.QrdataHeaderSaid := qrdataHeader.proved
end Go.Proofs.Ytjhhckkmogekkaa
