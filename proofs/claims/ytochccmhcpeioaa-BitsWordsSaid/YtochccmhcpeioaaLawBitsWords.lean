/- The row of BitsWords. No condition. -/
import Derived.Test.YtochccmhcpeioaaRows
import Derived.Test.YtochccmhcpeioaaXx6
import Derived.Test.YtochccmhcpeioaaPureBitsWords
import Derived.Test.YtochccmhcpeioaaYOpen
import Derived.WalkKit
import Derived.ProofKit
import Derived.OpenShut
import Derived.ShutString
import Derived.ChangeOld
import Derived.Below
import Derived.SizedLaws
import Derived.Lib.SmallJoins
namespace Go.Proofs.Ytochccmhcpeioaa.bitsWords
open Go.ChangeShapes Go.WideShapes Go.ChangeAt Go.RowKit
open Go.ChangeMaps (open_string shut_string)
set_option linter.unusedVariables false
theorem own : ownKnob Try.prog.godebug = none := by kernel_rfl
theorem laidOut : laidOutB Try.prog = true := by kernel_rfl
set_option maxRecDepth 100000 in
theorem lifted (os : Os) (started : os.Started) (H : Type) (enc : TypeId × Value → H) :
    ReturnsInHanded {} Try.checked os 4 .any (Rows.bitsWordsSpec.pre6 enc Try.prog Try.f4 Rows.bitsWordsRow.domain false) (Rows.bitsWordsSpec.post enc Try.prog Try.f4 false true false false) := by
  refine returnsInHanded_of_change_sized (C := Try.checked) own started (by kernel_rfl) Try.func4
    (ChangeSpec.witness6 (enc := enc) (C := Try.checked) false ⟨#[], #[.agg #[.slice none 0 0, .slice none 0 0, .int .i64 0, .bool false]], []⟩ 8 (by kernel_rfl) (by kernel_rfl) (by kernel_rfl) (by kernel_rfl)) ?_
  intro W base args ds gs before hval0 hW hcnd hsz0 _
  have hsz : (DataW.weightsEach Try.prog (Try.f4.params.toList ++ Rows.bitsWordsSpec.plain.varTypes Try.prog) (ds ++ gs)).all (· ≤ reachBytes) = true := hsz0
  have hval : ∀ (j : Nat) t v, Try.f4.params[j]? = some t → args[j]? = some v → Value.okWide Try.prog W .any base t v := hval0
  have hW' := hW
  obtain ⟨p, q, hA0, hV, rfl, hfz, hnd⟩ := hW
  have hA : DataW.TrodAll enc Try.prog W 0 (fun _ => true) true Try.f4.params.toList args.toList ds p := hA0
  rw [Try.params4] at hA hval hsz
  obtain ⟨v0, vs0, d0, ds0, p0, q0, hargs, rfl, rfl, h0, r0⟩ := trodAll_cons hA
  obtain ⟨rfl, rfl, rfl⟩ := trodAll_nil r0
  obtain rfl : args = #[v0] := by cases args; simp_all
  obtain ⟨rfl, rfl⟩ := trodVars_none hV
  obtain ⟨c0_0, c0_1, c0_2, c0_3, y0_0, y0_1, y0_2, y0_3, n0, rfl, hd0, hp0, r0_0, r0_1, r0_2, r0_3⟩ := Go.Joins.open_agg4 Try.underlying35 (by kernel_rfl) (by kernel_rfl) (hval 0 _ v0 rfl rfl) h0
  have k0 := h0
  have lt0 : ∀ x ∈ p0, x.block < W.heap.size := by obtain ⟨m, hm⟩ := k0; exact DataW.trod_lt m _ _ _ hm
  obtain ⟨l0_0, hK0_0, hm0_0, hq0_0⟩ := (X.opens_slice Try.underlying22 (by kernel_rfl) (X.opens_bool Try.underlying4)) _ _ _ r0_0
  obtain ⟨A0_0, cap0_0, rfl, hc0_0, hC0_0⟩ := X.opened_slice1 hK0_0
  obtain ⟨l0_1, hK0_1, hm0_1, hq0_1⟩ := (X.opens_slice Try.underlying33 (by kernel_rfl) (X.opens_int (k := .i64) Try.underlying3)) _ _ _ r0_1
  obtain ⟨A0_1, cap0_1, rfl, hc0_1, hC0_1⟩ := X.opened_slice1 hK0_1
  obtain ⟨a0_2, hK0_2, hq0_2⟩ := (X.opens_int (k := .i64) Try.underlying3) _ _ _ r0_2
  obtain rfl : c0_2 = .int .i64 a0_2 := by injection hK0_2
  obtain ⟨a0_3, hK0_3, hq0_3⟩ := (X.opens_bool Try.underlying4) _ _ _ r0_3
  obtain rfl : c0_3 = .bool a0_3 := by injection hK0_3
  clear hA0 hval0 hsz0 hsz
  obtain ⟨k, h⟩ := Pure.BitsWords l0_0 l0_1 a0_2 a0_3 hm0_0 hq0_0 hm0_1 hq0_1 hq0_2
  refine (X.barscanlaw01_BitsWords.calls k A0_0 cap0_0 l0_0 A0_1 cap0_1 l0_1 a0_2 a0_3 true W hC0_0 hc0_0 hC0_1 hc0_1 h).mono fun e W' ⟨he, bel0⟩ => ?_
  have bel : Below W.heap.size W W' := bel0
  subst he
  exact ⟨_, rfl, _, _, _, [], _, [], hW', trodAll_mk1 (shut_bool Try.underlying4 _), (trodAll_cons_mk (Below.trod laidOut (by kernel_rfl) (of_decide_eq_true (by kernel_rfl)) k0 bel lt0) trodAll_mk0), rfl, bel.frame _, fun h => by cases h⟩
theorem over : Rows.bitsWordsRow.holds Try.pinned (OpenSpec.ofChange Rows.bitsWordsSpec) :=
  OpenClaim.holds_of_wide 4 Try.f4 rfl rfl rfl rfl rfl rfl rfl ⟨rfl, rfl, rfl, rfl, rfl⟩ rfl rfl rfl rfl rfl (by kernel_rfl) Try.func4 (by kernel_rfl)
    (of_decide_eq_true (by kernel_rfl)) (by unfold Func.isWrapper; first | (rw [if_pos (by decide +kernel)]; kernel_rfl) | (rw [if_neg (by decide +kernel)]; exact ⟨rfl, rfl⟩))
    (fun os started H enc _ => lifted os started H enc)
theorem proved : Rows.BitsWordsSaid := over
#print axioms proved
end Go.Proofs.Ytochccmhcpeioaa.bitsWords
namespace Go.Proofs.Ytochccmhcpeioaa
/-- The row, under a short name, for the claim. -/
theorem bitsWords_holds : Rows.BitsWordsSaid := bitsWords.proved
end Go.Proofs.Ytochccmhcpeioaa
