/- An argument that is a list of segments, opened by kinds. No condition. -/
import Derived.Test.YtagmncdbiljacaaYOpen
import Derived.Test.YtagmncdbiljacaaXx6
namespace Go.Proofs.Ytagmncdbiljacaa.X
open Go.RowKit Go.ChangeShapes Go.WideShapes Go.Deep Go.Proofs.YtagmncdbiljacaaW.PrintWords Go.Proofs.YtagmncdbiljacaaW.PrintLast Go.Proofs.YtagmncdbiljacaaW.PrintMore
set_option linter.unusedVariables false

instance : Inhabited S33 := ⟨z33⟩
theorem opens_Segment {H : Type} {enc : TypeId × Value → H} {w : World} {base : Nat} {spare : Nat → Bool} {held : Bool} : Opens enc Try.prog w base spare held k33 (fun y => (Lit.int .i64 y.f0).wf = true ∧ y.f1.length ≤ maxLen ∧ ∀ c ∈ y.f1, (Lit.int .u8 c).wf = true) 33 :=
  opens_iso (g := fun p => ⟨p.1, p.2⟩) (fun _ => rfl) (opens_pair Try.underlying33 rfl rfl (by kernel_rfl) (by kernel_rfl) (by kernel_rfl) (opens_int (k := .i64) Try.underlying31) (opens_slice Try.underlying22 (by kernel_rfl) (opens_int (k := .u8) Try.underlying5)))
end Go.Proofs.Ytagmncdbiljacaa.X
