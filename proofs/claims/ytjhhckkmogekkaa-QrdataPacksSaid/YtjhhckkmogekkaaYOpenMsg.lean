/- An argument that is a message, opened by kinds. No condition. -/
import Derived.Test.YtjhhckkmogekkaaYOpen
namespace Go.Proofs.Ytjhhckkmogekkaa.X
open Go.RowKit Go.ChangeShapes Go.WideShapes Go.Deep Go.Proofs.YtjhhckkmogekkaaW.PrintWords Go.Proofs.YtjhhckkmogekkaaW.PrintLast Go.Proofs.YtjhhckkmogekkaaW.PrintMore
set_option linter.unusedVariables false
set_option linter.unusedSimpArgs false

instance : Inhabited S59 := ⟨z59⟩
/-- A header: its three numbers. -/
def kApp : Kd (Int × (Int × Int)) := Kd.pair (Kd.int .i64) (Kd.pair (Kd.int .i64) (Kd.int .i64))
def kMsg : Kd (List S59 × (Int × (Int × Int))) := Kd.pair (Kd.slice 59 k59) kApp
section
variable {H : Type} {enc : TypeId × Value → H} {w : World} {base : Nat} {spare : Nat → Bool} {held : Bool}
theorem opens_Segment : Opens enc Try.prog w base spare held k59 (fun y => (Lit.int .i64 y.f0).wf = true ∧ y.f1.length ≤ maxLen ∧ ∀ c ∈ y.f1, (Lit.int .u8 c).wf = true) 59 :=
  opens_iso (g := fun p => ⟨p.1, p.2⟩) (fun _ => rfl) (opens_pair Try.underlying59 rfl rfl (by kernel_rfl) (by kernel_rfl) (by kernel_rfl) (opens_int (k := .i64) Try.underlying56) (opens_slice Try.underlying57 (by kernel_rfl) (opens_int (k := .u8) Try.underlying5)))
theorem opens_triple {P : Program} {t : TypeId} {f0 f1 f2 : Field} (ht : P.underlying t = some (.struct #[f0, f1, f2])) (o0 : f0.offset = 0) (o1 : f1.offset = 1) (o2 : f2.offset = 2) (k0 : P.cellsOf f0.type = 1) (k1 : P.cellsOf f1.type = 1) (k2 : P.cellsOf f2.type = 1) (kt : P.cellsOf t = 3)
    (u0 : P.underlying f0.type = some (.int .i64)) (u1 : P.underlying f1.type = some (.int .i64)) (u2 : P.underlying f2.type = some (.int .i64)) : Opens enc P w base spare held kApp (fun _ => True) t := by
  intro fuel cs x hx
  obtain ⟨y0, y1, y2, n, _, hl, r0, r1, r2⟩ := trod_struct3 ht hx
  obtain ⟨z0, c0, q0⟩ := opens_int u0 n _ _ r0
  obtain ⟨z1, c1, q1⟩ := opens_int u1 n _ _ r1
  obtain ⟨z2, c2, q2⟩ := opens_int u2 n _ _ r2
  rw [kt] at hl
  rw [o0, k0] at c0
  rw [o1, k1] at c1
  rw [o2, k2] at c2
  refine ⟨(z0, (z1, z2)), ⟨_, _, ?_, c0, ⟨_, _, rfl, c1, c2⟩⟩, trivial⟩
  match cs, hl with
  | [a, b, c], _ => rfl
theorem opens_Message : Opens enc Try.prog w base spare held kMsg (fun y => (y.1.length ≤ maxLen ∧ ∀ s ∈ y.1, (Lit.int .i64 s.f0).wf = true ∧ s.f1.length ≤ maxLen ∧ ∀ c ∈ s.f1, (Lit.int .u8 c).wf = true) ∧ True) 27 :=
  opens_pair Try.underlying27 rfl rfl (by kernel_rfl) (by kernel_rfl) (by kernel_rfl) (opens_slice Try.underlying23 (by kernel_rfl) opens_Segment)
    (opens_triple Try.underlying25 rfl rfl rfl (by kernel_rfl) (by kernel_rfl) (by kernel_rfl) (by kernel_rfl) Try.underlying3 Try.underlying3 Try.underlying3)
end
theorem opened_msg {w : World} {y : List S59 × (Int × (Int × Int))} {v : Value} (h : kMsg.K w y v.cells.toList) : ∃ A c, v = .agg #[.slice A y.1.length c, .int .i64 y.2.1, .int .i64 y.2.2.1, .int .i64 y.2.2.2] ∧ y.1.length ≤ c ∧ Kd.C k59 w A y.1.length y.1 := by
  obtain ⟨c0, c1, e, ⟨A, c, h0, hl, hC⟩, ⟨d0, d1, e1, h1, ⟨d2, d3, e2, h2, h3⟩⟩⟩ := h
  have h1 : d0 = [.int .i64 y.2.1] := h1
  have h2 : d2 = [.int .i64 y.2.2.1] := h2
  have h3 : d3 = [.int .i64 y.2.2.2] := h3
  subst h1 h2 h3 e2 e1 h0
  refine ⟨A, c, ?_, hl, hC⟩
  cases v <;> simp [Value.cells] at e
  rename_i arr
  cases arr
  simp at e
  rw [e]
end Go.Proofs.Ytjhhckkmogekkaa.X
