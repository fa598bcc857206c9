/- What came in as an argument, opened by kinds: from a row's reading of cells to the printed words' kinds. -/
import Derived.Test.YtjhhckkmogekkaaXx0
import Derived.Deep.Slices
import Derived.Deep.Strs
import Derived.Lib.SmallJoins
namespace Go.Proofs.Ytjhhckkmogekkaa.X
open Go.RowKit Go.ChangeShapes Go.WideShapes Go.Deep Go.Proofs.YtjhhckkmogekkaaW.PrintWords Go.Proofs.YtjhhckkmogekkaaW.PrintLast Go.Proofs.YtjhhckkmogekkaaW.PrintMore
set_option linter.unusedVariables false
set_option linter.unusedSimpArgs false

section
variable {H : Type} {enc : TypeId × Value → H} {P : Program} {w : World} {base : Nat} {spare : Nat → Bool} {held : Bool}

/-- Whatever reads as a value of type e reads as one of kind d, of which Q holds. -/
def Opens {H : Type} (enc : TypeId × Value → H) (P : Program) (w : World) (base : Nat) (spare : Nat → Bool) (held : Bool) {α : Type} (d : Kd α) (Q : α → Prop) (e : TypeId) : Prop :=
  ∀ (fuel : Nat) (cs : List Value) (x : DataW H × List MemPlace), DataW.trod enc P w base spare held fuel e cs = some x → ∃ y, d.K w y cs ∧ Q y

theorem opens_int {e : TypeId} {k : IntKind} (ht : P.underlying e = some (.int k)) : Opens enc P w base spare held (Kd.int k) (fun n => (Lit.int k n).wf = true) e := by
  intro fuel cs x h
  obtain ⟨n, hc, _, hw⟩ := DataW.trod_int ht h
  exact ⟨n, hc, hw⟩
theorem opens_bool {e : TypeId} (ht : P.underlying e = some .bool) : Opens enc P w base spare held Kd.bool (fun _ => True) e := by
  intro fuel cs x h
  obtain ⟨n, hc, _⟩ := DataW.trod_bool ht h
  exact ⟨n, hc, trivial⟩
theorem opens_string {e : TypeId} (ht : P.underlying e = some .string) : Opens enc P w base spare held Kd.string (fun s => s.size ≤ maxLen) e := by
  intro fuel cs x h
  obtain ⟨n, hc, _, hs⟩ := DataW.trod_string ht h
  exact ⟨n, hc, hs⟩
theorem opens_imp {α : Type} {d : Kd α} {Q Q' : α → Prop} {e : TypeId} (h : Opens enc P w base spare held d Q e) (hq : ∀ y, Q y → Q' y) : Opens enc P w base spare held d Q' e := by
  intro fuel cs x hx
  obtain ⟨y, h1, h2⟩ := h fuel cs x hx
  exact ⟨y, h1, hq y h2⟩
theorem opens_iso {α β : Type} {d : Kd α} {f : β → α} {g : α → β} (hfg : ∀ x, f (g x) = x) {Q : α → Prop} {e : TypeId} (h : Opens enc P w base spare held d Q e) : Opens enc P w base spare held (Kd.iso d f) (fun y => Q (f y)) e := by
  intro fuel cs x hx
  obtain ⟨y, h1, h2⟩ := h fuel cs x hx
  refine ⟨g y, ?_, ?_⟩
  · show d.K w (f (g y)) cs
    rw [hfg]
    exact h1
  · show Q (f (g y))
    rw [hfg]
    exact h2
theorem opens_pair {α β : Type} {a : Kd α} {b : Kd β} {Q0 : α → Prop} {Q1 : β → Prop} {t : TypeId} {f0 f1 : Field} (ht : P.underlying t = some (.struct #[f0, f1])) (o0 : f0.offset = 0) (o1 : f1.offset = a.sz) (k0 : P.cellsOf f0.type = a.sz) (k1 : P.cellsOf f1.type = b.sz) (kt : P.cellsOf t = a.sz + b.sz)
    (h0 : Opens enc P w base spare held a Q0 f0.type) (h1 : Opens enc P w base spare held b Q1 f1.type) : Opens enc P w base spare held (Kd.pair a b) (fun y => Q0 y.1 ∧ Q1 y.2) t := by
  intro fuel cs x hx
  obtain ⟨y0, y1, n, _, hl, r0, r1⟩ := trod_struct2 ht hx
  obtain ⟨z0, c0, q0⟩ := h0 n _ _ r0
  obtain ⟨z1, c1, q1⟩ := h1 n _ _ r1
  refine ⟨(z0, z1), ⟨_, _, ?_, c0, c1⟩, q0, q1⟩
  rw [o0, o1, k0, k1, List.drop_zero, List.take_of_length_le (l := cs.drop a.sz) (by rw [List.length_drop, hl, kt]; omega), List.take_append_drop]
theorem opens_slice {α : Type} [Inhabited α] {d : Kd α} {Q : α → Prop} {t e : TypeId} (ht : P.underlying t = some (.slice e)) (hc : P.cellsOf e = d.sz) (hE : Opens enc P w base spare held d Q e) :
    Opens enc P w base spare held (Kd.slice e d) (fun l => l.length ≤ maxLen ∧ ∀ y ∈ l, Q y) t := by
  intro fuel cs x hx
  rcases open_slice ht hx with ⟨rfl, _⟩ | ⟨a, len, cap, m, n, D, Pl, rfl, hb, hl, hm, hmm, _, hcell⟩
  · exact ⟨[], ⟨none, 0, rfl, Nat.le_refl _, Kd.C_nil _ _⟩, by simp, by simp⟩
  have hlm : len ≤ m := by rw [hmm]; split <;> omega
  obtain ⟨f, hf⟩ := choose_lt (α := α) (n := len) (p := fun i y => ∃ cs', w.cells? base (a.add (i * P.cellsOf e)) (P.cellsOf e) = some cs' ∧ d.K w y cs' ∧ Q y) (fun i hi => by
    obtain ⟨cs', h1, h2⟩ := hcell i (by omega)
    obtain ⟨y, hy, hq⟩ := hE n cs' _ h2
    exact ⟨y, cs', h1, hy, hq⟩)
  have hlen : ((List.range len).map f).length = len := by simp
  refine ⟨(List.range len).map f, ⟨some a, cap, by rw [hlen], by rw [hlen]; exact hl, hlen ▸ rfl, ?_, ?_⟩, ?_, ?_⟩
  · rw [hlen]
    exact Nat.le_trans hl hm
  · intro hpos
    refine ⟨a, rfl, fun j p hj => ?_⟩
    rw [List.getElem?_map, Option.map_eq_some_iff] at hj
    obtain ⟨i, hi, rfl⟩ := hj
    obtain ⟨hlt, rfl⟩ := List.getElem?_eq_some_iff.1 hi
    rw [List.length_range] at hlt
    simp only [List.getElem_range]
    obtain ⟨cs', h1, h2, _⟩ := hf j hlt
    refine ⟨cs', d.K_len h2, h2, fun i u hu => ?_⟩
    obtain ⟨_, hl2, hget⟩ := World.cells?_some h1
    have hi : i < P.cellsOf e := by
      have h3 : i < cs'.length := (List.getElem?_eq_some_iff.1 hu).1
      omega
    have h3 := hget i hi
    rw [Go.Deep.add_add, hc, hu] at h3
    exact h3
  · rw [hlen]
    exact Nat.le_trans hl hm
  · intro y hy
    obtain ⟨i, hi, rfl⟩ := List.mem_map.1 hy
    obtain ⟨_, _, _, hq⟩ := hf i (List.mem_range.1 hi)
    exact hq
/-- The argument itself. -/
theorem opened {α : Type} {d : Kd α} {Q : α → Prop} {t : TypeId} (h : Opens enc P w base spare held d Q t) {v : Value} {x : DataW H} {ps : List MemPlace} (hd : DataW.Trod enc P w base spare held t v x ps) : ∃ y, d.K w y v.cells.toList ∧ Q y := by
  obtain ⟨fuel, hf⟩ := hd
  exact h fuel _ _ hf
theorem opened_slice {α : Type} {d : Kd α} {e : TypeId} {a : Option Addr} {len cap : Nat} {l : List α} (h : (Kd.slice e d).K w l (Value.slice a len cap).cells.toList) : len = l.length ∧ l.length ≤ cap ∧ d.C w a l.length l := by
  obtain ⟨A, c, he, hl, hC⟩ := h
  simp [Value.cells] at he
  obtain ⟨rfl, rfl, rfl⟩ := he
  exact ⟨rfl, hl, hC⟩
theorem opened_slice1 {α : Type} {d : Kd α} {e : TypeId} {v : Value} {l : List α} (h : (Kd.slice e d).K w l [v]) : ∃ a cap, v = .slice a l.length cap ∧ l.length ≤ cap ∧ d.C w a l.length l := by
  obtain ⟨A, c, he, hl, hC⟩ := h
  injection he with he
  exact ⟨A, c, he, hl, hC⟩
end

end Go.Proofs.Ytjhhckkmogekkaa.X
