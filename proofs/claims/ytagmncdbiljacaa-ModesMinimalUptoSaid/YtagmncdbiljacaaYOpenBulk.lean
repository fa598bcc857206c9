/- What came in as an argument, opened by kinds, with a measure that the reading's bulk bounds. No condition. -/
import Derived.Test.YtagmncdbiljacaaRows
import Derived.Test.YtagmncdbiljacaaYOpenSeg
import Derived.Test.YtagmncdbiljacaaYMJoin
namespace Go.Proofs.Ytagmncdbiljacaa.X
open Go.RowKit Go.ChangeShapes Go.WideShapes Go.Deep Go.Proofs.YtagmncdbiljacaaW.PrintWords Go.Proofs.YtagmncdbiljacaaW.PrintLast Go.Proofs.YtagmncdbiljacaaW.PrintMore
set_option linter.unusedVariables false
set_option linter.unusedSimpArgs false

theorem bulk_one {H : Type} (d : DataW H) : 1 ≤ Rows.uptoBulk d := by
  cases d with
  | lit l => cases l <;> simp [Rows.uptoBulk]
  | nil => simp [Rows.uptoBulk]
  | ptr d => simp [Rows.uptoBulk]
  | slice elems spare => simp [Rows.uptoBulk]
  | agg parts => simp [Rows.uptoBulk]
  | iface t d => simp [Rows.uptoBulk]
  | map entries => simp [Rows.uptoBulk]
  | held h => simp [Rows.uptoBulk]
theorem bulk_sum {H : Type} {α : Type} (D : Nat → DataW H) (f : Nat → α) (μ : α → Nat) : ∀ n : Nat, (∀ i, i < n → μ (f i) ≤ Rows.uptoBulk (D i)) → (((List.range n).map f).map μ).sum ≤ Rows.uptoBulkAll ((List.range n).map D) := by
  have app : ∀ l r : List (DataW H), Rows.uptoBulkAll (l ++ r) = Rows.uptoBulkAll l + Rows.uptoBulkAll r := by
    intro l r
    induction l with
    | nil => simp [Rows.uptoBulkAll]
    | cons x l ih => simp only [List.cons_append, Rows.uptoBulkAll, ih]; omega
  intro n
  induction n with
  | zero => intro _; simp
  | succ n ih =>
    intro h
    have h1 := ih (fun i hi => h i (by omega))
    have h2 := h n (by omega)
    rw [List.range_succ, List.map_append, List.map_append, List.map_append, app, List.sum_append]
    simp only [List.map_cons, List.map_nil, List.sum_cons, List.sum_nil, Rows.uptoBulkAll]
    omega
section
variable {H : Type} {enc : TypeId × Value → H} {P : Program} {w : World} {base : Nat} {spare : Nat → Bool} {held : Bool}
/-- Whatever reads as a value of type e reads as one of kind d, of which Q holds, and its measure is at most the bulk. -/
def OpensB {H : Type} (enc : TypeId × Value → H) (P : Program) (w : World) (base : Nat) (spare : Nat → Bool) (held : Bool) {α : Type} (d : Kd α) (Q : α → Prop) (μ : α → Nat) (e : TypeId) : Prop :=
  ∀ (fuel : Nat) (cs : List Value) (x : DataW H × List MemPlace), DataW.trod enc P w base spare held fuel e cs = some x → ∃ y, d.K w y cs ∧ Q y ∧ μ y ≤ Rows.uptoBulk x.1
theorem opensB_one {α : Type} {d : Kd α} {Q : α → Prop} {e : TypeId} (h : Opens enc P w base spare held d Q e) : OpensB enc P w base spare held d Q (fun _ => 1) e := by
  intro fuel cs x hx
  obtain ⟨y, h1, h2⟩ := h fuel cs x hx
  exact ⟨y, h1, h2, bulk_one _⟩
theorem opensB_imp {α : Type} {d : Kd α} {Q : α → Prop} {μ ν : α → Nat} {e : TypeId} (h : OpensB enc P w base spare held d Q μ e) (hm : ∀ y, ν y ≤ μ y) : OpensB enc P w base spare held d Q ν e := by
  intro fuel cs x hx
  obtain ⟨y, h1, h2, h3⟩ := h fuel cs x hx
  exact ⟨y, h1, h2, Nat.le_trans (hm y) h3⟩
theorem opensB_iso {α β : Type} {d : Kd α} {f : β → α} {g : α → β} (hfg : ∀ x, f (g x) = x) {Q : α → Prop} {μ : α → Nat} {e : TypeId} (h : OpensB enc P w base spare held d Q μ e) : OpensB enc P w base spare held (Kd.iso d f) (fun y => Q (f y)) (fun y => μ (f y)) e := by
  intro fuel cs x hx
  obtain ⟨y, h1, h2, h3⟩ := h fuel cs x hx
  refine ⟨g y, ?_, ?_, ?_⟩
  · show d.K w (f (g y)) cs
    rw [hfg]
    exact h1
  · show Q (f (g y))
    rw [hfg]
    exact h2
  · show μ (f (g y)) ≤ _
    rw [hfg]
    exact h3
theorem opensB_pair {α β : Type} {a : Kd α} {b : Kd β} {Q0 : α → Prop} {Q1 : β → Prop} {m0 : α → Nat} {m1 : β → Nat} {t : TypeId} {f0 f1 : Field} (ht : P.underlying t = some (.struct #[f0, f1])) (o0 : f0.offset = 0) (o1 : f1.offset = a.sz) (k0 : P.cellsOf f0.type = a.sz) (k1 : P.cellsOf f1.type = b.sz) (kt : P.cellsOf t = a.sz + b.sz)
    (h0 : OpensB enc P w base spare held a Q0 m0 f0.type) (h1 : OpensB enc P w base spare held b Q1 m1 f1.type) : OpensB enc P w base spare held (Kd.pair a b) (fun y => Q0 y.1 ∧ Q1 y.2) (fun y => m0 y.1 + m1 y.2) t := by
  intro fuel cs x hx
  obtain ⟨y0, y1, n, hxe, hl, r0, r1⟩ := trod_struct2 ht hx
  obtain ⟨z0, c0, q0, b0⟩ := h0 n _ _ r0
  obtain ⟨z1, c1, q1, b1⟩ := h1 n _ _ r1
  refine ⟨(z0, z1), ⟨_, _, ?_, c0, c1⟩, ⟨q0, q1⟩, ?_⟩
  · rw [o0, o1, k0, k1, List.drop_zero, List.take_of_length_le (l := cs.drop a.sz) (by rw [List.length_drop, hl, kt]; omega), List.take_append_drop]
  · subst hxe
    simp only [Rows.uptoBulk, Rows.uptoBulkAll]
    omega
theorem opensB_slice {α : Type} [Inhabited α] {d : Kd α} {Q : α → Prop} {μ : α → Nat} {t e : TypeId} (ht : P.underlying t = some (.slice e)) (hc : P.cellsOf e = d.sz) (hE : OpensB enc P w base spare held d Q μ e) :
    OpensB enc P w base spare held (Kd.slice e d) (fun l => l.length ≤ maxLen ∧ ∀ y ∈ l, Q y) (fun l => (l.map μ).sum) t := by
  intro fuel cs x hx
  rcases open_slice ht hx with ⟨rfl, _⟩ | ⟨a, len, cap, m, n, D, Pl, rfl, hb, hl, hm, hmm, hxe, hcell⟩
  · exact ⟨[], ⟨none, 0, rfl, Nat.le_refl _, Kd.C_nil _ _⟩, by simp, by simp⟩
  have hlm : len ≤ m := by rw [hmm]; split <;> omega
  obtain ⟨f, hf⟩ := choose_lt (α := α) (n := len) (p := fun i y => ∃ cs', w.cells? base (a.add (i * P.cellsOf e)) (P.cellsOf e) = some cs' ∧ d.K w y cs' ∧ Q y ∧ μ y ≤ Rows.uptoBulk (D i)) (fun i hi => by
    obtain ⟨cs', h1, h2⟩ := hcell i (by omega)
    obtain ⟨y, hy, hq, hbk⟩ := hE n cs' _ h2
    exact ⟨y, cs', h1, hy, hq, hbk⟩)
  have hlen : ((List.range len).map f).length = len := by simp
  refine ⟨(List.range len).map f, ⟨some a, cap, by rw [hlen], by rw [hlen]; exact hl, hlen ▸ rfl, ?_, ?_⟩, ⟨?_, ?_⟩, ?_⟩
  · rw [hlen]
    exact Nat.le_trans hl hm
  · intro hpos
    refine ⟨a, rfl, fun j p hj => ?_⟩
    rw [List.getElem?_map, Option.map_eq_some_iff] at hj
    obtain ⟨i, hi, rfl⟩ := hj
    obtain ⟨hlt, rfl⟩ := List.getElem?_eq_some_iff.1 hi
    rw [List.length_range] at hlt
    simp only [List.getElem_range]
    obtain ⟨cs', h1, h2, _⟩ := hf j hlt
    refine ⟨cs', d.K_len h2, h2, fun i u hu => ?_⟩
    obtain ⟨_, hl2, hget⟩ := World.cells?_some h1
    have hi : i < P.cellsOf e := by
      have h3 : i < cs'.length := (List.getElem?_eq_some_iff.1 hu).1
      omega
    have h3 := hget i hi
    rw [Go.Deep.add_add, hc, hu] at h3
    exact h3
  · rw [hlen]
    exact Nat.le_trans hl hm
  · intro y hy
    obtain ⟨i, hi, rfl⟩ := List.mem_map.1 hy
    obtain ⟨_, _, _, hq, _⟩ := hf i (List.mem_range.1 hi)
    exact hq
  · have hs := bulk_sum D f μ len (fun i hi => by obtain ⟨_, _, _, _, hbk⟩ := hf i hi; exact hbk)
    subst hxe
    simp only [Rows.uptoBulk]
    omega
theorem openedB {α : Type} {d : Kd α} {Q : α → Prop} {μ : α → Nat} {t : TypeId} (h : OpensB enc P w base spare held d Q μ t) {v : Value} {x : DataW H} {ps : List MemPlace} (hd : DataW.Trod enc P w base spare held t v x ps) : ∃ y, d.K w y v.cells.toList ∧ Q y ∧ μ y ≤ Rows.uptoBulk x := by
  obtain ⟨fuel, hf⟩ := hd
  exact h fuel _ _ hf
end
theorem sum_ones (l : List Int) : (l.map fun _ => 1).sum = l.length := by
  induction l with
  | nil => rfl
  | cons x l ih => simp only [List.map_cons, List.sum_cons, ih, List.length_cons]; omega
theorem opensB_Segment {H : Type} {enc : TypeId × Value → H} {w : World} {base : Nat} {spare : Nat → Bool} {held : Bool} : OpensB enc Try.prog w base spare held k33 (fun y => (Lit.int .i64 y.f0).wf = true ∧ y.f1.length ≤ maxLen ∧ ∀ c ∈ y.f1, (Lit.int .u8 c).wf = true) (fun y => 1 + y.f1.length) 33 :=
  opensB_imp (opensB_iso (g := fun p => ⟨p.1, p.2⟩) (fun _ => rfl) (opensB_pair Try.underlying33 rfl rfl (by kernel_rfl) (by kernel_rfl) (by kernel_rfl) (opensB_one (opens_int (k := .i64) Try.underlying31)) (opensB_slice Try.underlying22 (by kernel_rfl) (opensB_one (opens_int (k := .u8) Try.underlying5)))))
    (fun y => Nat.le_of_eq (congrArg (1 + ·) (sum_ones y.f1).symm))
theorem joinD_bulk (l : List S33) : (joinD l).length ≤ (l.map fun y => 1 + y.f1.length).sum ∧ l.length ≤ (l.map fun y => 1 + y.f1.length).sum := by
  induction l with
  | nil => simp [joinD]
  | cons s l ih =>
    unfold joinD at *
    rw [List.flatMap_cons, List.length_append, List.map_cons, List.sum_cons, List.length_cons]
    omega
end Go.Proofs.Ytagmncdbiljacaa.X
