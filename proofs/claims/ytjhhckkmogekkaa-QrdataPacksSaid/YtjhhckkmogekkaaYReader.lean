/- The reader of bit strings: NewReader, Take, Left, and what a reader of the call's own is. -/
import Derived.Test.YtjhhckkmogekkaaYGval
import Derived.Shelf.Abstract
import Derived.RangeFuncBox
import Derived.Test.YtjhhckkmogekkaaYClone
namespace Go.Proofs.Ytjhhckkmogekkaa.X
open Go.RowKit Go.Shelf Go.Proofs.YtjhhckkmogekkaaW.PrintWords Go.Proofs.YtjhhckkmogekkaaW.PrintLast Go.Proofs.YtjhhckkmogekkaaW.PrintMore
set_option linter.unusedVariables false
set_option linter.unusedSimpArgs false

/-- Block g is a reader of the bits l; they lie in blocks from b on, ahead of g. -/
def IsRd (W : World) (b g : Nat) (l : List Bool) : Prop :=
  ∃ A c, W.heap[g]? = some (.cells #[.slice A l.length c, .bool true] 112 (0, 0)) ∧ l.length ≤ c ∧ Kd.F Kd.bool W (fun k => b ≤ k ∧ k < g) A l.length l

theorem IsRd.step {W W1 : World} {b g : Nat} {l : List Bool} (h : IsRd W b g l) (hm : ∀ k, b ≤ k → k < g → W1.heap[k]? = W.heap[k]?) (hg : W1.heap[g]? = W.heap[g]?) : IsRd W1 b g l := by
  obtain ⟨A, c, h1, h2, h3⟩ := h
  exact ⟨A, c, hg.trans h1, h2, Kd.F_step h3 (fun k hk _ => hm k hk.1 hk.2)⟩
theorem IsRd.lt {W : World} {b g : Nat} {l : List Bool} (h : IsRd W b g l) : g < W.heap.size := by
  obtain ⟨A, c, h1, _⟩ := h
  exact (Array.getElem?_eq_some_iff.1 h1).1
theorem IsRd.below {W W1 : World} {b g B : Nat} {l : List Bool} (h : IsRd W b g l) (hb : Below B W W1) (hg : g < B) : IsRd W1 b g l :=
  h.step (fun k _ hk => hb.block k (by omega)) (hb.block g hg)
theorem IsRd.drawn {W W1 : World} {b g : Nat} {l : List Bool} (h : IsRd W b g l) (hd : Drawn0 W W1) : IsRd W1 b g l :=
  h.step (fun k _ _ => by rw [drawn_heap hd]) (by rw [drawn_heap hd])
/-- What a reader's Take comes to: the number, the error, how many bits it took. -/
def rdTake (l : List Bool) (n : Int) : Int × Int × Nat :=
  if n < 0 ∨ n > 62 then (0, 3, 0) else if n > l.length then (0, 10, 0) else (gval (l.take n.toNat), 0, n.toNat)

theorem cells_at {W : World} {g : Nat} {u v : Value} {t : TypeId} (h : W.heap[g]? = some (.cells #[u, v] t (0, 0))) : W.cell? ⟨g, 0, none⟩ = some u ∧ W.cell? ⟨g, 1, none⟩ = some v ∧ W.frozen? ⟨g, 0, none⟩ = false := by
  refine ⟨?_, ?_, ?_⟩
  · simp [World.cell?, h]
  · simp [World.cell?, h]
  · simp [World.frozen?, h]

theorem set_first {W : World} {g : Nat} {u v : Value} {t : TypeId} (h : W.heap[g]? = some (.cells #[u, v] t (0, 0))) (u' : Value) : (W.setCell ⟨g, 0, none⟩ u').heap[g]? = some (.cells #[u', v] t (0, 0)) := by
  simp [World.setCell, Array.getElem?_modify, h]
theorem left_calls (w : World) (g : Nat) (A : Option Addr) (n c : Nat) (h : w.cell? ⟨g, 0, none⟩ = some (.slice A n c)) :
    Calls Try.prog 65 #[.pointer (some ⟨g, 0, none⟩)] w fun e w' => e = .returned (.int .i64 n) ∧ w' = w := by
  go_enter Try.func65, Try.ntmps65
  go_wp2
  go_ret
  exact ⟨rfl, rfl⟩

theorem next_calls (w : World) (g : Nat) (A : Option Addr) (l : List Bool) (c n : Nat) (h : w.cell? ⟨g, 0, none⟩ = some (.slice A l.length c)) (hf : w.frozen? ⟨g, 0, none⟩ = false) (hc : l.length ≤ c) (hC : Kd.C Kd.bool w A l.length l) (hn : n ≤ l.length) (hn2 : n ≤ 62) :
    Calls Try.prog 66 #[.pointer (some ⟨g, 0, none⟩), .int .i64 n] w fun e w' => e = .returned (.int .i64 (gval (l.take n))) ∧ ∃ k, w' = (w.drewN k).setCell ⟨g, 0, none⟩ (.slice (if c = n then A else A.map (·.add n)) (l.length - n) (c - n)) := by
  have hcall : Calls Try.prog 81 #[.slice A n c] w fun e w' => e = .returned (.int .i64 (gval (l.take n))) ∧ Drawn0 w w' := by
    have hl : (l.take n).length = n := by rw [List.length_take]; omega
    have h1 := bits_value.calls 64 A c (l.take n) (gval (l.take n)) w (Kd.C_take hC hn) (by omega) (value_is _ (by omega) 64 (by omega))
    rwa [hl] at h1
  have HCALL := Aside0.mk hcall
  clear hcall hC
  go_enter Try.func66, Try.ntmps66
  go_wp2_with (go_at_call 81; refine HCALL.out.mono ?_; rintro e W1 ⟨rfl, k, rfl⟩)
  · go_ret
    refine ⟨rfl, k, ?_⟩
    first | rw [if_pos ‹c = n›] | simp [*]
  · go_ret
    refine ⟨rfl, k, ?_⟩
    first | rfl | rw [if_neg ‹¬ c = n›]

/-- A reader is a new block; it reads a copy of the bits. -/
theorem NewReader_calls (A0 : Option Addr) (c0 : Nat) (l0 : List Bool) (w : World) (hr0 : Kd.C Kd.bool w A0 l0.length l0) (hc0 : l0.length ≤ c0) (hl : l0.length < 140737488355328) :
    Calls Try.prog 42 #[.slice A0 l0.length c0] w fun e w' => ∃ g, e = .returned (.pointer (some ⟨g, 0, none⟩)) ∧ w.heap.size ≤ g ∧ IsRd w' w.heap.size g l0 ∧ Below w.heap.size w w' := by
  have hcall := slices_Clone_bool_bool.calls A0 c0 l0 l0 w hr0 hc0 (by unfold slices_Clone_bool_bool.f; rw [if_pos hl])
  have HCALL := Aside0.mk hcall
  clear hcall hr0 hc0 hl
  go_enter Try.func42, Try.ntmps42
  go_wp2_with (go_at_call 36; refine HCALL.out.mono ?_; rintro e w1 ⟨v, rfl, hR, hB⟩; obtain ⟨A, c, rfl⟩ := Kd.R_slice hR; have HX := Aside0.mk (And.intro hR hB); clear hR hB)
  go_ret
  obtain ⟨hR, hB⟩ := HX.out
  refine ⟨_, rfl, hB.size, ⟨A, c, World.alloc_heap_new _ _, (Kd.R_reads' hR).2.1, ?_⟩, below_alloc hB _⟩
  exact Kd.F_alloc (Kd.F_mono (Kd.R_F (Kd.R_bound hR)) (fun k hk => ⟨hk.2.1, hk.2.2.1⟩)) _

/-- The reader takes bits. -/
theorem Take_all (w : World) (b g : Nat) (l : List Bool) (n : Int) (h : IsRd w b g l) :
    Calls Try.prog 43 #[.pointer (some ⟨g, 0, none⟩), .int .i64 n] w fun e w' => e = .returned (.tuple #[.int .i64 (rdTake l n).1, .int .i64 (rdTake l n).2.1]) ∧ IsRd w' b g (l.drop (rdTake l n).2.2) ∧ Below g w w' ∧ w'.heap.size = w.heap.size ∧ ∀ j, j ≠ g → w'.heap[j]? = w.heap[j]? := by
  have h0 := h
  obtain ⟨A, c, hh, hc, hF⟩ := h0
  obtain ⟨hc0, hc1, hf⟩ := cells_at hh
  have HH := Aside0.mk h
  have HF := Aside0.mk hF
  have HL := Aside0.mk hh
  clear h hF hh
  unfold rdTake
  by_cases h1 : n < 0
  · rw [if_pos (.inl h1)]
    go_enter Try.func43, Try.ntmps43
    go_wp2
    go_ret2
    exact ⟨rfl, HH.out, Below.refl _ _, rfl, fun _ _ => rfl⟩
  by_cases h2 : n > 62
  · rw [if_pos (.inr h2)]
    go_enter Try.func43, Try.ntmps43
    go_wp2
    go_ret2
    exact ⟨rfl, HH.out, Below.refl _ _, rfl, fun _ _ => rfl⟩
  rw [if_neg (by omega)]
  by_cases h3 : n > l.length
  · rw [if_pos h3]
    have HCL := Aside0.mk (left_calls w g A l.length c hc0)
    go_enter Try.func43, Try.ntmps43
    go_wp2_with (go_at_call 65; refine HCL.out.mono ?_; rintro e W1 ⟨rfl, hw_⟩; replace hw_ := hw_.symm; subst hw_)
    go_ret2
    exact ⟨rfl, HH.out, Below.refl _ _, rfl, fun _ _ => rfl⟩
  rw [if_neg h3]
  obtain ⟨m, rfl⟩ : ∃ m : Nat, n = m := ⟨n.toNat, by omega⟩
  have HCL := Aside0.mk (left_calls w g A l.length c hc0)
  have hcn := next_calls w g A l c m hc0 hf hc (Kd.F_now HF.out) (by omega) (by omega)
  obtain ⟨A', hA'⟩ : ∃ A', A' = if c = m then A else A.map (·.add m) := ⟨_, rfl⟩
  rw [← hA'] at hcn
  have HCN := Aside0.mk hcn
  have HA' := Aside0.mk hA'
  clear hcn hA'
  simp only [Int.toNat_natCast]
  go_enter Try.func43, Try.ntmps43
  go_wp2_with (first | (go_at_call 65; refine HCL.out.mono ?_; rintro e W1 ⟨rfl, hw_⟩; replace hw_ := hw_.symm; subst hw_) | (go_at_call 66; refine HCN.out.mono ?_; rintro e W1 ⟨rfl, k, rfl⟩))
  go_ret2
  refine ⟨rfl, ⟨A', c - m, ?_, ?_, ?_⟩, ?_, ?_, fun j hj => Below.heap_setCell (w.drewN k) ⟨g, 0, none⟩ _ j hj⟩
  · rw [List.length_drop]
    exact set_first (show (w.drewN k).heap[g]? = _ from HL.out) _
  · rw [List.length_drop]
    omega
  · have h1 := Kd.F_cut (m := m) (c := c) HF.out (by omega) hc
    rw [show Kd.bool.sz = 1 from rfl, Nat.mul_one, ← HA'.out] at h1
    exact Kd.F_far (Kd.F_drewN h1 k) (fun j hj => by show j ≠ g; omega) _
  · exact (pw_below_drewN (Below.refl _ _) k).setCell (p := ⟨g, 0, none⟩) (Nat.le_refl _) _
  · simp [World.setCell, World.drewN]

theorem Take_calls (w : World) (b g : Nat) (l : List Bool) (n : Int) (h : IsRd w b g l) :
    Calls Try.prog 43 #[.pointer (some ⟨g, 0, none⟩), .int .i64 n] w fun e w' => e = .returned (.tuple #[.int .i64 (rdTake l n).1, .int .i64 (rdTake l n).2.1]) ∧ IsRd w' b g (l.drop (rdTake l n).2.2) ∧ Below g w w' ∧ w'.heap.size = w.heap.size :=
  (Take_all w b g l n h).mono fun e w' ⟨h1, h2, h3, h4, _⟩ => ⟨h1, h2, h3, h4⟩

theorem Take_nil (w : World) (n : Int) : Calls Try.prog 43 #[.pointer none, .int .i64 n] w fun e w' => e = .returned (.tuple #[.int .i64 0, .int .i64 2]) ∧ w' = w := by
  go_enter Try.func43, Try.ntmps43
  go_wp2
  go_ret2
  exact ⟨rfl, rfl⟩
theorem Take_unmade (w : World) (g : Nat) (n : Int) (u : Value) (h : w.heap[g]? = some (.cells #[u, .bool false] 112 (0, 0))) : Calls Try.prog 43 #[.pointer (some ⟨g, 0, none⟩), .int .i64 n] w fun e w' => e = .returned (.tuple #[.int .i64 0, .int .i64 2]) ∧ w' = w := by
  obtain ⟨hc0, hc1, hf⟩ := cells_at h
  clear h
  go_enter Try.func43, Try.ntmps43
  go_wp2
  go_ret2
  exact ⟨rfl, rfl⟩
theorem Left_nil (w : World) : Calls Try.prog 44 #[.pointer none] w fun e w' => e = .returned (.int .i64 0) ∧ w' = w := by
  go_enter Try.func44, Try.ntmps44
  go_wp2
  go_ret
  exact ⟨rfl, rfl⟩
theorem Left_unmade (w : World) (g : Nat) (u : Value) (h : w.heap[g]? = some (.cells #[u, .bool false] 112 (0, 0))) : Calls Try.prog 44 #[.pointer (some ⟨g, 0, none⟩)] w fun e w' => e = .returned (.int .i64 0) ∧ w' = w := by
  obtain ⟨hc0, hc1, hf⟩ := cells_at h
  clear h
  go_enter Try.func44, Try.ntmps44
  go_wp2
  go_ret
  exact ⟨rfl, rfl⟩
theorem Left_calls (w : World) (b g : Nat) (l : List Bool) (h : IsRd w b g l) : Calls Try.prog 44 #[.pointer (some ⟨g, 0, none⟩)] w fun e w' => e = .returned (.int .i64 l.length) ∧ w' = w := by
  obtain ⟨A, c, hh, hc, hF⟩ := h
  obtain ⟨hc0, hc1, hf⟩ := cells_at hh
  have HCL := Aside0.mk (left_calls w g A l.length c hc0)
  clear hh hF hc hf
  go_enter Try.func44, Try.ntmps44
  go_wp2_with (go_at_call 65; refine HCL.out.mono ?_; rintro e W1 ⟨rfl, hw_⟩; replace hw_ := hw_.symm; subst hw_)
  go_ret
  exact ⟨rfl, rfl⟩

end Go.Proofs.Ytjhhckkmogekkaa.X
