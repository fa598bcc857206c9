/- Parts for qrversion.Structure and its reference: the block structure's numbers, and facts of memory. No condition. -/
import Derived.Test.YtagmncdbiljacaaYCapacity
import Derived.Test.YtagmncdbiljacaaXx1
namespace Go.Proofs.Ytagmncdbiljacaa.X
open Go.RowKit Go.Proofs.YtagmncdbiljacaaW.PrintWords Go.Proofs.YtagmncdbiljacaaW.PrintLast Go.Proofs.YtagmncdbiljacaaW.PrintMore
set_option linter.unusedVariables false
set_option linter.unusedSimpArgs false

def blkOf (a0 a1 : Int) : Int := (qrTable.getD (a0 - 1).toNat []).getD (5 + a1.toNat) 0
def chkOf (a0 a1 : Int) : Int := (qrTable.getD (a0 - 1).toNat []).getD (1 + a1.toNat) 0
theorem level_is (a0 a1 : Int) : qrversion_level.f a0 a1 = some (if 1 ≤ a0 ∧ a0 ≤ 40 then if 1 ≤ a1 ∧ a1 ≤ 4 then 0 else 15 else 14) := by
  unfold qrversion_level.f
  rw [valid_is]
  by_cases h : 1 ≤ a0 ∧ a0 ≤ 40
  · rw [decide_eq_true h, if_pos h]
    simp only [Option.bind_some, if_true]
    by_cases h1 : a1 < 1
    · rw [if_pos h1, if_neg (by omega)]
    · rw [if_neg h1]
      by_cases h2 : a1 > 4
      · rw [if_pos h2, if_neg (by omega)]
      · rw [if_neg h2, if_pos (by omega)]
  · rw [decide_eq_false h, if_neg h]
    rfl

theorem cap_ok (a0 a1 : Int) (h1 : 1 ≤ a0) (h2 : a0 ≤ 40) (h3 : 1 ≤ a1) (h4 : a1 ≤ 4) : 1 ≤ blkOf a0 a1 ∧ blkOf a0 a1 ≤ 81 ∧ 1 ≤ capOf a0 a1 ∧ capOf a0 a1 ≤ 3706 := by
  obtain ⟨c, rr, k1, k2, k3, k4, b1, b2, b3, b4, hrow, hix, ⟨q0, q1, _, _, d1, d2, d3, d4, d5, d6, d7, d8, e1, e2, e3, e4, e5, e6, e7, e8⟩, g1, g2, g3, g4⟩ := qr_row a0 h1 h2
  have m1 := mul_lo d1 e1
  have m2 := mul_lo d3 e3
  have m3 := mul_lo d5 e5
  have m4 := mul_lo d7 e7
  unfold blkOf capOf
  rw [hrow]
  have hcase : a1 = 1 ∨ a1 = 2 ∨ a1 = 3 ∨ a1 = 4 := by omega
  rcases hcase with rfl | rfl | rfl | rfl
  · exact ⟨e1, e2, by show 1 ≤ c - k1 * b1; omega, by show c - k1 * b1 ≤ 3706; omega⟩
  · exact ⟨e3, e4, by show 1 ≤ c - k2 * b2; omega, by show c - k2 * b2 ≤ 3706; omega⟩
  · exact ⟨e5, e6, by show 1 ≤ c - k3 * b3; omega, by show c - k3 * b3 ≤ 3706; omega⟩
  · exact ⟨e7, e8, by show 1 ≤ c - k4 * b4; omega, by show c - k4 * b4 ≤ 3706; omega⟩

theorem below_facts {w W : World} {o : Obj} {m : Nat} (h : Below (w.heap.size + 1) ((w.alloc o).drewN m) W) : W.heap[w.heap.size]? = some o ∧ w.heap.size < W.heap.size := by
  have h1 : W.heap[w.heap.size]? = some o := (h.block w.heap.size (by omega)).trans (heap_alloc_last w o)
  exact ⟨h1, (Array.getElem?_eq_some_iff.1 h1).1⟩

theorem row_cell (w : World) (cs : Array Value) (t : TypeId) (j : Nat) (v : Value) (h : cs[j]? = some v) : (w.alloc (.cells cs t)).cell? ⟨w.heap.size, j, none⟩ = some v := by
  rw [World.cell?_alloc_at _ _ _ _ rfl]; exact h
theorem row_lt {w2 W : World} {o : Obj} {j : Nat} (h : Below (w2.heap.size + 1) (w2.alloc o) W) : (⟨w2.heap.size, j, none⟩ : Addr).block < W.heap.size := by
  have := h.size
  simp at this
  show w2.heap.size < _
  omega
theorem row_below {w2 W W1 : World} {o : Obj} (h : Below (w2.heap.size + 1) (w2.alloc o) W) (hb : Below W.heap.size W W1) : Below (w2.heap.size + 1) (w2.alloc o) W1 :=
  below_then h (by have := h.size; simp at this; omega) hb
theorem blk4 {W : World} {g : Nat} {a b c d : Value} {t : TypeId} (h : W.heap[g]? = some (.cells #[a, b, c, d] t)) : (W.cell? ⟨g, 0, none⟩ = some a ∧ W.cell? ⟨g, 1, none⟩ = some b ∧ W.cell? ⟨g, 2, none⟩ = some c ∧ W.cell? ⟨g, 3, none⟩ = some d) ∧ ∀ j, W.frozen? ⟨g, j, none⟩ = false := by
  refine ⟨⟨?_, ?_, ?_, ?_⟩, fun j => ?_⟩ <;> simp [World.cell?, World.frozen?, h]
theorem w2_below {w w2 W : World} {o o2 : Obj} {m : Nat} (hb : Below ((w.alloc o).drewN m).heap.size ((w.alloc o).drewN m) w2) (h : Below (w2.heap.size + 1) (w2.alloc o2) W) : Below w.heap.size w W := by
  have h1 : Below w.heap.size w w2 := below_step (pw_below_drewN (below_alloc (Below.refl _ _) _) m) hb
  have h2 : Below w.heap.size w (w2.alloc o2) := below_alloc h1 _
  exact h2.trans (h.mono (by have := h1.size; omega))

end Go.Proofs.Ytagmncdbiljacaa.X
