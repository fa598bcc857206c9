/- qrversion.centers hands back 40 slices that read as the alignment coordinates; Aligns hands back one of them. No condition. -/
import Derived.Test.YtagmncdbiljacaaYTable
import Derived.Laws.CopyOwn
namespace Go.Proofs.Ytagmncdbiljacaa.X
open Go.RowKit Go.Proofs.YtagmncdbiljacaaW.PrintWords Go.Proofs.YtagmncdbiljacaaW.PrintLast Go.Proofs.YtagmncdbiljacaaW.PrintMore
set_option linter.unusedVariables false
set_option linter.unusedSimpArgs false

def cenW (w : World) : List (List Int) → World
  | [] => w
  | xs :: r => cenW (w.alloc (.cells (xs.map (Value.int .i64)).toArray 3)) r
def cenV (w : World) : List (List Int) → List Value
  | [] => []
  | xs :: r => .slice (some ⟨w.heap.size, 0, none⟩) xs.length xs.length :: cenV (w.alloc (.cells (xs.map (Value.int .i64)).toArray 3)) r
theorem cenV_length : ∀ (css : List (List Int)) (w : World), (cenV w css).length = css.length
  | [], w => rfl
  | xs :: r, w => by simp [cenV, cenV_length r]
theorem cenV_one : ∀ (css : List (List Int)) (w : World), ∀ v ∈ cenV w css, v.oneCell' = true
  | [], w, v, h => by simp [cenV] at h
  | xs :: r, w, v, h => by
    simp only [cenV, List.mem_cons] at h
    rcases h with rfl | h
    · rfl
    · exact cenV_one r _ v h
theorem cenW_below : ∀ (css : List (List Int)) (w : World), Below w.heap.size w (cenW w css)
  | [], w => Below.refl _ _
  | xs :: r, w => by
    have h := cenW_below r (w.alloc (.cells (xs.map (Value.int .i64)).toArray 3))
    exact below_step (below_alloc (Below.refl _ _) _) h
theorem cen_reads : ∀ (css : List (List Int)) (w : World) (base i : Nat) (xs : List Int), base ≤ w.heap.size → (∀ xs ∈ css, xs.length ≤ 100) → css[i]? = some xs →
    ∃ v, (cenV w css)[i]? = some v ∧ Kd.R (Kd.int .i64) 3 (cenW w css) base (fun k => w.heap.size ≤ k) v xs
  | [], w, base, i, xs, hb, hl, h => by simp at h
  | ys :: r, w, base, i, xs, hb, hl, h => by
    cases i with
    | zero =>
      simp only [List.getElem?_cons_zero, Option.some.injEq] at h
      subst h
      refine ⟨_, rfl, ?_⟩
      have ho := own_lit w base 3 .i64 ys hb (by have := hl ys (by simp); omega)
      have hr : Kd.R (Kd.int .i64) 3 (w.alloc (.cells (nums .i64 ys).toArray 3)) base (fun k => w.heap.size ≤ k) (.slice (some ⟨w.heap.size, 0, none⟩) ys.length ys.length) ys :=
        Kd.R_of_own (enc := Value.int .i64) (h1 := fun _ => rfl) ho (fun k hk => by simp [Value.ownBlock] at hk; omega)
      exact Kd.R_below hr (cenW_below r _)
    | succ i =>
      have := cen_reads r (w.alloc (.cells (ys.map (Value.int .i64)).toArray 3)) base i xs (by simp; omega) (fun zs hz => hl zs (by simp [hz])) (by simpa using h)
      obtain ⟨v, hv, hr⟩ := this
      exact ⟨v, hv, Kd.R_mono hr (fun k hk => by simp at hk; omega)⟩

def qrCenters : List (List Int) := [[], [6, 18], [6, 22], [6, 26], [6, 30], [6, 34], [6, 22, 38], [6, 24, 42], [6, 26, 46], [6, 28, 50], [6, 30, 54], [6, 32, 58], [6, 34, 62], [6, 26, 46, 66], [6, 26, 48, 70], [6, 26, 50, 74], [6, 30, 54, 78], [6, 30, 56, 82], [6, 30, 58, 86], [6, 34, 62, 90], [6, 28, 50, 72, 94], [6, 26, 50, 74, 98], [6, 30, 54, 78, 102], [6, 28, 54, 80, 106], [6, 32, 58, 84, 110], [6, 30, 58, 86, 114], [6, 34, 62, 90, 118], [6, 26, 50, 74, 98, 122], [6, 30, 54, 78, 102, 126], [6, 26, 52, 78, 104, 130], [6, 30, 56, 82, 108, 134], [6, 34, 60, 86, 112, 138], [6, 30, 58, 86, 114, 142], [6, 34, 62, 90, 118, 146], [6, 30, 54, 78, 102, 126, 150], [6, 24, 50, 76, 102, 128, 154], [6, 28, 54, 80, 106, 132, 158], [6, 32, 58, 84, 110, 136, 162], [6, 26, 54, 82, 110, 138, 166], [6, 30, 58, 86, 114, 142, 170]]

set_option maxHeartbeats 1000000 in
set_option maxRecDepth 100000 in
theorem centers_calls (w : World) : Calls Try.prog 78 #[] w fun e w' => ∃ vs : List Value, e = .returned (.agg vs.toArray) ∧ vs.length = 40 ∧
    (∀ (i : Nat) xs, qrCenters[i]? = some xs → ∃ v, vs[i]? = some v ∧ Kd.R (Kd.int .i64) 3 w' w.heap.size (fun _ => True) v xs) ∧ Below w.heap.size w w' := by
  have hz : (Try.prog.info? 114).map (fun i => (i.zero, i.size)) = some (some (.agg (Array.replicate 40 (.slice none 0 0))), 40) := by kernel_rfl
  have hlen : ∀ W, (cenV W qrCenters).length = 40 := fun W => by rw [cenV_length]; rfl
  have hi : ∀ W, (Try.prog.info? 114).map (·.size) = some (cenV W qrCenters).toArray.size := fun W => by rw [(zero_of_info hz).2, List.size_toArray, hlen]
  refine calls_of_wp Try.func78 rfl ?_
  apply wp_seq_k
  intro K hK
  apply wp_region_lit
  refine Kd.event_run rfl (v := .pointer (some ⟨w.heap.size, 0, none⟩)) (w1 := w.alloc (.cells (Array.replicate 40 (.slice none 0 0)) 114)) ?_ ?_
  · unfold execOp
    simp [Instr.alloc, (zero_of_info hz).1, newVar, newRow, Sem.run_bind, Value.cells]
  apply wpList_nil
  refine hK _ _ ?_
  apply wp_seq_k
  intro K2 hK2
  apply wp_region_lit
  have hb := cenW_below qrCenters (w.alloc (.cells (Array.replicate 40 (.slice none 0 0)) 114))
  have hg : (cenW (w.alloc (.cells (Array.replicate 40 (.slice none 0 0)) 114)) qrCenters).heap[w.heap.size]? = some (.cells (Array.replicate 40 (.slice none 0 0)) 114) := by
    rw [hb.block w.heap.size (by simp)]
    exact heap_alloc_last w _
  refine wpList_seqStore (n := 41) (i := 41) (T := 114) (p := ⟨w.heap.size, 0, none⟩) (v := .agg (cenV (w.alloc (.cells (Array.replicate 40 (.slice none 0 0)) 114)) qrCenters).toArray)
    (w1 := cenW (w.alloc (.cells (Array.replicate 40 (.slice none 0 0)) 114)) qrCenters)
    (w2 := (cenW (w.alloc (.cells (Array.replicate 40 (.slice none 0 0)) 114)) qrCenters).setRow w.heap.size (cenV (w.alloc (.cells (Array.replicate 40 (.slice none 0 0)) 114)) qrCenters).toArray) (by kernel_rfl) ?_ ?_
  · simp only [Instr.storeAt, Instr.sureAddr, Sem.run_bind, Sem.run_pure, Result.andThen]
    refine run_storeVar_row _ _ _ _ _ _ hg (hi _) (by simp [hlen]) ?_
    rw [Array.all_eq_true_iff_forall_mem]
    intro v hv
    exact cenV_one _ _ v (by simpa using hv)
  intro a' h0 hd
  refine hK2 _ _ ?_
  apply wp_ret
  refine bodyPost_ret (v := .agg (cenV (w.alloc (.cells (Array.replicate 40 (.slice none 0 0)) 114)) qrCenters).toArray) ?_ hd ⟨_, rfl, hlen _, ?_, ?_⟩
  · exact results_cell_row rfl a'.tmps _ w.heap.size 114 _ (0, 0) _ (by simp [h0]) (setRow_heap _ _ _ _ _ _ hg) Try.underlying114 rfl (hi _)
  · intro i xs h
    obtain ⟨v, hv, hr⟩ := cen_reads qrCenters (w.alloc (.cells (Array.replicate 40 (.slice none 0 0)) 114)) w.heap.size i xs (by simp) (by decide) h
    refine ⟨v, hv, Kd.R_mono (Kd.R_step hr (fun k hk hlt => setRow_other _ _ _ _ ?_)) (fun _ _ => trivial)⟩
    simp at hk
    omega
  · exact below_setRow (below_step (below_alloc (Below.refl _ _) _) hb) (Nat.le_refl _) _

end Go.Proofs.Ytagmncdbiljacaa.X
