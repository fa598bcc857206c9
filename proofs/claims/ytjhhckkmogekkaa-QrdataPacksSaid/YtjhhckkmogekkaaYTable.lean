/- Runs of plain operations one behind the other; the table of versions is handed back as an array of 400 numbers. No condition. -/
import Derived.Test.YtjhhckkmogekkaaXx0
import Derived.Deep.WholeRow
namespace Go.Proofs.Ytjhhckkmogekkaa.X
open Go.RowKit Go.Proofs.YtjhhckkmogekkaaW.PrintWords Go.Proofs.YtjhhckkmogekkaaW.PrintLast Go.Proofs.YtjhhckkmogekkaaW.PrintMore
set_option linter.unusedVariables false
set_option linter.unusedSimpArgs false

/-- The first n operations, each of which gives a value. -/
def seqRunN (P : Program) : Nat → List Oper → Act → World → Option (List Oper × Act × World)
  | 0, l, a, w => some (l, a, w)
  | _ + 1, [], _, _ => none
  | n + 1, o :: rest, a, w =>
    match o.guard, (execOp a.eval o).run P w with
    | none, .ok (.value v) w' => seqRunN P n rest (a.put o.dst v) w'
    | _, _ => none

theorem wpList_seqRunN {P : Program} {ops : Array Oper} {Q : Exit → Act → World → Prop} : ∀ (n : Nat) (l : List Oper) (a : Act) (w : World) (l' : List Oper) (a' : Act) (w' : World),
    seqRunN P n l a w = some (l', a', w') → wpList P ops Q l' a' w' → wpList P ops Q l a w := by
  intro n
  induction n with
  | zero =>
    intro l a w l' a' w' h k
    simp only [seqRunN, Option.some.injEq, Prod.mk.injEq] at h
    obtain ⟨rfl, rfl, rfl⟩ := h
    exact k
  | succ n ih =>
    intro l a w l' a' w' h k
    cases l with
    | nil => simp [seqRunN] at h
    | cons o rest =>
      simp only [seqRunN] at h
      split at h
      · rename_i v w1 hg hr
        refine wpList_plain hg fun K hK => ?_
        unfold Oper.wp
        rw [hr]
        exact hK _ _ (ih _ _ _ _ _ _ h k)
      · exact absurd h (by simp)

/-- n operations that give values and leave the world; then the value of slot i is stored behind slot 0. -/
theorem wpList_seqStore {P : Program} {ops : Array Oper} {Q : Exit → Act → World → Prop} {n i : Nat} {T : TypeId} {p : Addr} {v : Value} {l : List Oper} {a : Act} {w w1 w2 : World}
    (h : (seqRunN P n l a w).map (fun x => (x.1.map (fun o => (o.guard, o.dst, o.op)), x.2.1.tmps[0]?, x.2.1.tmps[i]?, x.2.1.defers, x.2.2)) = some ([(none, none, .store T (.tmp 0) (.tmp i))], some (.pointer (some p)), some v, [], w1))
    (hst : (Instr.storeAt T (.pointer (some p)) v).run P w1 = .ok () w2)
    (k : ∀ a' : Act, a'.tmps[0]? = some (.pointer (some p)) → a'.defers = [] → Q .normal a' w2) : wpList P ops Q l a w := by
  cases hs : seqRunN P n l a w with
  | none => rw [hs] at h; simp at h
  | some x =>
    obtain ⟨l', a', w'⟩ := x
    rw [hs] at h
    simp only [Option.map_some, Option.some.injEq, Prod.mk.injEq] at h
    obtain ⟨h1, h2, h3, h4, h5⟩ := h
    subst h5
    refine wpList_seqRunN n l a _ l' a' _ hs ?_
    cases l' with
    | nil => simp at h1
    | cons o t =>
      cases t with
      | cons o2 t => simp at h1
      | nil =>
        simp only [List.map_cons, List.map_nil, List.cons.injEq, Prod.mk.injEq, and_true] at h1
        obtain ⟨e1, e2, e3⟩ := h1
        refine wpList_plain e1 fun K hK => ?_
        have h2' : a'.eval (.tmp 0) = .pointer (some p) := by simp [Act.eval, h2]
        have h3' : a'.eval (.tmp i) = v := by simp [Act.eval, h3]
        unfold Oper.wp execOp
        simp only [e3, h2', h3', Sem.run_bind, hst, Result.andThen_ok, Sem.run_pure]
        refine hK _ _ ?_
        rw [e2]
        exact k a' h2 h4

def qrTable : List (List Int) := [
  [26, 0, 7, 10, 13, 17, 1, 1, 1, 1],
  [44, 7, 10, 16, 22, 28, 1, 1, 1, 1],
  [70, 7, 15, 26, 18, 22, 1, 1, 2, 2],
  [100, 7, 20, 18, 26, 16, 1, 2, 2, 4],
  [134, 7, 26, 24, 18, 22, 1, 2, 4, 4],
  [172, 7, 18, 16, 24, 28, 2, 4, 4, 4],
  [196, 0, 20, 18, 18, 26, 2, 4, 6, 5],
  [242, 0, 24, 22, 22, 26, 2, 4, 6, 6],
  [292, 0, 30, 22, 20, 24, 2, 5, 8, 8],
  [346, 0, 18, 26, 24, 28, 4, 5, 8, 8],
  [404, 0, 20, 30, 28, 24, 4, 5, 8, 11],
  [466, 0, 24, 22, 26, 28, 4, 8, 10, 11],
  [532, 0, 26, 22, 24, 22, 4, 9, 12, 16],
  [581, 3, 30, 24, 20, 24, 4, 9, 16, 16],
  [655, 3, 22, 24, 30, 24, 6, 10, 12, 18],
  [733, 3, 24, 28, 24, 30, 6, 10, 17, 16],
  [815, 3, 28, 28, 28, 28, 6, 11, 16, 19],
  [901, 3, 30, 26, 28, 28, 6, 13, 18, 21],
  [991, 3, 28, 26, 26, 26, 7, 14, 21, 25],
  [1085, 3, 28, 26, 30, 28, 8, 16, 20, 25],
  [1156, 4, 28, 26, 28, 30, 8, 17, 23, 25],
  [1258, 4, 28, 28, 30, 24, 9, 17, 23, 34],
  [1364, 4, 30, 28, 30, 30, 9, 18, 25, 30],
  [1474, 4, 30, 28, 30, 30, 10, 20, 27, 32],
  [1588, 4, 26, 28, 30, 30, 12, 21, 29, 35],
  [1706, 4, 28, 28, 28, 30, 12, 23, 34, 37],
  [1828, 4, 30, 28, 30, 30, 12, 25, 34, 40],
  [1921, 3, 30, 28, 30, 30, 13, 26, 35, 42],
  [2051, 3, 30, 28, 30, 30, 14, 28, 38, 45],
  [2185, 3, 30, 28, 30, 30, 15, 29, 40, 48],
  [2323, 3, 30, 28, 30, 30, 16, 31, 43, 51],
  [2465, 3, 30, 28, 30, 30, 17, 33, 45, 54],
  [2611, 3, 30, 28, 30, 30, 18, 35, 48, 57],
  [2761, 3, 30, 28, 30, 30, 19, 37, 51, 60],
  [2876, 0, 30, 28, 30, 30, 19, 38, 53, 63],
  [3034, 0, 30, 28, 30, 30, 20, 40, 56, 66],
  [3196, 0, 30, 28, 30, 30, 21, 43, 59, 70],
  [3362, 0, 30, 28, 30, 30, 22, 45, 62, 74],
  [3532, 0, 30, 28, 30, 30, 24, 47, 65, 77],
  [3706, 0, 30, 28, 30, 30, 25, 49, 68, 81]]
def qrCells : Array Value := (qrTable.flatten.map (Value.int .i64)).toArray
theorem qrCells_size : qrCells.size = 400 := by decide +kernel
theorem qrCells_one : qrCells.all (·.oneCell') = true := by decide +kernel

set_option maxHeartbeats 1000000 in
set_option maxRecDepth 100000 in
/-- The table, as an array of 400 numbers. -/
theorem table_calls (w : World) : Calls Try.prog 58 #[] w fun e w' => e = .returned (.agg qrCells) ∧ Below w.heap.size w w' := by
  have hz : (Try.prog.info? 98).map (fun i => (i.zero, i.size)) = some (some (.agg (Array.replicate 400 (.int .i64 0))), 400) := by kernel_rfl
  have hi : (Try.prog.info? 98).map (·.size) = some qrCells.size := by rw [(zero_of_info hz).2, qrCells_size]
  refine calls_of_wp Try.func58 rfl ?_
  apply wp_seq_k
  intro K hK
  apply wp_region_lit
  refine Kd.event_run rfl (v := .pointer (some ⟨w.heap.size, 0, none⟩)) (w1 := w.alloc (.cells (Array.replicate 400 (.int .i64 0)) 98)) ?_ ?_
  · unfold execOp
    simp [Instr.alloc, (zero_of_info hz).1, newVar, newRow, Sem.run_bind, Value.cells]
  apply wpList_nil
  refine hK _ _ ?_
  apply wp_seq_k
  intro K2 hK2
  apply wp_region_lit
  refine wpList_seqStore (n := 121) (i := 121) (T := 98) (p := ⟨w.heap.size, 0, none⟩) (v := .agg qrCells) (w1 := w.alloc (.cells (Array.replicate 400 (.int .i64 0)) 98)) (w2 := w.alloc (.cells qrCells 98)) (by kernel_rfl) (run_storeAt_new w _ _ _ hi (by rw [qrCells_size]; rfl) qrCells_one) ?_
  intro a' h0 hd
  refine hK2 _ _ ?_
  apply wp_ret
  refine bodyPost_ret (v := .agg qrCells) ?_ hd ⟨rfl, below_alloc (Below.refl _ _) _⟩
  exact results_cell_row rfl a'.tmps _ w.heap.size 98 qrCells (0, 0) _ (by simp [h0]) (heap_alloc_last w _) Try.underlying98 rfl hi

end Go.Proofs.Ytjhhckkmogekkaa.X
