/- bits.groups: the numbers of each group of bits, the last one filled. The size is 1 to 62, the bit string shorter than 2^44. -/
import Derived.Test.YtjhhckkmogekkaaYChunk
import Derived.Test.YtjhhckkmogekkaaYGval
import Derived.Maps.AppendAt
namespace Go.Proofs.Ytjhhckkmogekkaa.X
open Go.RowKit Go.Shelf Go.Proofs.YtjhhckkmogekkaaW.PrintWords Go.Proofs.YtjhhckkmogekkaaW.PrintLast Go.Proofs.YtjhhckkmogekkaaW.PrintMore
set_option linter.unusedVariables false
set_option linter.unusedSimpArgs false
attribute [local go_sem] Oper.semAt_some

def gchunk (size : Nat) (l : List Bool) (i : Nat) : List Bool := (l.drop i).take size
def gnum (size : Nat) (fill : Bool) (g : List Bool) : Int := gval (g ++ List.replicate (size - g.length) fill)
def bits_groups.f (l0 : List Bool) (a1 : Int) (a2 : Bool) : Option (List Int) :=
  if 1 ≤ a1 ∧ a1 ≤ 62 ∧ l0.length ≤ 17592186044415 then some ((List.range ((l0.length + a1.toNat - 1) / a1.toNat)).map (fun j => gnum a1.toNat a2 (gchunk a1.toNat l0 (j * a1.toNat)))) else none

theorem chunk_reads {W : World} {A : Option Addr} {l : List Bool} (h : Kd.C Kd.bool W A l.length l) {i : Nat} (hi : i < l.length) (size : Nat) : Kd.C Kd.bool W (A.map (·.add i)) (gchunk size l i).length (gchunk size l i) := by
  have h1 := Kd.C_drop (c := l.length + i + 1) h (Nat.le_of_lt hi) (by omega)
  rw [if_neg (by omega)] at h1
  have e : (A.map (·.add (i * Kd.bool.sz))) = A.map (·.add i) := by
    show A.map (·.add (i * 1)) = _
    rw [Nat.mul_one]
  rw [e] at h1
  by_cases hm : size ≤ (l.drop i).length
  · exact Kd.C_take h1 hm
  · unfold gchunk
    rw [List.take_of_length_le (by omega)]
    exact h1
theorem boxed_stays {X Y : World} {row : Option Nat} {Bx n₁ : Nat} {t : TypeId} {v : Value} (h : Boxed X Bx t v) (hg : X.grownBy Y row) (hr : ∀ r, row = some r → n₁ ≤ r ∧ ∃ o : Obj, X.heap[r]? = some o ∧ o.isCells = false) : Boxed Y Bx t v :=
  h.kept hg (fun e => by
    obtain ⟨_, o, ho, hc⟩ := hr _ e.symm
    rw [show X.heap[Bx]? = _ from h] at ho
    cases ho
    cases hc)
theorem grp_step {W W1 w1 : World} {B k m T E : Nat} {v v' : Value} {xs ys : List Value} {tmp : Obj} (hD : Drawn0 W W1) (hv : Boxed W (B + 1 + 1) T v) (hrow : W.ownsRow (B + 5) E 1 v k xs) (hTE : T ≠ E) (hsz : B + 5 ≤ W.heap.size)
    (hown' : w1.ownsRow (B + 5) E 1 v' m ys) (hgrow : (W1.alloc tmp).grownBy w1 v.ownBlock) :
    Boxed w1 (B + 1 + 1) T v ∧ Boxed (w1.setCell ⟨B + 1 + 1, 0, none⟩ v') (B + 1 + 1) T v' ∧ (w1.setCell ⟨B + 1 + 1, 0, none⟩ v').ownsRow (B + 5) E 1 v' m ys ∧ KeepsOthers W (w1.setCell ⟨B + 1 + 1, 0, none⟩ v') ∧
      Below B W (w1.setCell ⟨B + 1 + 1, 0, none⟩ v') ∧ ∀ j, j < B + 5 → j ≠ B + 1 + 1 → (w1.setCell ⟨B + 1 + 1, 0, none⟩ v').heap[j]? = W.heap[j]? := by
  obtain ⟨nd, rfl⟩ := hD
  have hrowD : (W.drewN nd).ownsRow (B + 5) E 1 v k xs := hrow
  have hvD : Boxed (W.drewN nd) (B + 1 + 1) T v := hv
  have hv1 : Boxed w1 (B + 1 + 1) T v := (hvD.alloc tmp).kept hgrow (hv.not_row hTE hrow)
  have hbW : Below B W ((W.drewN nd).alloc tmp) := (pw_below_drewN (Below.refl B W) nd).alloc (show B ≤ W.heap.size by omega) tmp
  refine ⟨hv1, hv1.set v', hown'.kept (grownBy_setCell' w1 (B + 1 + 1) v') (.inr (hv1.not_row hTE hown').symm), ?_, ?_, ?_⟩
  · have h1 : KeepsOthers W (W.drewN nd) := ⟨Nat.le_refl _, fun _ _ h _ => h⟩
    refine ((h1.trans (KeepsOthers.alloc _ tmp)).trans (KeepsOthers.of_grownBy hgrow fun j o ej hj => ?_)).trans (KeepsOthers.setCell _ _ _)
    rcases (hrowD.alloc tmp).2 with ⟨rfl, _⟩ | ⟨g, cap, cur, rfl, _, hgb, _⟩
    · simp [Value.ownBlock] at ej
    · obtain rfl : g = j := by simpa [Value.ownBlock] using ej
      rw [hgb] at hj; cases hj; rfl
  · refine (hbW.grown hgrow (by simp; omega) fun j ej => ?_).setCell (p := ⟨B + 1 + 1, 0, none⟩) (by show B ≤ B + 1 + 1; omega) v'
    have := own_base hrow j ej
    omega
  · intro j hj hne
    have e1 : (w1.setCell ⟨B + 1 + 1, 0, none⟩ v').heap[j]? = w1.heap[j]? := Below.heap_setCell w1 ⟨B + 1 + 1, 0, none⟩ v' j hne
    rw [e1, hgrow.block j (by simp; omega) (fun e => by have := own_base hrow j e.symm; omega)]
    exact Below.heap_alloc (W.drewN nd) tmp j (show j < W.heap.size by omega)
theorem boxed_heap {W W1 : World} {B : Nat} {t : TypeId} {v : Value} (h : W1.heap = W.heap) (hb : Boxed W B t v) : Boxed W1 B t v := by
  unfold Boxed
  rw [h]
  exact hb

set_option maxRecDepth 100000 in
set_option maxHeartbeats 4000000 in
theorem bits_groups.calls (A0 : Option Addr) (c0 : Nat) (l0 : List Bool) (a1 : Int) (a2 : Bool) (r : List Int) (w : World) (hr0 : Kd.C Kd.bool w A0 l0.length l0) (hc0 : l0.length ≤ c0) (h : bits_groups.f l0 a1 a2 = some r) :
    Calls Try.prog 60 #[.slice A0 l0.length c0, .int .i64 a1, .bool a2] w fun e w' => ∃ v0_ : Value, e = .returned (v0_) ∧ Kd.R (Kd.int .i64) 3 w' w.heap.size (fun _ => True) v0_ r ∧ Below w.heap.size w w' := by
  unfold bits_groups.f at h
  split at h
  case isFalse => exact absurd h (by simp)
  rename_i hc
  obtain ⟨hc1, hc2, hc3⟩ := hc
  have hr := Option.some.inj h
  clear h
  subst hr
  obtain ⟨size, rfl⟩ : ∃ s : Nat, a1 = s := ⟨a1.toNat, by omega⟩
  simp only [Int.toNat_natCast]
  obtain ⟨i0, hi, hz0, hz1, hz2⟩ := info_parts info3
  have hs1 : 1 ≤ size := by omega
  have hs2 : size ≤ 62 := by omega
  refine (callsIn_wide (n := 5)).1 ?_
  refine callsIn_of_wp_marks Try.func60 rfl trivial ?_ rfl
  simp only [Try.ntmps60, List.size_toArray, List.length_cons, List.length_nil, Nat.reduceAdd, Nat.reduceSub, Array.replicate_succ, Array.replicate_zero, List.push_toArray, List.append_toArray, List.nil_append, List.cons_append]
  gi_wp2_with (refine ⟨trivial, ?_⟩; gi_at_call 80; refine (Chunk_in Fence.wide _ trivial rfl A0 l0.length c0 size hs1 _).mono ?_; rintro e w' ⟨rfl, rfl⟩)
  have bS := Boxed.new w 3 (.int .i64 (size : Int))
  have bF := Boxed.new (w.alloc (.cells #[.int .i64 (size : Int)] 3)) 4 (.bool a2)
  have bO := Boxed.new ((w.alloc (.cells #[.int .i64 (size : Int)] 3)).alloc (.cells #[.bool a2] 4)) 22 (.slice none 0 0)
  have bs := Boxed.new (((w.alloc (.cells #[.int .i64 (size : Int)] 3)).alloc (.cells #[.bool a2] 4)).alloc (.cells #[.slice none 0 0] 22)) 40 (.slice A0 l0.length c0)
  have bn := Boxed.new ((((w.alloc (.cells #[.int .i64 (size : Int)] 3)).alloc (.cells #[.bool a2] 4)).alloc (.cells #[.slice none 0 0] 22)).alloc (.cells #[.slice A0 l0.length c0] 40)) 3 (.int .i64 (size : Int))
  simp only [World.size_alloc] at bF bO bs bn
  obtain ⟨W0, hW0⟩ : ∃ W0, (((((w.alloc (.cells #[.int .i64 (size : Int)] 3)).alloc (.cells #[.bool a2] 4)).alloc (.cells #[.slice none 0 0] 22)).alloc (.cells #[.slice A0 l0.length c0] 40)).alloc (.cells #[.int .i64 (size : Int)] 3)) = W0 := ⟨_, rfl⟩
  have hB0 : Below w.heap.size w W0 := by rw [← hW0]; exact below_alloc (below_alloc (below_alloc (below_alloc (below_alloc (Below.refl _ _) _) _) _) _) _
  have hZ : W0.heap.size = w.heap.size + 5 := by rw [← hW0]; simp
  have cS : Boxed W0 w.heap.size 3 (.int .i64 (size : Int)) := by rw [← hW0]; exact (((bS.alloc _).alloc _).alloc _).alloc _
  have cF : Boxed W0 (w.heap.size + 1) 4 (.bool a2) := by rw [← hW0]; exact ((bF.alloc _).alloc _).alloc _
  have cO : Boxed W0 (w.heap.size + 1 + 1) 22 (.slice none 0 0) := by rw [← hW0]; exact (bO.alloc _).alloc _
  have cs : Boxed W0 (w.heap.size + 1 + 1 + 1) 40 (.slice A0 l0.length c0) := by rw [← hW0]; exact bs.alloc _
  have cn : Boxed W0 (w.heap.size + 1 + 1 + 1 + 1) 3 (.int .i64 (size : Int)) := by rw [← hW0]; exact bn
  clear bS bF bO bs bn
  rw [hW0]
  clear hW0
  have hA : 0 < l0.length → ∃ ad, A0 = some ad := fun h => by obtain ⟨ad, e, _⟩ := hr0.2.2 h; exact ⟨ad, e⟩
  have HR0 := Aside0.mk hr0
  have HW0 := Aside0.mk hB0
  clear hr0
  refine wpIn_rangeFunc_ownG (F := Fence.wide) rfl (by omega) (gf := 94) (lb := #[.pointer (some ⟨w.heap.size + 1 + 1 + 1, 0, none⟩), .pointer (some ⟨w.heap.size + 1 + 1 + 1 + 1, 0, none⟩)]) rfl trivial (enters_of Try.func94 (by kernel_rfl) rfl)
    (Chunk_stops Fence.wide _ trivial rfl (by omega) (w.heap.size + 1 + 1 + 1) (w.heap.size + 1 + 1 + 1 + 1) w.heap.size A0 l0.length c0 size hA hs1 hs2 hc0 (by omega) W0 cs cn) (fun h k => ChunkKp.trans h k) (fun W l o o' hl ho hcl hw => ChunkKp_put (by omega) (by omega) (by omega) W l o o' hl ho hcl hw) (Below.refl _ _) (fun _ => rfl)
    (fun pre W => (∃ v, Boxed W (w.heap.size + 1 + 1) 22 v ∧ W.ownsRow (w.heap.size + 5) 3 1 v pre.length ((pre.map (fun x => gnum size a2 (gchunk size l0 x.1))).map (Value.int .i64)) ∧ True) ∧ (Boxed W w.heap.size 3 (.int .i64 (size : Int)) ∧ Boxed W (w.heap.size + 1) 4 (.bool a2)) ∧ Below w.heap.size w W ∧ w.heap.size + 5 ≤ W.heap.size)
    (fun _ _ _ => False)
    ?hI (fun _ _ _ _ _ hs _ _ => hs)
    ⟨⟨_, cO, World.ownsRow_nil _ _ _ _, trivial⟩, ⟨cS, cF⟩, HW0.out, by omega⟩
    (fun x => { tmps := #[.slice A0 l0.length c0, .int .i64 (size : Int), .bool a2, undef, .pointer (some ⟨w.heap.size, 0, none⟩), .pointer (some ⟨w.heap.size + 1, 0, none⟩), .slice none 0 0, .pointer (some ⟨w.heap.size + 1 + 1, 0, none⟩), .slice (A0.map (·.add x.1)) (ChunkEnd size l0.length x.1) (ChunkEnd size l0.length x.1), undef, .slice A0 l0.length c0, .int .i64 (size : Int), .func (.func 94) #[] #[.pointer (some ⟨w.heap.size + 1 + 1 + 1, 0, none⟩), .pointer (some ⟨w.heap.size + 1 + 1 + 1 + 1, 0, none⟩)], .slice (A0.map (·.add x.1)) (ChunkEnd size l0.length x.1) (ChunkEnd size l0.length x.1), undef, undef, undef, undef, undef, undef, undef, undef, undef, undef, undef, undef, undef, undef, undef, undef, undef, undef, undef], defers := [] }) ?assign ?body ?done ?stop
  case hI =>
    intro s X Y row ⟨h1, ⟨h2, h3⟩, h4, h5⟩ hg hr
    refine ⟨(holdsRow_own (w.heap.size + 5) (w.heap.size + 1 + 1) 22 3 1 (fun pre : List (ChunkAt l0.length) => pre.length) (fun pre => (pre.map (fun x => gnum size a2 (gchunk size l0 x.1))).map (Value.int .i64)) (fun _ _ => True)) s X Y row h1 hg (fun r e => (hr r e).2), ⟨boxed_stays h2 hg hr, boxed_stays h3 hg hr⟩, ?_, Nat.le_trans h5 hg.size⟩
    exact h4.grown hg h4.size (fun k e => by have := (hr k e).1; omega)
  case assign =>
    intro l x W K hK
    gi_wp2
    exact hK
  case body =>
    rintro l pre x W ⟨⟨v, hv, hrow, _⟩, ⟨hbS, hbF⟩, hB, HSZ⟩ hlt
    obtain ⟨i, hil⟩ := x
    dsimp only
    have hgl : (gchunk size l0 i).length = ChunkEnd size l0.length i := by simp [gchunk, ChunkEnd]
    have he1 : 1 ≤ ChunkEnd size l0.length i := by unfold ChunkEnd; omega
    have he2 : ChunkEnd size l0.length i ≤ size := by unfold ChunkEnd; omega
    have hR := chunk_reads (Kd.C_below HR0.out hB) hil size
    have hcall : ∀ W1, Kd.C Kd.bool W1 (A0.map (·.add i)) (gchunk size l0 i).length (gchunk size l0 i) → Calls Try.prog 81 #[.slice (A0.map (·.add i)) (ChunkEnd size l0.length i) (ChunkEnd size l0.length i)] W1 fun e w' => e = .returned (.int .i64 (gval (gchunk size l0 i))) ∧ Drawn0 W1 w' := by
      intro W1 hC
      have h1 := bits_value.calls 64 (A0.map (·.add i)) (gchunk size l0 i).length (gchunk size l0 i) (gval (gchunk size l0 i)) W1 hC (Nat.le_refl _) (value_is _ (by omega) 64 (by omega))
      rwa [hgl] at h1
    have HCALL := Aside0.mk (hcall W hR)
    have HGL := Aside0.mk hgl
    clear hcall hgl hR
    have hcS := hbS.cell
    have hcF := hbF.cell
    have HV := Aside0.mk (And.intro hv (And.intro hrow (And.intro hbS (And.intro hbF hB))))
    clear hv hrow hbS hbF hB
    generalize ChunkEnd size l0.length i = en at *
    generalize hg : gchunk size l0 i = g at *
    have HG := Aside0.mk hg
    clear hg
    gi_wp2_with (refine ⟨trivial, ?_⟩; gi_at_call 81; refine (CallsIn.inRound l (callsIn_wide.2 HCALL.out)).mono ?_; rintro e W1 ⟨rfl, hD⟩; have hcS1 := (boxed_heap (drawn_heap hD) HV.out.2.2.1).cell; have hcF1 := (boxed_heap (drawn_heap hD) HV.out.2.2.2.1).cell; have HD := Aside0.mk hD; clear hD)
    gi_loopw [9, 20] (fun v9 v20 wr => ∃ t : Nat, t ≤ size - en ∧ v9 = .int .i64 (gval (g ++ List.replicate t a2)) ∧ v20 = .int .i64 (t : Int) ∧ wr = W1) (fun _ v20 _ => size - en - (intOf v20).toNat)
    case atStart => exact ⟨0, Nat.zero_le _, by simp, by simp, rfl⟩
    case round =>
      obtain ⟨t, ht, rfl, rfl, rfl⟩ := hrel
      by_cases hlt2 : t < size - en
      · have hs := gval_snoc (g ++ List.replicate t a2) a2
        rw [List.append_assoc, ← List.replicate_succ'] at hs
        have hb1 := gval_small (b := g ++ List.replicate t a2) (by rw [List.length_append, List.length_replicate, HGL.out]; omega)
        have hb2 := gval_small (b := g ++ List.replicate (t + 1) a2) (by rw [List.length_append, List.length_replicate, HGL.out]; omega)
        have HS := Aside0.mk hs
        clear hs
        cases a2 with
        | true =>
          have hs2 := HS.out
          simp only [if_true] at hs2
          have hb3 : gval (g ++ List.replicate t true) * 2 + 1 < 4611686018427387904 := by omega
          have HS2 := Aside0.mk hs2
          clear hs2
          gi_wp2
          go_roundw
          case rel => exact ⟨t + 1, by omega, by rw [HS2.out, Int.mul_comm], by go_num, trivial⟩
          case measure => simp [intOf]; omega
        | false =>
          have hs2 := HS.out
          simp only [Bool.false_eq_true, if_false, Int.add_zero] at hs2
          have hb3 : gval (g ++ List.replicate t false) * 2 < 4611686018427387904 := by omega
          have HS2 := Aside0.mk hs2
          clear hs2
          gi_wp2
          go_roundw
          case rel => exact ⟨t + 1, by omega, by rw [HS2.out, Int.mul_comm], by go_num, trivial⟩
          case measure => simp [intOf]; omega
      · obtain rfl : t = size - en := by omega
        have hO1 := boxed_heap (drawn_heap HD.out) HV.out.1
        have hrow1 := own_move HV.out.2.1 (fun k _ => congrArg (fun h => h[k]?) (drawn_heap HD.out))
        have hcO1 := hO1.cell
        have hsz1 : w.heap.size + 5 ≤ wr.heap.size := by rw [drawn_heap HD.out]; exact Nat.le_trans (by omega) HSZ
        have hpl := hlt
        gi_wp2_with (gi_at_builtin; refine wpListIn_append_own _ rfl _ _ 22 rfl (w.heap.size + 5) 3 i0 (.int .i64 0) 1 8 Try.underlying22 hi hz0 hz1 hz2 rfl (by decide) _ _ _ rfl (hrow1.alloc _) ⟨wr.heap.size, 0, none⟩ 1 1 [.int .i64 (gval (g ++ List.replicate (size - en) a2))] rfl rfl (cell_one_new _ _ _) (by simp [Value.oneCell']) (by simp only [maxLen]; omega) (by omega) (by simp; omega) ?_; intro v' w1 hown' hgrow _; obtain ⟨g', cap', rfl⟩ := ownsRow_succ hown'; obtain ⟨hv1, hv2, hr2, hk2, hb2, hh2⟩ := grp_step HD.out HV.out.1 HV.out.2.1 (by decide) HSZ hown' hgrow; have hc1 := hv1.cell; have hf1 := hv1.frozen; have HX := Aside0.mk (And.intro hv2 (And.intro hr2 (And.intro hk2 (And.intro hb2 hh2)))); clear hv1 hv2 hr2 hk2 hb2 hh2 hown' hgrow)
        have hgn : gnum size a2 (gchunk size l0 i) = gval (g ++ List.replicate (size - en) a2) := by rw [HG.out]; unfold gnum; rw [HGL.out]
        refine ⟨HX.out.2.2.1.from _, ⟨HX.out.2.2.2.1, HX.out.2.2.2.2 _ (by omega) (by omega), HX.out.2.2.2.2 _ (by omega) (by omega)⟩, ⟨_, HX.out.1, ?_, trivial⟩, ⟨?_, ?_⟩, HV.out.2.2.2.2.trans HX.out.2.2.2.1, ?_⟩
        · rw [List.map_append, List.map_append, List.length_append]
          simp only [List.map_cons, List.map_nil, List.length_cons, List.length_nil, Nat.zero_add]
          rw [hgn]
          simpa using HX.out.2.1
        · exact (HX.out.2.2.2.2 _ (by omega) (by omega)).trans HV.out.2.2.1
        · exact (HX.out.2.2.2.2 _ (by omega) (by omega)).trans HV.out.2.2.2.1
        · exact Nat.le_trans HSZ HX.out.2.2.1.size
  case done =>
    rintro D ys W hD ⟨k, hk1, hk2, hk3⟩ ⟨⟨v, hv, hrow, _⟩, _, hB, _⟩ hK
    have hc := hv.cell
    have HROW := Aside0.mk hrow
    have HBB := Aside0.mk hB
    have HK3 := Aside0.mk (And.intro hk1 (And.intro hk2 hk3))
    clear hrow hB hk1 hk2 hk3
    gi_wp2
    refine ⟨by simp, .inl ⟨_, _, rfl, run_takeDeferred hK, ?_⟩⟩
    refine ⟨_, results_tmp rfl _ _ _, v, rfl, ?_, HBB.out.trans (belowK_b (w := w) (Nat.le_refl _) W D _ _ (by omega) hK rfl rfl)⟩
    have hrow2 := ownsRow_putObj HROW.out (.deferred none) hK rfl
    have hlist : (List.range ((l0.length + size - 1) / size)).map (fun j => gnum size a2 (gchunk size l0 (j * size))) = ys.map (fun x => gnum size a2 (gchunk size l0 x.1)) := by
      have hk : (l0.length + size - 1) / size = k := groups_count hs1 HK3.out.1 HK3.out.2.1
      have e : ys.map (fun x => gnum size a2 (gchunk size l0 x.1)) = (ys.map (·.1)).map (fun i => gnum size a2 (gchunk size l0 i)) := by rw [List.map_map]; rfl
      rw [hk, e, HK3.out.2.2, List.map_map]
      rfl
    rw [hlist]
    refine Kd.R_lower (Kd.R_of_own (enc := Value.int .i64) (h1 := fun _ => rfl) (ok := fun _ => True) (by rw [List.length_map]; exact hrow2) (fun _ _ => trivial)) (Nat.le_add_right _ _)
  case stop =>
    rintro D c pre W _ _ h _
    exact h.elim

end Go.Proofs.Ytjhhckkmogekkaa.X
