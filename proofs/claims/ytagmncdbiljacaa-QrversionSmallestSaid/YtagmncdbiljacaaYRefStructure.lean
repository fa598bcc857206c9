/- The reference's Structure at any version and level. No condition. -/
import Derived.Test.YtagmncdbiljacaaYStrParts
import Derived.Test.YtagmncdbiljacaaXx14
import Derived.Deep.RegionWith
namespace Go.Proofs.Ytagmncdbiljacaa.X
open Go.RowKit Go.Proofs.YtagmncdbiljacaaW.PrintWords Go.Proofs.YtagmncdbiljacaaW.PrintLast Go.Proofs.YtagmncdbiljacaaW.PrintMore
set_option linter.unusedVariables false
set_option linter.unusedSimpArgs false

def rBlocks (a1 : Int) : List Int := (barscanref17_blocks.f a1).getD []
def rChecks (a1 : Int) : List Int := (barscanref17_checks.f a1).getD []
def rWords : List Int := barscanref17_words.f.getD []
def rNum (a0 a1 : Int) : Int := rd rWords (a0 - 1) - rd (rBlocks a1) (a0 - 1) * rd (rChecks a1) (a0 - 1)
def barscanref17_Structure.f (a0 : Int) (a1 : Int) : Option (Int × Int × Int × Int × Int) :=
  if 1 ≤ a0 ∧ a0 ≤ 40 then
    if 1 ≤ a1 ∧ a1 ≤ 4 then some (rd (rBlocks a1) (a0 - 1) - rNum a0 a1 % rd (rBlocks a1) (a0 - 1), rNum a0 a1 % rd (rBlocks a1) (a0 - 1), rNum a0 a1 / rd (rBlocks a1) (a0 - 1), rd (rChecks a1) (a0 - 1), 0)
    else some (0, 0, 0, 0, 15)
  else some (0, 0, 0, 0, 14)

theorem right_is (a0 a1 : Int) : barscanref17_right.f 1 a0 a1 = some (if 1 ≤ a0 ∧ a0 ≤ 40 then if 1 ≤ a1 ∧ a1 ≤ 4 then 0 else 15 else 14) := by
  unfold barscanref17_right.f
  simp only [barscanref17_right.j0, decide_eq_true_eq, if_true]
  repeat' split
  all_goals first | rfl | omega | (exfalso; simp at *; omega)

def okRef (b k n : Int) : Bool := decide (1 ≤ b) && (decide (b ≤ 81) && (decide (0 ≤ k) && (decide (k ≤ 30) && (decide (0 ≤ n) && (decide (n ≤ 3706) && (decide (0 ≤ b * k) && decide (b * k ≤ n)))))))
theorem ref_ok : ∀ a1 ∈ [(1 : Int), 2, 3, 4], ∀ j, j < 40 → okRef ((rBlocks a1).getD j 0) ((rChecks a1).getD j 0) (rWords.getD j 0) = true := by decide +kernel
theorem ref_parts (a0 a1 : Int) (h1 : 1 ≤ a0) (h2 : a0 ≤ 40) (h3 : 1 ≤ a1) (h4 : a1 ≤ 4) :
    barscanref17_blocks.f a1 = some (rBlocks a1) ∧ barscanref17_checks.f a1 = some (rChecks a1) ∧ barscanref17_words.f = some rWords ∧ (rBlocks a1).length = 40 ∧ (rChecks a1).length = 40 ∧ rWords.length = 40 ∧
    okRef (rd (rBlocks a1) (a0 - 1)) (rd (rChecks a1) (a0 - 1)) (rd rWords (a0 - 1)) = true := by
  have hcase : a1 = 1 ∨ a1 = 2 ∨ a1 = 3 ∨ a1 = 4 := by omega
  have hw : barscanref17_words.f = some rWords ∧ rWords.length = 40 := ⟨rfl, rfl⟩
  have hj : (a0 - 1).toNat < 40 := by omega
  rcases hcase with rfl | rfl | rfl | rfl
  all_goals exact ⟨rfl, rfl, hw.1, rfl, rfl, hw.2, ref_ok _ (by simp) _ hj⟩

theorem okRef_parts {b k n : Int} (h : okRef b k n = true) : 1 ≤ b ∧ b ≤ 81 ∧ 0 ≤ k ∧ k ≤ 30 ∧ 0 ≤ n ∧ n ≤ 3706 ∧ 0 ≤ b * k ∧ b * k ≤ n := by
  unfold okRef at h
  simp only [Bool.and_eq_true, decide_eq_true_eq] at h
  exact h

set_option maxHeartbeats 2000000 in
set_option maxRecDepth 100000 in
theorem refstructure_bad (a0 a1 : Int) (x : Int) (hx : barscanref17_right.f 1 a0 a1 = some x) (h0 : x ≠ 0) (w : World) :
    Calls Try.prog 80 #[.int .i64 a0, .int .i64 a1] w fun e w' => e = .returned (.tuple #[.agg #[.int .i64 0, .int .i64 0, .int .i64 0, .int .i64 0], .int .i64 x]) ∧ Below w.heap.size w w' := by
  have HX := Aside0.mk hx
  clear hx
  have hn : (x == 0) = false := beq_eq_false_iff_ne.mpr h0
  have hn2 : (x != 0) = true := bne_iff_ne.mpr h0
  clear h0
  go_enter Try.func80, Try.ntmps80
  go_wp2_with fail
  refine (barscanref17_right.calls 1 a0 a1 x _ HX.out).mono ?_
  rintro e w1 ⟨rfl, ⟨m, rfl⟩⟩
  go_wp2_with fail
  refine bodyPost_ret (v := .tuple #[.agg #[.int .i64 0, .int .i64 0, .int .i64 0, .int .i64 0], .int .i64 x]) ?_ rfl ⟨rfl, ?_⟩
  · simp [results, Try.results80, go_sem]
  · exact ((((pw_below_drewN (below_alloc (Below.refl _ _) _) m).setCell (Nat.le_refl _) _).setCell (Nat.le_refl _) _).setCell (Nat.le_refl _) _).setCell (Nat.le_refl _) _

set_option maxHeartbeats 2000000 in
set_option maxRecDepth 100000 in
theorem refstructure_ok (a0 a1 : Int) (l1 : 1 ≤ a0) (l2 : a0 ≤ 40) (l3 : 1 ≤ a1) (l4 : a1 ≤ 4) (w : World) :
    Calls Try.prog 80 #[.int .i64 a0, .int .i64 a1] w fun e w' => e = .returned (.tuple #[.agg #[.int .i64 (rd (rBlocks a1) (a0 - 1) - rNum a0 a1 % rd (rBlocks a1) (a0 - 1)), .int .i64 (rNum a0 a1 % rd (rBlocks a1) (a0 - 1)), .int .i64 (rNum a0 a1 / rd (rBlocks a1) (a0 - 1)), .int .i64 (rd (rChecks a1) (a0 - 1))], .int .i64 0]) ∧ Below w.heap.size w w' := by
  have hx : barscanref17_right.f 1 a0 a1 = some 0 := by rw [right_is, if_pos ⟨l1, l2⟩, if_pos ⟨l3, l4⟩]
  obtain ⟨p1, p2, p3, n1, n2, n3, hok⟩ := ref_parts a0 a1 l1 l2 l3 l4
  obtain ⟨q1, q2, q3, q4, q5, q6, q7, q8⟩ := okRef_parts hok
  unfold rNum
  have HX := Aside0.mk hx
  have P1 := Aside0.mk p1
  have P2 := Aside0.mk p2
  have P3 := Aside0.mk p3
  have t1 : a0 - 1 < ((rBlocks a1).length : Int) := by omega
  have t2 : a0 - 1 < ((rChecks a1).length : Int) := by omega
  have t3 : a0 - 1 < (rWords.length : Int) := by omega
  have t0 : 0 ≤ a0 - 1 := by omega
  clear hx p1 p2 p3 n1 n2 n3 hok l3 l4
  have hw64 : wrap64 (a0 - 1) = a0 - 1 := by unfold wrap64; omega
  have hwi : IntKind.i64.wrap (a0 - 1) = a0 - 1 := (i64_w _).trans hw64
  clear l1 l2
  generalize hj : a0 - 1 = j at *
  generalize rBlocks a1 = rb at *
  generalize rChecks a1 = rc at *
  generalize rWords = rw_ at *
  generalize hb : rd rb j = b at *
  generalize hk : rd rc j = k at *
  generalize hn : rd rw_ j = n at *
  have HBV := Aside0.mk hb
  have HKV := Aside0.mk hk
  have HNV := Aside0.mk hn
  clear hb hk hn
  have hm0 : 0 ≤ (n - b * k) % b := Int.emod_nonneg _ (by omega)
  have hm1 : (n - b * k) % b < b := Int.emod_lt_of_pos _ (by omega)
  have hq0 : 0 ≤ (n - b * k) / b := Int.ediv_nonneg (by omega) (by omega)
  have hq1 : (n - b * k) / b ≤ (n - b * k) := Int.ediv_le_self _ (by omega)
  have hnz : ¬ b = 0 := by omega
  have hz0 : (b == 0) = false := beq_eq_false_iff_ne.mpr hnz
  have HT := Aside0.mk (And.intro t0 (And.intro t1 (And.intro t2 t3)))
  have k1 : decide (j < (rb.length : Int)) = true := decide_eq_true HT.out.2.1
  have k2 : decide (j < (rc.length : Int)) = true := decide_eq_true HT.out.2.2.1
  have k3 : decide (j < (rw_.length : Int)) = true := decide_eq_true HT.out.2.2.2
  go_enter Try.func80, Try.ntmps80
  go_wp2_with fail
  refine (barscanref17_right.calls 1 a0 _ 0 _ HX.out).mono ?_
  rintro e w1 ⟨rfl, ⟨m, rfl⟩⟩
  go_wp2_with fail
  go_upto_region 4 with (fail)
  go_cut [7, 8] (fun v7 v8 wc => v7 = .int .i64 b ∧ v8 = .int .i64 k ∧ Aside0 (Below (w.heap.size + 1) (w.alloc (.cells #[.int .i64 0, .int .i64 0, .int .i64 0, .int .i64 0] 69)) wc))
  case first =>
    go_region_with (first | (go_at_call 93; refine (barscanref17_blocks.calls a1 rb _ P1.out).mono ?_; rintro e w2 ⟨v2, rfl, ho2, hb2⟩; obtain ⟨A2, c2, rfl, hl2, hr2⟩ := Kd.R_reads ho2; obtain ⟨ad2, rfl, hx2⟩ := Kd.at_int hr2 j HT.out.1 HT.out.2.1; rw [HBV.out] at hx2; have HB2 := Aside0.mk hb2; clear hr2 ho2 hl2 hb2) | (go_at_call 94; refine (barscanref17_checks.calls a1 rc _ P2.out).mono ?_; rintro e w3 ⟨v3, rfl, ho3, hb3⟩; obtain ⟨A3, c3, rfl, hl3, hr3⟩ := Kd.R_reads ho3; obtain ⟨ad3, rfl, hx3⟩ := Kd.at_int hr3 j HT.out.1 HT.out.2.2.1; rw [HKV.out] at hx3; have hy2 := pw_cell_below hb3 hx2; have HB3 := Aside0.mk hb3; clear hr3 ho3 hl3 hb3))
    all_goals
      go_wp2_with fail
      go_meet
      case rel => exact ⟨rfl, rfl, ⟨row_below (row_below (by first | exact (pw_below_drewN (Below.refl _ _) _) | exact (pw_below_drewN (Below.refl _ _) _).drew) HB2.out) HB3.out⟩⟩
  case rest =>
    obtain ⟨rfl, rfl, HC⟩ := hcut
    go_wp2_with fail
    refine (barscanref17_words.calls rw_ _ P3.out).mono ?_
    rintro e w4 ⟨v4, rfl, ho4, hb4⟩
    obtain ⟨A4, c4, rfl, hl4, hr4⟩ := Kd.R_reads ho4
    obtain ⟨ad4, rfl, hx4⟩ := Kd.at_int hr4 j HT.out.1 HT.out.2.2.2
    rw [HNV.out] at hx4
    have HD := Aside0.mk (row_below HC.out hb4)
    clear hr4 ho4 hl4 hb4
    go_wp2_with fail
    have hQ : w4.heap[w.heap.size]? = some (.cells #[.int .i64 0, .int .i64 0, .int .i64 0, .int .i64 0] 69) := (HD.out.block w.heap.size (by omega)).trans (heap_alloc_last w _)
    obtain ⟨⟨hx0, hx1, hx2, hx3⟩, hxf⟩ := blk4 hQ
    have HQ := Aside0.mk hQ
    have HW := Aside0.mk (below_then (below_alloc (Below.refl w.heap.size w) _) (by simp) ((HD.out).mono (by simp)) : Below w.heap.size w w4)
    clear hQ
    refine start_ (n := 15) (S := fun w' => w'.heap[w.heap.size]? = some (.cells #[.int .i64 0, .int .i64 0, .int .i64 0, .int .i64 0] 69) ∧ Below w.heap.size w w') (ds := [13]) #[false, false, false, false, false, false, false, false, false, false, false, false, false, false, false] (by kernel_rfl) rfl rfl ⟨HQ.out, HW.out.drew⟩ (fun hHeld => ?_)
    refine pure_ (i := 0) (N := some 38) (v := ?_) (a' := ?_) #[true, false, false, false, false, false, false, false, false, false, false, false, false, false, false] rfl rfl (by kernel_rfl) (fun _ _ _ h => h) (Or.inl ⟨by rfl, ?_⟩) ?_ ?_
    rotate_left
    · intro w'
      go_simp
      with_reducible rfl
    rotate_left
    · simp only [Act.put, List.setIfInBounds_toArray, List.set_cons_zero, List.set_cons_succ, i64_w, i32_w]
      rfl
    refine pure_ (i := 1) (N := some 39) (v := ?_) (a' := ?_) #[true, true, false, false, false, false, false, false, false, false, false, false, false, false, false] rfl rfl (by kernel_rfl) (fun _ _ _ h => h) (Or.inl ⟨by rfl, ?_⟩) ?_ ?_
    rotate_left
    · intro w'
      go_simp
      with_reducible rfl
    rotate_left
    · simp only [Act.put, List.setIfInBounds_toArray, List.set_cons_zero, List.set_cons_succ, i64_w, i32_w]
      rfl
    refine pure_ (i := 2) (N := some 40) (v := ?_) (a' := ?_) #[true, true, true, false, false, false, false, false, false, false, false, false, false, false, false] rfl rfl (by kernel_rfl) (fun _ _ _ h => h) (Or.inl ⟨by rfl, ?_⟩) ?_ ?_
    rotate_left
    · intro w'
      go_simp
      with_reducible rfl
    rotate_left
    · simp only [Act.put, List.setIfInBounds_toArray, List.set_cons_zero, List.set_cons_succ, i64_w, i32_w]
      rfl
    refine pure_ (i := 3) (N := some 41) (v := ?_) (a' := ?_) #[true, true, true, true, false, false, false, false, false, false, false, false, false, false, false] rfl rfl (by kernel_rfl) (fun _ _ _ h => h) (Or.inl ⟨by rfl, ?_⟩) ?_ ?_
    rotate_left
    · intro w'
      go_simp
      with_reducible rfl
    rotate_left
    · simp only [Act.put, List.setIfInBounds_toArray, List.set_cons_zero, List.set_cons_succ, i64_w, i32_w]
      rfl
    refine pure_ (i := 4) (N := some 42) (v := ?_) (a' := ?_) #[true, true, true, true, true, false, false, false, false, false, false, false, false, false, false] rfl rfl (by kernel_rfl) (fun _ _ _ h => h) (Or.inl ⟨by rfl, ?_⟩) ?_ ?_
    rotate_left
    · intro w'
      go_simp
      with_reducible rfl
    rotate_left
    · simp only [Act.put, List.setIfInBounds_toArray, List.set_cons_zero, List.set_cons_succ, i64_w, i32_w]
      rfl
    refine pure_ (i := 5) (N := some 43) (v := ?_) (a' := ?_) #[true, true, true, true, true, true, false, false, false, false, false, false, false, false, false] rfl rfl (by kernel_rfl) (fun _ _ _ h => h) (Or.inl ⟨by rfl, ?_⟩) ?_ ?_
    rotate_left
    · intro w'
      go_simp
      with_reducible rfl
    rotate_left
    · simp only [Act.put, List.setIfInBounds_toArray, List.set_cons_zero, List.set_cons_succ, i64_w, i32_w]
      rfl
    refine pure_ (i := 6) (N := some 44) (v := ?_) (a' := ?_) #[true, true, true, true, true, true, true, false, false, false, false, false, false, false, false] rfl rfl (by kernel_rfl) (fun _ _ _ h => h) (Or.inl ⟨by rfl, ?_⟩) ?_ ?_
    rotate_left
    · intro w'
      go_simp
      with_reducible rfl
    rotate_left
    · simp only [Act.put, List.setIfInBounds_toArray, List.set_cons_zero, List.set_cons_succ, i64_w, i32_w]
      rfl
    refine pure_ (i := 7) (N := some 45) (v := ?_) (a' := ?_) #[true, true, true, true, true, true, true, true, false, false, false, false, false, false, false] rfl rfl (by kernel_rfl) (fun _ _ _ h => h) (Or.inl ⟨by rfl, ?_⟩) ?_ ?_
    rotate_left
    · intro w'
      go_simp
      with_reducible rfl
    rotate_left
    · simp only [Act.put, List.setIfInBounds_toArray, List.set_cons_zero, List.set_cons_succ, i64_w, i32_w]
      rfl
    refine pure_ (i := 8) (N := some 46) (v := ?_) (a' := ?_) #[true, true, true, true, true, true, true, true, true, false, false, false, false, false, false] rfl rfl (by kernel_rfl) (fun _ _ _ h => h) (Or.inl ⟨by rfl, ?_⟩) ?_ ?_
    rotate_left
    · intro w'
      go_simp
      with_reducible rfl
    rotate_left
    · simp only [Act.put, List.setIfInBounds_toArray, List.set_cons_zero, List.set_cons_succ, i64_w, i32_w]
      rfl
    refine pure_ (i := 9) (N := some 47) (v := ?_) (a' := ?_) #[true, true, true, true, true, true, true, true, true, true, false, false, false, false, false] rfl rfl (by kernel_rfl) (fun _ _ _ h => h) (Or.inl ⟨by rfl, ?_⟩) ?_ ?_
    rotate_left
    · intro w'
      go_simp
      with_reducible rfl
    rotate_left
    · simp only [Act.put, List.setIfInBounds_toArray, List.set_cons_zero, List.set_cons_succ, i64_w, i32_w]
      rfl
    refine pure_ (i := 10) (N := some 48) (v := ?_) (a' := ?_) #[true, true, true, true, true, true, true, true, true, true, true, false, false, false, false] rfl rfl (by kernel_rfl) (fun _ _ _ h => h) (Or.inl ⟨by rfl, ?_⟩) ?_ ?_
    rotate_left
    · intro w'
      go_simp
      with_reducible rfl
    rotate_left
    · simp only [Act.put, List.setIfInBounds_toArray, List.set_cons_zero, List.set_cons_succ, i64_w, i32_w]
      rfl
    refine pure_ (i := 11) (N := some 49) (v := ?_) (a' := ?_) #[true, true, true, true, true, true, true, true, true, true, true, true, false, false, false] rfl rfl (by kernel_rfl) (fun _ _ _ h => h) (Or.inl ⟨by rfl, ?_⟩) ?_ ?_
    rotate_left
    · intro w'
      go_simp
      with_reducible rfl
    rotate_left
    · simp only [Act.put, List.setIfInBounds_toArray, List.set_cons_zero, List.set_cons_succ, i64_w, i32_w]
      rfl
    refine pure_ (i := 12) (N := some 50) (v := ?_) (a' := ?_) #[true, true, true, true, true, true, true, true, true, true, true, true, true, false, false] rfl rfl (by kernel_rfl) (fun _ _ _ h => h) (Or.inl ⟨by rfl, ?_⟩) ?_ ?_
    rotate_left
    · intro w'
      go_simp
      with_reducible rfl
    rotate_left
    · simp only [Act.put, List.setIfInBounds_toArray, List.set_cons_zero, List.set_cons_succ, i64_w, i32_w]
      rfl
    refine last_ (i := 13) (N := none) #[true, true, true, true, true, true, true, true, true, true, true, true, true, true, false] rfl rfl (by kernel_rfl) (by decide) (fun K hK => ?_)
    refine skip_ (w1 := ?_) (by rfl) rfl ?_ ?_
    rotate_left
    · go_simp
      rfl
    refine hK.out _ _ ?_
    clear hK K
    refine pure_ (i := 14) (N := some 5) (v := ?_) (a' := ?_) #[true, true, true, true, true, true, true, true, true, true, true, true, true, true, true] rfl rfl (by kernel_rfl) (fun _ _ _ h => h) (Or.inl ⟨by rfl, ?_⟩) ?_ ?_
    rotate_left
    · intro w'
      go_simp
      with_reducible rfl
    rotate_left
    · simp only [Act.put, List.setIfInBounds_toArray, List.set_cons_zero, List.set_cons_succ, i64_w, i32_w]
      rfl
    refine done_ (by kernel_rfl) ?_
    go_wp2_with fail
    have et : (n - b * k).tmod b = (n - b * k) % b := Int.tmod_eq_emod_of_nonneg (by omega)
    have ed : (n - b * k).tdiv b = (n - b * k) / b := Int.tdiv_eq_ediv_of_nonneg (by omega)
    have ew : wrap64 (b - (n - b * k) % b) = b - (n - b * k) % b := by unfold wrap64; omega
    have eq : wrap64 ((n - b * k) / b) = (n - b * k) / b := by unfold wrap64; omega
    refine bodyPost_ret (v := .tuple #[.agg #[.int .i64 (wrap64 (b - (n - b * k).tmod b)), .int .i64 ((n - b * k).tmod b), .int .i64 (wrap64 ((n - b * k).tdiv b)), .int .i64 k], .int .i64 0]) ?_ rfl ⟨?_, ?_⟩
    · simp [results, Try.results80, go_sem, hx0, hx1, hx2, hx3]
    · rw [et, ed, ew, eq]
    · exact ((((HW.out.setCell (Nat.le_refl _) _).setCell (Nat.le_refl _) _).setCell (Nat.le_refl _) _).setCell (Nat.le_refl _) _).drew

theorem barscanref17_Structure.calls (a0 : Int) (a1 : Int) (r1 : Int) (r2 : Int) (r3 : Int) (r4 : Int) (r5 : Int) (w : World) (h : barscanref17_Structure.f a0 a1 = some (r1, r2, r3, r4, r5)) :
    Calls Try.prog 80 #[.int .i64 a0, .int .i64 a1] w fun e w' => e = .returned (.tuple #[.agg #[.int .i64 r1, .int .i64 r2, .int .i64 r3, .int .i64 r4], .int .i64 r5]) ∧ Below w.heap.size w w' := by
  unfold barscanref17_Structure.f at h
  have hx := right_is a0 a1
  split at h
  · rename_i h1
    rw [if_pos h1] at hx
    split at h
    · rename_i h2
      simp only [Option.some.injEq, Prod.mk.injEq] at h
      obtain ⟨rfl, rfl, rfl, rfl, rfl⟩ := h
      exact refstructure_ok a0 a1 h1.1 h1.2 h2.1 h2.2 w
    · rename_i h2
      rw [if_neg h2] at hx
      simp only [Option.some.injEq, Prod.mk.injEq] at h
      obtain ⟨rfl, rfl, rfl, rfl, rfl⟩ := h
      exact refstructure_bad a0 a1 15 hx (by decide) w
  · rename_i h1
    rw [if_neg h1] at hx
    simp only [Option.some.injEq, Prod.mk.injEq] at h
    obtain ⟨rfl, rfl, rfl, rfl, rfl⟩ := h
    exact refstructure_bad a0 a1 14 hx (by decide) w

end Go.Proofs.Ytagmncdbiljacaa.X
