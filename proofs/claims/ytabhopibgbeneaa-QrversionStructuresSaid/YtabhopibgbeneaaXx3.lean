/- Functions of the program as Lean functions, and proofs that their calls come to them (printed for this claim by the session's own program). No condition beyond each theorem's own hypotheses. -/
import Derived.Test.YtabhopibgbeneaaXx0
namespace Go.Proofs.Ytabhopibgbeneaa.X
open Go.RowKit Go.Proofs.YtabhopibgbeneaaW.PrintWords Go.Proofs.YtabhopibgbeneaaW.PrintLast Go.Proofs.YtabhopibgbeneaaW.PrintMore
attribute [local go_sem] max2_int min2_int max_two min_two max_three min_three max_four min_four   -- for this text's walks alone
set_option linter.unusedVariables false
set_option linter.unusedSimpArgs false

/-! ### barscanref17_Aligns: function 11 -/
mutual
def barscanref17_Aligns.j0 : Nat → Int → Bool → Option (List Int × Int)
  | 0, _, _ => none
  | k + 1, x0, x13 => if x13 = true then (some (([] : List Int), 14)) else (if x0 = 1 then (some (([] : List Int), 0)) else (if (wrap64 ((wrap64 (4 * (wrap64 ((wrap64 (Int.tdiv x0 7)) + 2)))) - 4)) = 0 then (none) else (barscanref17_Aligns.l0 k x0 (wrap64 ((wrap64 (Int.tdiv x0 7)) + 2)) (wrap64 ((wrap64 (Int.tdiv (wrap64 ((wrap64 ((wrap64 (8 * x0)) + (wrap64 (3 * (wrap64 ((wrap64 (Int.tdiv x0 7)) + 2)))))) + 5)) (wrap64 ((wrap64 (4 * (wrap64 ((wrap64 (Int.tdiv x0 7)) + 2)))) - 4)))) * 2)) (([6] : List Int)) 1)))
def barscanref17_Aligns.l0 : Nat → Int → Int → Int → List Int → Int → Option (List Int × Int)
  | 0, _, _, _, _, _ => none
  | k + 1, x0, x4, x5, x6, x7 => if x7 < x4 then (if x6.length < 17592186044416 then (barscanref17_Aligns.l0 k x0 x4 x5 (x6 ++ [wrap64 ((wrap64 ((wrap64 (4 * x0)) + 10)) - (wrap64 (x5 * (wrap64 ((wrap64 (x4 - 1)) - x7)))))]) (wrap64 (x7 + 1))) else (none)) else (some (x6, 0))
end
def barscanref17_Aligns.f (k : Nat) (a0 : Int) : Option (List Int × Int) := if a0 < 1 then (barscanref17_Aligns.j0 k a0 true) else (barscanref17_Aligns.j0 k a0 (decide (a0 > 40)))
theorem barscanref17_Aligns.mono_l : ∀ k, (∀ y0 y1, LeO (barscanref17_Aligns.j0 k y0 y1) (barscanref17_Aligns.j0 (k + 1) y0 y1)) ∧ (∀ y0 y1 y2 y3 y4, LeO (barscanref17_Aligns.l0 k y0 y1 y2 y3 y4) (barscanref17_Aligns.l0 (k + 1) y0 y1 y2 y3 y4))
  | 0 => ⟨fun _ _ r h => by simp [barscanref17_Aligns.j0] at h, fun _ _ _ _ _ r h => by simp [barscanref17_Aligns.l0] at h⟩
  | k + 1 => by
    obtain ⟨ih0, ih1⟩ := barscanref17_Aligns.mono_l k
    refine ⟨?_, ?_⟩
    · intro y0 y1
      unfold barscanref17_Aligns.j0
      repeat' first
      | (with_reducible exact ih0 _ _)
      | (with_reducible exact ih1 _ _ _ _ _)
      | (with_reducible exact LeO.refl _)
      | (with_reducible exact LeO.none _)
      | (with_reducible refine LeO.ite ?_ ?_)
      | (with_reducible refine LeO.bind ?_ (fun _ => ?_))
      | exact ih0 _ _
      | exact ih1 _ _ _ _ _
      | exact LeO.none _
      | refine LeO.ite ?_ ?_
      | refine LeO.bind ?_ (fun _ => ?_)
    · intro y0 y1 y2 y3 y4
      unfold barscanref17_Aligns.l0
      repeat' first
      | (with_reducible exact ih0 _ _)
      | (with_reducible exact ih1 _ _ _ _ _)
      | (with_reducible exact LeO.refl _)
      | (with_reducible exact LeO.none _)
      | (with_reducible refine LeO.ite ?_ ?_)
      | (with_reducible refine LeO.bind ?_ (fun _ => ?_))
      | exact ih0 _ _
      | exact ih1 _ _ _ _ _
      | exact LeO.none _
      | refine LeO.ite ?_ ?_
      | refine LeO.bind ?_ (fun _ => ?_)
theorem barscanref17_Aligns.mono : ∀ a0 k, LeO (barscanref17_Aligns.f k a0) (barscanref17_Aligns.f (k + 1) a0) := by
  intro a0 k
  obtain ⟨ih0, ih1⟩ := barscanref17_Aligns.mono_l k
  unfold barscanref17_Aligns.f
  repeat' first
      | (with_reducible exact ih0 _ _)
      | (with_reducible exact ih1 _ _ _ _ _)
      | (with_reducible exact LeO.refl _)
      | (with_reducible exact LeO.none _)
      | (with_reducible refine LeO.ite ?_ ?_)
      | (with_reducible refine LeO.bind ?_ (fun _ => ?_))
      | exact ih0 _ _
      | exact ih1 _ _ _ _ _
      | exact LeO.none _
      | refine LeO.ite ?_ ?_
      | refine LeO.bind ?_ (fun _ => ?_)
set_option maxHeartbeats 8000000 in
set_option maxRecDepth 100000 in
theorem barscanref17_Aligns.calls (k : Nat) (a0 : Int) (r1 : List Int) (r2 : Int) (w : World) (h : barscanref17_Aligns.f k a0 = some (r1, r2)) :
    Calls Try.prog 11 #[.int .i64 a0] w fun e w' => ∃ v0_ : Value, e = .returned (.tuple #[v0_, .int .i64 r2]) ∧ Kd.R (Kd.int .i64) 3 w' w.heap.size (fun _ => True) v0_ r1 ∧ Below w.heap.size w w' := by
  have HB := Aside0.mk (Below.refl w.heap.size w)
  have H : (if a0 < 1 then (barscanref17_Aligns.j0 k a0 true) else (barscanref17_Aligns.j0 k a0 (decide (a0 > 40)))) = some (r1, r2) := h
  clear h
  have HC2 := Aside0.mk H
  clear H
  go_enter Try.func11, Try.ntmps11
  go_upto_region 1 with (fail)
  go_cut [13] (fun v13 wc => ∃ (kq : Nat) (x13_1 : Bool), v13 = .bool x13_1 ∧ Aside0 (barscanref17_Aligns.j0 kq a0 x13_1 = some (r1, r2)) ∧ Aside0 (kq ≤ k) ∧ Aside0 (Below w.heap.size w wc))
  case first =>
    have H := HC2.out
    clear HC2
    by_cases c3 : a0 < 1
    · rw [if_pos c3] at H
      have c3b0 : decide (a0 < 1) = true := decide_eq_true c3
      clear c3
      (first | rw [c3b0] | (simp only [i64_w, i32_w]; rw [c3b0]) | skip)
      have H' := Aside0.mk H
      clear H
      go_wp2
      go_meet
      case rel => exact ⟨_, (true), (by first | rfl | (simp; done) | (simp [*]; done)), H', ⟨by first | omega | exact Nat.le_refl _⟩, ⟨by repeat (first | (with_reducible first | exact HB.out | apply below_alloc | apply pw_below_drewN | apply below_drew1) | exact HB.out)⟩⟩
    · rw [if_neg c3] at H
      have c3b0 : decide (a0 < 1) = false := decide_eq_false c3
      clear c3
      (first | rw [c3b0] | (simp only [i64_w, i32_w]; rw [c3b0]) | skip)
      have H' := Aside0.mk H
      clear H
      go_wp2
      go_meet
      case rel => exact ⟨_, (decide (a0 > 40)), (by first | rfl | (simp; done) | (simp [*]; done)), H', ⟨by first | omega | exact Nat.le_refl _⟩, ⟨by repeat (first | (with_reducible first | exact HB.out | apply below_alloc | apply pw_below_drewN | apply below_drew1) | exact HB.out)⟩⟩
  case rest =>
    clear HC2
    try clear c1
    try clear p2
    try clear c3
    try clear c3b0
    obtain ⟨kq, x13_1, rfl, HA, HJ1, HB⟩ := hcut
    cases kq with
    | zero => exact absurd HA.out (by simp [barscanref17_Aligns.j0])
    | succ kj1 =>
      have H := HA.out
      clear HA
      simp only [barscanref17_Aligns.j0] at H
      by_cases c4 : x13_1 = true
      · subst c4
        have H1 : (some (([] : List Int), 14)) = some (r1, r2) := by rw [if_pos rfl] at H; exact H
        clear H
        have H := H1
        clear H1
        simp only [Option.some.injEq, Prod.mk.injEq] at H
        obtain ⟨rfl, rfl⟩ := H
        go_wp2
        go_ret2
        exact ⟨_, by first | rfl | (simp [errW_none, errW_some] <;> rfl) | (simp [*, errW_none, errW_some] <;> rfl), by first | exact Kd.R_nil _ _ _ _ _ | exact Kd.N_nil _ _ _ _ _ | exact Kd.V_nil _ _ _ _ _ | exact Kd.Q_nil _ _ _ _ _ | exact Kd.S_nil _ _ _ _ _, by repeat (first | (with_reducible first | exact HB.out | apply below_alloc | apply pw_below_drewN | apply below_drew1) | exact HB.out)⟩
      · replace c4 := Bool.eq_false_iff.mpr c4
        subst c4
        have H1 : (if a0 = 1 then (some (([] : List Int), 0)) else (if (wrap64 ((wrap64 (4 * (wrap64 ((wrap64 (Int.tdiv a0 7)) + 2)))) - 4)) = 0 then (none) else (barscanref17_Aligns.l0 kj1 a0 (wrap64 ((wrap64 (Int.tdiv a0 7)) + 2)) (wrap64 ((wrap64 (Int.tdiv (wrap64 ((wrap64 ((wrap64 (8 * a0)) + (wrap64 (3 * (wrap64 ((wrap64 (Int.tdiv a0 7)) + 2)))))) + 5)) (wrap64 ((wrap64 (4 * (wrap64 ((wrap64 (Int.tdiv a0 7)) + 2)))) - 4)))) * 2)) (([6] : List Int)) 1))) = some (r1, r2) := by rw [if_neg (show ¬ (false = true) by decide)] at H; exact H
        clear H
        have H := H1
        clear H1
        by_cases c5 : a0 = 1
        · rw [if_pos c5] at H
          have c5b0 : (a0 == 1) = true := beq_iff_eq.mpr c5
          have c5b1 : (a0 != 1) = false := bne_eq_false_iff_eq.mpr c5
          clear c5
          simp only [Option.some.injEq, Prod.mk.injEq] at H
          obtain ⟨rfl, rfl⟩ := H
          go_wp2
          go_ret2
          exact ⟨_, by first | rfl | (simp [errW_none, errW_some] <;> rfl) | (simp [*, errW_none, errW_some] <;> rfl), by first | exact Kd.R_nil _ _ _ _ _ | exact Kd.N_nil _ _ _ _ _ | exact Kd.V_nil _ _ _ _ _ | exact Kd.Q_nil _ _ _ _ _ | exact Kd.S_nil _ _ _ _ _, by repeat (first | (with_reducible first | exact HB.out | apply below_alloc | apply pw_below_drewN | apply below_drew1) | exact HB.out)⟩
        · rw [if_neg c5] at H
          have c5b0 : (a0 == 1) = false := beq_eq_false_iff_ne.mpr c5
          have c5b1 : (a0 != 1) = true := bne_iff_ne.mpr c5
          by_cases c6 : (wrap64 ((wrap64 (4 * (wrap64 ((wrap64 (Int.tdiv a0 7)) + 2)))) - 4)) = 0
          · rw [if_pos c6] at H
            exact absurd H (by simp)
          · rw [if_neg c6] at H
            have c6b0 : ((wrap64 ((wrap64 (4 * (wrap64 ((wrap64 (Int.tdiv a0 7)) + 2)))) - 4)) == 0) = false := beq_eq_false_iff_ne.mpr c6
            have c6b1 : ((wrap64 ((wrap64 (4 * (wrap64 ((wrap64 (Int.tdiv a0 7)) + 2)))) - 4)) != 0) = true := bne_iff_ne.mpr c6
            obtain ⟨y102, hy102⟩ : ∃ y_ : List Int, y_ = (([6] : List Int)) := ⟨_, rfl⟩
            replace H : (barscanref17_Aligns.l0 kj1 a0 (wrap64 ((wrap64 (Int.tdiv a0 7)) + 2)) (wrap64 ((wrap64 (Int.tdiv (wrap64 ((wrap64 ((wrap64 (8 * a0)) + (wrap64 (3 * (wrap64 ((wrap64 (Int.tdiv a0 7)) + 2)))))) + 5)) (wrap64 ((wrap64 (4 * (wrap64 ((wrap64 (Int.tdiv a0 7)) + 2)))) - 4)))) * 2)) y102 1) = some (r1, r2) := by first | (rw [hy102]; with_reducible exact H) | (have H2_ := (Option.bind_some _ _).symm.trans H; rw [hy102]; with_reducible exact H2_) | (have H2_ := (Option.bind_some _ _).symm.trans H; with_reducible exact H2_) | with_reducible exact H | (rw [hy102]; exact H) | exact H
            have Ny102 := Aside0.mk hy102
            clear hy102
            have H' := Aside0.mk H
            clear H
            go_wp2_with (first | ((with_reducible refine gate_dst (N := 30) rfl ?_); refine Kd.R_lit (Kd.int .i64) _ 3 ?hg (N := 30) ?hd (xs := ([6] : List Int)) (inner := [.int .i64 6]) (ok := fun _ => True) (okp := fun _ => True) ?hr ?hp (fun _ hk => hk) trivial (Below.refl _ _) (Nat.le_refl _) (by simp) ?_; (case hd => rfl); (case hg => rfl); (case hr => first | (go_simp; done) | (go_simp; rfl)); (case hp => exact (Reps.one (show Kd.M (Kd.int .i64) _ _ _ 6 [.int .i64 6] from rfl) (Reps.none _ _))); intro v103 w7 ho8 hb hg_ hnew_; clear hg_ hnew_; (first | rw [← Ny102.out] at ho8 | (simp only [Int.reduceToNat] at ho8; rw [← Ny102.out] at ho8)); have n0_ := Aside0.mk (Kd.R_lower ho8 (below_size (by repeat (first | (with_reducible first | exact HB.out | apply below_alloc | apply pw_below_drewN | apply below_drew1) | exact HB.out)))); have n1_ := Aside0.mk (below_step (by repeat (first | (with_reducible first | exact HB.out | apply below_alloc | apply pw_below_drewN | apply below_drew1) | exact HB.out)) hb); clear HB; have HO104 := n0_; have HB := n1_; clear n0_ n1_; clear hb ho8))
            go_loopg [6, 7] kj1 (fun kq v6 v7 w' => ∃ (x6_2 : List Int) (x7_2 : Int), v7 = .int .i64 x7_2 ∧ Aside0 (barscanref17_Aligns.l0 kq a0 (wrap64 ((wrap64 (Int.tdiv a0 7)) + 2)) (wrap64 ((wrap64 (Int.tdiv (wrap64 ((wrap64 ((wrap64 (8 * a0)) + (wrap64 (3 * (wrap64 ((wrap64 (Int.tdiv a0 7)) + 2)))))) + 5)) (wrap64 ((wrap64 (4 * (wrap64 ((wrap64 (Int.tdiv a0 7)) + 2)))) - 4)))) * 2)) x6_2 x7_2 = some (r1, r2)) ∧ Aside0 (kq ≤ kj1) ∧ Aside0 (Kd.R (Kd.int .i64) 3 w' w.heap.size (fun _ => True) v6 x6_2) ∧ Aside0 (Below w.heap.size w w'))
            case atStart => exact ⟨(y102), (1), (by first | rfl | (simp; done) | (simp [*]; done)), H', ⟨Nat.le_refl _⟩, ⟨by (with_reducible repeat (first | apply Kd.R_alloc | apply Kd.R_drewN | apply Kd.R_drew)); exact HO104.out⟩, ⟨by repeat (first | (with_reducible first | exact HB.out | apply below_alloc | apply pw_below_drewN | apply below_drew1) | exact HB.out)⟩⟩
            case round =>
              clear H'
              try clear c1
              try clear p2
              try clear c3
              try clear c3b0
              try clear c4
              try clear c5
              try clear c5b0
              try clear c5b1
              try clear c6
              try clear c6b0
              try clear c6b1
              try clear p6
              try clear p2
              obtain ⟨x6_2, x7_2, rfl, HA, HK2, HO_6, HB⟩ := hrel
              cases gk with
              | zero => exact absurd HA.out (by simp [barscanref17_Aligns.l0])
              | succ k2 =>
                have H := HA.out
                clear HA
                simp only [barscanref17_Aligns.l0] at H
                by_cases c9 : x7_2 < (wrap64 ((wrap64 (Int.tdiv a0 7)) + 2))
                · rw [if_pos c9] at H
                  have c9b0 : decide (x7_2 < (wrap64 ((wrap64 (Int.tdiv a0 7)) + 2))) = true := decide_eq_true c9
                  clear c9
                  by_cases c10 : x6_2.length < 17592186044416
                  · rw [if_pos c10] at H
                    have LMc10 := Aside0.mk c10
                    clear c10
                    obtain ⟨y105, hy105⟩ : ∃ y_ : List Int, y_ = (x6_2 ++ [wrap64 ((wrap64 ((wrap64 (4 * a0)) + 10)) - (wrap64 ((wrap64 ((wrap64 (Int.tdiv (wrap64 ((wrap64 ((wrap64 (8 * a0)) + (wrap64 (3 * (wrap64 ((wrap64 (Int.tdiv a0 7)) + 2)))))) + 5)) (wrap64 ((wrap64 (4 * (wrap64 ((wrap64 (Int.tdiv a0 7)) + 2)))) - 4)))) * 2)) * (wrap64 ((wrap64 ((wrap64 ((wrap64 (Int.tdiv a0 7)) + 2)) - 1)) - x7_2)))))]) := ⟨_, rfl⟩
                    replace H : (barscanref17_Aligns.l0 k2 a0 (wrap64 ((wrap64 (Int.tdiv a0 7)) + 2)) (wrap64 ((wrap64 (Int.tdiv (wrap64 ((wrap64 ((wrap64 (8 * a0)) + (wrap64 (3 * (wrap64 ((wrap64 (Int.tdiv a0 7)) + 2)))))) + 5)) (wrap64 ((wrap64 (4 * (wrap64 ((wrap64 (Int.tdiv a0 7)) + 2)))) - 4)))) * 2)) y105 (wrap64 (x7_2 + 1))) = some (r1, r2) := by first | (rw [hy105]; with_reducible exact H) | (have H2_ := (Option.bind_some _ _).symm.trans H; rw [hy105]; with_reducible exact H2_) | (have H2_ := (Option.bind_some _ _).symm.trans H; with_reducible exact H2_) | with_reducible exact H | (rw [hy105]; exact H) | exact H
                    have Ny105 := Aside0.mk hy105
                    clear hy105
                    have H' := Aside0.mk H
                    clear H
                    go_wp2_with (first | ((with_reducible refine gate_builtin (b := .append) (xs := #[.tmp 36, .tmp 47]) rfl ?_); at_builtin; refine Kd.R_append (Kd.int .i64) (w0 := w) w.heap.size rfl (.tmp 36) (.tmp 47) 25 3 (.int .i64 0) 8 rfl Try.underlying25 info3 rfl (by decide) (by omega) u6 x6_2 (wrap64 ((wrap64 ((wrap64 (4 * a0)) + 10)) - (wrap64 ((wrap64 ((wrap64 (Int.tdiv (wrap64 ((wrap64 ((wrap64 (8 * a0)) + (wrap64 (3 * (wrap64 ((wrap64 (Int.tdiv a0 7)) + 2)))))) + 5)) (wrap64 ((wrap64 (4 * (wrap64 ((wrap64 (Int.tdiv a0 7)) + 2)))) - 4)))) * 2)) * (wrap64 ((wrap64 ((wrap64 ((wrap64 (Int.tdiv a0 7)) + 2)) - 1)) - x7_2)))))) [.int .i64 (wrap64 ((wrap64 ((wrap64 (4 * a0)) + 10)) - (wrap64 ((wrap64 ((wrap64 (Int.tdiv (wrap64 ((wrap64 ((wrap64 (8 * a0)) + (wrap64 (3 * (wrap64 ((wrap64 (Int.tdiv a0 7)) + 2)))))) + 5)) (wrap64 ((wrap64 (4 * (wrap64 ((wrap64 (Int.tdiv a0 7)) + 2)))) - 4)))) * 2)) * (wrap64 ((wrap64 ((wrap64 ((wrap64 (Int.tdiv a0 7)) + 2)) - 1)) - x7_2))))))] (fun _ => True) (fun _ => False) rfl rfl ?aP (fun _ hk => hk.elim) ?aF ?aO ?aB ?aS ?aL ?_; (case aP => exact rfl); (case aB => exact (by repeat (first | (with_reducible first | exact HB.out | apply below_alloc | apply pw_below_drewN | apply below_drew1) | exact HB.out))); (case aF => exact (fun _ _ => trivial)); (case aO => exact (by (with_reducible repeat (first | apply Kd.R_alloc | apply Kd.R_drewN | apply Kd.R_drew)); exact HO_6.out)); (case aS => exact (below_size (by repeat (first | (with_reducible first | exact HB.out | apply below_alloc | apply pw_below_drewN | apply below_drew1) | exact HB.out)))); (case aL => have := LMc10.out; omega); intro v106 w11 ho hb hg hat; rw [← Ny105.out] at ho; have n0_ := Aside0.mk (hb); have n1_ := Aside0.mk (ho); clear HB; clear HO_6; have HB := n0_; have HO107 := n1_; clear n0_ n1_; clear ho hb hg hat))
                    go_roundg k2
                    case measure => have := HJ1.out; have := HK2.out; omega
                    case rel => exact ⟨(y105), (wrap64 (x7_2 + 1)), (by first | rfl | (simp; done) | (simp [*]; done)), H', ⟨by have := HJ1.out; have := HK2.out; omega⟩, ⟨by (with_reducible repeat (first | apply Kd.R_alloc | apply Kd.R_drewN | apply Kd.R_drew)); exact HO107.out⟩, ⟨by repeat (first | (with_reducible first | exact HB.out | apply below_alloc | apply pw_below_drewN | apply below_drew1) | exact HB.out)⟩⟩
                  · rw [if_neg c10] at H
                    exact absurd H (by simp)
                · rw [if_neg c9] at H
                  have c9b0 : decide (x7_2 < (wrap64 ((wrap64 (Int.tdiv a0 7)) + 2))) = false := decide_eq_false c9
                  clear c9
                  simp only [Option.some.injEq, Prod.mk.injEq] at H
                  obtain ⟨rfl, rfl⟩ := H
                  go_wp2
                  go_ret2
                  exact ⟨_, by first | rfl | (simp [errW_none, errW_some] <;> rfl) | (simp [*, errW_none, errW_some] <;> rfl), by (with_reducible repeat (first | apply Kd.R_alloc | apply Kd.R_drewN | apply Kd.R_drew)); exact HO_6.out, by repeat (first | (with_reducible first | exact HB.out | apply below_alloc | apply pw_below_drewN | apply below_drew1) | exact HB.out)⟩

-- NOT PRINTED: function 22 (qrversion_table)

end Go.Proofs.Ytabhopibgbeneaa.X
