/- Functions of the program as Lean functions, and proofs that their calls come to them (printed for this claim by the session's own program). No condition beyond each theorem's own hypotheses. -/
import Derived.Test.YtagmncdbiljacaaXx0
import Derived.Test.YtagmncdbiljacaaXx21
import Derived.Test.YtagmncdbiljacaaXx25
import Derived.Test.YtagmncdbiljacaaXx6
import Derived.Test.YtagmncdbiljacaaYExample
import Derived.Test.YtagmncdbiljacaaYOne
namespace Go.Proofs.Ytagmncdbiljacaa.X
open Go.RowKit Go.Proofs.YtagmncdbiljacaaW.PrintWords Go.Proofs.YtagmncdbiljacaaW.PrintLast Go.Proofs.YtagmncdbiljacaaW.PrintMore
attribute [local go_sem] max2_int min2_int max_two min_two max_three min_three max_four min_four   -- for this text's walks alone
set_option linter.unusedVariables false
set_option linter.unusedSimpArgs false

/-! ### barscanlaw16_ModesPure: function 10 -/
mutual
def barscanlaw16_ModesPure.j0 : Nat → Bool → Int → Int → Bool → Option (Bool)
 | 0, _, _, _, _ => none
 | k + 1, x2, x7, x8, x29 => if x29 = true then ((barscanlaw16_exampleHolds.f).bind fun t488 => (some t488)) else (if x2 = true then (if x7 > 0 then (barscanlaw16_ModesPure.j1 k x7 x8 120 4 (wrap64 ((wrap64 ((wrap64 (4 + (wrap64 (8 * x8)))) + 8)) + 8))) else (barscanlaw16_ModesPure.j1 k x7 x8 120 4 (wrap64 ((wrap64 (4 + (wrap64 (8 * x8)))) + 8)))) else (barscanlaw16_ModesPure.j1 k x7 x8 52 1 (wrap64 ((wrap64 ((wrap64 ((wrap64 (14 + (wrap64 (2 * x7)))) + (wrap64 ((wrap64 (Int.tdiv x8 3)) * 10)))) + (wrap64 ((Int.tmod x8 3) * 3)))) + (wrap64 (Int.tdiv (wrap64 ((Int.tmod x8 3) + 1)) 2))))))
def barscanlaw16_ModesPure.j1 : Nat → Int → Int → Int → Int → Int → Option (Bool)
 | 0, _, _, _, _, _ => none
 | k + 1, x7, x8, x9, x10, x11 => (barscanlaw16_repeated.f k x9 x8).bind fun t489 => ((modes_Best.f k t489 x7).bind fun bt492 => (if bt492.2.2 = 0 then (if bt492.2.1 = x11 then ((barscanlaw16_one.f x10 (strOfNums t489)).bind fun t497 => ((barscanref16_Same.f k bt492.1 t497).bind fun t500 => (if t500 = true then ((barscanlaw16_exampleHolds.f).bind fun t501 => (some t501)) else (some false)))) else (some false)) else (some false)))
end
def barscanlaw16_ModesPure.f (k : Nat) (a0 : Int) (a1 : Int) (a2 : Bool) : Option (Bool) := if (wrap64 (a0)) = 0 then (barscanlaw16_ModesPure.j0 k a2 (wrap64 (Int.tmod a1 3)) (wrap64 (a0)) true) else (if a2 = true then (barscanlaw16_ModesPure.j0 k a2 (wrap64 (Int.tmod a1 3)) (wrap64 (a0)) (decide ((wrap64 (a0)) < 20))) else (barscanlaw16_ModesPure.j0 k a2 (wrap64 (Int.tmod a1 3)) (wrap64 (a0)) false))
theorem barscanlaw16_ModesPure.mono_l : ∀ k, (∀ y0 y1 y2 y3, LeO (barscanlaw16_ModesPure.j0 k y0 y1 y2 y3) (barscanlaw16_ModesPure.j0 (k + 1) y0 y1 y2 y3)) ∧ (∀ y0 y1 y2 y3 y4, LeO (barscanlaw16_ModesPure.j1 k y0 y1 y2 y3 y4) (barscanlaw16_ModesPure.j1 (k + 1) y0 y1 y2 y3 y4))
 | 0 => ⟨fun _ _ _ _ r h => by simp [barscanlaw16_ModesPure.j0] at h, fun _ _ _ _ _ r h => by simp [barscanlaw16_ModesPure.j1] at h⟩
 | k + 1 => by
  obtain ⟨ih0, ih1⟩ := barscanlaw16_ModesPure.mono_l k
  refine ⟨?_, ?_⟩
  ·intro y0 y1 y2 y3
   unfold barscanlaw16_ModesPure.j0
   repeat' first
   | (with_reducible exact ih0 _ _ _ _)
   | (with_reducible exact ih1 _ _ _ _ _)
   | (with_reducible exact barscanlaw16_repeated.mono _ _ _)
   | (with_reducible exact barscanref16_Same.mono _ _ _)
   | (with_reducible exact modes_Best.mono _ _ _)
   | (with_reducible exact LeO.refl _)
   | (with_reducible exact LeO.none _)
   | (with_reducible refine LeO.ite ?_ ?_)
   | (with_reducible refine LeO.bind ?_ (fun _ => ?_))
   | exact ih0 _ _ _ _
   | exact ih1 _ _ _ _ _
   | exact barscanlaw16_repeated.mono _ _ _
   | exact barscanref16_Same.mono _ _ _
   | exact modes_Best.mono _ _ _
   | exact LeO.none _
   | refine LeO.ite ?_ ?_
   | refine LeO.bind ?_ (fun _ => ?_)
  ·intro y0 y1 y2 y3 y4
   unfold barscanlaw16_ModesPure.j1
   repeat' first
   | (with_reducible exact ih0 _ _ _ _)
   | (with_reducible exact ih1 _ _ _ _ _)
   | (with_reducible exact barscanlaw16_repeated.mono _ _ _)
   | (with_reducible exact barscanref16_Same.mono _ _ _)
   | (with_reducible exact modes_Best.mono _ _ _)
   | (with_reducible exact LeO.refl _)
   | (with_reducible exact LeO.none _)
   | (with_reducible refine LeO.ite ?_ ?_)
   | (with_reducible refine LeO.bind ?_ (fun _ => ?_))
   | exact ih0 _ _ _ _
   | exact ih1 _ _ _ _ _
   | exact barscanlaw16_repeated.mono _ _ _
   | exact barscanref16_Same.mono _ _ _
   | exact modes_Best.mono _ _ _
   | exact LeO.none _
   | refine LeO.ite ?_ ?_
   | refine LeO.bind ?_ (fun _ => ?_)
theorem barscanlaw16_ModesPure.mono : ∀ a0 a1 a2 k, LeO (barscanlaw16_ModesPure.f k a0 a1 a2) (barscanlaw16_ModesPure.f (k + 1) a0 a1 a2) := by
 intro a0 a1 a2 k
 obtain ⟨ih0, ih1⟩ := barscanlaw16_ModesPure.mono_l k
 unfold barscanlaw16_ModesPure.f
 repeat' first
   | (with_reducible exact ih0 _ _ _ _)
   | (with_reducible exact ih1 _ _ _ _ _)
   | (with_reducible exact barscanlaw16_repeated.mono _ _ _)
   | (with_reducible exact barscanref16_Same.mono _ _ _)
   | (with_reducible exact modes_Best.mono _ _ _)
   | (with_reducible exact LeO.refl _)
   | (with_reducible exact LeO.none _)
   | (with_reducible refine LeO.ite ?_ ?_)
   | (with_reducible refine LeO.bind ?_ (fun _ => ?_))
   | exact ih0 _ _ _ _
   | exact ih1 _ _ _ _ _
   | exact barscanlaw16_repeated.mono _ _ _
   | exact barscanref16_Same.mono _ _ _
   | exact modes_Best.mono _ _ _
   | exact LeO.none _
   | refine LeO.ite ?_ ?_
   | refine LeO.bind ?_ (fun _ => ?_)
set_option maxHeartbeats 8000000 in
set_option maxRecDepth 100000 in
theorem barscanlaw16_ModesPure.calls (k : Nat) (a0 : Int) (a1 : Int) (a2 : Bool) (r : Bool) (w : World) (h : barscanlaw16_ModesPure.f k a0 a1 a2 = some r) :
  Calls Try.prog 10 #[.int .u8 a0, .int .u8 a1, .bool a2] w fun e w' => e = .returned (.bool r) ∧ Below w.heap.size w w' := by
 have HB := Aside0.mk (Below.refl w.heap.size w)
 have H : (if (wrap64 (a0)) = 0 then (barscanlaw16_ModesPure.j0 k a2 (wrap64 (Int.tmod a1 3)) (wrap64 (a0)) true) else (if a2 = true then (barscanlaw16_ModesPure.j0 k a2 (wrap64 (Int.tmod a1 3)) (wrap64 (a0)) (decide ((wrap64 (a0)) < 20))) else (barscanlaw16_ModesPure.j0 k a2 (wrap64 (Int.tmod a1 3)) (wrap64 (a0)) false))) = some r := h
 clear h
 have HC4 := Aside0.mk H
 clear H
 go_enter Try.func10, Try.ntmps10
 go_upto_region 3 with (fail)
 go_cut [29] (fun v29 wc => ∃ (kq : Nat) (x29_3 : Bool), v29 = .bool x29_3 ∧ Aside0 (barscanlaw16_ModesPure.j0 kq a2 (wrap64 (Int.tmod a1 3)) (wrap64 (a0)) x29_3 = some r) ∧ Aside0 (kq ≤ k) ∧ Aside0 (Below w.heap.size w wc))
 case first =>
  have H := HC4.out
  clear HC4
  by_cases c5 : (wrap64 (a0)) = 0
  ·rw [if_pos c5] at H
   have c5b0 : ((wrap64 (a0)) == 0) = true := beq_iff_eq.mpr c5
   have c5b1 : ((wrap64 (a0)) != 0) = false := bne_eq_false_iff_eq.mpr c5
   clear c5
   (first | rw [c5b0] | (simp only [i64_w, i32_w]; rw [c5b0]) | skip)
   have H' := Aside0.mk H
   clear H
   go_wp2
   go_meet
   case rel => exact ⟨_, (true), (by first | rfl | (simp; done) | (simp [*]; done) | (simp [i64_w]; done)), H', ⟨by first | omega | exact Nat.le_refl _⟩, ⟨by repeat (first | (with_reducible first | exact HB.out | apply below_alloc | apply pw_below_drewN | apply below_drew1) | exact HB.out)⟩⟩
  ·rw [if_neg c5] at H
   have c5b0 : ((wrap64 (a0)) == 0) = false := beq_eq_false_iff_ne.mpr c5
   have c5b1 : ((wrap64 (a0)) != 0) = true := bne_iff_ne.mpr c5
   (first | rw [c5b0] | (simp only [i64_w, i32_w]; rw [c5b0]) | skip)
   by_cases c6 : a2 = true
   ·subst c6
    have H1 : (barscanlaw16_ModesPure.j0 k true (wrap64 (Int.tmod a1 3)) (wrap64 (a0)) (decide ((wrap64 (a0)) < 20))) = some r := by rw [if_pos rfl] at H; exact H
    clear H
    have H := H1
    clear H1
    have H' := Aside0.mk H
    clear H
    go_wp2
    go_meet
    case rel => exact ⟨_, (decide ((wrap64 (a0)) < 20)), (by first | rfl | (simp; done) | (simp [*]; done) | (simp [i64_w]; done)), H', ⟨by first | omega | exact Nat.le_refl _⟩, ⟨by repeat (first | (with_reducible first | exact HB.out | apply below_alloc | apply pw_below_drewN | apply below_drew1) | exact HB.out)⟩⟩
   ·replace c6 := Bool.eq_false_iff.mpr c6
    subst c6
    have H1 : (barscanlaw16_ModesPure.j0 k false (wrap64 (Int.tmod a1 3)) (wrap64 (a0)) false) = some r := by rw [if_neg (show ¬ (false = true) by decide)] at H; exact H
    clear H
    have H := H1
    clear H1
    have H' := Aside0.mk H
    clear H
    go_wp2
    go_meet
    case rel => exact ⟨_, (false), (by first | rfl | (simp; done) | (simp [*]; done) | (simp [i64_w]; done)), H', ⟨by first | omega | exact Nat.le_refl _⟩, ⟨by repeat (first | (with_reducible first | exact HB.out | apply below_alloc | apply pw_below_drewN | apply below_drew1) | exact HB.out)⟩⟩
 case rest =>
  clear HC4
  try clear c1
  try clear p2
  try clear c5
  try clear c5b0
  try clear c5b1
  try clear c6
  try clear p6
  obtain ⟨kq, x29_3, rfl, HA, HJ3, HB⟩ := hcut
  cases kq with
  | zero => exact absurd HA.out (by simp [barscanlaw16_ModesPure.j0])
  | succ kj3 =>
   have H := HA.out
   clear HA
   simp only [barscanlaw16_ModesPure.j0] at H
   by_cases c7 : x29_3 = true
   ·subst c7
    have H1 : ((barscanlaw16_exampleHolds.f).bind fun t488 => (some t488)) = some r := by rw [if_pos rfl] at H; exact H
    clear H
    have H := H1
    clear H1
    replace H := Option.bind_eq_some_iff.mp H
    obtain ⟨t488, A80, H⟩ := H
    replace H : (some t488) = some r := H
    have A8 := Aside0.mk A80
    clear A80
    obtain rfl := Option.some.inj H
    go_wp2_with (first | ((with_reducible refine gate_callee (f := 20) rfl ?_); refine goesL_ (some 30) rfl rfl Try.func20 (by kernel_rfl) rfl #[] rfl (by (try simp only [List.map_toArray, List.map_cons, List.map_nil]); first | done | rfl | (simp only [List.length_drop, List.length_take]; rfl)) ?_; (with_reducible refine (barscanlaw16_exampleHolds.calls  t488 _ A8.out).mono ?_); rintro e w9 ⟨rfl, hb⟩; refine ⟨_, rfl, ?_⟩; have n0_ := Aside0.mk (below_step (by repeat (first | (with_reducible first | exact HB.out | apply below_alloc | apply pw_below_drewN | apply below_drew1) | exact HB.out)) hb); clear HB; have HB := n0_; clear n0_; (try clear hb); (try clear hb2); (try clear hk); (try clear hi)))
    go_ret
    exact ⟨by first | rfl | (simp [errW_none, errW_some] <;> rfl) | (simp [*, errW_none, errW_some] <;> rfl), by repeat (first | (with_reducible first | exact HB.out | apply below_alloc | apply pw_below_drewN | apply below_drew1) | exact HB.out)⟩
   ·replace c7 := Bool.eq_false_iff.mpr c7
    subst c7
    have H1 : (if a2 = true then (if (wrap64 (Int.tmod a1 3)) > 0 then (barscanlaw16_ModesPure.j1 kj3 (wrap64 (Int.tmod a1 3)) (wrap64 (a0)) 120 4 (wrap64 ((wrap64 ((wrap64 (4 + (wrap64 (8 * (wrap64 (a0)))))) + 8)) + 8))) else (barscanlaw16_ModesPure.j1 kj3 (wrap64 (Int.tmod a1 3)) (wrap64 (a0)) 120 4 (wrap64 ((wrap64 (4 + (wrap64 (8 * (wrap64 (a0)))))) + 8)))) else (barscanlaw16_ModesPure.j1 kj3 (wrap64 (Int.tmod a1 3)) (wrap64 (a0)) 52 1 (wrap64 ((wrap64 ((wrap64 ((wrap64 (14 + (wrap64 (2 * (wrap64 (Int.tmod a1 3)))))) + (wrap64 ((wrap64 (Int.tdiv (wrap64 (a0)) 3)) * 10)))) + (wrap64 ((Int.tmod (wrap64 (a0)) 3) * 3)))) + (wrap64 (Int.tdiv (wrap64 ((Int.tmod (wrap64 (a0)) 3) + 1)) 2)))))) = some r := by rw [if_neg (show ¬ (false = true) by decide)] at H; exact H
    clear H
    have H := H1
    clear H1
    have HC10 := Aside0.mk H
    clear H
    go_upto_if 47 with (fail)
    go_cut [9, 10, 11] (fun v9 v10 v11 wc => ∃ (kq : Nat) (x9_9 : Int) (x10_9 : Int) (x11_9 : Int), v9 = .int .u8 x9_9 ∧ v10 = .int .i64 x10_9 ∧ v11 = .int .i64 x11_9 ∧ Aside0 (barscanlaw16_ModesPure.j1 kq (wrap64 (Int.tmod a1 3)) (wrap64 (a0)) x9_9 x10_9 x11_9 = some r) ∧ Aside0 (kq ≤ kj3) ∧ Aside0 (Below w.heap.size w wc))
    case first =>
     have H := HC10.out
     clear HC10
     by_cases c11 : a2 = true
     ·subst c11
      have H1 : (if (wrap64 (Int.tmod a1 3)) > 0 then (barscanlaw16_ModesPure.j1 kj3 (wrap64 (Int.tmod a1 3)) (wrap64 (a0)) 120 4 (wrap64 ((wrap64 ((wrap64 (4 + (wrap64 (8 * (wrap64 (a0)))))) + 8)) + 8))) else (barscanlaw16_ModesPure.j1 kj3 (wrap64 (Int.tmod a1 3)) (wrap64 (a0)) 120 4 (wrap64 ((wrap64 (4 + (wrap64 (8 * (wrap64 (a0)))))) + 8)))) = some r := by rw [if_pos rfl] at H; exact H
      clear H
      have H := H1
      clear H1
      by_cases c12 : (wrap64 (Int.tmod a1 3)) > 0
      ·rw [if_pos c12] at H
       have c12b0 : decide (0 < (wrap64 (Int.tmod a1 3))) = true := decide_eq_true c12
       clear c12
       (first | rw [c12b0] | (simp only [i64_w, i32_w]; rw [c12b0]) | skip)
       have H' := Aside0.mk H
       clear H
       go_wp2
       go_meet
       case rel => exact ⟨_, (120), (4), (wrap64 ((wrap64 ((wrap64 (4 + (wrap64 (8 * (wrap64 (a0)))))) + 8)) + 8)), (by first | rfl | (simp; done) | (simp [*]; done) | (simp [i64_w]; done)), (by first | rfl | (simp; done) | (simp [*]; done) | (simp [i64_w]; done)), (by first | rfl | (simp; done) | (simp [*]; done) | (simp [i64_w]; done)), H', ⟨by have := HJ3.out; first | omega | exact Nat.le_refl _⟩, ⟨by repeat (first | (with_reducible first | exact HB.out | apply below_alloc | apply pw_below_drewN | apply below_drew1) | exact HB.out)⟩⟩
      ·rw [if_neg c12] at H
       have c12b0 : decide (0 < (wrap64 (Int.tmod a1 3))) = false := decide_eq_false c12
       clear c12
       (first | rw [c12b0] | (simp only [i64_w, i32_w]; rw [c12b0]) | skip)
       have H' := Aside0.mk H
       clear H
       go_wp2
       go_meet
       case rel => exact ⟨_, (120), (4), (wrap64 ((wrap64 (4 + (wrap64 (8 * (wrap64 (a0)))))) + 8)), (by first | rfl | (simp; done) | (simp [*]; done) | (simp [i64_w]; done)), (by first | rfl | (simp; done) | (simp [*]; done) | (simp [i64_w]; done)), (by first | rfl | (simp; done) | (simp [*]; done) | (simp [i64_w]; done)), H', ⟨by have := HJ3.out; first | omega | exact Nat.le_refl _⟩, ⟨by repeat (first | (with_reducible first | exact HB.out | apply below_alloc | apply pw_below_drewN | apply below_drew1) | exact HB.out)⟩⟩
     ·replace c11 := Bool.eq_false_iff.mpr c11
      subst c11
      have H1 : (barscanlaw16_ModesPure.j1 kj3 (wrap64 (Int.tmod a1 3)) (wrap64 (a0)) 52 1 (wrap64 ((wrap64 ((wrap64 ((wrap64 (14 + (wrap64 (2 * (wrap64 (Int.tmod a1 3)))))) + (wrap64 ((wrap64 (Int.tdiv (wrap64 (a0)) 3)) * 10)))) + (wrap64 ((Int.tmod (wrap64 (a0)) 3) * 3)))) + (wrap64 (Int.tdiv (wrap64 ((Int.tmod (wrap64 (a0)) 3) + 1)) 2))))) = some r := by rw [if_neg (show ¬ (false = true) by decide)] at H; exact H
      clear H
      have H := H1
      clear H1
      have H' := Aside0.mk H
      clear H
      go_wp2
      go_meet
      case rel => exact ⟨_, (52), (1), (wrap64 ((wrap64 ((wrap64 ((wrap64 (14 + (wrap64 (2 * (wrap64 (Int.tmod a1 3)))))) + (wrap64 ((wrap64 (Int.tdiv (wrap64 (a0)) 3)) * 10)))) + (wrap64 ((Int.tmod (wrap64 (a0)) 3) * 3)))) + (wrap64 (Int.tdiv (wrap64 ((Int.tmod (wrap64 (a0)) 3) + 1)) 2)))), (by first | rfl | (simp; done) | (simp [*]; done) | (simp [i64_w]; done)), (by first | rfl | (simp; done) | (simp [*]; done) | (simp [i64_w]; done)), (by first | rfl | (simp; done) | (simp [*]; done) | (simp [i64_w]; done)), H', ⟨by have := HJ3.out; first | omega | exact Nat.le_refl _⟩, ⟨by repeat (first | (with_reducible first | exact HB.out | apply below_alloc | apply pw_below_drewN | apply below_drew1) | exact HB.out)⟩⟩
    case rest =>
     clear HC10
     try clear c1
     try clear c2
     try clear p2
     try clear c5
     try clear c5b0
     try clear c5b1
     try clear c6
     try clear p6
     try clear c7
     try clear c10
     try clear c11
     try clear c12
     try clear c12b0
     try clear p2
     try clear p6
     obtain ⟨kq, x9_9, x10_9, x11_9, rfl, rfl, rfl, HA, HJ9, HB⟩ := hcut
     cases kq with
     | zero => exact absurd HA.out (by simp [barscanlaw16_ModesPure.j1])
     | succ kj9 =>
      have H := HA.out
      clear HA
      simp only [barscanlaw16_ModesPure.j1] at H
      replace H := Option.bind_eq_some_iff.mp H
      obtain ⟨t489, A130, H⟩ := H
      replace H : ((modes_Best.f kj9 t489 (wrap64 (Int.tmod a1 3))).bind fun bt492 => (if bt492.2.2 = 0 then (if bt492.2.1 = x11_9 then ((barscanlaw16_one.f x10_9 (strOfNums t489)).bind fun t497 => ((barscanref16_Same.f kj9 bt492.1 t497).bind fun t500 => (if t500 = true then ((barscanlaw16_exampleHolds.f).bind fun t501 => (some t501)) else (some false)))) else (some false)) else (some false))) = some r := H
      have A13 := Aside0.mk A130
      clear A130
      replace H := Option.bind_eq_some_iff.mp H
      obtain ⟨⟨t492, t495, t496⟩, A140, H⟩ := H
      replace H : (if t496 = 0 then (if t495 = x11_9 then ((barscanlaw16_one.f x10_9 (strOfNums t489)).bind fun t497 => ((barscanref16_Same.f kj9 t492 t497).bind fun t500 => (if t500 = true then ((barscanlaw16_exampleHolds.f).bind fun t501 => (some t501)) else (some false)))) else (some false)) else (some false)) = some r := H
      have A14 := Aside0.mk A140
      clear A140
      by_cases c15 : t496 = 0
      ·rw [if_pos c15] at H
       have c15b0 : (t496 == 0) = true := beq_iff_eq.mpr c15
       have c15b1 : (t496 != 0) = false := bne_eq_false_iff_eq.mpr c15
       clear c15
       by_cases c16 : t495 = x11_9
       ·rw [if_pos c16] at H
        have c16b0 : (t495 == x11_9) = true := beq_iff_eq.mpr c16
        have c16b1 : (t495 != x11_9) = false := bne_eq_false_iff_eq.mpr c16
        clear c16
        replace H := Option.bind_eq_some_iff.mp H
        obtain ⟨t497, A170, H⟩ := H
        replace H : ((barscanref16_Same.f kj9 t492 t497).bind fun t500 => (if t500 = true then ((barscanlaw16_exampleHolds.f).bind fun t501 => (some t501)) else (some false))) = some r := H
        have A17 := Aside0.mk A170
        clear A170
        replace H := Option.bind_eq_some_iff.mp H
        obtain ⟨t500, A180, H⟩ := H
        replace H : (if t500 = true then ((barscanlaw16_exampleHolds.f).bind fun t501 => (some t501)) else (some false)) = some r := H
        have A18 := Aside0.mk A180
        clear A180
        by_cases c19 : t500 = true
        ·subst c19
         have H1 : ((barscanlaw16_exampleHolds.f).bind fun t501 => (some t501)) = some r := by rw [if_pos rfl] at H; exact H
         clear H
         have H := H1
         clear H1
         replace H := Option.bind_eq_some_iff.mp H
         obtain ⟨t501, A200, H⟩ := H
         replace H : (some t501) = some r := H
         have A20 := Aside0.mk A200
         clear A200
         obtain rfl := Option.some.inj H
         go_wp2_with (first | ((with_reducible refine gate_callee (f := 22) rfl ?_); refine goesL_ (some 58) rfl rfl Try.func22 (by kernel_rfl) rfl #[.int .u8 x9_9, .int .i64 (wrap64 (a0))] rfl (by (try simp only [List.map_toArray, List.map_cons, List.map_nil]); first | done | rfl | (simp only [List.length_drop, List.length_take]; rfl)) ?_; (with_reducible refine (barscanlaw16_repeated.calls kj9 x9_9 (wrap64 (a0)) t489 _ A13.out).mono ?_); rintro e w21 ⟨v490, rfl, ho0, hb⟩; refine ⟨_, rfl, ?_⟩; have n0_ := Aside0.mk (Kd.R_lower ho0 (below_size (by repeat (first | (with_reducible first | exact HB.out | apply below_alloc | apply pw_below_drewN | apply below_drew1) | exact HB.out)))); have n1_ := Aside0.mk (below_step (by repeat (first | (with_reducible first | exact HB.out | apply below_alloc | apply pw_below_drewN | apply below_drew1) | exact HB.out)) hb); clear HB; have HO491 := n0_; have HB := n1_; clear n0_ n1_; (try clear hb); (try clear hb2); (try clear hk); (try clear hi); (try clear ho0); obtain ⟨Ao22, co22, eo22⟩ := Kd.R_slice HO491.out; subst eo22) | ((with_reducible refine gate_callee (f := 26) rfl ?_); refine goesL_ (some 62) rfl rfl Try.func26 (by kernel_rfl) rfl #[.slice Ao22 t489.length co22, .int .i64 (wrap64 (Int.tmod a1 3))] rfl (by (try simp only [List.map_toArray, List.map_cons, List.map_nil]); first | done | rfl | (simp only [List.length_drop, List.length_take]; rfl)) ?_; (with_reducible refine (modes_Best.calls kj9 _ _ t489 (wrap64 (Int.tmod a1 3)) t492 t495 t496 _ ?side1 ?side2 A14.out).mono ?_); (case side1 => repeat (first | exact (Kd.R_reads' HO491.out).2.2 | (with_reducible refine Kd.C_alloc ?_ _) | (with_reducible refine Kd.C_drewN ?_ _) | (with_reducible refine Kd.C_drew ?_))); (case side2 => exact (Kd.R_reads' HO491.out).2.1); rintro e w23 ⟨v493, rfl, ho0, hb⟩; refine ⟨_, rfl, ?_⟩; have n0_ := Aside0.mk (Kd.R_below (by (with_reducible repeat (first | apply Kd.R_alloc | apply Kd.R_drewN | apply Kd.R_drew)); exact HO491.out) hb); have n1_ := Aside0.mk (Kd.N_lower (Kd.N_mono (ok' := fun k_ => some k_ ≠ (.slice Ao22 t489.length co22 : Value).ownBlock) ho0 (fun k_ hk_ => (Kd.fresh' (Kd.R_lt (by (with_reducible repeat (first | apply Kd.R_alloc | apply Kd.R_drewN | apply Kd.R_drew)); exact HO491.out)) k_ hk_))) (below_size (by repeat (first | (with_reducible first | exact HB.out | apply below_alloc | apply pw_below_drewN | apply below_drew1) | exact HB.out)))); have n2_ := Aside0.mk (below_step (by repeat (first | (with_reducible first | exact HB.out | apply below_alloc | apply pw_below_drewN | apply below_drew1) | exact HB.out)) hb); clear HO491; clear HB; have HO491 := n0_; have HO494 := n1_; have HB := n2_; clear n0_ n1_ n2_; (try clear hb); (try clear hb2); (try clear hk); (try clear hi); (try clear ho0); have hcv24 := own_string (P := Try.prog) Try.underlying22 Try.underlying5 Try.underlying9 (Kd.own_of_R HO491.out)) | (go_at_call 31; (with_reducible refine (barscanlaw16_one.calls x10_9 (strOfNums t489) t497 _ A17.out).mono ?_); rintro e w25 ⟨v498, rfl, ho0, hb⟩; have n0_ := Aside0.mk (Kd.R_below (by (with_reducible repeat (first | apply Kd.R_alloc | apply Kd.R_drewN | apply Kd.R_drew)); exact HO491.out) hb); have n1_ := Aside0.mk (Kd.N_elder' (by (with_reducible repeat (first | apply Kd.N_alloc | apply Kd.N_drewN | apply Kd.N_drew)); exact HO494.out) (by first | exact Kd.N_base ho0 | exact Kd.S_base ho0 | exact Kd.R_base ho0) hb); have n2_ := Aside0.mk (Kd.N_lower (Kd.N_mono (ok' := fun k_ => some k_ ≠ (.slice Ao22 t489.length co22 : Value).ownBlock ∧ some k_ ≠ (v493 : Value).ownBlock) ho0 (fun k_ hk_ => ⟨(Kd.fresh' (Kd.R_lt (by (with_reducible repeat (first | apply Kd.R_alloc | apply Kd.R_drewN | apply Kd.R_drew)); exact HO491.out)) k_ hk_), (Kd.fresh' (Kd.N_lt (by (with_reducible repeat (first | apply Kd.N_alloc | apply Kd.N_drewN | apply Kd.N_drew)); exact HO494.out)) k_ hk_)⟩)) (below_size (by repeat (first | (with_reducible first | exact HB.out | apply below_alloc | apply pw_below_drewN | apply below_drew1) | exact HB.out)))); have n3_ := Aside0.mk (below_step (by repeat (first | (with_reducible first | exact HB.out | apply below_alloc | apply pw_below_drewN | apply below_drew1) | exact HB.out)) hb); clear HO491; clear HO494; clear HB; have HO491 := n0_; have HO494 := n1_; have HO499 := n2_; have HB := n3_; clear n0_ n1_ n2_ n3_; (try clear hb); (try clear hb2); (try clear hk); (try clear hi); (try clear ho0); obtain ⟨Ao26, co26, eo26⟩ := Kd.N_slice HO494.out; subst eo26; obtain ⟨Ao27, co27, eo27⟩ := Kd.N_slice HO499.out; subst eo27) | (go_at_call 25; (with_reducible refine (barscanref16_Same.calls kj9 _ _ t492 _ _ t497 true _ ?side1 ?side2 ?side3 ?side4 A18.out).mono ?_); (case side1 => repeat (first | exact (Kd.N_reads' HO494.out).2.2 | (with_reducible refine Kd.C_alloc ?_ _) | (with_reducible refine Kd.C_drewN ?_ _) | (with_reducible refine Kd.C_drew ?_))); (case side2 => exact (Kd.N_reads' HO494.out).2.1); (case side3 => repeat (first | exact (Kd.N_reads' HO499.out).2.2 | (with_reducible refine Kd.C_alloc ?_ _) | (with_reducible refine Kd.C_drewN ?_ _) | (with_reducible refine Kd.C_drew ?_))); (case side4 => exact (Kd.N_reads' HO499.out).2.1); rintro e w' ⟨rfl, ⟨nd, rfl⟩⟩) | (go_at_call 20; (with_reducible refine (barscanlaw16_exampleHolds.calls  t501 _ A20.out).mono ?_); rintro e w28 ⟨rfl, hb⟩; have n0_ := Aside0.mk (Kd.R_below (by (with_reducible repeat (first | apply Kd.R_alloc | apply Kd.R_drewN | apply Kd.R_drew)); exact HO491.out) hb); have n1_ := Aside0.mk (Kd.N_below (by (with_reducible repeat (first | apply Kd.N_alloc | apply Kd.N_drewN | apply Kd.N_drew)); exact HO494.out) hb); have n2_ := Aside0.mk (Kd.N_below (by (with_reducible repeat (first | apply Kd.N_alloc | apply Kd.N_drewN | apply Kd.N_drew)); exact HO499.out) hb); have n3_ := Aside0.mk (below_step (by repeat (first | (with_reducible first | exact HB.out | apply below_alloc | apply pw_below_drewN | apply below_drew1) | exact HB.out)) hb); clear HO491; clear HO494; clear HO499; clear HB; have HO491 := n0_; have HO494 := n1_; have HO499 := n2_; have HB := n3_; clear n0_ n1_ n2_ n3_; (try clear hb); (try clear hb2); (try clear hk); (try clear hi)))
         go_ret
         exact ⟨by first | rfl | (simp [errW_none, errW_some] <;> rfl) | (simp [*, errW_none, errW_some] <;> rfl), by repeat (first | (with_reducible first | exact HB.out | apply below_alloc | apply pw_below_drewN | apply below_drew1) | exact HB.out)⟩
        ·replace c19 := Bool.eq_false_iff.mpr c19
         subst c19
         have H1 : (some false) = some r := by rw [if_neg (show ¬ (false = true) by decide)] at H; exact H
         clear H
         have H := H1
         clear H1
         obtain rfl := Option.some.inj H
         go_wp2_with (first | ((with_reducible refine gate_callee (f := 22) rfl ?_); refine goesL_ (some 58) rfl rfl Try.func22 (by kernel_rfl) rfl #[.int .u8 x9_9, .int .i64 (wrap64 (a0))] rfl (by (try simp only [List.map_toArray, List.map_cons, List.map_nil]); first | done | rfl | (simp only [List.length_drop, List.length_take]; rfl)) ?_; (with_reducible refine (barscanlaw16_repeated.calls kj9 x9_9 (wrap64 (a0)) t489 _ A13.out).mono ?_); rintro e w29 ⟨v490, rfl, ho0, hb⟩; refine ⟨_, rfl, ?_⟩; have n0_ := Aside0.mk (Kd.R_lower ho0 (below_size (by repeat (first | (with_reducible first | exact HB.out | apply below_alloc | apply pw_below_drewN | apply below_drew1) | exact HB.out)))); have n1_ := Aside0.mk (below_step (by repeat (first | (with_reducible first | exact HB.out | apply below_alloc | apply pw_below_drewN | apply below_drew1) | exact HB.out)) hb); clear HB; have HO491 := n0_; have HB := n1_; clear n0_ n1_; (try clear hb); (try clear hb2); (try clear hk); (try clear hi); (try clear ho0); obtain ⟨Ao30, co30, eo30⟩ := Kd.R_slice HO491.out; subst eo30) | ((with_reducible refine gate_callee (f := 26) rfl ?_); refine goesL_ (some 62) rfl rfl Try.func26 (by kernel_rfl) rfl #[.slice Ao30 t489.length co30, .int .i64 (wrap64 (Int.tmod a1 3))] rfl (by (try simp only [List.map_toArray, List.map_cons, List.map_nil]); first | done | rfl | (simp only [List.length_drop, List.length_take]; rfl)) ?_; (with_reducible refine (modes_Best.calls kj9 _ _ t489 (wrap64 (Int.tmod a1 3)) t492 t495 t496 _ ?side1 ?side2 A14.out).mono ?_); (case side1 => repeat (first | exact (Kd.R_reads' HO491.out).2.2 | (with_reducible refine Kd.C_alloc ?_ _) | (with_reducible refine Kd.C_drewN ?_ _) | (with_reducible refine Kd.C_drew ?_))); (case side2 => exact (Kd.R_reads' HO491.out).2.1); rintro e w31 ⟨v493, rfl, ho0, hb⟩; refine ⟨_, rfl, ?_⟩; have n0_ := Aside0.mk (Kd.R_below (by (with_reducible repeat (first | apply Kd.R_alloc | apply Kd.R_drewN | apply Kd.R_drew)); exact HO491.out) hb); have n1_ := Aside0.mk (Kd.N_lower (Kd.N_mono (ok' := fun k_ => some k_ ≠ (.slice Ao30 t489.length co30 : Value).ownBlock) ho0 (fun k_ hk_ => (Kd.fresh' (Kd.R_lt (by (with_reducible repeat (first | apply Kd.R_alloc | apply Kd.R_drewN | apply Kd.R_drew)); exact HO491.out)) k_ hk_))) (below_size (by repeat (first | (with_reducible first | exact HB.out | apply below_alloc | apply pw_below_drewN | apply below_drew1) | exact HB.out)))); have n2_ := Aside0.mk (below_step (by repeat (first | (with_reducible first | exact HB.out | apply below_alloc | apply pw_below_drewN | apply below_drew1) | exact HB.out)) hb); clear HO491; clear HB; have HO491 := n0_; have HO494 := n1_; have HB := n2_; clear n0_ n1_ n2_; (try clear hb); (try clear hb2); (try clear hk); (try clear hi); (try clear ho0); have hcv32 := own_string (P := Try.prog) Try.underlying22 Try.underlying5 Try.underlying9 (Kd.own_of_R HO491.out)) | (go_at_call 31; (with_reducible refine (barscanlaw16_one.calls x10_9 (strOfNums t489) t497 _ A17.out).mono ?_); rintro e w33 ⟨v498, rfl, ho0, hb⟩; have n0_ := Aside0.mk (Kd.R_below (by (with_reducible repeat (first | apply Kd.R_alloc | apply Kd.R_drewN | apply Kd.R_drew)); exact HO491.out) hb); have n1_ := Aside0.mk (Kd.N_elder' (by (with_reducible repeat (first | apply Kd.N_alloc | apply Kd.N_drewN | apply Kd.N_drew)); exact HO494.out) (by first | exact Kd.N_base ho0 | exact Kd.S_base ho0 | exact Kd.R_base ho0) hb); have n2_ := Aside0.mk (Kd.N_lower (Kd.N_mono (ok' := fun k_ => some k_ ≠ (.slice Ao30 t489.length co30 : Value).ownBlock ∧ some k_ ≠ (v493 : Value).ownBlock) ho0 (fun k_ hk_ => ⟨(Kd.fresh' (Kd.R_lt (by (with_reducible repeat (first | apply Kd.R_alloc | apply Kd.R_drewN | apply Kd.R_drew)); exact HO491.out)) k_ hk_), (Kd.fresh' (Kd.N_lt (by (with_reducible repeat (first | apply Kd.N_alloc | apply Kd.N_drewN | apply Kd.N_drew)); exact HO494.out)) k_ hk_)⟩)) (below_size (by repeat (first | (with_reducible first | exact HB.out | apply below_alloc | apply pw_below_drewN | apply below_drew1) | exact HB.out)))); have n3_ := Aside0.mk (below_step (by repeat (first | (with_reducible first | exact HB.out | apply below_alloc | apply pw_below_drewN | apply below_drew1) | exact HB.out)) hb); clear HO491; clear HO494; clear HB; have HO491 := n0_; have HO494 := n1_; have HO499 := n2_; have HB := n3_; clear n0_ n1_ n2_ n3_; (try clear hb); (try clear hb2); (try clear hk); (try clear hi); (try clear ho0); obtain ⟨Ao34, co34, eo34⟩ := Kd.N_slice HO494.out; subst eo34; obtain ⟨Ao35, co35, eo35⟩ := Kd.N_slice HO499.out; subst eo35) | (go_at_call 25; (with_reducible refine (barscanref16_Same.calls kj9 _ _ t492 _ _ t497 false _ ?side1 ?side2 ?side3 ?side4 A18.out).mono ?_); (case side1 => repeat (first | exact (Kd.N_reads' HO494.out).2.2 | (with_reducible refine Kd.C_alloc ?_ _) | (with_reducible refine Kd.C_drewN ?_ _) | (with_reducible refine Kd.C_drew ?_))); (case side2 => exact (Kd.N_reads' HO494.out).2.1); (case side3 => repeat (first | exact (Kd.N_reads' HO499.out).2.2 | (with_reducible refine Kd.C_alloc ?_ _) | (with_reducible refine Kd.C_drewN ?_ _) | (with_reducible refine Kd.C_drew ?_))); (case side4 => exact (Kd.N_reads' HO499.out).2.1); rintro e w' ⟨rfl, ⟨nd, rfl⟩⟩))
         go_ret
         exact ⟨by first | rfl | (simp [errW_none, errW_some] <;> rfl) | (simp [*, errW_none, errW_some] <;> rfl), by repeat (first | (with_reducible first | exact HB.out | apply below_alloc | apply pw_below_drewN | apply below_drew1) | exact HB.out)⟩
       ·rw [if_neg c16] at H
        have c16b0 : (t495 == x11_9) = false := beq_eq_false_iff_ne.mpr c16
        have c16b1 : (t495 != x11_9) = true := bne_iff_ne.mpr c16
        obtain rfl := Option.some.inj H
        go_wp2_with (first | ((with_reducible refine gate_callee (f := 22) rfl ?_); refine goesL_ (some 58) rfl rfl Try.func22 (by kernel_rfl) rfl #[.int .u8 x9_9, .int .i64 (wrap64 (a0))] rfl (by (try simp only [List.map_toArray, List.map_cons, List.map_nil]); first | done | rfl | (simp only [List.length_drop, List.length_take]; rfl)) ?_; (with_reducible refine (barscanlaw16_repeated.calls kj9 x9_9 (wrap64 (a0)) t489 _ A13.out).mono ?_); rintro e w36 ⟨v490, rfl, ho0, hb⟩; refine ⟨_, rfl, ?_⟩; have n0_ := Aside0.mk (Kd.R_lower ho0 (below_size (by repeat (first | (with_reducible first | exact HB.out | apply below_alloc | apply pw_below_drewN | apply below_drew1) | exact HB.out)))); have n1_ := Aside0.mk (below_step (by repeat (first | (with_reducible first | exact HB.out | apply below_alloc | apply pw_below_drewN | apply below_drew1) | exact HB.out)) hb); clear HB; have HO491 := n0_; have HB := n1_; clear n0_ n1_; (try clear hb); (try clear hb2); (try clear hk); (try clear hi); (try clear ho0); obtain ⟨Ao37, co37, eo37⟩ := Kd.R_slice HO491.out; subst eo37) | ((with_reducible refine gate_callee (f := 26) rfl ?_); refine goesL_ (some 62) rfl rfl Try.func26 (by kernel_rfl) rfl #[.slice Ao37 t489.length co37, .int .i64 (wrap64 (Int.tmod a1 3))] rfl (by (try simp only [List.map_toArray, List.map_cons, List.map_nil]); first | done | rfl | (simp only [List.length_drop, List.length_take]; rfl)) ?_; (with_reducible refine (modes_Best.calls kj9 _ _ t489 (wrap64 (Int.tmod a1 3)) t492 t495 t496 _ ?side1 ?side2 A14.out).mono ?_); (case side1 => repeat (first | exact (Kd.R_reads' HO491.out).2.2 | (with_reducible refine Kd.C_alloc ?_ _) | (with_reducible refine Kd.C_drewN ?_ _) | (with_reducible refine Kd.C_drew ?_))); (case side2 => exact (Kd.R_reads' HO491.out).2.1); rintro e w38 ⟨v493, rfl, ho0, hb⟩; refine ⟨_, rfl, ?_⟩; have n0_ := Aside0.mk (Kd.R_below (by (with_reducible repeat (first | apply Kd.R_alloc | apply Kd.R_drewN | apply Kd.R_drew)); exact HO491.out) hb); have n1_ := Aside0.mk (Kd.N_lower (Kd.N_mono (ok' := fun k_ => some k_ ≠ (.slice Ao37 t489.length co37 : Value).ownBlock) ho0 (fun k_ hk_ => (Kd.fresh' (Kd.R_lt (by (with_reducible repeat (first | apply Kd.R_alloc | apply Kd.R_drewN | apply Kd.R_drew)); exact HO491.out)) k_ hk_))) (below_size (by repeat (first | (with_reducible first | exact HB.out | apply below_alloc | apply pw_below_drewN | apply below_drew1) | exact HB.out)))); have n2_ := Aside0.mk (below_step (by repeat (first | (with_reducible first | exact HB.out | apply below_alloc | apply pw_below_drewN | apply below_drew1) | exact HB.out)) hb); clear HO491; clear HB; have HO491 := n0_; have HO494 := n1_; have HB := n2_; clear n0_ n1_ n2_; (try clear hb); (try clear hb2); (try clear hk); (try clear hi); (try clear ho0)))
        go_ret
        exact ⟨by first | rfl | (simp [errW_none, errW_some] <;> rfl) | (simp [*, errW_none, errW_some] <;> rfl), by repeat (first | (with_reducible first | exact HB.out | apply below_alloc | apply pw_below_drewN | apply below_drew1) | exact HB.out)⟩
      ·rw [if_neg c15] at H
       have c15b0 : (t496 == 0) = false := beq_eq_false_iff_ne.mpr c15
       have c15b1 : (t496 != 0) = true := bne_iff_ne.mpr c15
       obtain rfl := Option.some.inj H
       go_wp2_with (first | ((with_reducible refine gate_callee (f := 22) rfl ?_); refine goesL_ (some 58) rfl rfl Try.func22 (by kernel_rfl) rfl #[.int .u8 x9_9, .int .i64 (wrap64 (a0))] rfl (by (try simp only [List.map_toArray, List.map_cons, List.map_nil]); first | done | rfl | (simp only [List.length_drop, List.length_take]; rfl)) ?_; (with_reducible refine (barscanlaw16_repeated.calls kj9 x9_9 (wrap64 (a0)) t489 _ A13.out).mono ?_); rintro e w39 ⟨v490, rfl, ho0, hb⟩; refine ⟨_, rfl, ?_⟩; have n0_ := Aside0.mk (Kd.R_lower ho0 (below_size (by repeat (first | (with_reducible first | exact HB.out | apply below_alloc | apply pw_below_drewN | apply below_drew1) | exact HB.out)))); have n1_ := Aside0.mk (below_step (by repeat (first | (with_reducible first | exact HB.out | apply below_alloc | apply pw_below_drewN | apply below_drew1) | exact HB.out)) hb); clear HB; have HO491 := n0_; have HB := n1_; clear n0_ n1_; (try clear hb); (try clear hb2); (try clear hk); (try clear hi); (try clear ho0); obtain ⟨Ao40, co40, eo40⟩ := Kd.R_slice HO491.out; subst eo40) | ((with_reducible refine gate_callee (f := 26) rfl ?_); refine goesL_ (some 62) rfl rfl Try.func26 (by kernel_rfl) rfl #[.slice Ao40 t489.length co40, .int .i64 (wrap64 (Int.tmod a1 3))] rfl (by (try simp only [List.map_toArray, List.map_cons, List.map_nil]); first | done | rfl | (simp only [List.length_drop, List.length_take]; rfl)) ?_; (with_reducible refine (modes_Best.calls kj9 _ _ t489 (wrap64 (Int.tmod a1 3)) t492 t495 t496 _ ?side1 ?side2 A14.out).mono ?_); (case side1 => repeat (first | exact (Kd.R_reads' HO491.out).2.2 | (with_reducible refine Kd.C_alloc ?_ _) | (with_reducible refine Kd.C_drewN ?_ _) | (with_reducible refine Kd.C_drew ?_))); (case side2 => exact (Kd.R_reads' HO491.out).2.1); rintro e w41 ⟨v493, rfl, ho0, hb⟩; refine ⟨_, rfl, ?_⟩; have n0_ := Aside0.mk (Kd.R_below (by (with_reducible repeat (first | apply Kd.R_alloc | apply Kd.R_drewN | apply Kd.R_drew)); exact HO491.out) hb); have n1_ := Aside0.mk (Kd.N_lower (Kd.N_mono (ok' := fun k_ => some k_ ≠ (.slice Ao40 t489.length co40 : Value).ownBlock) ho0 (fun k_ hk_ => (Kd.fresh' (Kd.R_lt (by (with_reducible repeat (first | apply Kd.R_alloc | apply Kd.R_drewN | apply Kd.R_drew)); exact HO491.out)) k_ hk_))) (below_size (by repeat (first | (with_reducible first | exact HB.out | apply below_alloc | apply pw_below_drewN | apply below_drew1) | exact HB.out)))); have n2_ := Aside0.mk (below_step (by repeat (first | (with_reducible first | exact HB.out | apply below_alloc | apply pw_below_drewN | apply below_drew1) | exact HB.out)) hb); clear HO491; clear HB; have HO491 := n0_; have HO494 := n1_; have HB := n2_; clear n0_ n1_ n2_; (try clear hb); (try clear hb2); (try clear hk); (try clear hi); (try clear ho0)))
       go_ret
       exact ⟨by first | rfl | (simp [errW_none, errW_some] <;> rfl) | (simp [*, errW_none, errW_some] <;> rfl), by repeat (first | (with_reducible first | exact HB.out | apply below_alloc | apply pw_below_drewN | apply below_drew1) | exact HB.out)⟩

/-- THE ONE PURE STATEMENT of barscanlaw16_ModesPure: yours. -/
def barscanlaw16_ModesPure.Pure : Prop := ∀ (a0 : Int) (a1 : Int) (a2 : Bool), (Lit.int .u8 a0).wf = true → (Lit.int .u8 a1).wf = true → ∃ k, barscanlaw16_ModesPure.f k a0 a1 a2 = some true
theorem barscanlaw16_ModesPure.walk (P : barscanlaw16_ModesPure.Pure) (a0 : Int) (a1 : Int) (a2 : Bool) (w : World) (w0 : (Lit.int .u8 a0).wf = true) (w1 : (Lit.int .u8 a1).wf = true) :
  Calls Try.prog 10 #[.int .u8 a0, .int .u8 a1, .bool a2] w fun e w' => e = .returned (.bool true) ∧ Below w.heap.size w w' := by
 obtain ⟨k, h⟩ := P a0 a1 a2 w0 w1
 refine (barscanlaw16_ModesPure.calls k a0 a1 a2 true w h).mono ?_
 rintro e w' ⟨rfl, hd⟩
 exact ⟨rfl, hd⟩

end Go.Proofs.Ytagmncdbiljacaa.X
