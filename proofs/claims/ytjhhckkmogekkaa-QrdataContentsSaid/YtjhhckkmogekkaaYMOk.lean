/- Joined by this session's own program (wip/mclaim.py): Xx10, Xx31c, Xx32, Xx31b, YMRefParts, YMOk. No condition beyond each theorem's own hypotheses. -/
import Derived.Test.YtjhhckkmogekkaaXx0
import Derived.Test.YtjhhckkmogekkaaXx9
import Derived.Test.YtjhhckkmogekkaaYMIx
import Derived.Test.YtjhhckkmogekkaaYMBits
namespace Go.Proofs.Ytjhhckkmogekkaa.X
open Go.RowKit Go.Proofs.YtjhhckkmogekkaaW.PrintWords Go.Proofs.YtjhhckkmogekkaaW.PrintLast Go.Proofs.YtjhhckkmogekkaaW.PrintMore
attribute [local go_sem] max2_int min2_int max_two min_two max_three min_three max_four min_four   -- for this text's walks alone
set_option linter.unusedVariables false
set_option linter.unusedSimpArgs false

/-! ### barscanref16_CountBits: function 49 -/
def barscanref16_CountBits.j0 : Nat → Int → Int → Bool → Option (Int × Int)
 | 0, _, _, _ => none
 | k + 1, x0, x1, x16 => if x16 = true then (some (0, 1)) else (if x0 = 1 then (some (wrap64 (10 + (wrap64 (2 * x1))), 0)) else (if x0 = 2 then (some (wrap64 (9 + (wrap64 (2 * x1))), 0)) else (if x1 = 0 then (some (8, 0)) else (some (16, 0)))))
def barscanref16_CountBits.f (k : Nat) (a0 : Int) (a1 : Int) : Option (Int × Int) := (barscanref16_known.f a0).bind fun t163 => (if t163 = true then (if a1 < 0 then (barscanref16_CountBits.j0 k a0 a1 true) else (barscanref16_CountBits.j0 k a0 a1 (decide (a1 > 2)))) else (barscanref16_CountBits.j0 k a0 a1 true))
theorem barscanref16_CountBits.mono_l : ∀ k, (∀ y0 y1 y2, LeO (barscanref16_CountBits.j0 k y0 y1 y2) (barscanref16_CountBits.j0 (k + 1) y0 y1 y2))
 | 0 => fun _ _ _ r h => by simp [barscanref16_CountBits.j0] at h
 | k + 1 => by
  have ih0 := barscanref16_CountBits.mono_l k
  ·intro y0 y1 y2
   unfold barscanref16_CountBits.j0
   repeat' first
   | (with_reducible exact ih0 _ _ _)
   | (with_reducible exact LeO.refl _)
   | (with_reducible exact LeO.none _)
   | (with_reducible refine LeO.ite ?_ ?_)
   | (with_reducible refine LeO.bind ?_ (fun _ => ?_))
   | exact ih0 _ _ _
   | exact LeO.none _
   | refine LeO.ite ?_ ?_
   | refine LeO.bind ?_ (fun _ => ?_)
theorem barscanref16_CountBits.mono : ∀ a0 a1 k, LeO (barscanref16_CountBits.f k a0 a1) (barscanref16_CountBits.f (k + 1) a0 a1) := by
 intro a0 a1 k
 have ih0 := barscanref16_CountBits.mono_l k
 unfold barscanref16_CountBits.f
 repeat' first
   | (with_reducible exact ih0 _ _ _)
   | (with_reducible exact LeO.refl _)
   | (with_reducible exact LeO.none _)
   | (with_reducible refine LeO.ite ?_ ?_)
   | (with_reducible refine LeO.bind ?_ (fun _ => ?_))
   | exact ih0 _ _ _
   | exact LeO.none _
   | refine LeO.ite ?_ ?_
   | refine LeO.bind ?_ (fun _ => ?_)
set_option maxHeartbeats 8000000 in
set_option maxRecDepth 100000 in
theorem barscanref16_CountBits.calls (k : Nat) (a0 : Int) (a1 : Int) (r1 : Int) (r2 : Int) (w : World) (h : barscanref16_CountBits.f k a0 a1 = some (r1, r2)) :
  Calls Try.prog 49 #[.int .i64 a0, .int .i64 a1] w fun e w' => e = .returned (.tuple #[.int .i64 r1, .int .i64 r2]) ∧ Drawn0 w w' := by
 have H : ((barscanref16_known.f a0).bind fun t163 => (if t163 = true then (if a1 < 0 then (barscanref16_CountBits.j0 k a0 a1 true) else (barscanref16_CountBits.j0 k a0 a1 (decide (a1 > 2)))) else (barscanref16_CountBits.j0 k a0 a1 true))) = some (r1, r2) := h
 clear h
 have HC3 := Aside0.mk H
 clear H
 go_enter Try.func49, Try.ntmps49
 go_upto_region 1 with (fail)
 go_cut [16] (fun v16 wc => ∃ (kq : Nat) (x16_2 : Bool), v16 = .bool x16_2 ∧ Aside0 (barscanref16_CountBits.j0 kq a0 a1 x16_2 = some (r1, r2)) ∧ Aside0 (kq ≤ k) ∧ Drawn0 w wc)
 case first =>
  have H := HC3.out
  clear HC3
  replace H := Option.bind_eq_some_iff.mp H
  obtain ⟨t163, A40, H⟩ := H
  replace H : (if t163 = true then (if a1 < 0 then (barscanref16_CountBits.j0 k a0 a1 true) else (barscanref16_CountBits.j0 k a0 a1 (decide (a1 > 2)))) else (barscanref16_CountBits.j0 k a0 a1 true)) = some (r1, r2) := H
  have A4 := Aside0.mk A40
  clear A40
  by_cases c5 : t163 = true
  ·subst c5
   have H1 : (if a1 < 0 then (barscanref16_CountBits.j0 k a0 a1 true) else (barscanref16_CountBits.j0 k a0 a1 (decide (a1 > 2)))) = some (r1, r2) := by rw [if_pos rfl] at H; exact H
   clear H
   have H := H1
   clear H1
   by_cases c6 : a1 < 0
   ·rw [if_pos c6] at H
    have c6b0 : decide (a1 < 0) = true := decide_eq_true c6
    clear c6
    (first | rw [c6b0] | (simp only [i64_w, i32_w]; rw [c6b0]) | skip)
    have H' := Aside0.mk H
    clear H
    go_wp2_with (first | ((with_reducible refine gate_callee (f := 48) rfl ?_); refine goesL_ (some 7) rfl rfl Try.func48 (by kernel_rfl) rfl #[.int .i64 a0] rfl (by (try simp only [List.map_toArray, List.map_cons, List.map_nil]); first | done | rfl | (simp only [List.length_drop, List.length_take]; rfl)) ?_; (with_reducible refine (barscanref16_known.calls a0 true _ A4.out).mono ?_); rintro e w' ⟨rfl, ⟨nd, rfl⟩⟩; refine ⟨_, rfl, ?_⟩))
    go_meet
    case rel => exact ⟨_, (true), (by first | rfl | (simp; done) | (simp [*]; done) | (simp [i64_w]; done)), H', ⟨by first | omega | exact Nat.le_refl _⟩, by repeat (first | exact Drawn0.refl _ | apply Drawn0.step)⟩
   ·rw [if_neg c6] at H
    have c6b0 : decide (a1 < 0) = false := decide_eq_false c6
    clear c6
    (first | rw [c6b0] | (simp only [i64_w, i32_w]; rw [c6b0]) | skip)
    have H' := Aside0.mk H
    clear H
    go_wp2_with (first | ((with_reducible refine gate_callee (f := 48) rfl ?_); refine goesL_ (some 7) rfl rfl Try.func48 (by kernel_rfl) rfl #[.int .i64 a0] rfl (by (try simp only [List.map_toArray, List.map_cons, List.map_nil]); first | done | rfl | (simp only [List.length_drop, List.length_take]; rfl)) ?_; (with_reducible refine (barscanref16_known.calls a0 true _ A4.out).mono ?_); rintro e w' ⟨rfl, ⟨nd, rfl⟩⟩; refine ⟨_, rfl, ?_⟩))
    go_meet
    case rel => exact ⟨_, (decide (a1 > 2)), (by first | rfl | (simp; done) | (simp [*]; done) | (simp [i64_w]; done)), H', ⟨by first | omega | exact Nat.le_refl _⟩, by repeat (first | exact Drawn0.refl _ | apply Drawn0.step)⟩
  ·replace c5 := Bool.eq_false_iff.mpr c5
   subst c5
   have H1 : (barscanref16_CountBits.j0 k a0 a1 true) = some (r1, r2) := by rw [if_neg (show ¬ (false = true) by decide)] at H; exact H
   clear H
   have H := H1
   clear H1
   have H' := Aside0.mk H
   clear H
   go_wp2_with (first | ((with_reducible refine gate_callee (f := 48) rfl ?_); refine goesL_ (some 7) rfl rfl Try.func48 (by kernel_rfl) rfl #[.int .i64 a0] rfl (by (try simp only [List.map_toArray, List.map_cons, List.map_nil]); first | done | rfl | (simp only [List.length_drop, List.length_take]; rfl)) ?_; (with_reducible refine (barscanref16_known.calls a0 false _ A4.out).mono ?_); rintro e w' ⟨rfl, ⟨nd, rfl⟩⟩; refine ⟨_, rfl, ?_⟩))
   go_meet
   case rel => exact ⟨_, (true), (by first | rfl | (simp; done) | (simp [*]; done) | (simp [i64_w]; done)), H', ⟨by first | omega | exact Nat.le_refl _⟩, by repeat (first | exact Drawn0.refl _ | apply Drawn0.step)⟩
 case rest =>
  clear HC3
  try clear p2
  try clear c4
  try clear c5
  try clear c6
  try clear c6b0
  obtain ⟨kq, x16_2, rfl, HA, HJ2, ⟨mc2, rfl⟩⟩ := hcut
  cases kq with
  | zero => exact absurd HA.out (by simp [barscanref16_CountBits.j0])
  | succ kj2 =>
   have H := HA.out
   clear HA
   simp only [barscanref16_CountBits.j0] at H
   by_cases c7 : x16_2 = true
   ·subst c7
    have H1 : (some (0, 1)) = some (r1, r2) := by rw [if_pos rfl] at H; exact H
    clear H
    have H := H1
    clear H1
    simp only [Option.some.injEq, Prod.mk.injEq] at H
    obtain ⟨rfl, rfl⟩ := H
    go_wp2
    go_ret2
    exact ⟨by first | rfl | (simp; done) | (simp [*]; done) | (simp [i64_w]; done), by repeat (first | exact Drawn0.refl _ | apply Drawn0.step)⟩
   ·replace c7 := Bool.eq_false_iff.mpr c7
    subst c7
    have H1 : (if a0 = 1 then (some (wrap64 (10 + (wrap64 (2 * a1))), 0)) else (if a0 = 2 then (some (wrap64 (9 + (wrap64 (2 * a1))), 0)) else (if a1 = 0 then (some (8, 0)) else (some (16, 0))))) = some (r1, r2) := by rw [if_neg (show ¬ (false = true) by decide)] at H; exact H
    clear H
    have H := H1
    clear H1
    by_cases c8 : a0 = 1
    ·rw [if_pos c8] at H
     have c8b0 : (a0 == 1) = true := beq_iff_eq.mpr c8
     have c8b1 : (a0 != 1) = false := bne_eq_false_iff_eq.mpr c8
     clear c8
     simp only [Option.some.injEq, Prod.mk.injEq] at H
     obtain ⟨rfl, rfl⟩ := H
     go_wp2
     go_ret2
     exact ⟨by first | rfl | (simp; done) | (simp [*]; done) | (simp [i64_w]; done), by repeat (first | exact Drawn0.refl _ | apply Drawn0.step)⟩
    ·rw [if_neg c8] at H
     have c8b0 : (a0 == 1) = false := beq_eq_false_iff_ne.mpr c8
     have c8b1 : (a0 != 1) = true := bne_iff_ne.mpr c8
     by_cases c9 : a0 = 2
     ·rw [if_pos c9] at H
      have c9b0 : (a0 == 2) = true := beq_iff_eq.mpr c9
      have c9b1 : (a0 != 2) = false := bne_eq_false_iff_eq.mpr c9
      clear c9
      simp only [Option.some.injEq, Prod.mk.injEq] at H
      obtain ⟨rfl, rfl⟩ := H
      go_wp2
      go_ret2
      exact ⟨by first | rfl | (simp; done) | (simp [*]; done) | (simp [i64_w]; done), by repeat (first | exact Drawn0.refl _ | apply Drawn0.step)⟩
     ·rw [if_neg c9] at H
      have c9b0 : (a0 == 2) = false := beq_eq_false_iff_ne.mpr c9
      have c9b1 : (a0 != 2) = true := bne_iff_ne.mpr c9
      by_cases c10 : a1 = 0
      ·rw [if_pos c10] at H
       have c10b0 : (a1 == 0) = true := beq_iff_eq.mpr c10
       have c10b1 : (a1 != 0) = false := bne_eq_false_iff_eq.mpr c10
       clear c10
       simp only [Option.some.injEq, Prod.mk.injEq] at H
       obtain ⟨rfl, rfl⟩ := H
       go_wp2
       go_ret2
       exact ⟨by first | rfl | (simp; done) | (simp [*]; done) | (simp [i64_w]; done), by repeat (first | exact Drawn0.refl _ | apply Drawn0.step)⟩
      ·rw [if_neg c10] at H
       have c10b0 : (a1 == 0) = false := beq_eq_false_iff_ne.mpr c10
       have c10b1 : (a1 != 0) = true := bne_iff_ne.mpr c10
       simp only [Option.some.injEq, Prod.mk.injEq] at H
       obtain ⟨rfl, rfl⟩ := H
       go_wp2
       go_ret2
       exact ⟨by first | rfl | (simp; done) | (simp [*]; done) | (simp [i64_w]; done), by repeat (first | exact Drawn0.refl _ | apply Drawn0.step)⟩

/-! ### barscanref16_Data: function 69 -/
def barscanref16_Data.f (a0 : Int) (a1 : Int) : Option (Int) := if a0 = 1 then (some (wrap64 ((wrap64 ((wrap64 ((wrap64 (Int.tdiv a1 3)) * 10)) + (wrap64 ((Int.tmod a1 3) * 3)))) + (wrap64 (Int.tdiv (wrap64 ((Int.tmod a1 3) + 1)) 2))))) else (if a0 = 2 then (some (wrap64 ((wrap64 ((wrap64 (Int.tdiv a1 2)) * 11)) + (wrap64 ((Int.tmod a1 2) * 6))))) else (some (wrap64 (8 * a1))))
set_option maxHeartbeats 8000000 in
set_option maxRecDepth 100000 in
theorem barscanref16_Data.calls (a0 : Int) (a1 : Int) (r : Int) (w : World) (h : barscanref16_Data.f a0 a1 = some r) :
  Calls Try.prog 69 #[.int .i64 a0, .int .i64 a1] w fun e w' => e = .returned (.int .i64 r) ∧ Drawn0 w w' := by
 have H : (if a0 = 1 then (some (wrap64 ((wrap64 ((wrap64 ((wrap64 (Int.tdiv a1 3)) * 10)) + (wrap64 ((Int.tmod a1 3) * 3)))) + (wrap64 (Int.tdiv (wrap64 ((Int.tmod a1 3) + 1)) 2))))) else (if a0 = 2 then (some (wrap64 ((wrap64 ((wrap64 (Int.tdiv a1 2)) * 11)) + (wrap64 ((Int.tmod a1 2) * 6))))) else (some (wrap64 (8 * a1))))) = some r := h
 clear h
 by_cases c3 : a0 = 1
 ·rw [if_pos c3] at H
  have c3b0 : (a0 == 1) = true := beq_iff_eq.mpr c3
  have c3b1 : (a0 != 1) = false := bne_eq_false_iff_eq.mpr c3
  clear c3
  obtain rfl := Option.some.inj H
  go_enter Try.func69, Try.ntmps69
  go_wp2
  go_ret
  exact ⟨by first | rfl | (simp; done) | (simp [*]; done) | (simp [i64_w]; done), by repeat (first | exact Drawn0.refl _ | apply Drawn0.step)⟩
 ·rw [if_neg c3] at H
  have c3b0 : (a0 == 1) = false := beq_eq_false_iff_ne.mpr c3
  have c3b1 : (a0 != 1) = true := bne_iff_ne.mpr c3
  by_cases c4 : a0 = 2
  ·rw [if_pos c4] at H
   have c4b0 : (a0 == 2) = true := beq_iff_eq.mpr c4
   have c4b1 : (a0 != 2) = false := bne_eq_false_iff_eq.mpr c4
   clear c4
   obtain rfl := Option.some.inj H
   go_enter Try.func69, Try.ntmps69
   go_wp2
   go_ret
   exact ⟨by first | rfl | (simp; done) | (simp [*]; done) | (simp [i64_w]; done), by repeat (first | exact Drawn0.refl _ | apply Drawn0.step)⟩
  ·rw [if_neg c4] at H
   have c4b0 : (a0 == 2) = false := beq_eq_false_iff_ne.mpr c4
   have c4b1 : (a0 != 2) = true := bne_iff_ne.mpr c4
   obtain rfl := Option.some.inj H
   go_enter Try.func69, Try.ntmps69
   go_wp2
   go_ret
   exact ⟨by first | rfl | (simp; done) | (simp [*]; done) | (simp [i64_w]; done), by repeat (first | exact Drawn0.refl _ | apply Drawn0.step)⟩

end Go.Proofs.Ytjhhckkmogekkaa.X

namespace Go.Proofs.Ytjhhckkmogekkaa.X
open Go.RowKit Go.Proofs.YtjhhckkmogekkaaW.PrintWords Go.Proofs.YtjhhckkmogekkaaW.PrintLast Go.Proofs.YtjhhckkmogekkaaW.PrintMore
attribute [local go_sem] max2_int min2_int max_two min_two max_three min_three max_four min_four   -- for this text's walks alone
set_option linter.unusedVariables false
set_option linter.unusedSimpArgs false

/-! ### barscanref16_place: function 85 -/
def barscanref16_place.l0 : Nat → Int → Int → Option (Int)
 | 0, _, _ => none
 | k + 1, x0, x3 => if x3 < 45 then (if 0 ≤ x3 then (if (bt (⟨#[48, 49, 50, 51, 52, 53, 54, 55, 56, 57, 65, 66, 67, 68, 69, 70, 71, 72, 73, 74, 75, 76, 77, 78, 79, 80, 81, 82, 83, 84, 85, 86, 87, 88, 89, 90, 32, 36, 37, 42, 43, 45, 46, 47, 58]⟩ : ByteArray) x3) = x0 then (some x3) else (barscanref16_place.l0 k x0 (wrap64 (x3 + 1)))) else (none)) else (some (-1))
def barscanref16_place.f (k : Nat) (a0 : Int) : Option (Int) := barscanref16_place.l0 k a0 0
theorem barscanref16_place.mono_l : ∀ k, (∀ y0 y1, LeO (barscanref16_place.l0 k y0 y1) (barscanref16_place.l0 (k + 1) y0 y1))
 | 0 => fun _ _ r h => by simp [barscanref16_place.l0] at h
 | k + 1 => by
  have ih0 := barscanref16_place.mono_l k
  ·intro y0 y1
   unfold barscanref16_place.l0
   repeat' first
   | (with_reducible exact ih0 _ _)
   | (with_reducible exact LeO.refl _)
   | (with_reducible exact LeO.none _)
   | (with_reducible refine LeO.ite ?_ ?_)
   | (with_reducible refine LeO.bind ?_ (fun _ => ?_))
   | exact ih0 _ _
   | exact LeO.none _
   | refine LeO.ite ?_ ?_
   | refine LeO.bind ?_ (fun _ => ?_)
theorem barscanref16_place.mono : ∀ a0 k, LeO (barscanref16_place.f k a0) (barscanref16_place.f (k + 1) a0) := by
 intro a0 k
 have ih0 := barscanref16_place.mono_l k
 unfold barscanref16_place.f
 repeat' first
   | (with_reducible exact ih0 _ _)
   | (with_reducible exact LeO.refl _)
   | (with_reducible exact LeO.none _)
   | (with_reducible refine LeO.ite ?_ ?_)
   | (with_reducible refine LeO.bind ?_ (fun _ => ?_))
   | exact ih0 _ _
   | exact LeO.none _
   | refine LeO.ite ?_ ?_
   | refine LeO.bind ?_ (fun _ => ?_)
set_option maxHeartbeats 8000000 in
set_option maxRecDepth 100000 in
theorem barscanref16_place.calls (k : Nat) (a0 : Int) (r : Int) (w : World) (h : barscanref16_place.f k a0 = some r) :
  Calls Try.prog 85 #[.int .u8 a0] w fun e w' => e = .returned (.int .i64 r) ∧ Drawn0 w w' := by
 have H : (barscanref16_place.l0 k a0 0) = some r := h
 clear h
 have H' := Aside0.mk H
 clear H
 go_enter Try.func85, Try.ntmps85
 go_wp2
 go_loopg [3] k (fun kq v3 w' => ∃ (x3_1 : Int), v3 = .int .i64 x3_1 ∧ Aside0 (barscanref16_place.l0 kq a0 x3_1 = some r) ∧ Aside0 (kq ≤ k) ∧ Drawn0 w w')
 case atStart => exact ⟨(0), (by first | rfl | (simp; done) | (simp [*]; done) | (simp [i64_w]; done)), H', ⟨Nat.le_refl _⟩, by repeat (first | exact Drawn0.refl _ | apply Drawn0.step)⟩
 case round =>
  clear H'
  obtain ⟨x3_1, rfl, HA, HK1, ⟨m1, rfl⟩⟩ := hrel
  cases gk with
  | zero => exact absurd HA.out (by simp [barscanref16_place.l0])
  | succ k1 =>
   have H := HA.out
   clear HA
   simp only [barscanref16_place.l0] at H
   by_cases c2 : x3_1 < 45
   ·rw [if_pos c2] at H
    have c2b0 : decide (x3_1 < 45) = true := decide_eq_true c2
    clear c2
    by_cases c3 : 0 ≤ x3_1
    ·rw [if_pos c3] at H
     have c3b0 : decide (0 ≤ x3_1) = true := decide_eq_true c3
     clear c3
     by_cases c5 : (bt (⟨#[48, 49, 50, 51, 52, 53, 54, 55, 56, 57, 65, 66, 67, 68, 69, 70, 71, 72, 73, 74, 75, 76, 77, 78, 79, 80, 81, 82, 83, 84, 85, 86, 87, 88, 89, 90, 32, 36, 37, 42, 43, 45, 46, 47, 58]⟩ : ByteArray) x3_1) = a0
     ·rw [if_pos c5] at H
      have c5b0 : ((bt (⟨#[48, 49, 50, 51, 52, 53, 54, 55, 56, 57, 65, 66, 67, 68, 69, 70, 71, 72, 73, 74, 75, 76, 77, 78, 79, 80, 81, 82, 83, 84, 85, 86, 87, 88, 89, 90, 32, 36, 37, 42, 43, 45, 46, 47, 58]⟩ : ByteArray) x3_1) == a0) = true := beq_iff_eq.mpr c5
      have c5b1 : ((bt (⟨#[48, 49, 50, 51, 52, 53, 54, 55, 56, 57, 65, 66, 67, 68, 69, 70, 71, 72, 73, 74, 75, 76, 77, 78, 79, 80, 81, 82, 83, 84, 85, 86, 87, 88, 89, 90, 32, 36, 37, 42, 43, 45, 46, 47, 58]⟩ : ByteArray) x3_1) != a0) = false := bne_eq_false_iff_eq.mpr c5
      clear c5
      obtain rfl := Option.some.inj H
      have p4 : 0 ≤ (x3_1 : Int) := of_decide_eq_true (by first | (with_reducible assumption) | assumption)
      have q4 : x3_1 < (45 : Int) := of_decide_eq_true (by first | (with_reducible assumption) | assumption)
      have hx4 := bt_at (⟨#[48, 49, 50, 51, 52, 53, 54, 55, 56, 57, 65, 66, 67, 68, 69, 70, 71, 72, 73, 74, 75, 76, 77, 78, 79, 80, 81, 82, 83, 84, 85, 86, 87, 88, 89, 90, 32, 36, 37, 42, 43, 45, 46, 47, 58]⟩ : ByteArray) x3_1
      replace p4 := eq_true p4
      replace q4 := eq_true q4
      go_wp2
      go_ret
      exact ⟨by first | rfl | (simp; done) | (simp [*]; done) | (simp [i64_w]; done), by repeat (first | exact Drawn0.refl _ | apply Drawn0.step)⟩
     ·rw [if_neg c5] at H
      have c5b0 : ((bt (⟨#[48, 49, 50, 51, 52, 53, 54, 55, 56, 57, 65, 66, 67, 68, 69, 70, 71, 72, 73, 74, 75, 76, 77, 78, 79, 80, 81, 82, 83, 84, 85, 86, 87, 88, 89, 90, 32, 36, 37, 42, 43, 45, 46, 47, 58]⟩ : ByteArray) x3_1) == a0) = false := beq_eq_false_iff_ne.mpr c5
      have c5b1 : ((bt (⟨#[48, 49, 50, 51, 52, 53, 54, 55, 56, 57, 65, 66, 67, 68, 69, 70, 71, 72, 73, 74, 75, 76, 77, 78, 79, 80, 81, 82, 83, 84, 85, 86, 87, 88, 89, 90, 32, 36, 37, 42, 43, 45, 46, 47, 58]⟩ : ByteArray) x3_1) != a0) = true := bne_iff_ne.mpr c5
      have H' := Aside0.mk H
      clear H
      have p4 : 0 ≤ (x3_1 : Int) := of_decide_eq_true (by first | (with_reducible assumption) | assumption)
      have q4 : x3_1 < (45 : Int) := of_decide_eq_true (by first | (with_reducible assumption) | assumption)
      have hx4 := bt_at (⟨#[48, 49, 50, 51, 52, 53, 54, 55, 56, 57, 65, 66, 67, 68, 69, 70, 71, 72, 73, 74, 75, 76, 77, 78, 79, 80, 81, 82, 83, 84, 85, 86, 87, 88, 89, 90, 32, 36, 37, 42, 43, 45, 46, 47, 58]⟩ : ByteArray) x3_1
      replace p4 := eq_true p4
      replace q4 := eq_true q4
      go_wp2
      go_roundg k1
      case measure => have := HK1.out; omega
      case rel => exact ⟨(wrap64 (x3_1 + 1)), (by first | rfl | (simp; done) | (simp [*]; done) | (simp [i64_w]; done)), H', ⟨by have := HK1.out; omega⟩, by repeat (first | exact Drawn0.refl _ | apply Drawn0.step)⟩
    ·rw [if_neg c3] at H
     exact absurd H (by simp)
   ·rw [if_neg c2] at H
    have c2b0 : decide (x3_1 < 45) = false := decide_eq_false c2
    clear c2
    obtain rfl := Option.some.inj H
    go_wp2
    go_ret
    exact ⟨by first | rfl | (simp; done) | (simp [*]; done) | (simp [i64_w]; done), by repeat (first | exact Drawn0.refl _ | apply Drawn0.step)⟩

end Go.Proofs.Ytjhhckkmogekkaa.X

namespace Go.Proofs.Ytjhhckkmogekkaa.X
open Go.RowKit Go.Proofs.YtjhhckkmogekkaaW.PrintWords Go.Proofs.YtjhhckkmogekkaaW.PrintLast Go.Proofs.YtjhhckkmogekkaaW.PrintMore
attribute [local go_sem] max2_int min2_int max_two min_two max_three min_three max_four min_four   -- for this text's walks alone
set_option linter.unusedVariables false
set_option linter.unusedSimpArgs false

/-! ### barscanref16_Fits: function 83 -/
def barscanref16_Fits.f (k : Nat) (a0 : Int) (a1 : Int) : Option (Bool) := if a0 = 1 then (if a1 ≥ 48 then (some (decide (a1 ≤ 57))) else (some false)) else (if a0 = 2 then ((barscanref16_place.f k a1).bind fun t355 => (some (decide (t355 ≥ 0)))) else (some (a0 == 4)))
theorem barscanref16_Fits.mono : ∀ a0 a1 k, LeO (barscanref16_Fits.f k a0 a1) (barscanref16_Fits.f (k + 1) a0 a1) := by
 intro a0 a1 k
 unfold barscanref16_Fits.f
 repeat' first
   | (with_reducible exact barscanref16_place.mono _ _)
   | (with_reducible exact LeO.refl _)
   | (with_reducible exact LeO.none _)
   | (with_reducible refine LeO.ite ?_ ?_)
   | (with_reducible refine LeO.bind ?_ (fun _ => ?_))
   | exact barscanref16_place.mono _ _
   | exact LeO.none _
   | refine LeO.ite ?_ ?_
   | refine LeO.bind ?_ (fun _ => ?_)
set_option maxHeartbeats 8000000 in
set_option maxRecDepth 100000 in
theorem barscanref16_Fits.calls (k : Nat) (a0 : Int) (a1 : Int) (r : Bool) (w : World) (h : barscanref16_Fits.f k a0 a1 = some r) :
  Calls Try.prog 83 #[.int .i64 a0, .int .u8 a1] w fun e w' => e = .returned (.bool r) ∧ Drawn0 w w' := by
 have H : (if a0 = 1 then (if a1 ≥ 48 then (some (decide (a1 ≤ 57))) else (some false)) else (if a0 = 2 then ((barscanref16_place.f k a1).bind fun t355 => (some (decide (t355 ≥ 0)))) else (some (a0 == 4)))) = some r := h
 clear h
 by_cases c3 : a0 = 1
 ·rw [if_pos c3] at H
  have c3b0 : (a0 == 1) = true := beq_iff_eq.mpr c3
  have c3b1 : (a0 != 1) = false := bne_eq_false_iff_eq.mpr c3
  clear c3
  by_cases c4 : a1 ≥ 48
  ·rw [if_pos c4] at H
   have c4b0 : decide (48 ≤ a1) = true := decide_eq_true c4
   clear c4
   obtain rfl := Option.some.inj H
   go_enter Try.func83, Try.ntmps83
   go_wp2
   go_ret
   exact ⟨by first | rfl | (simp; done) | (simp [*]; done) | (simp [i64_w]; done), by repeat (first | exact Drawn0.refl _ | apply Drawn0.step)⟩
  ·rw [if_neg c4] at H
   have c4b0 : decide (48 ≤ a1) = false := decide_eq_false c4
   clear c4
   obtain rfl := Option.some.inj H
   go_enter Try.func83, Try.ntmps83
   go_wp2
   go_ret
   exact ⟨by first | rfl | (simp; done) | (simp [*]; done) | (simp [i64_w]; done), by repeat (first | exact Drawn0.refl _ | apply Drawn0.step)⟩
 ·rw [if_neg c3] at H
  have c3b0 : (a0 == 1) = false := beq_eq_false_iff_ne.mpr c3
  have c3b1 : (a0 != 1) = true := bne_iff_ne.mpr c3
  by_cases c5 : a0 = 2
  ·rw [if_pos c5] at H
   have c5b0 : (a0 == 2) = true := beq_iff_eq.mpr c5
   have c5b1 : (a0 != 2) = false := bne_eq_false_iff_eq.mpr c5
   clear c5
   replace H := Option.bind_eq_some_iff.mp H
   obtain ⟨t355, A60, H⟩ := H
   replace H : (some (decide (t355 ≥ 0))) = some r := H
   have A6 := Aside0.mk A60
   clear A60
   obtain rfl := Option.some.inj H
   go_enter Try.func83, Try.ntmps83
   go_wp2_with (first | ((with_reducible refine gate_callee (f := 85) rfl ?_); refine goesL_ (some 16) rfl rfl Try.func85 (by kernel_rfl) rfl #[.int .u8 a1] rfl (by (try simp only [List.map_toArray, List.map_cons, List.map_nil]); first | done | rfl | (simp only [List.length_drop, List.length_take]; rfl)) ?_; (with_reducible refine (barscanref16_place.calls k a1 t355 _ A6.out).mono ?_); rintro e w' ⟨rfl, ⟨nd, rfl⟩⟩; refine ⟨_, rfl, ?_⟩))
   go_ret
   exact ⟨by first | rfl | (simp; done) | (simp [*]; done) | (simp [i64_w]; done), by repeat (first | exact Drawn0.refl _ | apply Drawn0.step)⟩
  ·rw [if_neg c5] at H
   have c5b0 : (a0 == 2) = false := beq_eq_false_iff_ne.mpr c5
   have c5b1 : (a0 != 2) = true := bne_iff_ne.mpr c5
   obtain rfl := Option.some.inj H
   go_enter Try.func83, Try.ntmps83
   go_wp2
   go_ret
   exact ⟨by first | rfl | (simp; done) | (simp [*]; done) | (simp [i64_w]; done), by repeat (first | exact Drawn0.refl _ | apply Drawn0.step)⟩

/-! ### barscanref16_size: function 84 -/
def barscanref16_size.f (k : Nat) (a0 : Int) (a1 : Int) (a2 : Int) : Option (Int) := (barscanref16_CountBits.f k a0 a1).bind fun bt356 => ((barscanref16_Data.f a0 a2).bind fun t358 => (some (wrap64 ((wrap64 (4 + bt356.1)) + t358))))
theorem barscanref16_size.mono : ∀ a0 a1 a2 k, LeO (barscanref16_size.f k a0 a1 a2) (barscanref16_size.f (k + 1) a0 a1 a2) := by
 intro a0 a1 a2 k
 unfold barscanref16_size.f
 repeat' first
   | (with_reducible exact barscanref16_CountBits.mono _ _ _)
   | (with_reducible exact LeO.refl _)
   | (with_reducible exact LeO.none _)
   | (with_reducible refine LeO.ite ?_ ?_)
   | (with_reducible refine LeO.bind ?_ (fun _ => ?_))
   | exact barscanref16_CountBits.mono _ _ _
   | exact LeO.none _
   | refine LeO.ite ?_ ?_
   | refine LeO.bind ?_ (fun _ => ?_)
set_option maxHeartbeats 8000000 in
set_option maxRecDepth 100000 in
theorem barscanref16_size.calls (k : Nat) (a0 : Int) (a1 : Int) (a2 : Int) (r : Int) (w : World) (h : barscanref16_size.f k a0 a1 a2 = some r) :
  Calls Try.prog 84 #[.int .i64 a0, .int .i64 a1, .int .i64 a2] w fun e w' => e = .returned (.int .i64 r) ∧ Drawn0 w w' := by
 have H : ((barscanref16_CountBits.f k a0 a1).bind fun bt356 => ((barscanref16_Data.f a0 a2).bind fun t358 => (some (wrap64 ((wrap64 (4 + bt356.1)) + t358))))) = some r := h
 clear h
 replace H := Option.bind_eq_some_iff.mp H
 obtain ⟨⟨t356, t357⟩, A40, H⟩ := H
 replace H : ((barscanref16_Data.f a0 a2).bind fun t358 => (some (wrap64 ((wrap64 (4 + t356)) + t358)))) = some r := H
 have A4 := Aside0.mk A40
 clear A40
 replace H := Option.bind_eq_some_iff.mp H
 obtain ⟨t358, A50, H⟩ := H
 replace H : (some (wrap64 ((wrap64 (4 + t356)) + t358))) = some r := H
 have A5 := Aside0.mk A50
 clear A50
 obtain rfl := Option.some.inj H
 go_enter Try.func84, Try.ntmps84
 go_wp2_with (first | ((with_reducible refine gate_callee (f := 49) rfl ?_); refine goesL_ (some 12) rfl rfl Try.func49 (by kernel_rfl) rfl #[.int .i64 a0, .int .i64 a1] rfl (by (try simp only [List.map_toArray, List.map_cons, List.map_nil]); first | done | rfl | (simp only [List.length_drop, List.length_take]; rfl)) ?_; (with_reducible refine (barscanref16_CountBits.calls k a0 a1 t356 t357 _ A4.out).mono ?_); rintro e w' ⟨rfl, ⟨nd, rfl⟩⟩; refine ⟨_, rfl, ?_⟩) | ((with_reducible refine gate_callee (f := 69) rfl ?_); refine goesL_ (some 19) rfl rfl Try.func69 (by kernel_rfl) rfl #[.int .i64 a0, .int .i64 a2] rfl (by (try simp only [List.map_toArray, List.map_cons, List.map_nil]); first | done | rfl | (simp only [List.length_drop, List.length_take]; rfl)) ?_; (with_reducible refine (barscanref16_Data.calls a0 a2 t358 _ A5.out).mono ?_); rintro e w' ⟨rfl, ⟨nd, rfl⟩⟩; refine ⟨_, rfl, ?_⟩))
 go_ret
 exact ⟨by first | rfl | (simp; done) | (simp [*]; done) | (simp [i64_w]; done), by repeat (first | exact Drawn0.refl _ | apply Drawn0.step)⟩

end Go.Proofs.Ytjhhckkmogekkaa.X

namespace Go.Proofs.Ytjhhckkmogekkaa.X
open Go.RowKit Go.Proofs.YtjhhckkmogekkaaW.PrintWords Go.Proofs.YtjhhckkmogekkaaW.PrintLast Go.Proofs.YtjhhckkmogekkaaW.PrintMore
attribute [local go_sem] max2_int min2_int max_two min_two max_three min_three max_four min_four   -- for this text's walks alone
set_option linter.unusedVariables false
set_option linter.unusedSimpArgs false

/-! ### barscanref16_most: function 82 -/
def barscanref16_most.f (k : Nat) (a0 : Int) (a1 : Int) : Option (Int) := (barscanref16_CountBits.f k a0 a1).bind fun bt353 => (if 0 ≤ (IntKind.u64.wrap (bt353.1)) then (some (wrap64 ((shl .i64 1 (IntKind.u64.wrap (bt353.1))) - 1))) else (none))
theorem barscanref16_most.mono : ∀ a0 a1 k, LeO (barscanref16_most.f k a0 a1) (barscanref16_most.f (k + 1) a0 a1) := by
 intro a0 a1 k
 unfold barscanref16_most.f
 repeat' first
   | (with_reducible exact barscanref16_CountBits.mono _ _ _)
   | (with_reducible exact LeO.refl _)
   | (with_reducible exact LeO.none _)
   | (with_reducible refine LeO.ite ?_ ?_)
   | (with_reducible refine LeO.bind ?_ (fun _ => ?_))
   | exact barscanref16_CountBits.mono _ _ _
   | exact LeO.none _
   | refine LeO.ite ?_ ?_
   | refine LeO.bind ?_ (fun _ => ?_)
set_option maxHeartbeats 8000000 in
set_option maxRecDepth 100000 in
theorem barscanref16_most.calls (k : Nat) (a0 : Int) (a1 : Int) (r : Int) (w : World) (h : barscanref16_most.f k a0 a1 = some r) :
  Calls Try.prog 82 #[.int .i64 a0, .int .i64 a1] w fun e w' => e = .returned (.int .i64 r) ∧ Drawn0 w w' := by
 have H : ((barscanref16_CountBits.f k a0 a1).bind fun bt353 => (if 0 ≤ (IntKind.u64.wrap (bt353.1)) then (some (wrap64 ((shl .i64 1 (IntKind.u64.wrap (bt353.1))) - 1))) else (none))) = some r := h
 clear h
 replace H := Option.bind_eq_some_iff.mp H
 obtain ⟨⟨t353, t354⟩, A30, H⟩ := H
 replace H : (if 0 ≤ (IntKind.u64.wrap (t353)) then (some (wrap64 ((shl .i64 1 (IntKind.u64.wrap (t353))) - 1))) else (none)) = some r := H
 have A3 := Aside0.mk A30
 clear A30
 obtain ⟨ji4, hji4⟩ : ∃ j_ : Int, (IntKind.u64.wrap (t353)) = j_ := ⟨_, rfl⟩
 replace H : (if 0 ≤ (ji4) then (some (wrap64 ((shl .i64 1 (ji4)) - 1))) else (none)) = some r := by first | (rw [hji4] at H; exact H) | (simp only [hji4] at H ⊢; exact H)
 (try rw [hji4] at A3)
 by_cases c5 : 0 ≤ (ji4)
 ·rw [if_pos c5] at H
  have c5b0 := eq_true c5
  have c5b1 : decide (0 ≤ (ji4)) = true := decide_eq_true c5
  clear c5
  obtain ⟨ji6, hji6⟩ : ∃ j_ : Int, (shl .i64 1 (ji4)) = j_ := ⟨_, rfl⟩
  replace H : (some (wrap64 ((ji6) - 1))) = some r := by first | (rw [hji6] at H; exact H) | (simp only [hji6] at H ⊢; exact H)
  (try rw [hji6] at A3)
  have hji6_ : (IntKind.i64.wrap (1 * 2 ^ min (ji4).toNat 64)) = ji6 := hji6
  have hji6z : (ji4) ≤ 64 → (IntKind.i64.wrap (1 * 2 ^ (ji4).toNat)) = ji6 := shl_small hji6
  have hji6u : (IntKind.i64.wrap (2 ^ min (ji4).toNat 64)) = ji6 := by have h_ := hji6_; rw [Int.one_mul] at h_; exact h_
  have hji6v : (ji4) ≤ 64 → (IntKind.i64.wrap (2 ^ (ji4).toNat)) = ji6 := fun hle_ => by have h_ := hji6z hle_; rw [Int.one_mul] at h_; exact h_
  have hji6y : (wrap64 (1 * 2 ^ min (ji4).toNat 64)) = ji6 := (i64_w _).symm.trans hji6_
  have hji6x : (ji4) ≤ 64 → (wrap64 (1 * 2 ^ (ji4).toNat)) = ji6 := fun h_ => (i64_w _).symm.trans (hji6z h_)
  obtain rfl := Option.some.inj H
  go_enter Try.func82, Try.ntmps82
  go_wp2_with (first | ((with_reducible refine gate_callee (f := 49) rfl ?_); refine goesL_ (some 10) rfl rfl Try.func49 (by kernel_rfl) rfl #[.int .i64 a0, .int .i64 a1] rfl (by (try simp only [List.map_toArray, List.map_cons, List.map_nil]); first | done | rfl | (simp only [List.length_drop, List.length_take]; rfl)) ?_; (with_reducible refine (barscanref16_CountBits.calls k a0 a1 t353 t354 _ A3.out).mono ?_); rintro e w' ⟨rfl, ⟨nd, rfl⟩⟩; refine ⟨_, rfl, ?_⟩))
  go_ret
  exact ⟨by first | rfl | (simp; done) | (simp only [← hji4, ← hji6] <;> (first | rfl | simp)) | (simp [*]; done) | (simp [i64_w]; done), by repeat (first | exact Drawn0.refl _ | apply Drawn0.step)⟩
 ·rw [if_neg c5] at H
  exact absurd H (by simp)

end Go.Proofs.Ytjhhckkmogekkaa.X

namespace Go.Proofs.Ytjhhckkmogekkaa.X
open Go.RowKit Go.Proofs.YtjhhckkmogekkaaW.PrintWords Go.Proofs.YtjhhckkmogekkaaW.PrintLast Go.Proofs.YtjhhckkmogekkaaW.PrintMore
set_option linter.unusedVariables false
set_option linter.unusedSimpArgs false

theorem ev_if {α : Type} {c : Prop} [Decidable c] {A B : Nat → Option α} {r : α} (hc : c) (h : Ev A r) : Ev (fun k => if c then A k else B k) r := by
  simpa only [if_pos hc] using h
theorem ev_else {α : Type} {c : Prop} [Decidable c] {A B : Nat → Option α} {r : α} (hc : ¬ c) (h : Ev B r) : Ev (fun k => if c then A k else B k) r := by
  simpa only [if_neg hc] using h
theorem ev_some {α β : Type} {a : α} {f : Nat → α → Option β} {r : β} (h : Ev (fun k => f k a) r) : Ev (fun k => (some a).bind (f k)) r := h
theorem ev_is {α β : Type} {o : Option α} {a : α} (ho : o = some a) {f : Nat → α → Option β} {r : β} (h : Ev (fun k => f k a) r) : Ev (fun k => o.bind (f k)) r := by rw [ho]; exact h
theorem ev_val {α : Type} {a r : α} (h : a = r) : Ev (fun _ => some a) r := by rw [h]; exact Ev.now r
theorem ev_eq {α : Type} {g : Nat → Option α} {a r : α} (h : Ev g a) (e : a = r) : Ev g r := e ▸ h
theorem ev_cond {α : Type} {c : Prop} [Decidable c] {A B : Nat → Option α} {r : α} (hp : c → Ev A r) (hn : ¬ c → Ev B r) : Ev (fun k => if c then A k else B k) r := by
  by_cases hc : c
  · exact ev_if hc (hp hc)
  · exact ev_else hc (hn hc)

theorem place_all : (List.range 256).all (fun n => barscanref16_place.f 46 (n : Int) == some (ixOf (n : Int))) = true := by kernel_rfl
theorem place_ev (c : Int) (h0 : 0 ≤ c) (h1 : c < 256) : Ev (fun k => barscanref16_place.f k c) (ixOf c) := by
  have h := List.all_eq_true.mp place_all c.toNat (by simp; omega)
  rw [show ((c.toNat : Nat) : Int) = c by omega] at h
  exact Ev.of (barscanref16_place.mono c) (eq_of_beq h)
theorem refFits_ev (m c : Int) (h0 : 0 ≤ c) (h1 : c < 256) : Ev (fun k => barscanref16_Fits.f k m c) (fitOf m c) := by
  unfold fitOf modes_Fits.f barscanref16_Fits.f strings_IndexByte.f
  refine ev_cond (fun e => ?_) (fun e => ?_)
  · rw [if_pos e]
    refine ev_cond (fun e => ?_) (fun e => ?_)
    · rw [if_pos e]; exact Ev.now _
    · rw [if_neg e]; exact Ev.now _
  · rw [if_neg e]
    refine ev_cond (fun e => ?_) (fun e => ?_)
    · rw [if_pos e]
      exact Ev.bind (place_ev c h0 h1) (Ev.now _)
    · rw [if_neg e]; exact Ev.now _
theorem known_is (m : Int) : barscanref16_known.f m = some (decide (m = 1 ∨ m = 2 ∨ m = 4)) := by
  unfold barscanref16_known.f
  by_cases h1 : m = 1
  · simp [h1]
  · by_cases h2 : m = 2
    · simp [h2]
    · rw [if_neg h1, if_neg h2]
      congr 1
      by_cases h4 : m = 4 <;> simp [h1, h2, h4]
theorem cbOf_known (m c : Int) : cbOf m c = 0 ↔ ¬ ((m = 1 ∨ m = 2 ∨ m = 4) ∧ 0 ≤ c ∧ c ≤ 2) := by
  unfold cbOf
  split
  · rename_i h
    split
    · simp [*]; omega
    · split
      · simp [*]; omega
      · split
        · split <;> simp [*]
        · simp [*]
  · rename_i h
    simp only [true_iff, not_and]
    intro _ h0 h2
    exact h ⟨h0, h2⟩
theorem refCount_ev (m c : Int) : Ev (fun k => barscanref16_CountBits.f k m c) (if cbOf m c = 0 then (0, 1) else (cbOf m c, 0)) := by
  unfold barscanref16_CountBits.f
  refine ev_is (known_is m) ?_
  by_cases hk : m = 1 ∨ m = 2 ∨ m = 4
  · refine ev_if (by simpa using hk) ?_
    by_cases hc : 0 ≤ c ∧ c ≤ 2
    · refine ev_else (by omega) ?_
      refine Ev.step (fun k => by rw [barscanref16_CountBits.j0]) ?_
      refine ev_else (by simp; omega) ?_
      have hne : ¬ cbOf m c = 0 := by rw [cbOf_known]; exact fun h => h ⟨hk, hc⟩
      rw [if_neg hne]
      obtain ⟨c0, c2⟩ := hc
      unfold cbOf
      rw [if_pos (show 0 ≤ c ∧ c ≤ 2 from ⟨c0, c2⟩)]
      refine ev_cond (fun e => ?_) (fun e1 => ?_)
      · rw [if_pos e]; refine ev_val ?_; congr 1; unfold wrap64; omega
      rw [if_neg e1]
      refine ev_cond (fun e => ?_) (fun e2 => ?_)
      · rw [if_pos e]; refine ev_val ?_; congr 1; unfold wrap64; omega
      rw [if_neg e2, if_pos (show m = 4 by omega)]
      refine ev_cond (fun e => ?_) (fun e3 => ?_)
      · rw [if_pos e]; exact Ev.now _
      · rw [if_neg e3]; exact Ev.now _
    · have he : cbOf m c = 0 := by rw [cbOf_known]; exact fun h => hc h.2
      rw [if_pos he]
      refine ev_cond (fun e => ?_) (fun e => ?_)
      · refine Ev.step (fun k => by rw [barscanref16_CountBits.j0]) ?_
        exact ev_if rfl (Ev.now _)
      · refine Ev.step (fun k => by rw [barscanref16_CountBits.j0]) ?_
        exact ev_if (by simp; omega) (Ev.now _)
  · have he : cbOf m c = 0 := by rw [cbOf_known]; exact fun h => hk h.1
    rw [if_pos he]
    refine ev_else (by simpa using hk) ?_
    refine Ev.step (fun k => by rw [barscanref16_CountBits.j0]) ?_
    exact ev_if rfl (Ev.now _)
theorem refData_is (m n : Int) (h0 : 0 ≤ n) (h1 : n ≤ 1000000000000000000) : barscanref16_Data.f m n = some (dbOf m n) := by
  unfold barscanref16_Data.f dbOf
  simp only [Int.tmod_eq_emod_of_nonneg h0, Int.tdiv_eq_ediv_of_nonneg h0]
  by_cases e1 : m = 1
  · rw [if_pos e1, if_pos e1]
    have a1 := wrap64_id (n / 3) (by omega) (by omega)
    have a2 := wrap64_id (n / 3 * 10) (by omega) (by omega)
    have a3 := wrap64_id (n % 3 * 3) (by omega) (by omega)
    have a4 := wrap64_id (n / 3 * 10 + n % 3 * 3) (by omega) (by omega)
    have a5 := wrap64_id (n % 3 + 1) (by omega) (by omega)
    rw [a1, a2, a3, a4, a5]
    simp only [Int.tdiv_eq_ediv_of_nonneg (show 0 ≤ n % 3 + 1 by omega)]
    have a6 := wrap64_id ((n % 3 + 1) / 2) (by omega) (by omega)
    rw [a6, wrap64_id _ (by omega) (by omega)]
    congr 1
    clear a1 a2 a3 a4 a5 a6
    split
    · omega
    · split <;> omega
  · rw [if_neg e1, if_neg e1]
    by_cases e2 : m = 2
    · rw [if_pos e2, if_pos e2]
      rw [wrap64_id (n / 2) (by omega) (by omega), wrap64_id (n / 2 * 11) (by omega) (by omega), wrap64_id (n % 2 * 6) (by omega) (by omega), wrap64_id _ (by omega) (by omega)]
      congr 1
      split <;> omega
    · rw [if_neg e2, if_neg e2, wrap64_id _ (by omega) (by omega), Int.mul_comm]
theorem shl_one (n : Nat) (h : n ≤ 16) : wrap64 ((shl .i64 1 (IntKind.u64.wrap (n : Int))) - 1) = 2 ^ n - 1 := by
  have : ∀ n : Fin 17, wrap64 ((shl .i64 1 (IntKind.u64.wrap ((n.val : Nat) : Int))) - 1) = 2 ^ n.val - 1 := by decide +kernel
  exact this ⟨n, by omega⟩
theorem refMost_ev (m c : Int) (h : cbOf m c ≠ 0) : Ev (fun k => barscanref16_most.f k m c) (2 ^ (cbOf m c).toNat - 1) := by
  unfold barscanref16_most.f
  have hr := cbOf_range m c
  have hc := refCount_ev m c
  rw [if_neg h] at hc
  refine Ev.bind hc ?_
  obtain ⟨n, hn⟩ : ∃ n : Nat, cbOf m c = n := ⟨(cbOf m c).toNat, by omega⟩
  show Ev (fun k => if 0 ≤ (IntKind.u64.wrap (cbOf m c)) then (some (wrap64 ((shl .i64 1 (IntKind.u64.wrap (cbOf m c))) - 1))) else (none)) _
  rw [hn, shl_one n (by omega)]
  refine ev_if ?_ (ev_val (by simp))
  show (0 : Int) ≤ (n : Int) % 18446744073709551616
  omega
theorem refSize_ev (m c n : Int) (h : cbOf m c ≠ 0) (h0 : 0 ≤ n) (h1 : n ≤ 1000000000) : Ev (fun k => barscanref16_size.f k m c n) (4 + cbOf m c + dbOf m n) := by
  unfold barscanref16_size.f
  have hr := cbOf_range m c
  have hd := dbOf_range m n h0
  have hc := refCount_ev m c
  rw [if_neg h] at hc
  refine Ev.bind hc ?_
  refine ev_is (refData_is m n h0 (by omega)) ?_
  refine ev_val ?_
  show wrap64 (wrap64 (4 + cbOf m c) + dbOf m n) = _
  rw [wrap64_id (4 + cbOf m c) (by omega) (by omega), wrap64_id _ (by omega) (by omega)]
end Go.Proofs.Ytjhhckkmogekkaa.X

namespace Go.Proofs.Ytjhhckkmogekkaa.X
open Go.RowKit Go.Proofs.YtjhhckkmogekkaaW.PrintWords Go.Proofs.YtjhhckkmogekkaaW.PrintLast Go.Proofs.YtjhhckkmogekkaaW.PrintMore
set_option linter.unusedVariables false
set_option linter.unusedSimpArgs false

theorem cb_mode {cls m : Int} (hc : 0 ≤ cls ∧ cls ≤ 2) (hm : m = 1 ∨ m = 2 ∨ m = 4) : 8 ≤ cbOf m cls ∧ cbOf m cls ≤ 16 := by
  unfold cbOf
  rw [if_pos hc]
  rcases hm with rfl | rfl | rfl
  · simp; omega
  · simp; omega
  · simp; split <;> omega
theorem w_is {a b : Int} (h : a = b) (h0 : -1000000000000 ≤ b) (h1 : b ≤ 1000000000000) : wrap64 a = b := by
  subst h
  exact wrap64_id _ (by omega) (by omega)
def okSeg (cls : Int) (s : S59) : Prop := (s.f0 = 1 ∨ s.f0 = 2 ∨ s.f0 = 4) ∧ s.f1.length ≤ 2 ^ (cbOf s.f0 cls).toNat - 1 ∧ ∀ x ∈ s.f1, fitOf s.f0 x = true
def okSegs (cls : Int) (l : List S59) : Prop := ∀ s ∈ l, okSeg cls s
theorem okSegs_cons {cls : Int} {s : S59} {l : List S59} : okSegs cls (s :: l) ↔ okSeg cls s ∧ okSegs cls l := by
  simp [okSegs]
theorem okSeg_facts {cls : Int} (hc : 0 ≤ cls ∧ cls ≤ 2) {s : S59} (h : okSeg cls s) : badMode cls s = false ∧ tooLong cls s = false ∧ badChar s = false := by
  obtain ⟨hm, hl, hf⟩ := h
  have hcb := cb_mode hc hm
  have hp := Nat.one_le_two_pow (n := (cbOf s.f0 cls).toNat)
  refine ⟨decide_eq_false (by omega), decide_eq_false (by omega), ?_⟩
  unfold badChar
  rw [List.any_eq_false]
  intro x hx
  simp [hf x hx]
theorem okSegs_bits {cls : Int} (hc : 0 ≤ cls ∧ cls ≤ 2) {l : List S59} (h : okSegs cls l) (hl : l.length ≤ 4096) (hs : sumBits cls l ≤ 1048576) : mbits l cls = (sumBits cls l, 0) := by
  have h1 : l.any (badMode cls) = false := by rw [List.any_eq_false]; intro x hx; simp [(okSeg_facts hc (h x hx)).1]
  have h2 : l.any (tooLong cls) = false := by rw [List.any_eq_false]; intro x hx; simp [(okSeg_facts hc (h x hx)).2.1]
  have h3 : l.any badChar = false := by rw [List.any_eq_false]; intro x hx; simp [(okSeg_facts hc (h x hx)).2.2]
  unfold mbits
  rw [if_neg (by simp [h1]; omega), if_neg (by simp [h2]; omega), if_neg (by simp [h3]), if_neg (by omega)]
theorem bits_okSegs {cls : Int} {l : List S59} (h : (mbits l cls).2 = 0) : (0 ≤ cls ∧ cls ≤ 2) ∧ okSegs cls l ∧ l.length ≤ 4096 ∧ mbits l cls = (sumBits cls l, 0) := by
  have key : (0 ≤ cls ∧ cls ≤ 2) ∧ l.any (badMode cls) = false ∧ l.length ≤ 4096 ∧ l.any (tooLong cls) = false ∧ l.any badChar = false ∧ mbits l cls = (sumBits cls l, 0) := by
    unfold mbits at h ⊢
    split at h
    · simp at h
    · rename_i h1
      split at h
      · simp at h
      · rename_i h2
        split at h
        · simp at h
        · rename_i h3
          split at h
          · simp at h
          · rename_i h4
            rw [if_neg h1, if_neg h2, if_neg h3, if_neg h4]
            simp only [not_or] at h1 h2
            exact ⟨by omega, by simpa using h1.2.2, by omega, by simpa using h2.2, by simpa using h3, rfl⟩
  obtain ⟨hc, h1, h4, h2, h3, h5⟩ := key
  refine ⟨hc, fun s hs => ?_, h4, h5⟩
  have h1 := List.any_eq_false.mp h1 s hs
  have h2 := List.any_eq_false.mp h2 s hs
  have h3 := List.any_eq_false.mp h3 s hs
  have h1' : ¬ cbOf s.f0 cls = 0 := by simpa [badMode] using h1
  have h2' : s.f1.length < 2 ^ (cbOf s.f0 cls).toNat := by simpa [tooLong] using h2
  refine ⟨?_, by omega, ?_⟩
  · by_cases e : s.f0 = 1 ∨ s.f0 = 2 ∨ s.f0 = 4
    · exact e
    · exact absurd ((cbOf_known s.f0 cls).mpr (fun h => e h.1)) h1'
  · intro x hx
    unfold badChar at h3
    have := List.any_eq_false.mp (show s.f1.any (fun x => !fitOf s.f0 x) = false by simpa using h3) x hx
    simpa using this
end Go.Proofs.Ytjhhckkmogekkaa.X
