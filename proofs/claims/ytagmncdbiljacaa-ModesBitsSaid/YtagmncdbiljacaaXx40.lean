/- Functions of the program as Lean functions, and proofs that their calls come to them (printed for this claim by the session's own program). No condition beyond each theorem's own hypotheses. -/
import Derived.Test.YtagmncdbiljacaaXx0
import Derived.Test.YtagmncdbiljacaaXx10
import Derived.Test.YtagmncdbiljacaaXx9
namespace Go.Proofs.Ytagmncdbiljacaa.X
open Go.RowKit Go.Proofs.YtagmncdbiljacaaW.PrintWords Go.Proofs.YtagmncdbiljacaaW.PrintLast Go.Proofs.YtagmncdbiljacaaW.PrintMore
attribute [local go_sem] max2_int min2_int max_two min_two max_three min_three max_four min_four   -- for this text's walks alone
set_option linter.unusedVariables false
set_option linter.unusedSimpArgs false

/-! ### barscanref16_group: function 74 -/
def barscanref16_group.l0 : Nat → Int → List Int → Int → Int → Option (Int × Int × Int)
 | 0, _, _, _, _ => none
 | k + 1, x0, x1, x7, x8 => if x8 < 3 then (if x8 < (x1.length : Int) then (if 0 ≤ x8 then (barscanref16_group.l0 k x0 x1 (wrap64 ((wrap64 (10 * x7)) + (((rd x1 x8) - 48) % 256))) (wrap64 (x8 + 1))) else (none)) else ((barscanref16_Data.f x0 x8).bind fun t509 => (some (x7, t509, x8)))) else ((barscanref16_Data.f x0 x8).bind fun t510 => (some (x7, t510, x8)))
def barscanref16_group.f (k : Nat) (a0 : Int) (l1 : List Int) : Option (Int × Int × Int) := if a0 = 1 then (barscanref16_group.l0 k a0 l1 0 0) else (if a0 = 4 then (if 0 < (l1.length : Int) then (some (wrap64 (rd l1 0), 8, 1)) else (none)) else (if (l1.length : Int) = 1 then (if 0 < (l1.length : Int) then ((barscanref16_place.f k (rd l1 0)).bind fun t513 => (some (t513, 6, 1))) else (none)) else (if 0 < (l1.length : Int) then ((barscanref16_place.f k (rd l1 0)).bind fun t515 => (if 1 < (l1.length : Int) then ((barscanref16_place.f k (rd l1 1)).bind fun t517 => (some (wrap64 ((wrap64 (45 * t515)) + t517), 11, 2))) else (none))) else (none))))
theorem barscanref16_group.mono_l : ∀ k, (∀ y0 y1 y2 y3, LeO (barscanref16_group.l0 k y0 y1 y2 y3) (barscanref16_group.l0 (k + 1) y0 y1 y2 y3))
 | 0 => fun _ _ _ _ r h => by simp [barscanref16_group.l0] at h
 | k + 1 => by
  have ih0 := barscanref16_group.mono_l k
  ·intro y0 y1 y2 y3
   unfold barscanref16_group.l0
   repeat' first
   | (with_reducible exact ih0 _ _ _ _)
   | (with_reducible exact barscanref16_place.mono _ _)
   | (with_reducible exact LeO.refl _)
   | (with_reducible exact LeO.none _)
   | (with_reducible refine LeO.ite ?_ ?_)
   | (with_reducible refine LeO.bind ?_ (fun _ => ?_))
   | exact ih0 _ _ _ _
   | exact barscanref16_place.mono _ _
   | exact LeO.none _
   | refine LeO.ite ?_ ?_
   | refine LeO.bind ?_ (fun _ => ?_)
theorem barscanref16_group.mono : ∀ a0 a1 k, LeO (barscanref16_group.f k a0 a1) (barscanref16_group.f (k + 1) a0 a1) := by
 intro a0 a1 k
 have ih0 := barscanref16_group.mono_l k
 unfold barscanref16_group.f
 repeat' first
   | (with_reducible exact ih0 _ _ _ _)
   | (with_reducible exact barscanref16_place.mono _ _)
   | (with_reducible exact LeO.refl _)
   | (with_reducible exact LeO.none _)
   | (with_reducible refine LeO.ite ?_ ?_)
   | (with_reducible refine LeO.bind ?_ (fun _ => ?_))
   | exact ih0 _ _ _ _
   | exact barscanref16_place.mono _ _
   | exact LeO.none _
   | refine LeO.ite ?_ ?_
   | refine LeO.bind ?_ (fun _ => ?_)
set_option maxHeartbeats 8000000 in
set_option maxRecDepth 100000 in
theorem barscanref16_group.calls (k : Nat) (a0 : Int) (A1 : Option Addr) (c1 : Nat) (l1 : List Int) (r1 : Int) (r2 : Int) (r3 : Int) (w : World) (hr1 : Kd.C (Kd.int .u8) w A1 l1.length l1) (hc1 : l1.length ≤ c1) (h : barscanref16_group.f k a0 l1 = some (r1, r2, r3)) :
  Calls Try.prog 74 #[.int .i64 a0, .slice A1 l1.length c1] w fun e w' => e = .returned (.tuple #[.int .i64 r1, .int .i64 r2, .int .i64 r3]) ∧ Drawn0 w w' := by
 have HR1 := Aside0.mk hr1
 have HC1 := Aside0.mk hc1
 clear hr1 hc1
 have H : (if a0 = 1 then (barscanref16_group.l0 k a0 l1 0 0) else (if a0 = 4 then (if 0 < (l1.length : Int) then (some (wrap64 (rd l1 0), 8, 1)) else (none)) else (if (l1.length : Int) = 1 then (if 0 < (l1.length : Int) then ((barscanref16_place.f k (rd l1 0)).bind fun t513 => (some (t513, 6, 1))) else (none)) else (if 0 < (l1.length : Int) then ((barscanref16_place.f k (rd l1 0)).bind fun t515 => (if 1 < (l1.length : Int) then ((barscanref16_place.f k (rd l1 1)).bind fun t517 => (some (wrap64 ((wrap64 (45 * t515)) + t517), 11, 2))) else (none))) else (none))))) = some (r1, r2, r3) := h
 clear h
 by_cases c3 : a0 = 1
 ·rw [if_pos c3] at H
  have c3b0 : (a0 == 1) = true := beq_iff_eq.mpr c3
  have c3b1 : (a0 != 1) = false := bne_eq_false_iff_eq.mpr c3
  clear c3
  have H' := Aside0.mk H
  clear H
  go_enter Try.func74, Try.ntmps74
  go_wp2
  repeat (go_quiet (fail); try go_wp2)
  go_loopg [7, 8] k (fun kq v7 v8 w' => ∃ (x7_1 : Int) (x8_1 : Int), v7 = .int .i64 x7_1 ∧ v8 = .int .i64 x8_1 ∧ Aside0 (barscanref16_group.l0 kq a0 l1 x7_1 x8_1 = some (r1, r2, r3)) ∧ Aside0 (kq ≤ k) ∧ Drawn0 w w')
  case atStart => exact ⟨(0), (0), (by first | rfl | (simp; done) | (simp [*]; done) | (simp [i64_w]; done)), (by first | rfl | (simp; done) | (simp [*]; done) | (simp [i64_w]; done)), H', ⟨Nat.le_refl _⟩, by repeat (first | exact Drawn0.refl _ | apply Drawn0.step)⟩
  case round =>
   clear H'
   try clear c1
   try clear p2
   try clear c3
   try clear c3b0
   try clear c3b1
   obtain ⟨x7_1, x8_1, rfl, rfl, HA, HK1, ⟨m1, rfl⟩⟩ := hrel
   cases gk with
   | zero => exact absurd HA.out (by simp [barscanref16_group.l0])
   | succ k1 =>
    have H := HA.out
    clear HA
    simp only [barscanref16_group.l0] at H
    by_cases c4 : x8_1 < 3
    ·rw [if_pos c4] at H
     have c4b0 : decide (x8_1 < 3) = true := decide_eq_true c4
     clear c4
     by_cases c5 : x8_1 < (l1.length : Int)
     ·rw [if_pos c5] at H
      have c5b0 : decide (x8_1 < (l1.length : Int)) = true := decide_eq_true c5
      clear c5
      by_cases c6 : 0 ≤ x8_1
      ·rw [if_pos c6] at H
       have c6b0 : decide (0 ≤ x8_1) = true := decide_eq_true c6
       clear c6
       have H' := Aside0.mk H
       clear H
       have p508 : 0 ≤ (x8_1 : Int) := of_decide_eq_true (by first | (with_reducible assumption) | assumption)
       have q508 : x8_1 < (l1.length : Int) := of_decide_eq_true (by first | (with_reducible assumption) | assumption)
       obtain ⟨ad508, e508, hx508_0⟩ := Kd.at_int HR1.out x8_1 p508 q508
       cases e508
       replace p508 := eq_true p508
       replace q508 := eq_true q508
       go_wp2
       repeat (go_quiet (fail); try go_wp2)
       go_roundg k1
       case measure => have := HK1.out; omega
       case rel => exact ⟨(wrap64 ((wrap64 (10 * x7_1)) + (((rd l1 x8_1) - 48) % 256))), (wrap64 (x8_1 + 1)), (by first | rfl | (simp; done) | (simp [*]; done) | (simp [i64_w]; done)), (by first | rfl | (simp; done) | (simp [*]; done) | (simp [i64_w]; done)), H', ⟨by have := HK1.out; omega⟩, by repeat (first | exact Drawn0.refl _ | apply Drawn0.step)⟩
      ·rw [if_neg c6] at H
       exact absurd H (by simp)
     ·rw [if_neg c5] at H
      have c5b0 : decide (x8_1 < (l1.length : Int)) = false := decide_eq_false c5
      clear c5
      replace H := Option.bind_eq_some_iff.mp H
      obtain ⟨t509, A70, H⟩ := H
      replace H : (some (x7_1, t509, x8_1)) = some (r1, r2, r3) := H
      have A7 := Aside0.mk A70
      clear A70
      simp only [Option.some.injEq, Prod.mk.injEq] at H
      obtain ⟨rfl, rfl, rfl⟩ := H
      go_wp2_with (first | (go_at_call 83; (with_reducible refine (barscanref16_Data.calls a0 x8_1 t509 _ A7.out).mono ?_); rintro e w' ⟨rfl, ⟨nd, rfl⟩⟩; (try first | exact ⟨rfl, _, World.drewN_drewN _ _ _⟩ | exact ⟨rfl, _, Eq.trans (World.drewN_drewN _ _ _) (congrArg (World.drewN _) (Nat.add_assoc _ _ _))⟩)))
      repeat (go_quiet (first | (go_at_call 83; (with_reducible refine (barscanref16_Data.calls a0 x8_1 t509 _ A7.out).mono ?_); rintro e w' ⟨rfl, ⟨nd, rfl⟩⟩; (try first | exact ⟨rfl, _, World.drewN_drewN _ _ _⟩ | exact ⟨rfl, _, Eq.trans (World.drewN_drewN _ _ _) (congrArg (World.drewN _) (Nat.add_assoc _ _ _))⟩))); try go_wp2_with (first | (go_at_call 83; (with_reducible refine (barscanref16_Data.calls a0 x8_1 t509 _ A7.out).mono ?_); rintro e w' ⟨rfl, ⟨nd, rfl⟩⟩; (try first | exact ⟨rfl, _, World.drewN_drewN _ _ _⟩ | exact ⟨rfl, _, Eq.trans (World.drewN_drewN _ _ _) (congrArg (World.drewN _) (Nat.add_assoc _ _ _))⟩))))
      go_ret3
      exact ⟨by first | rfl | (simp; done) | (simp [*]; done) | (simp [i64_w]; done), by repeat (first | exact Drawn0.refl _ | apply Drawn0.step)⟩
    ·rw [if_neg c4] at H
     have c4b0 : decide (x8_1 < 3) = false := decide_eq_false c4
     clear c4
     replace H := Option.bind_eq_some_iff.mp H
     obtain ⟨t510, A80, H⟩ := H
     replace H : (some (x7_1, t510, x8_1)) = some (r1, r2, r3) := H
     have A8 := Aside0.mk A80
     clear A80
     simp only [Option.some.injEq, Prod.mk.injEq] at H
     obtain ⟨rfl, rfl, rfl⟩ := H
     go_wp2_with (first | (go_at_call 83; (with_reducible refine (barscanref16_Data.calls a0 x8_1 t510 _ A8.out).mono ?_); rintro e w' ⟨rfl, ⟨nd, rfl⟩⟩; (try first | exact ⟨rfl, _, World.drewN_drewN _ _ _⟩ | exact ⟨rfl, _, Eq.trans (World.drewN_drewN _ _ _) (congrArg (World.drewN _) (Nat.add_assoc _ _ _))⟩)))
     repeat (go_quiet (first | (go_at_call 83; (with_reducible refine (barscanref16_Data.calls a0 x8_1 t510 _ A8.out).mono ?_); rintro e w' ⟨rfl, ⟨nd, rfl⟩⟩; (try first | exact ⟨rfl, _, World.drewN_drewN _ _ _⟩ | exact ⟨rfl, _, Eq.trans (World.drewN_drewN _ _ _) (congrArg (World.drewN _) (Nat.add_assoc _ _ _))⟩))); try go_wp2_with (first | (go_at_call 83; (with_reducible refine (barscanref16_Data.calls a0 x8_1 t510 _ A8.out).mono ?_); rintro e w' ⟨rfl, ⟨nd, rfl⟩⟩; (try first | exact ⟨rfl, _, World.drewN_drewN _ _ _⟩ | exact ⟨rfl, _, Eq.trans (World.drewN_drewN _ _ _) (congrArg (World.drewN _) (Nat.add_assoc _ _ _))⟩))))
     go_ret3
     exact ⟨by first | rfl | (simp; done) | (simp [*]; done) | (simp [i64_w]; done), by repeat (first | exact Drawn0.refl _ | apply Drawn0.step)⟩
 ·rw [if_neg c3] at H
  have c3b0 : (a0 == 1) = false := beq_eq_false_iff_ne.mpr c3
  have c3b1 : (a0 != 1) = true := bne_iff_ne.mpr c3
  by_cases c9 : a0 = 4
  ·rw [if_pos c9] at H
   have c9b0 : (a0 == 4) = true := beq_iff_eq.mpr c9
   have c9b1 : (a0 != 4) = false := bne_eq_false_iff_eq.mpr c9
   clear c9
   by_cases c10 : 0 < (l1.length : Int)
   ·rw [if_pos c10] at H
    have c10b0 : decide (0 < (l1.length : Int)) = true := decide_eq_true c10
    have c10b1 : decide (0 < l1.length) = true := decide_eq_true (by omega)
    have c10b2 : 0 < l1.length := by omega
    clear c10
    simp only [Option.some.injEq, Prod.mk.injEq] at H
    obtain ⟨rfl, rfl, rfl⟩ := H
    have p511 : 0 ≤ (0 : Int) := (by omega)
    have q511 : 0 < (l1.length : Int) := of_decide_eq_true (by first | (with_reducible assumption) | assumption)
    obtain ⟨ad511, e511, hx511_0⟩ := Kd.at_int HR1.out 0 p511 q511
    cases e511
    have qi511 : (0 < l1.length) = True := eq_true (by omega)
    (try rw [show ((0 : Int)).toNat = 0 from rfl] at hx511_0)
    (try rw [Addr.add_zero'] at hx511_0)
    replace p511 := eq_true p511
    replace q511 := eq_true q511
    go_enter Try.func74, Try.ntmps74
    go_wp2
    repeat (go_quiet (fail); try go_wp2)
    go_ret3
    exact ⟨by first | rfl | (simp; done) | (simp [*]; done) | (simp [i64_w]; done), by repeat (first | exact Drawn0.refl _ | apply Drawn0.step)⟩
   ·rw [if_neg c10] at H
    exact absurd H (by simp)
  ·rw [if_neg c9] at H
   have c9b0 : (a0 == 4) = false := beq_eq_false_iff_ne.mpr c9
   have c9b1 : (a0 != 4) = true := bne_iff_ne.mpr c9
   by_cases c11 : (l1.length : Int) = 1
   ·rw [if_pos c11] at H
    have c11b0 : ((l1.length : Int) == 1) = true := beq_iff_eq.mpr c11
    have c11b1 : ((l1.length : Int) != 1) = false := bne_eq_false_iff_eq.mpr c11
    clear c11
    by_cases c12 : 0 < (l1.length : Int)
    ·rw [if_pos c12] at H
     have c12b0 : decide (0 < (l1.length : Int)) = true := decide_eq_true c12
     have c12b1 : decide (0 < l1.length) = true := decide_eq_true (by omega)
     have c12b2 : 0 < l1.length := by omega
     clear c12
     replace H := Option.bind_eq_some_iff.mp H
     obtain ⟨t513, A130, H⟩ := H
     replace H : (some (t513, 6, 1)) = some (r1, r2, r3) := H
     have A13 := Aside0.mk A130
     clear A130
     simp only [Option.some.injEq, Prod.mk.injEq] at H
     obtain ⟨rfl, rfl, rfl⟩ := H
     have p512 : 0 ≤ (0 : Int) := (by omega)
     have q512 : 0 < (l1.length : Int) := of_decide_eq_true (by first | (with_reducible assumption) | assumption)
     obtain ⟨ad512, e512, hx512_0⟩ := Kd.at_int HR1.out 0 p512 q512
     cases e512
     have qi512 : (0 < l1.length) = True := eq_true (by omega)
     (try rw [show ((0 : Int)).toNat = 0 from rfl] at hx512_0)
     (try rw [Addr.add_zero'] at hx512_0)
     replace p512 := eq_true p512
     replace q512 := eq_true q512
     go_enter Try.func74, Try.ntmps74
     go_wp2_with (first | (go_at_call 76; (with_reducible refine (barscanref16_place.calls k (rd l1 0) t513 _ A13.out).mono ?_); rintro e w' ⟨rfl, ⟨nd, rfl⟩⟩; (try first | exact ⟨rfl, _, World.drewN_drewN _ _ _⟩ | exact ⟨rfl, _, Eq.trans (World.drewN_drewN _ _ _) (congrArg (World.drewN _) (Nat.add_assoc _ _ _))⟩)))
     repeat (go_quiet (first | (go_at_call 76; (with_reducible refine (barscanref16_place.calls k (rd l1 0) t513 _ A13.out).mono ?_); rintro e w' ⟨rfl, ⟨nd, rfl⟩⟩; (try first | exact ⟨rfl, _, World.drewN_drewN _ _ _⟩ | exact ⟨rfl, _, Eq.trans (World.drewN_drewN _ _ _) (congrArg (World.drewN _) (Nat.add_assoc _ _ _))⟩))); try go_wp2_with (first | (go_at_call 76; (with_reducible refine (barscanref16_place.calls k (rd l1 0) t513 _ A13.out).mono ?_); rintro e w' ⟨rfl, ⟨nd, rfl⟩⟩; (try first | exact ⟨rfl, _, World.drewN_drewN _ _ _⟩ | exact ⟨rfl, _, Eq.trans (World.drewN_drewN _ _ _) (congrArg (World.drewN _) (Nat.add_assoc _ _ _))⟩))))
     go_ret3
     exact ⟨by first | rfl | (simp; done) | (simp [*]; done) | (simp [i64_w]; done), by repeat (first | exact Drawn0.refl _ | apply Drawn0.step)⟩
    ·rw [if_neg c12] at H
     exact absurd H (by simp)
   ·rw [if_neg c11] at H
    have c11b0 : ((l1.length : Int) == 1) = false := beq_eq_false_iff_ne.mpr c11
    have c11b1 : ((l1.length : Int) != 1) = true := bne_iff_ne.mpr c11
    by_cases c14 : 0 < (l1.length : Int)
    ·rw [if_pos c14] at H
     have c14b0 : decide (0 < (l1.length : Int)) = true := decide_eq_true c14
     have c14b1 : decide (0 < l1.length) = true := decide_eq_true (by omega)
     have c14b2 : 0 < l1.length := by omega
     clear c14
     replace H := Option.bind_eq_some_iff.mp H
     obtain ⟨t515, A150, H⟩ := H
     replace H : (if 1 < (l1.length : Int) then ((barscanref16_place.f k (rd l1 1)).bind fun t517 => (some (wrap64 ((wrap64 (45 * t515)) + t517), 11, 2))) else (none)) = some (r1, r2, r3) := H
     have A15 := Aside0.mk A150
     clear A150
     by_cases c16 : 1 < (l1.length : Int)
     ·rw [if_pos c16] at H
      have c16b0 : decide (1 < (l1.length : Int)) = true := decide_eq_true c16
      have c16b1 : decide (1 < l1.length) = true := decide_eq_true (by omega)
      clear c16
      replace H := Option.bind_eq_some_iff.mp H
      obtain ⟨t517, A170, H⟩ := H
      replace H : (some (wrap64 ((wrap64 (45 * t515)) + t517), 11, 2)) = some (r1, r2, r3) := H
      have A17 := Aside0.mk A170
      clear A170
      simp only [Option.some.injEq, Prod.mk.injEq] at H
      obtain ⟨rfl, rfl, rfl⟩ := H
      have p514 : 0 ≤ (0 : Int) := (by omega)
      have q514 : 0 < (l1.length : Int) := of_decide_eq_true (by first | (with_reducible assumption) | assumption)
      obtain ⟨ad514, e514, hx514_0⟩ := Kd.at_int HR1.out 0 p514 q514
      cases e514
      have qi514 : (0 < l1.length) = True := eq_true (by omega)
      (try rw [show ((0 : Int)).toNat = 0 from rfl] at hx514_0)
      (try rw [Addr.add_zero'] at hx514_0)
      replace p514 := eq_true p514
      replace q514 := eq_true q514
      go_enter Try.func74, Try.ntmps74
      go_wp2_with (first | (go_at_call 76; (with_reducible refine (barscanref16_place.calls k (rd l1 0) t515 _ A15.out).mono ?_); rintro e w' ⟨rfl, ⟨nd, rfl⟩⟩; (try first | exact ⟨rfl, _, World.drewN_drewN _ _ _⟩ | exact ⟨rfl, _, Eq.trans (World.drewN_drewN _ _ _) (congrArg (World.drewN _) (Nat.add_assoc _ _ _))⟩); have p516 : 0 ≤ (1 : Int) := (by omega); have q516 : 1 < (l1.length : Int) := of_decide_eq_true (by first | (with_reducible assumption) | assumption); obtain ⟨ad516, e516, hx516_0⟩ := Kd.at_int HR1.out 1 p516 q516; obtain rfl : ad514 = ad516 := (by injection e516); (try simp only [show (1 : Int).toNat = 1 from rfl, Nat.reduceMul, Nat.reduceEqDiff, Go.Addr.add, ↓reduceIte] at hx516_0); have qi516 : (1 < l1.length) = True := eq_true (by omega); (try rw [show ((1 : Int)).toNat = 1 from rfl] at hx516_0); replace p516 := eq_true p516; replace q516 := eq_true q516) | (go_at_call 76; (with_reducible refine (barscanref16_place.calls k (rd l1 1) t517 _ A17.out).mono ?_); rintro e w' ⟨rfl, ⟨nd, rfl⟩⟩; (try first | exact ⟨rfl, _, World.drewN_drewN _ _ _⟩ | exact ⟨rfl, _, Eq.trans (World.drewN_drewN _ _ _) (congrArg (World.drewN _) (Nat.add_assoc _ _ _))⟩)))
      repeat (go_quiet (first | (go_at_call 76; (with_reducible refine (barscanref16_place.calls k (rd l1 0) t515 _ A15.out).mono ?_); rintro e w' ⟨rfl, ⟨nd, rfl⟩⟩; (try first | exact ⟨rfl, _, World.drewN_drewN _ _ _⟩ | exact ⟨rfl, _, Eq.trans (World.drewN_drewN _ _ _) (congrArg (World.drewN _) (Nat.add_assoc _ _ _))⟩); have p516 : 0 ≤ (1 : Int) := (by omega); have q516 : 1 < (l1.length : Int) := of_decide_eq_true (by first | (with_reducible assumption) | assumption); obtain ⟨ad516, e516, hx516_0⟩ := Kd.at_int HR1.out 1 p516 q516; obtain rfl : ad514 = ad516 := (by injection e516); (try simp only [show (1 : Int).toNat = 1 from rfl, Nat.reduceMul, Nat.reduceEqDiff, Go.Addr.add, ↓reduceIte] at hx516_0); have qi516 : (1 < l1.length) = True := eq_true (by omega); (try rw [show ((1 : Int)).toNat = 1 from rfl] at hx516_0); replace p516 := eq_true p516; replace q516 := eq_true q516) | (go_at_call 76; (with_reducible refine (barscanref16_place.calls k (rd l1 1) t517 _ A17.out).mono ?_); rintro e w' ⟨rfl, ⟨nd, rfl⟩⟩; (try first | exact ⟨rfl, _, World.drewN_drewN _ _ _⟩ | exact ⟨rfl, _, Eq.trans (World.drewN_drewN _ _ _) (congrArg (World.drewN _) (Nat.add_assoc _ _ _))⟩))); try go_wp2_with (first | (go_at_call 76; (with_reducible refine (barscanref16_place.calls k (rd l1 0) t515 _ A15.out).mono ?_); rintro e w' ⟨rfl, ⟨nd, rfl⟩⟩; (try first | exact ⟨rfl, _, World.drewN_drewN _ _ _⟩ | exact ⟨rfl, _, Eq.trans (World.drewN_drewN _ _ _) (congrArg (World.drewN _) (Nat.add_assoc _ _ _))⟩); have p516 : 0 ≤ (1 : Int) := (by omega); have q516 : 1 < (l1.length : Int) := of_decide_eq_true (by first | (with_reducible assumption) | assumption); obtain ⟨ad516, e516, hx516_0⟩ := Kd.at_int HR1.out 1 p516 q516; obtain rfl : ad514 = ad516 := (by injection e516); (try simp only [show (1 : Int).toNat = 1 from rfl, Nat.reduceMul, Nat.reduceEqDiff, Go.Addr.add, ↓reduceIte] at hx516_0); have qi516 : (1 < l1.length) = True := eq_true (by omega); (try rw [show ((1 : Int)).toNat = 1 from rfl] at hx516_0); replace p516 := eq_true p516; replace q516 := eq_true q516) | (go_at_call 76; (with_reducible refine (barscanref16_place.calls k (rd l1 1) t517 _ A17.out).mono ?_); rintro e w' ⟨rfl, ⟨nd, rfl⟩⟩; (try first | exact ⟨rfl, _, World.drewN_drewN _ _ _⟩ | exact ⟨rfl, _, Eq.trans (World.drewN_drewN _ _ _) (congrArg (World.drewN _) (Nat.add_assoc _ _ _))⟩))))
      go_ret3
      exact ⟨by first | rfl | (simp; done) | (simp [*]; done) | (simp [i64_w]; done), by repeat (first | exact Drawn0.refl _ | apply Drawn0.step)⟩
     ·rw [if_neg c16] at H
      exact absurd H (by simp)
    ·rw [if_neg c14] at H
     exact absurd H (by simp)

end Go.Proofs.Ytagmncdbiljacaa.X
