/- Functions of the program as Lean functions, and proofs that their calls come to them (printed for this claim by the session's own program). No condition beyond each theorem's own hypotheses. -/
import Derived.Test.YtagmncdbiljacaaXx0
namespace Go.Proofs.Ytagmncdbiljacaa.X
open Go.RowKit Go.Proofs.YtagmncdbiljacaaW.PrintWords Go.Proofs.YtagmncdbiljacaaW.PrintLast Go.Proofs.YtagmncdbiljacaaW.PrintMore
attribute [local go_sem] max2_int min2_int max_two min_two max_three min_three max_four min_four   -- for this text's walks alone
set_option linter.unusedVariables false
set_option linter.unusedSimpArgs false

/-! ### barscanref17_Segments: function 17 -/
def barscanref17_Segments.l0 : Nat → List (S33) → List (S33) → Int → Option (Bool)
 | 0, _, _, _ => none
 | k + 1, x0, x1, x5 => if x5 < (x0.length : Int) then (if 0 ≤ x5 then (if x5 < (x1.length : Int) then (if ((rd_T33 x0 x5).f0) = ((rd_T33 x1 x5).f0) then (if (strOfNums ((rd_T33 x0 x5).f1)).toList = (strOfNums ((rd_T33 x1 x5).f1)).toList then (barscanref17_Segments.l0 k x0 x1 (wrap64 (x5 + 1))) else (some false)) else (some false)) else (none)) else (none)) else (some true)
def barscanref17_Segments.f (k : Nat) (l0 : List (S33)) (l1 : List (S33)) : Option (Bool) := if (l0.length : Int) = (l1.length : Int) then (barscanref17_Segments.l0 k l0 l1 0) else (some false)
theorem barscanref17_Segments.mono_l : ∀ k, (∀ y0 y1 y2, LeO (barscanref17_Segments.l0 k y0 y1 y2) (barscanref17_Segments.l0 (k + 1) y0 y1 y2))
 | 0 => fun _ _ _ r h => by simp [barscanref17_Segments.l0] at h
 | k + 1 => by
  have ih0 := barscanref17_Segments.mono_l k
  ·intro y0 y1 y2
   unfold barscanref17_Segments.l0
   repeat' first
   | (with_reducible exact ih0 _ _ _)
   | (with_reducible exact LeO.refl _)
   | (with_reducible exact LeO.none _)
   | (with_reducible refine LeO.ite ?_ ?_)
   | (with_reducible refine LeO.bind ?_ (fun _ => ?_))
   | exact ih0 _ _ _
   | exact LeO.none _
   | refine LeO.ite ?_ ?_
   | refine LeO.bind ?_ (fun _ => ?_)
theorem barscanref17_Segments.mono : ∀ a0 a1 k, LeO (barscanref17_Segments.f k a0 a1) (barscanref17_Segments.f (k + 1) a0 a1) := by
 intro a0 a1 k
 have ih0 := barscanref17_Segments.mono_l k
 unfold barscanref17_Segments.f
 repeat' first
   | (with_reducible exact ih0 _ _ _)
   | (with_reducible exact LeO.refl _)
   | (with_reducible exact LeO.none _)
   | (with_reducible refine LeO.ite ?_ ?_)
   | (with_reducible refine LeO.bind ?_ (fun _ => ?_))
   | exact ih0 _ _ _
   | exact LeO.none _
   | refine LeO.ite ?_ ?_
   | refine LeO.bind ?_ (fun _ => ?_)
set_option maxHeartbeats 8000000 in
set_option maxRecDepth 100000 in
theorem barscanref17_Segments.calls (k : Nat) (A0 : Option Addr) (c0 : Nat) (l0 : List (S33)) (A1 : Option Addr) (c1 : Nat) (l1 : List (S33)) (r : Bool) (w : World) (hr0 : Kd.C k33 w A0 l0.length l0) (hc0 : l0.length ≤ c0) (hr1 : Kd.C k33 w A1 l1.length l1) (hc1 : l1.length ≤ c1) (h : barscanref17_Segments.f k l0 l1 = some r) :
  Calls Try.prog 17 #[.slice A0 l0.length c0, .slice A1 l1.length c1] w fun e w' => e = .returned (.bool r) ∧ Drawn0 w w' := by
 have HR0 := Aside0.mk hr0
 have HC0 := Aside0.mk hc0
 clear hr0 hc0
 have HR1 := Aside0.mk hr1
 have HC1 := Aside0.mk hc1
 clear hr1 hc1
 have H : (if (l0.length : Int) = (l1.length : Int) then (barscanref17_Segments.l0 k l0 l1 0) else (some false)) = some r := h
 clear h
 by_cases c3 : (l0.length : Int) = (l1.length : Int)
 ·rw [if_pos c3] at H
  have c3b0 : ((l0.length : Int) == (l1.length : Int)) = true := beq_iff_eq.mpr c3
  have c3b1 : ((l0.length : Int) != (l1.length : Int)) = false := bne_eq_false_iff_eq.mpr c3
  have c3b2 : (l0.length == l1.length) = true := by first | simpa using c3 | (simp at c3 ⊢; omega)
  clear c3
  have H' := Aside0.mk H
  clear H
  go_enter Try.func17, Try.ntmps17
  go_wp2
  repeat (go_quiet (fail); try go_wp2)
  go_loopg [5] k (fun kq v5 w' => ∃ (x5_1 : Int), v5 = .int .i64 x5_1 ∧ Aside0 (barscanref17_Segments.l0 kq l0 l1 x5_1 = some r) ∧ Aside0 (kq ≤ k) ∧ Drawn0 w w')
  case atStart => exact ⟨(0), (by first | rfl | (simp; done) | (simp [*]; done) | (simp [i64_w]; done)), H', ⟨Nat.le_refl _⟩, by repeat (first | exact Drawn0.refl _ | apply Drawn0.step)⟩
  case round =>
   clear H'
   try clear c1
   try clear p2
   try clear c3
   try clear c3b0
   try clear c3b1
   try clear c3b2
   obtain ⟨x5_1, rfl, HA, HK1, ⟨m1, rfl⟩⟩ := hrel
   cases gk with
   | zero => exact absurd HA.out (by simp [barscanref17_Segments.l0])
   | succ k1 =>
    have H := HA.out
    clear HA
    simp only [barscanref17_Segments.l0] at H
    by_cases c4 : x5_1 < (l0.length : Int)
    ·rw [if_pos c4] at H
     have c4b0 : decide (x5_1 < (l0.length : Int)) = true := decide_eq_true c4
     clear c4
     by_cases c5 : 0 ≤ x5_1
     ·rw [if_pos c5] at H
      have c5b0 : decide (0 ≤ x5_1) = true := decide_eq_true c5
      clear c5
      by_cases c6 : x5_1 < (l1.length : Int)
      ·rw [if_pos c6] at H
       have c6b0 : decide (x5_1 < (l1.length : Int)) = true := decide_eq_true c6
       clear c6
       by_cases c7 : ((rd_T33 l0 x5_1).f0) = ((rd_T33 l1 x5_1).f0)
       ·rw [if_pos c7] at H
        have c7b0 : (((rd_T33 l0 x5_1).f0) == ((rd_T33 l1 x5_1).f0)) = true := beq_iff_eq.mpr c7
        have c7b1 : (((rd_T33 l0 x5_1).f0) != ((rd_T33 l1 x5_1).f0)) = false := bne_eq_false_iff_eq.mpr c7
        clear c7
        by_cases c8 : (strOfNums ((rd_T33 l0 x5_1).f1)).toList = (strOfNums ((rd_T33 l1 x5_1).f1)).toList
        ·rw [if_pos c8] at H
         have c8b0 : ((strOfNums ((rd_T33 l0 x5_1).f1)).toList == (strOfNums ((rd_T33 l1 x5_1).f1)).toList) = true := beq_iff_eq.mpr c8
         have c8b1 : ((strOfNums ((rd_T33 l0 x5_1).f1)).toList != (strOfNums ((rd_T33 l1 x5_1).f1)).toList) = false := bne_eq_false_iff_eq.mpr c8
         clear c8
         have H' := Aside0.mk H
         clear H
         have p260 : 0 ≤ (x5_1 : Int) := of_decide_eq_true (by first | (with_reducible assumption) | assumption)
         have q260 : x5_1 < (l0.length : Int) := of_decide_eq_true (by first | (with_reducible assumption) | assumption)
         obtain ⟨ad260, A260_1, c260_1, e260, hx260_0, hx260_1, hl260_1, hi260_1⟩ := at_T33 HR0.out x5_1 p260 q260
         cases e260
         have HR260_1 := Aside0.mk hi260_1
         have HC260_1 := Aside0.mk hl260_1
         clear hi260_1 hl260_1
         replace p260 := eq_true p260
         replace q260 := eq_true q260
         have p261 : 0 ≤ (x5_1 : Int) := of_decide_eq_true (by first | (with_reducible assumption) | assumption)
         have q261 : x5_1 < (l1.length : Int) := of_decide_eq_true (by first | (with_reducible assumption) | assumption)
         obtain ⟨ad261, A261_1, c261_1, e261, hx261_0, hx261_1, hl261_1, hi261_1⟩ := at_T33 HR1.out x5_1 p261 q261
         cases e261
         have HR261_1 := Aside0.mk hi261_1
         have HC261_1 := Aside0.mk hl261_1
         clear hi261_1 hl261_1
         replace p261 := eq_true p261
         replace q261 := eq_true q261
         have p262 : 0 ≤ (x5_1 : Int) := of_decide_eq_true (by first | (with_reducible assumption) | assumption)
         have q262 : x5_1 < (l0.length : Int) := of_decide_eq_true (by first | (with_reducible assumption) | assumption)
         obtain ⟨ad262, A262_1, c262_1, e262, hx262_0, hx262_1, hl262_1, hi262_1⟩ := at_T33 HR0.out x5_1 p262 q262
         obtain rfl : ad260 = ad262 := (by injection e262)
         have HR262_1 := Aside0.mk hi262_1
         have HC262_1 := Aside0.mk hl262_1
         clear hi262_1 hl262_1
         replace p262 := eq_true p262
         replace q262 := eq_true q262
         have ea_ := Option.some.inj (hx260_1.symm.trans hx262_1)
         injection ea_ with ea_ en_ ec_
         subst ea_
         subst ec_
         clear en_
         have hcv9 := Kd.C_string (P := Try.prog) (A := A260_1) (c := c260_1) Try.underlying22 Try.underlying5 Try.underlying9 HR262_1.out
         (try have hcv9d := fun k_ : Nat => Kd.C_string (P := Try.prog) (A := A260_1) (c := c260_1) Try.underlying22 Try.underlying5 Try.underlying9 (Kd.C_drewN (HR262_1.out) k_))
         have p263 : 0 ≤ (x5_1 : Int) := of_decide_eq_true (by first | (with_reducible assumption) | assumption)
         have q263 : x5_1 < (l1.length : Int) := of_decide_eq_true (by first | (with_reducible assumption) | assumption)
         obtain ⟨ad263, A263_1, c263_1, e263, hx263_0, hx263_1, hl263_1, hi263_1⟩ := at_T33 HR1.out x5_1 p263 q263
         obtain rfl : ad261 = ad263 := (by injection e263)
         have HR263_1 := Aside0.mk hi263_1
         have HC263_1 := Aside0.mk hl263_1
         clear hi263_1 hl263_1
         replace p263 := eq_true p263
         replace q263 := eq_true q263
         have ea_ := Option.some.inj (hx261_1.symm.trans hx263_1)
         injection ea_ with ea_ en_ ec_
         subst ea_
         subst ec_
         clear en_
         have hcv10 := Kd.C_string (P := Try.prog) (A := A261_1) (c := c261_1) Try.underlying22 Try.underlying5 Try.underlying9 HR263_1.out
         (try have hcv10d := fun k_ : Nat => Kd.C_string (P := Try.prog) (A := A261_1) (c := c261_1) Try.underlying22 Try.underlying5 Try.underlying9 (Kd.C_drewN (HR263_1.out) k_))
         go_wp2
         repeat (go_quiet (fail); try go_wp2)
         go_roundg k1
         case measure => have := HK1.out; omega
         case rel => exact ⟨(wrap64 (x5_1 + 1)), (by first | rfl | (simp; done) | (simp [*]; done) | (simp [i64_w]; done)), H', ⟨by have := HK1.out; omega⟩, by repeat (first | exact Drawn0.refl _ | apply Drawn0.step)⟩
        ·rw [if_neg c8] at H
         have c8b0 : ((strOfNums ((rd_T33 l0 x5_1).f1)).toList == (strOfNums ((rd_T33 l1 x5_1).f1)).toList) = false := beq_eq_false_iff_ne.mpr c8
         have c8b1 : ((strOfNums ((rd_T33 l0 x5_1).f1)).toList != (strOfNums ((rd_T33 l1 x5_1).f1)).toList) = true := bne_iff_ne.mpr c8
         obtain rfl := Option.some.inj H
         have p260 : 0 ≤ (x5_1 : Int) := of_decide_eq_true (by first | (with_reducible assumption) | assumption)
         have q260 : x5_1 < (l0.length : Int) := of_decide_eq_true (by first | (with_reducible assumption) | assumption)
         obtain ⟨ad260, A260_1, c260_1, e260, hx260_0, hx260_1, hl260_1, hi260_1⟩ := at_T33 HR0.out x5_1 p260 q260
         cases e260
         have HR260_1 := Aside0.mk hi260_1
         have HC260_1 := Aside0.mk hl260_1
         clear hi260_1 hl260_1
         replace p260 := eq_true p260
         replace q260 := eq_true q260
         have p261 : 0 ≤ (x5_1 : Int) := of_decide_eq_true (by first | (with_reducible assumption) | assumption)
         have q261 : x5_1 < (l1.length : Int) := of_decide_eq_true (by first | (with_reducible assumption) | assumption)
         obtain ⟨ad261, A261_1, c261_1, e261, hx261_0, hx261_1, hl261_1, hi261_1⟩ := at_T33 HR1.out x5_1 p261 q261
         cases e261
         have HR261_1 := Aside0.mk hi261_1
         have HC261_1 := Aside0.mk hl261_1
         clear hi261_1 hl261_1
         replace p261 := eq_true p261
         replace q261 := eq_true q261
         have p262 : 0 ≤ (x5_1 : Int) := of_decide_eq_true (by first | (with_reducible assumption) | assumption)
         have q262 : x5_1 < (l0.length : Int) := of_decide_eq_true (by first | (with_reducible assumption) | assumption)
         obtain ⟨ad262, A262_1, c262_1, e262, hx262_0, hx262_1, hl262_1, hi262_1⟩ := at_T33 HR0.out x5_1 p262 q262
         obtain rfl : ad260 = ad262 := (by injection e262)
         have HR262_1 := Aside0.mk hi262_1
         have HC262_1 := Aside0.mk hl262_1
         clear hi262_1 hl262_1
         replace p262 := eq_true p262
         replace q262 := eq_true q262
         have ea_ := Option.some.inj (hx260_1.symm.trans hx262_1)
         injection ea_ with ea_ en_ ec_
         subst ea_
         subst ec_
         clear en_
         have hcv11 := Kd.C_string (P := Try.prog) (A := A260_1) (c := c260_1) Try.underlying22 Try.underlying5 Try.underlying9 HR262_1.out
         (try have hcv11d := fun k_ : Nat => Kd.C_string (P := Try.prog) (A := A260_1) (c := c260_1) Try.underlying22 Try.underlying5 Try.underlying9 (Kd.C_drewN (HR262_1.out) k_))
         have p263 : 0 ≤ (x5_1 : Int) := of_decide_eq_true (by first | (with_reducible assumption) | assumption)
         have q263 : x5_1 < (l1.length : Int) := of_decide_eq_true (by first | (with_reducible assumption) | assumption)
         obtain ⟨ad263, A263_1, c263_1, e263, hx263_0, hx263_1, hl263_1, hi263_1⟩ := at_T33 HR1.out x5_1 p263 q263
         obtain rfl : ad261 = ad263 := (by injection e263)
         have HR263_1 := Aside0.mk hi263_1
         have HC263_1 := Aside0.mk hl263_1
         clear hi263_1 hl263_1
         replace p263 := eq_true p263
         replace q263 := eq_true q263
         have ea_ := Option.some.inj (hx261_1.symm.trans hx263_1)
         injection ea_ with ea_ en_ ec_
         subst ea_
         subst ec_
         clear en_
         have hcv12 := Kd.C_string (P := Try.prog) (A := A261_1) (c := c261_1) Try.underlying22 Try.underlying5 Try.underlying9 HR263_1.out
         (try have hcv12d := fun k_ : Nat => Kd.C_string (P := Try.prog) (A := A261_1) (c := c261_1) Try.underlying22 Try.underlying5 Try.underlying9 (Kd.C_drewN (HR263_1.out) k_))
         go_wp2
         repeat (go_quiet (fail); try go_wp2)
         go_ret
         exact ⟨by first | rfl | (simp; done) | (simp [*]; done) | (simp [i64_w]; done), by repeat (first | exact Drawn0.refl _ | apply Drawn0.step)⟩
       ·rw [if_neg c7] at H
        have c7b0 : (((rd_T33 l0 x5_1).f0) == ((rd_T33 l1 x5_1).f0)) = false := beq_eq_false_iff_ne.mpr c7
        have c7b1 : (((rd_T33 l0 x5_1).f0) != ((rd_T33 l1 x5_1).f0)) = true := bne_iff_ne.mpr c7
        obtain rfl := Option.some.inj H
        have p260 : 0 ≤ (x5_1 : Int) := of_decide_eq_true (by first | (with_reducible assumption) | assumption)
        have q260 : x5_1 < (l0.length : Int) := of_decide_eq_true (by first | (with_reducible assumption) | assumption)
        obtain ⟨ad260, A260_1, c260_1, e260, hx260_0, hx260_1, hl260_1, hi260_1⟩ := at_T33 HR0.out x5_1 p260 q260
        cases e260
        have HR260_1 := Aside0.mk hi260_1
        have HC260_1 := Aside0.mk hl260_1
        clear hi260_1 hl260_1
        replace p260 := eq_true p260
        replace q260 := eq_true q260
        have p261 : 0 ≤ (x5_1 : Int) := of_decide_eq_true (by first | (with_reducible assumption) | assumption)
        have q261 : x5_1 < (l1.length : Int) := of_decide_eq_true (by first | (with_reducible assumption) | assumption)
        obtain ⟨ad261, A261_1, c261_1, e261, hx261_0, hx261_1, hl261_1, hi261_1⟩ := at_T33 HR1.out x5_1 p261 q261
        cases e261
        have HR261_1 := Aside0.mk hi261_1
        have HC261_1 := Aside0.mk hl261_1
        clear hi261_1 hl261_1
        replace p261 := eq_true p261
        replace q261 := eq_true q261
        go_wp2
        repeat (go_quiet (fail); try go_wp2)
        go_ret
        exact ⟨by first | rfl | (simp; done) | (simp [*]; done) | (simp [i64_w]; done), by repeat (first | exact Drawn0.refl _ | apply Drawn0.step)⟩
      ·rw [if_neg c6] at H
       exact absurd H (by simp)
     ·rw [if_neg c5] at H
      exact absurd H (by simp)
    ·rw [if_neg c4] at H
     have c4b0 : decide (x5_1 < (l0.length : Int)) = false := decide_eq_false c4
     clear c4
     obtain rfl := Option.some.inj H
     go_wp2
     repeat (go_quiet (fail); try go_wp2)
     go_ret
     exact ⟨by first | rfl | (simp; done) | (simp [*]; done) | (simp [i64_w]; done), by repeat (first | exact Drawn0.refl _ | apply Drawn0.step)⟩
 ·rw [if_neg c3] at H
  have c3b0 : ((l0.length : Int) == (l1.length : Int)) = false := beq_eq_false_iff_ne.mpr c3
  have c3b1 : ((l0.length : Int) != (l1.length : Int)) = true := bne_iff_ne.mpr c3
  have c3b2 : (l0.length == l1.length) = false := by first | simpa using c3 | (simp at c3 ⊢; omega)
  obtain rfl := Option.some.inj H
  go_enter Try.func17, Try.ntmps17
  go_wp2
  repeat (go_quiet (fail); try go_wp2)
  go_ret
  exact ⟨by first | rfl | (simp; done) | (simp [*]; done) | (simp [i64_w]; done), by repeat (first | exact Drawn0.refl _ | apply Drawn0.step)⟩

end Go.Proofs.Ytagmncdbiljacaa.X
