/- Functions of the program as Lean functions, and proofs that their calls come to them (printed for this claim by the session's own program). No condition beyond each theorem's own hypotheses. -/
import Derived.Test.YtagmncdbiljacaaXx0
import Derived.Test.YtagmncdbiljacaaXx12
namespace Go.Proofs.Ytagmncdbiljacaa.X
open Go.RowKit Go.Proofs.YtagmncdbiljacaaW.PrintWords Go.Proofs.YtagmncdbiljacaaW.PrintLast Go.Proofs.YtagmncdbiljacaaW.PrintMore
attribute [local go_sem] max2_int min2_int max_two min_two max_three min_three max_four min_four   -- for this text's walks alone
set_option linter.unusedVariables false
set_option linter.unusedSimpArgs false

/-! ### barscanref16_Best: function 27 -/
mutual
def barscanref16_Best.j0 : Nat → List Int → Int → Bool → Option ((List (S33)) × Int × Int)
 | 0, _, _, _ => none
 | k + 1, x0, x1, x18 => if x18 = true then (some (([] : List (S33)), 0, 1)) else (if (x0.length : Int) > 4096 then (some (([] : List (S33)), 0, 4)) else (barscanref16_Best.l0 k x0 x1 ([] : List (S99)) 0))
def barscanref16_Best.l0 : Nat → List Int → Int → List (S99) → Int → Option ((List (S33)) × Int × Int)
 | 0, _, _, _, _ => none
 | k + 1, x0, x1, x7, x8 => if x8 ≤ (x0.length : Int) then (if x7.length < 4398046511104 then (barscanref16_Best.l0 k x0 x1 (x7 ++ [(⟨0, 0, 0, 0⟩ : S99)]) (wrap64 (x8 + 1))) else (none)) else (barscanref16_Best.l1 k x0 x1 x7 (wrap64 ((x0.length : Int) - 1)))
def barscanref16_Best.l1 : Nat → List Int → Int → List (S99) → Int → Option ((List (S33)) × Int × Int)
 | 0, _, _, _, _ => none
 | k + 1, x0, x1, x7, x9 => if x9 ≥ 0 then ((barscanref16_first.f k x0 x9 x1 x7).bind fun bt199 => (if 0 ≤ x9 then (if x9 < (x7.length : Int) then (barscanref16_Best.l1 k x0 x1 (x7.set (x9 : Int).toNat (⟨bt199.1, bt199.2.1, bt199.2.2.1, bt199.2.2.2⟩ : S99)) (wrap64 (x9 - 1))) else (none)) else (none))) else (barscanref16_Best.l2 k x0 x7 ([] : List (S33)) 0)
def barscanref16_Best.l2 : Nat → List Int → List (S99) → List (S33) → Int → Option ((List (S33)) × Int × Int)
 | 0, _, _, _, _ => none
 | k + 1, x0, x7, x10, x11 => if x11 < (x0.length : Int) then (if 0 ≤ x11 then (if x11 < (x7.length : Int) then (if x11 ≤ (wrap64 (x11 + ((rd_T99 x7 x11).f2))) then (if (wrap64 (x11 + ((rd_T99 x7 x11).f2))) ≤ (x0.length : Int) then (if ([] : List Int).length + ((x0.take ((wrap64 (x11 + ((rd_T99 x7 x11).f2))) : Int).toNat).drop (x11 : Int).toNat).length < 140737488355328 then (if x10.length < 4398046511104 then (barscanref16_Best.l2 k x0 x7 (x10 ++ [(⟨(rd_T99 x7 x11).f3, (([] : List Int) ++ ((x0.take ((wrap64 (x11 + ((rd_T99 x7 x11).f2))) : Int).toNat).drop (x11 : Int).toNat))⟩ : S33)]) (wrap64 (x11 + ((rd_T99 x7 x11).f2)))) else (none)) else (none)) else (none)) else (none)) else (none)) else (none)) else (if 0 < (x7.length : Int) then (some (x10, (rd_T99 x7 0).f0, 0)) else (none))
end
def barscanref16_Best.f (k : Nat) (l0 : List Int) (a1 : Int) : Option ((List (S33)) × Int × Int) := if a1 < 0 then (barscanref16_Best.j0 k l0 a1 true) else (barscanref16_Best.j0 k l0 a1 (decide (a1 > 2)))
theorem barscanref16_Best.mono_l : ∀ k, (∀ y0 y1 y2, LeO (barscanref16_Best.j0 k y0 y1 y2) (barscanref16_Best.j0 (k + 1) y0 y1 y2)) ∧ (∀ y0 y1 y2 y3, LeO (barscanref16_Best.l0 k y0 y1 y2 y3) (barscanref16_Best.l0 (k + 1) y0 y1 y2 y3)) ∧ (∀ y0 y1 y2 y3, LeO (barscanref16_Best.l1 k y0 y1 y2 y3) (barscanref16_Best.l1 (k + 1) y0 y1 y2 y3)) ∧ (∀ y0 y1 y2 y3, LeO (barscanref16_Best.l2 k y0 y1 y2 y3) (barscanref16_Best.l2 (k + 1) y0 y1 y2 y3))
 | 0 => ⟨fun _ _ _ r h => by simp [barscanref16_Best.j0] at h, fun _ _ _ _ r h => by simp [barscanref16_Best.l0] at h, fun _ _ _ _ r h => by simp [barscanref16_Best.l1] at h, fun _ _ _ _ r h => by simp [barscanref16_Best.l2] at h⟩
 | k + 1 => by
  obtain ⟨ih0, ih1, ih2, ih3⟩ := barscanref16_Best.mono_l k
  refine ⟨?_, ?_, ?_, ?_⟩
  ·intro y0 y1 y2
   unfold barscanref16_Best.j0
   repeat' first
   | (with_reducible exact ih0 _ _ _)
   | (with_reducible exact ih1 _ _ _ _)
   | (with_reducible exact ih2 _ _ _ _)
   | (with_reducible exact ih3 _ _ _ _)
   | (with_reducible exact barscanref16_first.mono _ _ _ _ _)
   | (with_reducible exact LeO.refl _)
   | (with_reducible exact LeO.none _)
   | (with_reducible refine LeO.ite ?_ ?_)
   | (with_reducible refine LeO.bind ?_ (fun _ => ?_))
   | exact ih0 _ _ _
   | exact ih1 _ _ _ _
   | exact ih2 _ _ _ _
   | exact ih3 _ _ _ _
   | exact barscanref16_first.mono _ _ _ _ _
   | exact LeO.none _
   | refine LeO.ite ?_ ?_
   | refine LeO.bind ?_ (fun _ => ?_)
  ·intro y0 y1 y2 y3
   unfold barscanref16_Best.l0
   repeat' first
   | (with_reducible exact ih0 _ _ _)
   | (with_reducible exact ih1 _ _ _ _)
   | (with_reducible exact ih2 _ _ _ _)
   | (with_reducible exact ih3 _ _ _ _)
   | (with_reducible exact barscanref16_first.mono _ _ _ _ _)
   | (with_reducible exact LeO.refl _)
   | (with_reducible exact LeO.none _)
   | (with_reducible refine LeO.ite ?_ ?_)
   | (with_reducible refine LeO.bind ?_ (fun _ => ?_))
   | exact ih0 _ _ _
   | exact ih1 _ _ _ _
   | exact ih2 _ _ _ _
   | exact ih3 _ _ _ _
   | exact barscanref16_first.mono _ _ _ _ _
   | exact LeO.none _
   | refine LeO.ite ?_ ?_
   | refine LeO.bind ?_ (fun _ => ?_)
  ·intro y0 y1 y2 y3
   unfold barscanref16_Best.l1
   repeat' first
   | (with_reducible exact ih0 _ _ _)
   | (with_reducible exact ih1 _ _ _ _)
   | (with_reducible exact ih2 _ _ _ _)
   | (with_reducible exact ih3 _ _ _ _)
   | (with_reducible exact barscanref16_first.mono _ _ _ _ _)
   | (with_reducible exact LeO.refl _)
   | (with_reducible exact LeO.none _)
   | (with_reducible refine LeO.ite ?_ ?_)
   | (with_reducible refine LeO.bind ?_ (fun _ => ?_))
   | exact ih0 _ _ _
   | exact ih1 _ _ _ _
   | exact ih2 _ _ _ _
   | exact ih3 _ _ _ _
   | exact barscanref16_first.mono _ _ _ _ _
   | exact LeO.none _
   | refine LeO.ite ?_ ?_
   | refine LeO.bind ?_ (fun _ => ?_)
  ·intro y0 y1 y2 y3
   unfold barscanref16_Best.l2
   repeat' first
   | (with_reducible exact ih0 _ _ _)
   | (with_reducible exact ih1 _ _ _ _)
   | (with_reducible exact ih2 _ _ _ _)
   | (with_reducible exact ih3 _ _ _ _)
   | (with_reducible exact barscanref16_first.mono _ _ _ _ _)
   | (with_reducible exact LeO.refl _)
   | (with_reducible exact LeO.none _)
   | (with_reducible refine LeO.ite ?_ ?_)
   | (with_reducible refine LeO.bind ?_ (fun _ => ?_))
   | exact ih0 _ _ _
   | exact ih1 _ _ _ _
   | exact ih2 _ _ _ _
   | exact ih3 _ _ _ _
   | exact barscanref16_first.mono _ _ _ _ _
   | exact LeO.none _
   | refine LeO.ite ?_ ?_
   | refine LeO.bind ?_ (fun _ => ?_)
theorem barscanref16_Best.mono : ∀ a0 a1 k, LeO (barscanref16_Best.f k a0 a1) (barscanref16_Best.f (k + 1) a0 a1) := by
 intro a0 a1 k
 obtain ⟨ih0, ih1, ih2, ih3⟩ := barscanref16_Best.mono_l k
 unfold barscanref16_Best.f
 repeat' first
   | (with_reducible exact ih0 _ _ _)
   | (with_reducible exact ih1 _ _ _ _)
   | (with_reducible exact ih2 _ _ _ _)
   | (with_reducible exact ih3 _ _ _ _)
   | (with_reducible exact barscanref16_first.mono _ _ _ _ _)
   | (with_reducible exact LeO.refl _)
   | (with_reducible exact LeO.none _)
   | (with_reducible refine LeO.ite ?_ ?_)
   | (with_reducible refine LeO.bind ?_ (fun _ => ?_))
   | exact ih0 _ _ _
   | exact ih1 _ _ _ _
   | exact ih2 _ _ _ _
   | exact ih3 _ _ _ _
   | exact barscanref16_first.mono _ _ _ _ _
   | exact LeO.none _
   | refine LeO.ite ?_ ?_
   | refine LeO.bind ?_ (fun _ => ?_)
set_option maxHeartbeats 8000000 in
set_option maxRecDepth 100000 in
theorem barscanref16_Best.calls (k : Nat) (A0 : Option Addr) (c0 : Nat) (l0 : List Int) (a1 : Int) (r1 : List (S33)) (r2 : Int) (r3 : Int) (w : World) (hr0 : Kd.C (Kd.int .u8) w A0 l0.length l0) (hc0 : l0.length ≤ c0) (h : barscanref16_Best.f k l0 a1 = some (r1, r2, r3)) :
  Calls Try.prog 27 #[.slice A0 l0.length c0, .int .i64 a1] w fun e w' => ∃ v0_ : Value, e = .returned (.tuple #[v0_, .int .i64 r2, .int .i64 r3]) ∧ Kd.S k33 33 w' w.heap.size (fun _ => True) v0_ r1 ∧ Below w.heap.size w w' := by
 have hu99 := Try.underlying99
 have hu33 := Try.underlying33
 have HR0 := Aside0.mk hr0
 have HC0 := Aside0.mk hc0
 clear hr0 hc0
 have HB := Aside0.mk (Below.refl w.heap.size w)
 have H : (if a1 < 0 then (barscanref16_Best.j0 k l0 a1 true) else (barscanref16_Best.j0 k l0 a1 (decide (a1 > 2)))) = some (r1, r2, r3) := h
 clear h
 have HC3 := Aside0.mk H
 clear H
 go_enter Try.func27, Try.ntmps27
 go_upto_region 1 with (fail)
 repeat (go_quiet (fail); go_upto_region 1 with (fail))
 go_cut [18] (fun v18 wc => ∃ (kq : Nat) (x18_2 : Bool), v18 = .bool x18_2 ∧ Aside0 (barscanref16_Best.j0 kq l0 a1 x18_2 = some (r1, r2, r3)) ∧ Aside0 (kq ≤ k) ∧ Aside0 (Below w.heap.size w wc))
 case first =>
  have H := HC3.out
  clear HC3
  by_cases c4 : a1 < 0
  ·rw [if_pos c4] at H
   have c4b0 : decide (a1 < 0) = true := decide_eq_true c4
   clear c4
   (first | rw [c4b0] | (simp only [i64_w, i32_w]; rw [c4b0]) | skip)
   have H' := Aside0.mk H
   clear H
   go_wp2
   repeat (go_quiet (fail); try go_wp2)
   go_meet
   case rel => exact ⟨_, (true), (by first | rfl | (simp; done) | (simp [*]; done) | (simp [i64_w]; done)), H', ⟨by first | omega | exact Nat.le_refl _⟩, ⟨by repeat (first | (with_reducible first | exact HB.out | apply below_alloc | apply pw_below_drewN | apply below_drew1) | exact HB.out)⟩⟩
  ·rw [if_neg c4] at H
   have c4b0 : decide (a1 < 0) = false := decide_eq_false c4
   clear c4
   (first | rw [c4b0] | (simp only [i64_w, i32_w]; rw [c4b0]) | skip)
   have H' := Aside0.mk H
   clear H
   go_wp2
   repeat (go_quiet (fail); try go_wp2)
   go_meet
   case rel => exact ⟨_, (decide (a1 > 2)), (by first | rfl | (simp; done) | (simp [*]; done) | (simp [i64_w]; done)), H', ⟨by first | omega | exact Nat.le_refl _⟩, ⟨by repeat (first | (with_reducible first | exact HB.out | apply below_alloc | apply pw_below_drewN | apply below_drew1) | exact HB.out)⟩⟩
 case rest =>
  clear HC3
  try clear c2
  try clear p2
  try clear c4
  try clear c4b0
  obtain ⟨kq, x18_2, rfl, HA, HJ2, HB⟩ := hcut
  cases kq with
  | zero => exact absurd HA.out (by simp [barscanref16_Best.j0])
  | succ kj2 =>
   have H := HA.out
   clear HA
   simp only [barscanref16_Best.j0] at H
   by_cases c5 : x18_2 = true
   ·subst c5
    have H1 : (some (([] : List (S33)), 0, 1)) = some (r1, r2, r3) := by rw [if_pos rfl] at H; exact H
    clear H
    have H := H1
    clear H1
    simp only [Option.some.injEq, Prod.mk.injEq] at H
    obtain ⟨rfl, rfl, rfl⟩ := H
    go_wp2
    repeat (go_quiet (fail); try go_wp2)
    go_ret3
    exact ⟨_, by first | rfl | (simp [errW_none, errW_some] <;> rfl) | (simp [*, errW_none, errW_some] <;> rfl), by first | exact Kd.S_nil _ _ _ _ _ | exact Kd.N_nil _ _ _ _ _ | exact Kd.V_nil _ _ _ _ _ | exact Kd.Q_nil _ _ _ _ _ | exact Kd.R_nil _ _ _ _ _, by repeat (first | (with_reducible first | exact HB.out | apply below_alloc | apply pw_below_drewN | apply below_drew1) | exact HB.out)⟩
   ·replace c5 := Bool.eq_false_iff.mpr c5
    subst c5
    have H1 : (if (l0.length : Int) > 4096 then (some (([] : List (S33)), 0, 4)) else (barscanref16_Best.l0 kj2 l0 a1 ([] : List (S99)) 0)) = some (r1, r2, r3) := by rw [if_neg (show ¬ (false = true) by decide)] at H; exact H
    clear H
    have H := H1
    clear H1
    by_cases c6 : (l0.length : Int) > 4096
    ·rw [if_pos c6] at H
     have c6b0 : decide (4096 < (l0.length : Int)) = true := decide_eq_true c6
     have c6b1 : decide (4096 < l0.length) = true := decide_eq_true (by omega)
     clear c6
     simp only [Option.some.injEq, Prod.mk.injEq] at H
     obtain ⟨rfl, rfl, rfl⟩ := H
     go_wp2
     repeat (go_quiet (fail); try go_wp2)
     go_ret3
     exact ⟨_, by first | rfl | (simp [errW_none, errW_some] <;> rfl) | (simp [*, errW_none, errW_some] <;> rfl), by first | exact Kd.S_nil _ _ _ _ _ | exact Kd.N_nil _ _ _ _ _ | exact Kd.V_nil _ _ _ _ _ | exact Kd.Q_nil _ _ _ _ _ | exact Kd.R_nil _ _ _ _ _, by repeat (first | (with_reducible first | exact HB.out | apply below_alloc | apply pw_below_drewN | apply below_drew1) | exact HB.out)⟩
    ·rw [if_neg c6] at H
     have c6b0 : decide (4096 < (l0.length : Int)) = false := decide_eq_false c6
     have c6b1 : decide (4096 < l0.length) = false := decide_eq_false (by omega)
     clear c6
     have H' := Aside0.mk H
     clear H
     go_wp2
     repeat (go_quiet (fail); try go_wp2)
     go_loopg [7, 8] kj2 (fun kq v7 v8 w' => ∃ (x7_2 : List (S99)) (x8_2 : Int), v8 = .int .i64 x8_2 ∧ Aside0 (barscanref16_Best.l0 kq l0 a1 x7_2 x8_2 = some (r1, r2, r3)) ∧ Aside0 (kq ≤ kj2) ∧ Aside0 (Kd.R k99 99 w' w.heap.size (fun _ => True) v7 x7_2) ∧ Aside0 (Below w.heap.size w w'))
     case atStart => exact ⟨(([] : List (S99))), (0), (by first | rfl | (simp; done) | (simp [*]; done) | (simp [i64_w]; done)), H', ⟨Nat.le_refl _⟩, ⟨by first | exact Kd.R_nil _ _ _ _ _ | exact Kd.N_nil _ _ _ _ _ | exact Kd.V_nil _ _ _ _ _ | exact Kd.Q_nil _ _ _ _ _ | exact Kd.S_nil _ _ _ _ _⟩, ⟨by repeat (first | (with_reducible first | exact HB.out | apply below_alloc | apply pw_below_drewN | apply below_drew1) | exact HB.out)⟩⟩
     case round =>
      clear H'
      try clear c2
      try clear p2
      try clear c4
      try clear c4b0
      try clear c5
      try clear c6
      try clear c6b0
      try clear c6b1
      try clear p2
      obtain ⟨x7_2, x8_2, rfl, HA, HK2, HO_7, HB⟩ := hrel
      cases gk with
      | zero => exact absurd HA.out (by simp [barscanref16_Best.l0])
      | succ k2 =>
       have H := HA.out
       clear HA
       simp only [barscanref16_Best.l0] at H
       by_cases c7 : x8_2 ≤ (l0.length : Int)
       ·rw [if_pos c7] at H
        have c7b0 : decide (x8_2 ≤ (l0.length : Int)) = true := decide_eq_true c7
        clear c7
        by_cases c8 : x7_2.length < 4398046511104
        ·rw [if_pos c8] at H
         have LMc8 := Aside0.mk c8
         clear c8
         obtain ⟨y196, hy196⟩ : ∃ y_ : List (S99), y_ = (x7_2 ++ [(⟨0, 0, 0, 0⟩ : S99)]) := ⟨_, rfl⟩
         replace H : (barscanref16_Best.l0 k2 l0 a1 y196 (wrap64 (x8_2 + 1))) = some (r1, r2, r3) := by first | (rw [hy196]; with_reducible exact H) | (have H2_ := (Option.bind_some _ _).symm.trans H; rw [hy196]; with_reducible exact H2_) | (have H2_ := (Option.bind_some _ _).symm.trans H; with_reducible exact H2_) | with_reducible exact H | (rw [hy196]; exact H) | exact H
         have Ny196 := Aside0.mk hy196
         clear hy196
         have H' := Aside0.mk H
         clear H
         go_wp2_with (first | ((with_reducible refine gate_builtin (b := .append) (xs := #[.tmp 28, .tmp 30]) rfl ?_); at_builtin; refine Kd.R_append k99 (w0 := w) w.heap.size rfl (.tmp 28) (.tmp 30) 97 99 (.agg #[(.int .i64 0), (.int .i64 0), (.int .i64 0), (.int .i64 0)]) 32 rfl Try.underlying97 info99 rfl (by decide) (by omega) u7 x7_2 (⟨0, 0, 0, 0⟩ : S99) [.int .i64 0, .int .i64 0, .int .i64 0, .int .i64 0] (fun _ => True) (fun _ => False) rfl rfl ?aP (fun _ hk => hk.elim) ?aF ?aO ?aB ?aS ?aL ?_; (case aP => exact k99_mkM _ _ _ (⟨0, 0, 0, 0⟩ : S99)); (case aB => exact (by repeat (first | (with_reducible first | exact HB.out | apply below_alloc | apply pw_below_drewN | apply below_drew1) | exact HB.out))); (case aF => exact (fun _ _ => trivial)); (case aO => exact (by (with_reducible repeat (first | apply Kd.R_alloc | apply Kd.R_drewN | apply Kd.R_drew)); exact HO_7.out)); (case aS => exact (below_size (by repeat (first | (with_reducible first | exact HB.out | apply below_alloc | apply pw_below_drewN | apply below_drew1) | exact HB.out)))); (case aL => have := LMc8.out; omega); intro v197 w9 ho hb hg hat; rw [← Ny196.out] at ho; have n0_ := Aside0.mk (hb); have n1_ := Aside0.mk (ho); clear HB; clear HO_7; have HB := n0_; have HO198 := n1_; clear n0_ n1_; clear ho hb hg hat))
         repeat (go_quiet (first | ((with_reducible refine gate_builtin (b := .append) (xs := #[.tmp 28, .tmp 30]) rfl ?_); at_builtin; refine Kd.R_append k99 (w0 := w) w.heap.size rfl (.tmp 28) (.tmp 30) 97 99 (.agg #[(.int .i64 0), (.int .i64 0), (.int .i64 0), (.int .i64 0)]) 32 rfl Try.underlying97 info99 rfl (by decide) (by omega) u7 x7_2 (⟨0, 0, 0, 0⟩ : S99) [.int .i64 0, .int .i64 0, .int .i64 0, .int .i64 0] (fun _ => True) (fun _ => False) rfl rfl ?aP (fun _ hk => hk.elim) ?aF ?aO ?aB ?aS ?aL ?_; (case aP => exact k99_mkM _ _ _ (⟨0, 0, 0, 0⟩ : S99)); (case aB => exact (by repeat (first | (with_reducible first | exact HB.out | apply below_alloc | apply pw_below_drewN | apply below_drew1) | exact HB.out))); (case aF => exact (fun _ _ => trivial)); (case aO => exact (by (with_reducible repeat (first | apply Kd.R_alloc | apply Kd.R_drewN | apply Kd.R_drew)); exact HO_7.out)); (case aS => exact (below_size (by repeat (first | (with_reducible first | exact HB.out | apply below_alloc | apply pw_below_drewN | apply below_drew1) | exact HB.out)))); (case aL => have := LMc8.out; omega); intro v197 w9 ho hb hg hat; rw [← Ny196.out] at ho; have n0_ := Aside0.mk (hb); have n1_ := Aside0.mk (ho); clear HB; clear HO_7; have HB := n0_; have HO198 := n1_; clear n0_ n1_; clear ho hb hg hat)); try go_wp2_with (first | ((with_reducible refine gate_builtin (b := .append) (xs := #[.tmp 28, .tmp 30]) rfl ?_); at_builtin; refine Kd.R_append k99 (w0 := w) w.heap.size rfl (.tmp 28) (.tmp 30) 97 99 (.agg #[(.int .i64 0), (.int .i64 0), (.int .i64 0), (.int .i64 0)]) 32 rfl Try.underlying97 info99 rfl (by decide) (by omega) u7 x7_2 (⟨0, 0, 0, 0⟩ : S99) [.int .i64 0, .int .i64 0, .int .i64 0, .int .i64 0] (fun _ => True) (fun _ => False) rfl rfl ?aP (fun _ hk => hk.elim) ?aF ?aO ?aB ?aS ?aL ?_; (case aP => exact k99_mkM _ _ _ (⟨0, 0, 0, 0⟩ : S99)); (case aB => exact (by repeat (first | (with_reducible first | exact HB.out | apply below_alloc | apply pw_below_drewN | apply below_drew1) | exact HB.out))); (case aF => exact (fun _ _ => trivial)); (case aO => exact (by (with_reducible repeat (first | apply Kd.R_alloc | apply Kd.R_drewN | apply Kd.R_drew)); exact HO_7.out)); (case aS => exact (below_size (by repeat (first | (with_reducible first | exact HB.out | apply below_alloc | apply pw_below_drewN | apply below_drew1) | exact HB.out)))); (case aL => have := LMc8.out; omega); intro v197 w9 ho hb hg hat; rw [← Ny196.out] at ho; have n0_ := Aside0.mk (hb); have n1_ := Aside0.mk (ho); clear HB; clear HO_7; have HB := n0_; have HO198 := n1_; clear n0_ n1_; clear ho hb hg hat)))
         go_roundg k2
         case measure => have := HJ2.out; have := HK2.out; omega
         case rel => exact ⟨(y196), (wrap64 (x8_2 + 1)), (by first | rfl | (simp; done) | (simp [*]; done) | (simp [i64_w]; done)), H', ⟨by have := HJ2.out; have := HK2.out; omega⟩, ⟨by (with_reducible repeat (first | apply Kd.R_alloc | apply Kd.R_drewN | apply Kd.R_drew)); exact HO198.out⟩, ⟨by repeat (first | (with_reducible first | exact HB.out | apply below_alloc | apply pw_below_drewN | apply below_drew1) | exact HB.out)⟩⟩
        ·rw [if_neg c8] at H
         exact absurd H (by simp)
       ·rw [if_neg c7] at H
        have c7b0 : decide (x8_2 ≤ (l0.length : Int)) = false := decide_eq_false c7
        clear c7
        have H' := Aside0.mk H
        clear H
        go_wp2
        repeat (go_quiet (fail); try go_wp2)
        go_loopg [9] k2 (fun kq v9 w' => ∃ (x7_3 : List (S99)) (x9_3 : Int), v9 = .int .i64 x9_3 ∧ Aside0 (barscanref16_Best.l1 kq l0 a1 x7_3 x9_3 = some (r1, r2, r3)) ∧ Aside0 (kq ≤ k2) ∧ Aside0 (Kd.R k99 99 w' w.heap.size (fun _ => True) u7 x7_3) ∧ Aside0 (Below w.heap.size w w'))
        case atStart => exact ⟨(x7_2), (wrap64 ((l0.length : Int) - 1)), (by first | rfl | (simp; done) | (simp [*]; done) | (simp [i64_w]; done)), H', ⟨Nat.le_refl _⟩, ⟨by (with_reducible repeat (first | apply Kd.R_alloc | apply Kd.R_drewN | apply Kd.R_drew)); exact HO_7.out⟩, ⟨by repeat (first | (with_reducible first | exact HB.out | apply below_alloc | apply pw_below_drewN | apply below_drew1) | exact HB.out)⟩⟩
        case round =>
         clear H'
         try clear c2
         try clear p2
         try clear c4
         try clear c4b0
         try clear c5
         try clear c6
         try clear c6b0
         try clear c6b1
         try clear p6
         try clear c7
         try clear c7b0
         try clear c8
         try clear p2
         obtain ⟨x7_3, x9_3, rfl, HA, HK3, HO_7, HB⟩ := hrel
         cases gk with
         | zero => exact absurd HA.out (by simp [barscanref16_Best.l1])
         | succ k3 =>
          have H := HA.out
          clear HA
          simp only [barscanref16_Best.l1] at H
          by_cases c10 : x9_3 ≥ 0
          ·rw [if_pos c10] at H
           have c10b0 : decide (0 ≤ x9_3) = true := decide_eq_true c10
           clear c10
           replace H := Option.bind_eq_some_iff.mp H
           obtain ⟨⟨t199, t200, t201, t202⟩, A110, H⟩ := H
           replace H : (if 0 ≤ x9_3 then (if x9_3 < (x7_3.length : Int) then (barscanref16_Best.l1 k3 l0 a1 (x7_3.set (x9_3 : Int).toNat (⟨t199, t200, t201, t202⟩ : S99)) (wrap64 (x9_3 - 1))) else (none)) else (none)) = some (r1, r2, r3) := H
           have A11 := Aside0.mk A110
           clear A110
           by_cases c12 : 0 ≤ x9_3
           ·rw [if_pos c12] at H
            have c12b0 : decide (0 ≤ x9_3) = true := decide_eq_true c12
            clear c12
            by_cases c13 : x9_3 < (x7_3.length : Int)
            ·rw [if_pos c13] at H
             have c13b0 : decide (x9_3 < (x7_3.length : Int)) = true := decide_eq_true c13
             clear c13
             obtain ⟨y203, hy203⟩ : ∃ y_ : List (S99), y_ = (x7_3.set (x9_3 : Int).toNat (⟨t199, t200, t201, t202⟩ : S99)) := ⟨_, rfl⟩
             replace H : (barscanref16_Best.l1 k3 l0 a1 y203 (wrap64 (x9_3 - 1))) = some (r1, r2, r3) := by first | (rw [hy203]; with_reducible exact H) | (have H2_ := (Option.bind_some _ _).symm.trans H; rw [hy203]; with_reducible exact H2_) | (have H2_ := (Option.bind_some _ _).symm.trans H; with_reducible exact H2_) | with_reducible exact H | (rw [hy203]; exact H) | exact H
             have Ny203 := Aside0.mk hy203
             clear hy203
             have H' := Aside0.mk H
             clear H
             obtain ⟨Ao15, co15, eo15⟩ := Kd.R_slice HO_7.out
             subst eo15
             go_wp2_with (first | (go_at_call 68; (with_reducible refine (barscanref16_first.calls k3 _ _ l0 x9_3 a1 _ _ x7_3 t199 t200 t201 t202 _ ?side1 ?side2 ?side3 ?side4 A11.out).mono ?_); (case side1 => repeat (first | exact (Kd.C_below HR0.out HB.out) | (with_reducible refine Kd.C_alloc ?_ _) | (with_reducible refine Kd.C_drewN ?_ _) | (with_reducible refine Kd.C_drew ?_))); (case side2 => exact HC0.out); (case side3 => repeat (first | exact (Kd.R_reads' HO_7.out).2.2 | (with_reducible refine Kd.C_alloc ?_ _) | (with_reducible refine Kd.C_drewN ?_ _) | (with_reducible refine Kd.C_drew ?_))); (case side4 => exact (Kd.R_reads' HO_7.out).2.1); rintro e w16 ⟨rfl, hb⟩; have n0_ := Aside0.mk (Kd.R_below (by (with_reducible repeat (first | apply Kd.R_alloc | apply Kd.R_drewN | apply Kd.R_drew)); exact HO_7.out) hb); have n1_ := Aside0.mk (below_step (by repeat (first | (with_reducible first | exact HB.out | apply below_alloc | apply pw_below_drewN | apply below_drew1) | exact HB.out)) hb); clear HO_7; clear HB; have HO_7 := n0_; have HB := n1_; clear n0_ n1_; (try clear hb); (try clear hb2); (try clear hk); (try clear hi); have p14 : 0 ≤ (x9_3 : Int) := of_decide_eq_true (by first | (with_reducible assumption) | assumption); have q14 : (x9_3 : Int) < ((x7_3.length : Int) : Int) := of_decide_eq_true (by first | (with_reducible assumption) | assumption); obtain ⟨go14, co14, eo14, gb14, gl14, cl14, HG14⟩ := Kd.R_form HO_7.out (by omega); (first | cases eo14 | (injection eo14 with ea_ en_ ec_; (first | subst ea_ | (injection ea_ with ea_; subst ea_)); subst ec_; clear en_)); have GB14 := Aside0.mk gb14; have GG14 := Aside0.mk HG14; clear gb14 gl14 HG14; obtain ⟨ce14, hcl14, hM14, hcc14, hfr14⟩ := Kd.R_elem HO_7.out z99 (x9_3 : Int) p14 q14; obtain rfl := k99_openM hM14; have hx14_0 : w16.cell? ⟨go14, (x9_3 : Int).toNat * 4, none⟩ = some (.int .i64 ((rd_T99 x7_3 x9_3).f0)) := hcc14 0 _ rfl; have hx14_1 : w16.cell? ⟨go14, (x9_3 : Int).toNat * 4 + 1, none⟩ = some (.int .i64 ((rd_T99 x7_3 x9_3).f1)) := hcc14 1 _ rfl; have hx14_2 : w16.cell? ⟨go14, (x9_3 : Int).toNat * 4 + 2, none⟩ = some (.int .i64 ((rd_T99 x7_3 x9_3).f2)) := hcc14 2 _ rfl; have hx14_3 : w16.cell? ⟨go14, (x9_3 : Int).toNat * 4 + 3, none⟩ = some (.int .i64 ((rd_T99 x7_3 x9_3).f3)) := hcc14 3 _ rfl; have hf14_0 : w16.frozen? ⟨go14, (x9_3 : Int).toNat * 4, none⟩ = false := hfr14 0; have hf14_1 : w16.frozen? ⟨go14, (x9_3 : Int).toNat * 4 + 1, none⟩ = false := hfr14 1; have hf14_2 : w16.frozen? ⟨go14, (x9_3 : Int).toNat * 4 + 2, none⟩ = false := hfr14 2; have hf14_3 : w16.frozen? ⟨go14, (x9_3 : Int).toNat * 4 + 3, none⟩ = false := hfr14 3; clear hcl14 hcc14 hfr14 hM14; replace p14 := eq_true p14; replace q14 := eq_true q14; have HX17 := Aside0.mk (show Kd.R k99 99 w16 w.heap.size (fun _ => True) (.slice (some ⟨go14, 0, none⟩) x7_3.length co15) x7_3 from (by (with_reducible repeat (first | apply Kd.R_alloc | apply Kd.R_drewN | apply Kd.R_drew)); exact HO_7.out)); obtain ⟨ce17, hcl17, hM17, hcc17, hfr17⟩ := Kd.R_elem HX17.out z99 (x9_3 : Int) (of_decide_eq_true (by first | (with_reducible assumption) | assumption)) (by have h_ : (x9_3 : Int) < ((x7_3.length : Int) : Int) := of_decide_eq_true (by first | (with_reducible assumption) | assumption); first | exact h_ | (have e_ := (Kd.R_reads' HO_7.out).1; omega) | simpa using h_); obtain rfl := k99_openM hM17; have HP17 := Kd.R_seg HX17.out (x9_3 : Int) (of_decide_eq_true (by first | (with_reducible assumption) | assumption)) (by have h_ : (x9_3 : Int) < ((x7_3.length : Int) : Int) := of_decide_eq_true (by first | (with_reducible assumption) | assumption); first | exact h_ | (have e_ := (Kd.R_reads' HO_7.out).1; omega) | simpa using h_) (seg := [.int .i64 t199, .int .i64 t200, .int .i64 t201, .int .i64 t202]) (j := 0) hcl17 hcc17 (show 4 ≤ 4 from by decide) (x' := (⟨t199, t200, t201, t202⟩ : S99)) (k99_mkM _ _ _ (⟨t199, t200, t201, t202⟩ : S99) ) (fun _ hk => hk); have hx17_0 := hcc17 0 _ rfl; (try simp only [show (k99).sz = 4 from rfl, Nat.mul_one, Nat.add_zero] at hx17_0); have hf17_0 := hfr17 0; (try simp only [show (k99).sz = 4 from rfl, Nat.mul_one, Nat.add_zero] at hf17_0); have hx17_1 := hcc17 1 _ rfl; (try simp only [show (k99).sz = 4 from rfl, Nat.mul_one, Nat.add_zero] at hx17_1); have hf17_1 := hfr17 1; (try simp only [show (k99).sz = 4 from rfl, Nat.mul_one, Nat.add_zero] at hf17_1); have hx17_2 := hcc17 2 _ rfl; (try simp only [show (k99).sz = 4 from rfl, Nat.mul_one, Nat.add_zero] at hx17_2); have hf17_2 := hfr17 2; (try simp only [show (k99).sz = 4 from rfl, Nat.mul_one, Nat.add_zero] at hf17_2); have hx17_3 := hcc17 3 _ rfl; (try simp only [show (k99).sz = 4 from rfl, Nat.mul_one, Nat.add_zero] at hx17_3); have hf17_3 := hfr17 3; (try simp only [show (k99).sz = 4 from rfl, Nat.mul_one, Nat.add_zero] at hf17_3); clear hcl17 hcc17 hfr17 hM17) | ((with_reducible refine gate_store (t := 99) (p := 46) rfl ?_); (try (rw [drewN_self w16]; generalize hq_ : World.drewN w16 _ = w16; have n0_ := Aside0.mk (Kd.R_at hq_ HO_7.out); have n1_ := Aside0.mk (below_at hq_ HB.out); clear hq_ HO_7 HB; have HO_7 := n0_; have HB := n1_; clear n0_ n1_; (try (have HX17 := Aside0.mk (show Kd.R k99 99 w16 w.heap.size (fun _ => True) (.slice (some ⟨go14, 0, none⟩) x7_3.length co15) x7_3 from (by (with_reducible repeat (first | apply Kd.R_alloc | apply Kd.R_drewN | apply Kd.R_drew)); exact HO_7.out)))); (try (obtain ⟨ce17, hcl17, hM17, hcc17, hfr17⟩ := Kd.R_elem HX17.out z99 (x9_3 : Int) (of_decide_eq_true (by first | (with_reducible assumption) | assumption)) (by have h_ : (x9_3 : Int) < ((x7_3.length : Int) : Int) := of_decide_eq_true (by first | (with_reducible assumption) | assumption); first | exact h_ | (have e_ := (Kd.R_reads' HO_7.out).1; omega) | simpa using h_))); (try (obtain rfl := k99_openM hM17)); (try (have HP17 := Kd.R_seg HX17.out (x9_3 : Int) (of_decide_eq_true (by first | (with_reducible assumption) | assumption)) (by have h_ : (x9_3 : Int) < ((x7_3.length : Int) : Int) := of_decide_eq_true (by first | (with_reducible assumption) | assumption); first | exact h_ | (have e_ := (Kd.R_reads' HO_7.out).1; omega) | simpa using h_) (seg := [.int .i64 t199, .int .i64 t200, .int .i64 t201, .int .i64 t202]) (j := 0) hcl17 hcc17 (show 4 ≤ 4 from by decide) (x' := (⟨t199, t200, t201, t202⟩ : S99)) (k99_mkM _ _ _ (⟨t199, t200, t201, t202⟩ : S99) ) (fun _ hk => hk))); (try (have hx17_0 := hcc17 0 _ rfl)); (try (try simp only [show (k99).sz = 4 from rfl, Nat.mul_one, Nat.add_zero] at hx17_0)); (try (have hf17_0 := hfr17 0)); (try (try simp only [show (k99).sz = 4 from rfl, Nat.mul_one, Nat.add_zero] at hf17_0)); (try (have hx17_1 := hcc17 1 _ rfl)); (try (try simp only [show (k99).sz = 4 from rfl, Nat.mul_one, Nat.add_zero] at hx17_1)); (try (have hf17_1 := hfr17 1)); (try (try simp only [show (k99).sz = 4 from rfl, Nat.mul_one, Nat.add_zero] at hf17_1)); (try (have hx17_2 := hcc17 2 _ rfl)); (try (try simp only [show (k99).sz = 4 from rfl, Nat.mul_one, Nat.add_zero] at hx17_2)); (try (have hf17_2 := hfr17 2)); (try (try simp only [show (k99).sz = 4 from rfl, Nat.mul_one, Nat.add_zero] at hf17_2)); (try (have hx17_3 := hcc17 3 _ rfl)); (try (try simp only [show (k99).sz = 4 from rfl, Nat.mul_one, Nat.add_zero] at hx17_3)); (try (have hf17_3 := hfr17 3)); (try (try simp only [show (k99).sz = 4 from rfl, Nat.mul_one, Nat.add_zero] at hf17_3)); (try (clear hcl17 hcc17 hfr17 hM17)))); refine store_event (t := 99) (p := 46) (v := ?vo_w18) (w1 := ((((w16.setCell ⟨go14, (x9_3 : Int).toNat * 4, none⟩ (.int .i64 t199)).setCell ⟨go14, (x9_3 : Int).toNat * 4 + 1, none⟩ (.int .i64 t200)).setCell ⟨go14, (x9_3 : Int).toNat * 4 + 2, none⟩ (.int .i64 t201)).setCell ⟨go14, (x9_3 : Int).toNat * 4 + 3, none⟩ (.int .i64 t202))) ?hg ?ho ?hn ?hr ?_; (case ho => rfl); (case hg => rfl); (case hn => rfl); (case hr => first | (go_simp; done) | (go_simp; rfl)); intro w18 hw; have hg : w16.grownBy w18 (some go14) := (by rw [hw]; exact HP17.2); have hp_ : Kd.R k99 99 w18 w.heap.size (fun _ => True) (.slice (some ⟨go14, 0, none⟩) x7_3.length co15) y203 := (by rw [hw, Ny203.out]; exact HP17.1); clear HP17; have n0_ := Aside0.mk (hp_); have n1_ := Aside0.mk ((by rw [hw]; exact below_set (below_set (below_set (below_set (HB.out) GB14.out) GB14.out) GB14.out) GB14.out : Below w.heap.size w w18)); clear HO_7; clear HB; have HO_7 := n0_; have HB := n1_; clear n0_ n1_; clear hg hw hp_))
             repeat (go_quiet (first | (go_at_call 68; (with_reducible refine (barscanref16_first.calls k3 _ _ l0 x9_3 a1 _ _ x7_3 t199 t200 t201 t202 _ ?side1 ?side2 ?side3 ?side4 A11.out).mono ?_); (case side1 => repeat (first | exact (Kd.C_below HR0.out HB.out) | (with_reducible refine Kd.C_alloc ?_ _) | (with_reducible refine Kd.C_drewN ?_ _) | (with_reducible refine Kd.C_drew ?_))); (case side2 => exact HC0.out); (case side3 => repeat (first | exact (Kd.R_reads' HO_7.out).2.2 | (with_reducible refine Kd.C_alloc ?_ _) | (with_reducible refine Kd.C_drewN ?_ _) | (with_reducible refine Kd.C_drew ?_))); (case side4 => exact (Kd.R_reads' HO_7.out).2.1); rintro e w16 ⟨rfl, hb⟩; have n0_ := Aside0.mk (Kd.R_below (by (with_reducible repeat (first | apply Kd.R_alloc | apply Kd.R_drewN | apply Kd.R_drew)); exact HO_7.out) hb); have n1_ := Aside0.mk (below_step (by repeat (first | (with_reducible first | exact HB.out | apply below_alloc | apply pw_below_drewN | apply below_drew1) | exact HB.out)) hb); clear HO_7; clear HB; have HO_7 := n0_; have HB := n1_; clear n0_ n1_; (try clear hb); (try clear hb2); (try clear hk); (try clear hi); have p14 : 0 ≤ (x9_3 : Int) := of_decide_eq_true (by first | (with_reducible assumption) | assumption); have q14 : (x9_3 : Int) < ((x7_3.length : Int) : Int) := of_decide_eq_true (by first | (with_reducible assumption) | assumption); obtain ⟨go14, co14, eo14, gb14, gl14, cl14, HG14⟩ := Kd.R_form HO_7.out (by omega); (first | cases eo14 | (injection eo14 with ea_ en_ ec_; (first | subst ea_ | (injection ea_ with ea_; subst ea_)); subst ec_; clear en_)); have GB14 := Aside0.mk gb14; have GG14 := Aside0.mk HG14; clear gb14 gl14 HG14; obtain ⟨ce14, hcl14, hM14, hcc14, hfr14⟩ := Kd.R_elem HO_7.out z99 (x9_3 : Int) p14 q14; obtain rfl := k99_openM hM14; have hx14_0 : w16.cell? ⟨go14, (x9_3 : Int).toNat * 4, none⟩ = some (.int .i64 ((rd_T99 x7_3 x9_3).f0)) := hcc14 0 _ rfl; have hx14_1 : w16.cell? ⟨go14, (x9_3 : Int).toNat * 4 + 1, none⟩ = some (.int .i64 ((rd_T99 x7_3 x9_3).f1)) := hcc14 1 _ rfl; have hx14_2 : w16.cell? ⟨go14, (x9_3 : Int).toNat * 4 + 2, none⟩ = some (.int .i64 ((rd_T99 x7_3 x9_3).f2)) := hcc14 2 _ rfl; have hx14_3 : w16.cell? ⟨go14, (x9_3 : Int).toNat * 4 + 3, none⟩ = some (.int .i64 ((rd_T99 x7_3 x9_3).f3)) := hcc14 3 _ rfl; have hf14_0 : w16.frozen? ⟨go14, (x9_3 : Int).toNat * 4, none⟩ = false := hfr14 0; have hf14_1 : w16.frozen? ⟨go14, (x9_3 : Int).toNat * 4 + 1, none⟩ = false := hfr14 1; have hf14_2 : w16.frozen? ⟨go14, (x9_3 : Int).toNat * 4 + 2, none⟩ = false := hfr14 2; have hf14_3 : w16.frozen? ⟨go14, (x9_3 : Int).toNat * 4 + 3, none⟩ = false := hfr14 3; clear hcl14 hcc14 hfr14 hM14; replace p14 := eq_true p14; replace q14 := eq_true q14; have HX17 := Aside0.mk (show Kd.R k99 99 w16 w.heap.size (fun _ => True) (.slice (some ⟨go14, 0, none⟩) x7_3.length co15) x7_3 from (by (with_reducible repeat (first | apply Kd.R_alloc | apply Kd.R_drewN | apply Kd.R_drew)); exact HO_7.out)); obtain ⟨ce17, hcl17, hM17, hcc17, hfr17⟩ := Kd.R_elem HX17.out z99 (x9_3 : Int) (of_decide_eq_true (by first | (with_reducible assumption) | assumption)) (by have h_ : (x9_3 : Int) < ((x7_3.length : Int) : Int) := of_decide_eq_true (by first | (with_reducible assumption) | assumption); first | exact h_ | (have e_ := (Kd.R_reads' HO_7.out).1; omega) | simpa using h_); obtain rfl := k99_openM hM17; have HP17 := Kd.R_seg HX17.out (x9_3 : Int) (of_decide_eq_true (by first | (with_reducible assumption) | assumption)) (by have h_ : (x9_3 : Int) < ((x7_3.length : Int) : Int) := of_decide_eq_true (by first | (with_reducible assumption) | assumption); first | exact h_ | (have e_ := (Kd.R_reads' HO_7.out).1; omega) | simpa using h_) (seg := [.int .i64 t199, .int .i64 t200, .int .i64 t201, .int .i64 t202]) (j := 0) hcl17 hcc17 (show 4 ≤ 4 from by decide) (x' := (⟨t199, t200, t201, t202⟩ : S99)) (k99_mkM _ _ _ (⟨t199, t200, t201, t202⟩ : S99) ) (fun _ hk => hk); have hx17_0 := hcc17 0 _ rfl; (try simp only [show (k99).sz = 4 from rfl, Nat.mul_one, Nat.add_zero] at hx17_0); have hf17_0 := hfr17 0; (try simp only [show (k99).sz = 4 from rfl, Nat.mul_one, Nat.add_zero] at hf17_0); have hx17_1 := hcc17 1 _ rfl; (try simp only [show (k99).sz = 4 from rfl, Nat.mul_one, Nat.add_zero] at hx17_1); have hf17_1 := hfr17 1; (try simp only [show (k99).sz = 4 from rfl, Nat.mul_one, Nat.add_zero] at hf17_1); have hx17_2 := hcc17 2 _ rfl; (try simp only [show (k99).sz = 4 from rfl, Nat.mul_one, Nat.add_zero] at hx17_2); have hf17_2 := hfr17 2; (try simp only [show (k99).sz = 4 from rfl, Nat.mul_one, Nat.add_zero] at hf17_2); have hx17_3 := hcc17 3 _ rfl; (try simp only [show (k99).sz = 4 from rfl, Nat.mul_one, Nat.add_zero] at hx17_3); have hf17_3 := hfr17 3; (try simp only [show (k99).sz = 4 from rfl, Nat.mul_one, Nat.add_zero] at hf17_3); clear hcl17 hcc17 hfr17 hM17) | ((with_reducible refine gate_store (t := 99) (p := 46) rfl ?_); (try (rw [drewN_self w16]; generalize hq_ : World.drewN w16 _ = w16; have n0_ := Aside0.mk (Kd.R_at hq_ HO_7.out); have n1_ := Aside0.mk (below_at hq_ HB.out); clear hq_ HO_7 HB; have HO_7 := n0_; have HB := n1_; clear n0_ n1_; (try (have HX17 := Aside0.mk (show Kd.R k99 99 w16 w.heap.size (fun _ => True) (.slice (some ⟨go14, 0, none⟩) x7_3.length co15) x7_3 from (by (with_reducible repeat (first | apply Kd.R_alloc | apply Kd.R_drewN | apply Kd.R_drew)); exact HO_7.out)))); (try (obtain ⟨ce17, hcl17, hM17, hcc17, hfr17⟩ := Kd.R_elem HX17.out z99 (x9_3 : Int) (of_decide_eq_true (by first | (with_reducible assumption) | assumption)) (by have h_ : (x9_3 : Int) < ((x7_3.length : Int) : Int) := of_decide_eq_true (by first | (with_reducible assumption) | assumption); first | exact h_ | (have e_ := (Kd.R_reads' HO_7.out).1; omega) | simpa using h_))); (try (obtain rfl := k99_openM hM17)); (try (have HP17 := Kd.R_seg HX17.out (x9_3 : Int) (of_decide_eq_true (by first | (with_reducible assumption) | assumption)) (by have h_ : (x9_3 : Int) < ((x7_3.length : Int) : Int) := of_decide_eq_true (by first | (with_reducible assumption) | assumption); first | exact h_ | (have e_ := (Kd.R_reads' HO_7.out).1; omega) | simpa using h_) (seg := [.int .i64 t199, .int .i64 t200, .int .i64 t201, .int .i64 t202]) (j := 0) hcl17 hcc17 (show 4 ≤ 4 from by decide) (x' := (⟨t199, t200, t201, t202⟩ : S99)) (k99_mkM _ _ _ (⟨t199, t200, t201, t202⟩ : S99) ) (fun _ hk => hk))); (try (have hx17_0 := hcc17 0 _ rfl)); (try (try simp only [show (k99).sz = 4 from rfl, Nat.mul_one, Nat.add_zero] at hx17_0)); (try (have hf17_0 := hfr17 0)); (try (try simp only [show (k99).sz = 4 from rfl, Nat.mul_one, Nat.add_zero] at hf17_0)); (try (have hx17_1 := hcc17 1 _ rfl)); (try (try simp only [show (k99).sz = 4 from rfl, Nat.mul_one, Nat.add_zero] at hx17_1)); (try (have hf17_1 := hfr17 1)); (try (try simp only [show (k99).sz = 4 from rfl, Nat.mul_one, Nat.add_zero] at hf17_1)); (try (have hx17_2 := hcc17 2 _ rfl)); (try (try simp only [show (k99).sz = 4 from rfl, Nat.mul_one, Nat.add_zero] at hx17_2)); (try (have hf17_2 := hfr17 2)); (try (try simp only [show (k99).sz = 4 from rfl, Nat.mul_one, Nat.add_zero] at hf17_2)); (try (have hx17_3 := hcc17 3 _ rfl)); (try (try simp only [show (k99).sz = 4 from rfl, Nat.mul_one, Nat.add_zero] at hx17_3)); (try (have hf17_3 := hfr17 3)); (try (try simp only [show (k99).sz = 4 from rfl, Nat.mul_one, Nat.add_zero] at hf17_3)); (try (clear hcl17 hcc17 hfr17 hM17)))); refine store_event (t := 99) (p := 46) (v := ?vo_w18) (w1 := ((((w16.setCell ⟨go14, (x9_3 : Int).toNat * 4, none⟩ (.int .i64 t199)).setCell ⟨go14, (x9_3 : Int).toNat * 4 + 1, none⟩ (.int .i64 t200)).setCell ⟨go14, (x9_3 : Int).toNat * 4 + 2, none⟩ (.int .i64 t201)).setCell ⟨go14, (x9_3 : Int).toNat * 4 + 3, none⟩ (.int .i64 t202))) ?hg ?ho ?hn ?hr ?_; (case ho => rfl); (case hg => rfl); (case hn => rfl); (case hr => first | (go_simp; done) | (go_simp; rfl)); intro w18 hw; have hg : w16.grownBy w18 (some go14) := (by rw [hw]; exact HP17.2); have hp_ : Kd.R k99 99 w18 w.heap.size (fun _ => True) (.slice (some ⟨go14, 0, none⟩) x7_3.length co15) y203 := (by rw [hw, Ny203.out]; exact HP17.1); clear HP17; have n0_ := Aside0.mk (hp_); have n1_ := Aside0.mk ((by rw [hw]; exact below_set (below_set (below_set (below_set (HB.out) GB14.out) GB14.out) GB14.out) GB14.out : Below w.heap.size w w18)); clear HO_7; clear HB; have HO_7 := n0_; have HB := n1_; clear n0_ n1_; clear hg hw hp_)); try go_wp2_with (first | (go_at_call 68; (with_reducible refine (barscanref16_first.calls k3 _ _ l0 x9_3 a1 _ _ x7_3 t199 t200 t201 t202 _ ?side1 ?side2 ?side3 ?side4 A11.out).mono ?_); (case side1 => repeat (first | exact (Kd.C_below HR0.out HB.out) | (with_reducible refine Kd.C_alloc ?_ _) | (with_reducible refine Kd.C_drewN ?_ _) | (with_reducible refine Kd.C_drew ?_))); (case side2 => exact HC0.out); (case side3 => repeat (first | exact (Kd.R_reads' HO_7.out).2.2 | (with_reducible refine Kd.C_alloc ?_ _) | (with_reducible refine Kd.C_drewN ?_ _) | (with_reducible refine Kd.C_drew ?_))); (case side4 => exact (Kd.R_reads' HO_7.out).2.1); rintro e w16 ⟨rfl, hb⟩; have n0_ := Aside0.mk (Kd.R_below (by (with_reducible repeat (first | apply Kd.R_alloc | apply Kd.R_drewN | apply Kd.R_drew)); exact HO_7.out) hb); have n1_ := Aside0.mk (below_step (by repeat (first | (with_reducible first | exact HB.out | apply below_alloc | apply pw_below_drewN | apply below_drew1) | exact HB.out)) hb); clear HO_7; clear HB; have HO_7 := n0_; have HB := n1_; clear n0_ n1_; (try clear hb); (try clear hb2); (try clear hk); (try clear hi); have p14 : 0 ≤ (x9_3 : Int) := of_decide_eq_true (by first | (with_reducible assumption) | assumption); have q14 : (x9_3 : Int) < ((x7_3.length : Int) : Int) := of_decide_eq_true (by first | (with_reducible assumption) | assumption); obtain ⟨go14, co14, eo14, gb14, gl14, cl14, HG14⟩ := Kd.R_form HO_7.out (by omega); (first | cases eo14 | (injection eo14 with ea_ en_ ec_; (first | subst ea_ | (injection ea_ with ea_; subst ea_)); subst ec_; clear en_)); have GB14 := Aside0.mk gb14; have GG14 := Aside0.mk HG14; clear gb14 gl14 HG14; obtain ⟨ce14, hcl14, hM14, hcc14, hfr14⟩ := Kd.R_elem HO_7.out z99 (x9_3 : Int) p14 q14; obtain rfl := k99_openM hM14; have hx14_0 : w16.cell? ⟨go14, (x9_3 : Int).toNat * 4, none⟩ = some (.int .i64 ((rd_T99 x7_3 x9_3).f0)) := hcc14 0 _ rfl; have hx14_1 : w16.cell? ⟨go14, (x9_3 : Int).toNat * 4 + 1, none⟩ = some (.int .i64 ((rd_T99 x7_3 x9_3).f1)) := hcc14 1 _ rfl; have hx14_2 : w16.cell? ⟨go14, (x9_3 : Int).toNat * 4 + 2, none⟩ = some (.int .i64 ((rd_T99 x7_3 x9_3).f2)) := hcc14 2 _ rfl; have hx14_3 : w16.cell? ⟨go14, (x9_3 : Int).toNat * 4 + 3, none⟩ = some (.int .i64 ((rd_T99 x7_3 x9_3).f3)) := hcc14 3 _ rfl; have hf14_0 : w16.frozen? ⟨go14, (x9_3 : Int).toNat * 4, none⟩ = false := hfr14 0; have hf14_1 : w16.frozen? ⟨go14, (x9_3 : Int).toNat * 4 + 1, none⟩ = false := hfr14 1; have hf14_2 : w16.frozen? ⟨go14, (x9_3 : Int).toNat * 4 + 2, none⟩ = false := hfr14 2; have hf14_3 : w16.frozen? ⟨go14, (x9_3 : Int).toNat * 4 + 3, none⟩ = false := hfr14 3; clear hcl14 hcc14 hfr14 hM14; replace p14 := eq_true p14; replace q14 := eq_true q14; have HX17 := Aside0.mk (show Kd.R k99 99 w16 w.heap.size (fun _ => True) (.slice (some ⟨go14, 0, none⟩) x7_3.length co15) x7_3 from (by (with_reducible repeat (first | apply Kd.R_alloc | apply Kd.R_drewN | apply Kd.R_drew)); exact HO_7.out)); obtain ⟨ce17, hcl17, hM17, hcc17, hfr17⟩ := Kd.R_elem HX17.out z99 (x9_3 : Int) (of_decide_eq_true (by first | (with_reducible assumption) | assumption)) (by have h_ : (x9_3 : Int) < ((x7_3.length : Int) : Int) := of_decide_eq_true (by first | (with_reducible assumption) | assumption); first | exact h_ | (have e_ := (Kd.R_reads' HO_7.out).1; omega) | simpa using h_); obtain rfl := k99_openM hM17; have HP17 := Kd.R_seg HX17.out (x9_3 : Int) (of_decide_eq_true (by first | (with_reducible assumption) | assumption)) (by have h_ : (x9_3 : Int) < ((x7_3.length : Int) : Int) := of_decide_eq_true (by first | (with_reducible assumption) | assumption); first | exact h_ | (have e_ := (Kd.R_reads' HO_7.out).1; omega) | simpa using h_) (seg := [.int .i64 t199, .int .i64 t200, .int .i64 t201, .int .i64 t202]) (j := 0) hcl17 hcc17 (show 4 ≤ 4 from by decide) (x' := (⟨t199, t200, t201, t202⟩ : S99)) (k99_mkM _ _ _ (⟨t199, t200, t201, t202⟩ : S99) ) (fun _ hk => hk); have hx17_0 := hcc17 0 _ rfl; (try simp only [show (k99).sz = 4 from rfl, Nat.mul_one, Nat.add_zero] at hx17_0); have hf17_0 := hfr17 0; (try simp only [show (k99).sz = 4 from rfl, Nat.mul_one, Nat.add_zero] at hf17_0); have hx17_1 := hcc17 1 _ rfl; (try simp only [show (k99).sz = 4 from rfl, Nat.mul_one, Nat.add_zero] at hx17_1); have hf17_1 := hfr17 1; (try simp only [show (k99).sz = 4 from rfl, Nat.mul_one, Nat.add_zero] at hf17_1); have hx17_2 := hcc17 2 _ rfl; (try simp only [show (k99).sz = 4 from rfl, Nat.mul_one, Nat.add_zero] at hx17_2); have hf17_2 := hfr17 2; (try simp only [show (k99).sz = 4 from rfl, Nat.mul_one, Nat.add_zero] at hf17_2); have hx17_3 := hcc17 3 _ rfl; (try simp only [show (k99).sz = 4 from rfl, Nat.mul_one, Nat.add_zero] at hx17_3); have hf17_3 := hfr17 3; (try simp only [show (k99).sz = 4 from rfl, Nat.mul_one, Nat.add_zero] at hf17_3); clear hcl17 hcc17 hfr17 hM17) | ((with_reducible refine gate_store (t := 99) (p := 46) rfl ?_); (try (rw [drewN_self w16]; generalize hq_ : World.drewN w16 _ = w16; have n0_ := Aside0.mk (Kd.R_at hq_ HO_7.out); have n1_ := Aside0.mk (below_at hq_ HB.out); clear hq_ HO_7 HB; have HO_7 := n0_; have HB := n1_; clear n0_ n1_; (try (have HX17 := Aside0.mk (show Kd.R k99 99 w16 w.heap.size (fun _ => True) (.slice (some ⟨go14, 0, none⟩) x7_3.length co15) x7_3 from (by (with_reducible repeat (first | apply Kd.R_alloc | apply Kd.R_drewN | apply Kd.R_drew)); exact HO_7.out)))); (try (obtain ⟨ce17, hcl17, hM17, hcc17, hfr17⟩ := Kd.R_elem HX17.out z99 (x9_3 : Int) (of_decide_eq_true (by first | (with_reducible assumption) | assumption)) (by have h_ : (x9_3 : Int) < ((x7_3.length : Int) : Int) := of_decide_eq_true (by first | (with_reducible assumption) | assumption); first | exact h_ | (have e_ := (Kd.R_reads' HO_7.out).1; omega) | simpa using h_))); (try (obtain rfl := k99_openM hM17)); (try (have HP17 := Kd.R_seg HX17.out (x9_3 : Int) (of_decide_eq_true (by first | (with_reducible assumption) | assumption)) (by have h_ : (x9_3 : Int) < ((x7_3.length : Int) : Int) := of_decide_eq_true (by first | (with_reducible assumption) | assumption); first | exact h_ | (have e_ := (Kd.R_reads' HO_7.out).1; omega) | simpa using h_) (seg := [.int .i64 t199, .int .i64 t200, .int .i64 t201, .int .i64 t202]) (j := 0) hcl17 hcc17 (show 4 ≤ 4 from by decide) (x' := (⟨t199, t200, t201, t202⟩ : S99)) (k99_mkM _ _ _ (⟨t199, t200, t201, t202⟩ : S99) ) (fun _ hk => hk))); (try (have hx17_0 := hcc17 0 _ rfl)); (try (try simp only [show (k99).sz = 4 from rfl, Nat.mul_one, Nat.add_zero] at hx17_0)); (try (have hf17_0 := hfr17 0)); (try (try simp only [show (k99).sz = 4 from rfl, Nat.mul_one, Nat.add_zero] at hf17_0)); (try (have hx17_1 := hcc17 1 _ rfl)); (try (try simp only [show (k99).sz = 4 from rfl, Nat.mul_one, Nat.add_zero] at hx17_1)); (try (have hf17_1 := hfr17 1)); (try (try simp only [show (k99).sz = 4 from rfl, Nat.mul_one, Nat.add_zero] at hf17_1)); (try (have hx17_2 := hcc17 2 _ rfl)); (try (try simp only [show (k99).sz = 4 from rfl, Nat.mul_one, Nat.add_zero] at hx17_2)); (try (have hf17_2 := hfr17 2)); (try (try simp only [show (k99).sz = 4 from rfl, Nat.mul_one, Nat.add_zero] at hf17_2)); (try (have hx17_3 := hcc17 3 _ rfl)); (try (try simp only [show (k99).sz = 4 from rfl, Nat.mul_one, Nat.add_zero] at hx17_3)); (try (have hf17_3 := hfr17 3)); (try (try simp only [show (k99).sz = 4 from rfl, Nat.mul_one, Nat.add_zero] at hf17_3)); (try (clear hcl17 hcc17 hfr17 hM17)))); refine store_event (t := 99) (p := 46) (v := ?vo_w18) (w1 := ((((w16.setCell ⟨go14, (x9_3 : Int).toNat * 4, none⟩ (.int .i64 t199)).setCell ⟨go14, (x9_3 : Int).toNat * 4 + 1, none⟩ (.int .i64 t200)).setCell ⟨go14, (x9_3 : Int).toNat * 4 + 2, none⟩ (.int .i64 t201)).setCell ⟨go14, (x9_3 : Int).toNat * 4 + 3, none⟩ (.int .i64 t202))) ?hg ?ho ?hn ?hr ?_; (case ho => rfl); (case hg => rfl); (case hn => rfl); (case hr => first | (go_simp; done) | (go_simp; rfl)); intro w18 hw; have hg : w16.grownBy w18 (some go14) := (by rw [hw]; exact HP17.2); have hp_ : Kd.R k99 99 w18 w.heap.size (fun _ => True) (.slice (some ⟨go14, 0, none⟩) x7_3.length co15) y203 := (by rw [hw, Ny203.out]; exact HP17.1); clear HP17; have n0_ := Aside0.mk (hp_); have n1_ := Aside0.mk ((by rw [hw]; exact below_set (below_set (below_set (below_set (HB.out) GB14.out) GB14.out) GB14.out) GB14.out : Below w.heap.size w w18)); clear HO_7; clear HB; have HO_7 := n0_; have HB := n1_; clear n0_ n1_; clear hg hw hp_)))
             go_roundg k3
             case measure => have := HJ2.out; have := HK2.out; have := HK3.out; omega
             case rel => exact ⟨(y203), (wrap64 (x9_3 - 1)), (by first | rfl | (simp; done) | (simp [*]; done) | (simp [i64_w]; done)), H', ⟨by have := HJ2.out; have := HK2.out; have := HK3.out; omega⟩, ⟨by (with_reducible repeat (first | apply Kd.R_alloc | apply Kd.R_drewN | apply Kd.R_drew)); exact HO_7.out⟩, ⟨by repeat (first | (with_reducible first | exact HB.out | apply below_alloc | apply pw_below_drewN | apply below_drew1) | exact HB.out)⟩⟩
            ·rw [if_neg c13] at H
             exact absurd H (by simp)
           ·rw [if_neg c12] at H
            exact absurd H (by simp)
          ·rw [if_neg c10] at H
           have c10b0 : decide (0 ≤ x9_3) = false := decide_eq_false c10
           clear c10
           have H' := Aside0.mk H
           clear H
           go_wp2
           repeat (go_quiet (fail); try go_wp2)
           go_loopg [10, 11] k3 (fun kq v10 v11 w' => ∃ (x10_4 : List (S33)) (x11_4 : Int), v11 = .int .i64 x11_4 ∧ Aside0 (barscanref16_Best.l2 kq l0 x7_3 x10_4 x11_4 = some (r1, r2, r3)) ∧ Aside0 (kq ≤ k3) ∧ Aside0 (Kd.R k99 99 w' w.heap.size (fun _ => True) u7 x7_3) ∧ Aside0 (Kd.S k33 33 w' w.heap.size (fun _ => True) v10 x10_4) ∧ Aside0 (Below w.heap.size w w'))
           case atStart => exact ⟨(([] : List (S33))), (0), (by first | rfl | (simp; done) | (simp [*]; done) | (simp [i64_w]; done)), H', ⟨Nat.le_refl _⟩, ⟨by (with_reducible repeat (first | apply Kd.R_alloc | apply Kd.R_drewN | apply Kd.R_drew)); exact HO_7.out⟩, ⟨by first | exact Kd.S_nil _ _ _ _ _ | exact Kd.N_nil _ _ _ _ _ | exact Kd.V_nil _ _ _ _ _ | exact Kd.Q_nil _ _ _ _ _ | exact Kd.R_nil _ _ _ _ _⟩, ⟨by repeat (first | (with_reducible first | exact HB.out | apply below_alloc | apply pw_below_drewN | apply below_drew1) | exact HB.out)⟩⟩
           case round =>
            clear H'
            try clear c1
            try clear p1
            try clear q1
            try clear hx1
            try clear c2
            try clear p2
            try clear c4
            try clear c4b0
            try clear c5
            try clear c6
            try clear c6b0
            try clear c6b1
            try clear p6
            try clear c7
            try clear c7b0
            try clear c8
            try clear c10
            try clear c10b0
            try clear c12
            try clear c12b0
            try clear c13
            try clear c13b0
            try clear c14
            try clear p14
            try clear q14
            try clear hx14
            try clear hf14
            try clear c17
            try clear hx17
            try clear hf17
            try clear hx14_0
            try clear hx14_1
            try clear hx14_2
            try clear hx14_3
            try clear hx17_0
            try clear hx17_1
            try clear hx17_2
            try clear hx17_3
            try clear p14
            try clear p2
            try clear p6
            try clear q14
            obtain ⟨x10_4, x11_4, rfl, HA, HK4, HO_7, HO_10, HB⟩ := hrel
            cases gk with
            | zero => exact absurd HA.out (by simp [barscanref16_Best.l2])
            | succ k4 =>
             have H := HA.out
             clear HA
             simp only [barscanref16_Best.l2] at H
             by_cases c19 : x11_4 < (l0.length : Int)
             ·rw [if_pos c19] at H
              have c19b0 : decide (x11_4 < (l0.length : Int)) = true := decide_eq_true c19
              clear c19
              by_cases c20 : 0 ≤ x11_4
              ·rw [if_pos c20] at H
               have c20b0 : decide (0 ≤ x11_4) = true := decide_eq_true c20
               clear c20
               by_cases c21 : x11_4 < (x7_3.length : Int)
               ·rw [if_pos c21] at H
                have c21b0 : decide (x11_4 < (x7_3.length : Int)) = true := decide_eq_true c21
                clear c21
                have c22b0 := eq_true (of_decide_eq_true (by first | (with_reducible assumption) | assumption) : 0 ≤ x11_4)
                by_cases c23 : x11_4 ≤ (wrap64 (x11_4 + ((rd_T99 x7_3 x11_4).f2)))
                ·rw [if_pos c23] at H
                 have c23b0 := eq_true c23
                 have c23b1 : decide (x11_4 ≤ (wrap64 (x11_4 + ((rd_T99 x7_3 x11_4).f2)))) = true := decide_eq_true c23
                 by_cases c24 : (wrap64 (x11_4 + ((rd_T99 x7_3 x11_4).f2))) ≤ (l0.length : Int)
                 ·rw [if_pos c24] at H
                  have c24b0 := eq_true c24
                  have c24b1 : decide ((wrap64 (x11_4 + ((rd_T99 x7_3 x11_4).f2))) ≤ (l0.length : Int)) = true := decide_eq_true c24
                  by_cases c25 : ([] : List Int).length + ((l0.take ((wrap64 (x11_4 + ((rd_T99 x7_3 x11_4).f2))) : Int).toNat).drop (x11_4 : Int).toNat).length < 140737488355328
                  ·rw [if_pos c25] at H
                   have LMc25 := Aside0.mk c25
                   clear c25
                   obtain ⟨y206, hy206⟩ : ∃ y_ : List Int, y_ = (([] : List Int) ++ ((l0.take ((wrap64 (x11_4 + ((rd_T99 x7_3 x11_4).f2))) : Int).toNat).drop (x11_4 : Int).toNat)) := ⟨_, rfl⟩
                   replace H : (if x10_4.length < 4398046511104 then (barscanref16_Best.l2 k4 l0 x7_3 (x10_4 ++ [(⟨(rd_T99 x7_3 x11_4).f3, y206⟩ : S33)]) (wrap64 (x11_4 + ((rd_T99 x7_3 x11_4).f2)))) else (none)) = some (r1, r2, r3) := by first | (rw [hy206]; with_reducible exact H) | (have H2_ := (Option.bind_some _ _).symm.trans H; rw [hy206]; with_reducible exact H2_) | (have H2_ := (Option.bind_some _ _).symm.trans H; with_reducible exact H2_) | with_reducible exact H | (rw [hy206]; exact H) | exact H
                   have Ny206 := Aside0.mk hy206
                   clear hy206
                   by_cases c26 : x10_4.length < 4398046511104
                   ·rw [if_pos c26] at H
                    have LMc26 := Aside0.mk c26
                    clear c26
                    obtain ⟨y210, hy210⟩ : ∃ y_ : List (S33), y_ = (x10_4 ++ [(⟨(rd_T99 x7_3 x11_4).f3, y206⟩ : S33)]) := ⟨_, rfl⟩
                    replace H : (barscanref16_Best.l2 k4 l0 x7_3 y210 (wrap64 (x11_4 + ((rd_T99 x7_3 x11_4).f2)))) = some (r1, r2, r3) := by first | (rw [hy210]; with_reducible exact H) | (have H2_ := (Option.bind_some _ _).symm.trans H; rw [hy210]; with_reducible exact H2_) | (have H2_ := (Option.bind_some _ _).symm.trans H; with_reducible exact H2_) | with_reducible exact H | (rw [hy210]; exact H) | exact H
                    have Ny210 := Aside0.mk hy210
                    clear hy210
                    have H' := Aside0.mk H
                    clear H
                    obtain ⟨Ao27, co27, eo27⟩ := Kd.R_slice HO_7.out
                    subst eo27
                    have p204 : 0 ≤ (x11_4 : Int) := of_decide_eq_true (by first | (with_reducible assumption) | assumption)
                    have q204 : x11_4 < (x7_3.length : Int) := of_decide_eq_true (by first | (with_reducible assumption) | assumption)
                    obtain ⟨ad204, e204, hx204_0, hx204_1, hx204_2, hx204_3⟩ := at_T99 (Kd.R_reads' HO_7.out).2.2 x11_4 p204 q204
                    cases e204
                    replace p204 := eq_true p204
                    replace q204 := eq_true q204
                    obtain ⟨i028, hi028, _, hsz28, _⟩ := info_parts info5
                    obtain ⟨A28, hcut28, hA28, hC28⟩ := print_mid_of (P := Try.prog) (Value.int .u8) 0 22 5 .i64 .i64 Try.underlying22 hi028 hsz28 A0 c0 l0 x11_4 (wrap64 (x11_4 + ((rd_T99 x7_3 x11_4).f2))) (of_decide_eq_true (by first | (with_reducible assumption) | assumption)) (by first | omega | exact of_decide_eq_true (by first | (with_reducible assumption) | assumption)) (of_decide_eq_true (by first | (with_reducible assumption) | assumption)) HC0.out
                    have HR205 := Aside0.mk (Kd.C_of_reads (h1 := fun _ => rfl) (hA28 _ (Kd.reads_of_C HR0.out)))
                    have HC205 := Aside0.mk hC28
                    clear hA28 hC28 hi028 hsz28
                    go_wp2_with (first | ((with_reducible refine gate_builtin (b := .append) (xs := #[.tmp 51, .tmp 61]) rfl ?_); at_builtin; refine Kd.R_append_rows (Kd.int .u8) (w0 := w) w.heap.size rfl (.tmp 51) (.tmp 61) 22 5 (.int .u8 0) 1 rfl Try.underlying22 info5 rfl (by decide) (by omega) (.slice none 0 0) ([] : List Int) ((l0.take ((wrap64 (x11_4 + ((rd_T99 x7_3 x11_4).f2))) : Int).toNat).drop (x11_4 : Int).toNat) _ _ _ (fun _ => True) (fun _ => False) rfl rfl ?aO ?aR (fun _ _ h => h) (fun _ h => h.elim) ?aF ?aB ?aS ?aL ?_; (case aR => first | (rw [← show ((l0.take ((wrap64 (x11_4 + ((rd_T99 x7_3 x11_4).f2))) : Int).toNat).drop (x11_4 : Int).toNat).length = ((wrap64 (x11_4 + ((rd_T99 x7_3 x11_4).f2))).toNat - x11_4.toNat) from (by rw [List.length_drop, List.length_take]; have h_ : ((wrap64 (x11_4 + ((rd_T99 x7_3 x11_4).f2))) : Int) ≤ (l0.length : Int) := of_decide_eq_true (by first | (with_reducible assumption) | assumption); omega)]; repeat (first | exact (Kd.C_below HR205.out HB.out) | (with_reducible refine Kd.C_alloc ?_ _) | (with_reducible refine Kd.C_drewN ?_ _) | (with_reducible refine Kd.C_drew ?_))) | (repeat (first | exact (Kd.C_below HR205.out HB.out) | (with_reducible refine Kd.C_alloc ?_ _) | (with_reducible refine Kd.C_drewN ?_ _) | (with_reducible refine Kd.C_drew ?_)))); (case aB => exact (by repeat (first | (with_reducible first | exact HB.out | apply below_alloc | apply pw_below_drewN | apply below_drew1) | exact HB.out))); (case aF => exact (fun _ _ => trivial)); (case aO => exact ((Kd.R_nil _ _ _ _ (fun _ => True)))); (case aS => exact (below_size (by repeat (first | (with_reducible first | exact HB.out | apply below_alloc | apply pw_below_drewN | apply below_drew1) | exact HB.out)))); (case aL => have := LMc25.out; have hlx_ := (show ((l0.take ((wrap64 (x11_4 + ((rd_T99 x7_3 x11_4).f2))) : Int).toNat).drop (x11_4 : Int).toNat).length = ((wrap64 (x11_4 + ((rd_T99 x7_3 x11_4).f2))).toNat - x11_4.toNat) from (by rw [List.length_drop, List.length_take]; have h_ : ((wrap64 (x11_4 + ((rd_T99 x7_3 x11_4).f2))) : Int) ≤ (l0.length : Int) := of_decide_eq_true (by first | (with_reducible assumption) | assumption); omega)); omega); intro v207 w29 ho hb hg hat; rw [← Ny206.out] at ho; have n0_ := Aside0.mk (Kd.R_grown (by (with_reducible repeat (first | apply Kd.R_alloc | apply Kd.R_drewN | apply Kd.R_drew)); exact HO_7.out) hg (fun _ _ => by simp [Value.ownBlock])); have n1_ := Aside0.mk (Kd.S_after (Kd.S_apart_nil (by (with_reducible repeat (first | apply Kd.S_alloc | apply Kd.S_drewN | apply Kd.S_drew)); exact HO_10.out)) hg hat); have n2_ := Aside0.mk (hb); have n3_ := Aside0.mk (ho); clear HO_7; clear HO_10; clear HB; have HO_7 := n0_; have HO_10 := n1_; have HB := n2_; have HO208 := n3_; clear n0_ n1_ n2_ n3_; clear ho hb hg hat; have p209 : 0 ≤ (x11_4 : Int) := of_decide_eq_true (by first | (with_reducible assumption) | assumption); have q209 : x11_4 < (x7_3.length : Int) := of_decide_eq_true (by first | (with_reducible assumption) | assumption); obtain ⟨ad209, e209, hx209_0, hx209_1, hx209_2, hx209_3⟩ := at_T99 (Kd.R_reads' HO_7.out).2.2 x11_4 p209 q209; obtain rfl : ad204 = ad209 := (by injection e209); replace p209 := eq_true p209; replace q209 := eq_true q209; obtain ⟨Ao30, co30, eo30⟩ := Kd.R_slice HO208.out; subst eo30) | ((with_reducible refine gate_builtin (b := .append) (xs := #[.tmp 63, .tmp 71]) rfl ?_); at_builtin; refine Kd.S_append k33 (w0 := w) w.heap.size rfl (.tmp 63) (.tmp 71) 25 33 (.agg #[(.int .i64 0), (.slice none 0 0)]) 32 rfl Try.underlying25 info33 rfl (by decide) (by omega) u10 x10_4 (⟨(rd_T99 x7_3 x11_4).f3, y206⟩ : S33) [.int .i64 ((rd_T99 x7_3 x11_4).f3), .slice Ao30 y206.length co30] (fun _ => True) (fun k_ => some k_ = (.slice Ao30 y206.length co30 : Value).ownBlock) rfl rfl ?aP (fun k_ hk_ => ((Kd.R_mono (ok' := fun k_ => ((fun _ => True)) k_ ∧ some k_ ≠ (u10 : Value).ownBlock) (Kd.R_apart' (HO208.out) (Kd.S_typed HO_10.out) (by decide)) (fun k_ hk => ⟨trivial, hk.2⟩))).1 k_ hk_.symm) ?aF ?aO ?aB ?aS ?aL ?_; (case aP => exact k33_mkM _ _ _ (⟨(rd_T99 x7_3 x11_4).f3, y206⟩ : S33) (Kd.R_mono (Kd.R_tight rfl (Kd.R_mono (ok' := fun k_ => ((fun _ => True)) k_ ∧ some k_ ≠ (u10 : Value).ownBlock) (Kd.R_apart' (HO208.out) (Kd.S_typed HO_10.out) (by decide)) (fun k_ hk => ⟨trivial, hk.2⟩))) (fun _ h_ => h_))); (case aB => exact (by repeat (first | (with_reducible first | exact HB.out | apply below_alloc | apply pw_below_drewN | apply below_drew1) | exact HB.out))); (case aF => exact (fun _ _ => trivial)); (case aO => exact (by (with_reducible repeat (first | apply Kd.S_alloc | apply Kd.S_drewN | apply Kd.S_drew)); exact Kd.S_mono HO_10.out (fun k_ hk => ⟨trivial, fun e_ => hk.2 e_⟩))); (case aS => exact (below_size (by repeat (first | (with_reducible first | exact HB.out | apply below_alloc | apply pw_below_drewN | apply below_drew1) | exact HB.out)))); (case aL => have := LMc26.out; omega); intro v211 w31 ho hb hg hat; rw [← Ny210.out] at ho; have n0_ := Aside0.mk (Kd.R_over' (by (with_reducible repeat (first | apply Kd.R_alloc | apply Kd.R_drewN | apply Kd.R_drew)); exact HO_7.out) (Kd.S_typed (by (with_reducible repeat (first | apply Kd.S_alloc | apply Kd.S_drewN | apply Kd.S_drew)); exact HO_10.out)) (by decide) hg); have n1_ := Aside0.mk (hb); have n2_ := Aside0.mk (ho); clear HO_7; clear HB; clear HO_10; clear HO208; have HO_7 := n0_; have HB := n1_; have HO212 := n2_; clear n0_ n1_ n2_; clear ho hb hg hat; have p213 : 0 ≤ (x11_4 : Int) := of_decide_eq_true (by first | (with_reducible assumption) | assumption); have q213 : x11_4 < (x7_3.length : Int) := of_decide_eq_true (by first | (with_reducible assumption) | assumption); obtain ⟨ad213, e213, hx213_0, hx213_1, hx213_2, hx213_3⟩ := at_T99 (Kd.R_reads' HO_7.out).2.2 x11_4 p213 q213; obtain rfl : ad204 = ad213 := (by injection e213); replace p213 := eq_true p213; replace q213 := eq_true q213))
                    repeat (go_quiet (first | ((with_reducible refine gate_builtin (b := .append) (xs := #[.tmp 51, .tmp 61]) rfl ?_); at_builtin; refine Kd.R_append_rows (Kd.int .u8) (w0 := w) w.heap.size rfl (.tmp 51) (.tmp 61) 22 5 (.int .u8 0) 1 rfl Try.underlying22 info5 rfl (by decide) (by omega) (.slice none 0 0) ([] : List Int) ((l0.take ((wrap64 (x11_4 + ((rd_T99 x7_3 x11_4).f2))) : Int).toNat).drop (x11_4 : Int).toNat) _ _ _ (fun _ => True) (fun _ => False) rfl rfl ?aO ?aR (fun _ _ h => h) (fun _ h => h.elim) ?aF ?aB ?aS ?aL ?_; (case aR => first | (rw [← show ((l0.take ((wrap64 (x11_4 + ((rd_T99 x7_3 x11_4).f2))) : Int).toNat).drop (x11_4 : Int).toNat).length = ((wrap64 (x11_4 + ((rd_T99 x7_3 x11_4).f2))).toNat - x11_4.toNat) from (by rw [List.length_drop, List.length_take]; have h_ : ((wrap64 (x11_4 + ((rd_T99 x7_3 x11_4).f2))) : Int) ≤ (l0.length : Int) := of_decide_eq_true (by first | (with_reducible assumption) | assumption); omega)]; repeat (first | exact (Kd.C_below HR205.out HB.out) | (with_reducible refine Kd.C_alloc ?_ _) | (with_reducible refine Kd.C_drewN ?_ _) | (with_reducible refine Kd.C_drew ?_))) | (repeat (first | exact (Kd.C_below HR205.out HB.out) | (with_reducible refine Kd.C_alloc ?_ _) | (with_reducible refine Kd.C_drewN ?_ _) | (with_reducible refine Kd.C_drew ?_)))); (case aB => exact (by repeat (first | (with_reducible first | exact HB.out | apply below_alloc | apply pw_below_drewN | apply below_drew1) | exact HB.out))); (case aF => exact (fun _ _ => trivial)); (case aO => exact ((Kd.R_nil _ _ _ _ (fun _ => True)))); (case aS => exact (below_size (by repeat (first | (with_reducible first | exact HB.out | apply below_alloc | apply pw_below_drewN | apply below_drew1) | exact HB.out)))); (case aL => have := LMc25.out; have hlx_ := (show ((l0.take ((wrap64 (x11_4 + ((rd_T99 x7_3 x11_4).f2))) : Int).toNat).drop (x11_4 : Int).toNat).length = ((wrap64 (x11_4 + ((rd_T99 x7_3 x11_4).f2))).toNat - x11_4.toNat) from (by rw [List.length_drop, List.length_take]; have h_ : ((wrap64 (x11_4 + ((rd_T99 x7_3 x11_4).f2))) : Int) ≤ (l0.length : Int) := of_decide_eq_true (by first | (with_reducible assumption) | assumption); omega)); omega); intro v207 w29 ho hb hg hat; rw [← Ny206.out] at ho; have n0_ := Aside0.mk (Kd.R_grown (by (with_reducible repeat (first | apply Kd.R_alloc | apply Kd.R_drewN | apply Kd.R_drew)); exact HO_7.out) hg (fun _ _ => by simp [Value.ownBlock])); have n1_ := Aside0.mk (Kd.S_after (Kd.S_apart_nil (by (with_reducible repeat (first | apply Kd.S_alloc | apply Kd.S_drewN | apply Kd.S_drew)); exact HO_10.out)) hg hat); have n2_ := Aside0.mk (hb); have n3_ := Aside0.mk (ho); clear HO_7; clear HO_10; clear HB; have HO_7 := n0_; have HO_10 := n1_; have HB := n2_; have HO208 := n3_; clear n0_ n1_ n2_ n3_; clear ho hb hg hat; have p209 : 0 ≤ (x11_4 : Int) := of_decide_eq_true (by first | (with_reducible assumption) | assumption); have q209 : x11_4 < (x7_3.length : Int) := of_decide_eq_true (by first | (with_reducible assumption) | assumption); obtain ⟨ad209, e209, hx209_0, hx209_1, hx209_2, hx209_3⟩ := at_T99 (Kd.R_reads' HO_7.out).2.2 x11_4 p209 q209; obtain rfl : ad204 = ad209 := (by injection e209); replace p209 := eq_true p209; replace q209 := eq_true q209; obtain ⟨Ao30, co30, eo30⟩ := Kd.R_slice HO208.out; subst eo30) | ((with_reducible refine gate_builtin (b := .append) (xs := #[.tmp 63, .tmp 71]) rfl ?_); at_builtin; refine Kd.S_append k33 (w0 := w) w.heap.size rfl (.tmp 63) (.tmp 71) 25 33 (.agg #[(.int .i64 0), (.slice none 0 0)]) 32 rfl Try.underlying25 info33 rfl (by decide) (by omega) u10 x10_4 (⟨(rd_T99 x7_3 x11_4).f3, y206⟩ : S33) [.int .i64 ((rd_T99 x7_3 x11_4).f3), .slice Ao30 y206.length co30] (fun _ => True) (fun k_ => some k_ = (.slice Ao30 y206.length co30 : Value).ownBlock) rfl rfl ?aP (fun k_ hk_ => ((Kd.R_mono (ok' := fun k_ => ((fun _ => True)) k_ ∧ some k_ ≠ (u10 : Value).ownBlock) (Kd.R_apart' (HO208.out) (Kd.S_typed HO_10.out) (by decide)) (fun k_ hk => ⟨trivial, hk.2⟩))).1 k_ hk_.symm) ?aF ?aO ?aB ?aS ?aL ?_; (case aP => exact k33_mkM _ _ _ (⟨(rd_T99 x7_3 x11_4).f3, y206⟩ : S33) (Kd.R_mono (Kd.R_tight rfl (Kd.R_mono (ok' := fun k_ => ((fun _ => True)) k_ ∧ some k_ ≠ (u10 : Value).ownBlock) (Kd.R_apart' (HO208.out) (Kd.S_typed HO_10.out) (by decide)) (fun k_ hk => ⟨trivial, hk.2⟩))) (fun _ h_ => h_))); (case aB => exact (by repeat (first | (with_reducible first | exact HB.out | apply below_alloc | apply pw_below_drewN | apply below_drew1) | exact HB.out))); (case aF => exact (fun _ _ => trivial)); (case aO => exact (by (with_reducible repeat (first | apply Kd.S_alloc | apply Kd.S_drewN | apply Kd.S_drew)); exact Kd.S_mono HO_10.out (fun k_ hk => ⟨trivial, fun e_ => hk.2 e_⟩))); (case aS => exact (below_size (by repeat (first | (with_reducible first | exact HB.out | apply below_alloc | apply pw_below_drewN | apply below_drew1) | exact HB.out)))); (case aL => have := LMc26.out; omega); intro v211 w31 ho hb hg hat; rw [← Ny210.out] at ho; have n0_ := Aside0.mk (Kd.R_over' (by (with_reducible repeat (first | apply Kd.R_alloc | apply Kd.R_drewN | apply Kd.R_drew)); exact HO_7.out) (Kd.S_typed (by (with_reducible repeat (first | apply Kd.S_alloc | apply Kd.S_drewN | apply Kd.S_drew)); exact HO_10.out)) (by decide) hg); have n1_ := Aside0.mk (hb); have n2_ := Aside0.mk (ho); clear HO_7; clear HB; clear HO_10; clear HO208; have HO_7 := n0_; have HB := n1_; have HO212 := n2_; clear n0_ n1_ n2_; clear ho hb hg hat; have p213 : 0 ≤ (x11_4 : Int) := of_decide_eq_true (by first | (with_reducible assumption) | assumption); have q213 : x11_4 < (x7_3.length : Int) := of_decide_eq_true (by first | (with_reducible assumption) | assumption); obtain ⟨ad213, e213, hx213_0, hx213_1, hx213_2, hx213_3⟩ := at_T99 (Kd.R_reads' HO_7.out).2.2 x11_4 p213 q213; obtain rfl : ad204 = ad213 := (by injection e213); replace p213 := eq_true p213; replace q213 := eq_true q213)); try go_wp2_with (first | ((with_reducible refine gate_builtin (b := .append) (xs := #[.tmp 51, .tmp 61]) rfl ?_); at_builtin; refine Kd.R_append_rows (Kd.int .u8) (w0 := w) w.heap.size rfl (.tmp 51) (.tmp 61) 22 5 (.int .u8 0) 1 rfl Try.underlying22 info5 rfl (by decide) (by omega) (.slice none 0 0) ([] : List Int) ((l0.take ((wrap64 (x11_4 + ((rd_T99 x7_3 x11_4).f2))) : Int).toNat).drop (x11_4 : Int).toNat) _ _ _ (fun _ => True) (fun _ => False) rfl rfl ?aO ?aR (fun _ _ h => h) (fun _ h => h.elim) ?aF ?aB ?aS ?aL ?_; (case aR => first | (rw [← show ((l0.take ((wrap64 (x11_4 + ((rd_T99 x7_3 x11_4).f2))) : Int).toNat).drop (x11_4 : Int).toNat).length = ((wrap64 (x11_4 + ((rd_T99 x7_3 x11_4).f2))).toNat - x11_4.toNat) from (by rw [List.length_drop, List.length_take]; have h_ : ((wrap64 (x11_4 + ((rd_T99 x7_3 x11_4).f2))) : Int) ≤ (l0.length : Int) := of_decide_eq_true (by first | (with_reducible assumption) | assumption); omega)]; repeat (first | exact (Kd.C_below HR205.out HB.out) | (with_reducible refine Kd.C_alloc ?_ _) | (with_reducible refine Kd.C_drewN ?_ _) | (with_reducible refine Kd.C_drew ?_))) | (repeat (first | exact (Kd.C_below HR205.out HB.out) | (with_reducible refine Kd.C_alloc ?_ _) | (with_reducible refine Kd.C_drewN ?_ _) | (with_reducible refine Kd.C_drew ?_)))); (case aB => exact (by repeat (first | (with_reducible first | exact HB.out | apply below_alloc | apply pw_below_drewN | apply below_drew1) | exact HB.out))); (case aF => exact (fun _ _ => trivial)); (case aO => exact ((Kd.R_nil _ _ _ _ (fun _ => True)))); (case aS => exact (below_size (by repeat (first | (with_reducible first | exact HB.out | apply below_alloc | apply pw_below_drewN | apply below_drew1) | exact HB.out)))); (case aL => have := LMc25.out; have hlx_ := (show ((l0.take ((wrap64 (x11_4 + ((rd_T99 x7_3 x11_4).f2))) : Int).toNat).drop (x11_4 : Int).toNat).length = ((wrap64 (x11_4 + ((rd_T99 x7_3 x11_4).f2))).toNat - x11_4.toNat) from (by rw [List.length_drop, List.length_take]; have h_ : ((wrap64 (x11_4 + ((rd_T99 x7_3 x11_4).f2))) : Int) ≤ (l0.length : Int) := of_decide_eq_true (by first | (with_reducible assumption) | assumption); omega)); omega); intro v207 w29 ho hb hg hat; rw [← Ny206.out] at ho; have n0_ := Aside0.mk (Kd.R_grown (by (with_reducible repeat (first | apply Kd.R_alloc | apply Kd.R_drewN | apply Kd.R_drew)); exact HO_7.out) hg (fun _ _ => by simp [Value.ownBlock])); have n1_ := Aside0.mk (Kd.S_after (Kd.S_apart_nil (by (with_reducible repeat (first | apply Kd.S_alloc | apply Kd.S_drewN | apply Kd.S_drew)); exact HO_10.out)) hg hat); have n2_ := Aside0.mk (hb); have n3_ := Aside0.mk (ho); clear HO_7; clear HO_10; clear HB; have HO_7 := n0_; have HO_10 := n1_; have HB := n2_; have HO208 := n3_; clear n0_ n1_ n2_ n3_; clear ho hb hg hat; have p209 : 0 ≤ (x11_4 : Int) := of_decide_eq_true (by first | (with_reducible assumption) | assumption); have q209 : x11_4 < (x7_3.length : Int) := of_decide_eq_true (by first | (with_reducible assumption) | assumption); obtain ⟨ad209, e209, hx209_0, hx209_1, hx209_2, hx209_3⟩ := at_T99 (Kd.R_reads' HO_7.out).2.2 x11_4 p209 q209; obtain rfl : ad204 = ad209 := (by injection e209); replace p209 := eq_true p209; replace q209 := eq_true q209; obtain ⟨Ao30, co30, eo30⟩ := Kd.R_slice HO208.out; subst eo30) | ((with_reducible refine gate_builtin (b := .append) (xs := #[.tmp 63, .tmp 71]) rfl ?_); at_builtin; refine Kd.S_append k33 (w0 := w) w.heap.size rfl (.tmp 63) (.tmp 71) 25 33 (.agg #[(.int .i64 0), (.slice none 0 0)]) 32 rfl Try.underlying25 info33 rfl (by decide) (by omega) u10 x10_4 (⟨(rd_T99 x7_3 x11_4).f3, y206⟩ : S33) [.int .i64 ((rd_T99 x7_3 x11_4).f3), .slice Ao30 y206.length co30] (fun _ => True) (fun k_ => some k_ = (.slice Ao30 y206.length co30 : Value).ownBlock) rfl rfl ?aP (fun k_ hk_ => ((Kd.R_mono (ok' := fun k_ => ((fun _ => True)) k_ ∧ some k_ ≠ (u10 : Value).ownBlock) (Kd.R_apart' (HO208.out) (Kd.S_typed HO_10.out) (by decide)) (fun k_ hk => ⟨trivial, hk.2⟩))).1 k_ hk_.symm) ?aF ?aO ?aB ?aS ?aL ?_; (case aP => exact k33_mkM _ _ _ (⟨(rd_T99 x7_3 x11_4).f3, y206⟩ : S33) (Kd.R_mono (Kd.R_tight rfl (Kd.R_mono (ok' := fun k_ => ((fun _ => True)) k_ ∧ some k_ ≠ (u10 : Value).ownBlock) (Kd.R_apart' (HO208.out) (Kd.S_typed HO_10.out) (by decide)) (fun k_ hk => ⟨trivial, hk.2⟩))) (fun _ h_ => h_))); (case aB => exact (by repeat (first | (with_reducible first | exact HB.out | apply below_alloc | apply pw_below_drewN | apply below_drew1) | exact HB.out))); (case aF => exact (fun _ _ => trivial)); (case aO => exact (by (with_reducible repeat (first | apply Kd.S_alloc | apply Kd.S_drewN | apply Kd.S_drew)); exact Kd.S_mono HO_10.out (fun k_ hk => ⟨trivial, fun e_ => hk.2 e_⟩))); (case aS => exact (below_size (by repeat (first | (with_reducible first | exact HB.out | apply below_alloc | apply pw_below_drewN | apply below_drew1) | exact HB.out)))); (case aL => have := LMc26.out; omega); intro v211 w31 ho hb hg hat; rw [← Ny210.out] at ho; have n0_ := Aside0.mk (Kd.R_over' (by (with_reducible repeat (first | apply Kd.R_alloc | apply Kd.R_drewN | apply Kd.R_drew)); exact HO_7.out) (Kd.S_typed (by (with_reducible repeat (first | apply Kd.S_alloc | apply Kd.S_drewN | apply Kd.S_drew)); exact HO_10.out)) (by decide) hg); have n1_ := Aside0.mk (hb); have n2_ := Aside0.mk (ho); clear HO_7; clear HB; clear HO_10; clear HO208; have HO_7 := n0_; have HB := n1_; have HO212 := n2_; clear n0_ n1_ n2_; clear ho hb hg hat; have p213 : 0 ≤ (x11_4 : Int) := of_decide_eq_true (by first | (with_reducible assumption) | assumption); have q213 : x11_4 < (x7_3.length : Int) := of_decide_eq_true (by first | (with_reducible assumption) | assumption); obtain ⟨ad213, e213, hx213_0, hx213_1, hx213_2, hx213_3⟩ := at_T99 (Kd.R_reads' HO_7.out).2.2 x11_4 p213 q213; obtain rfl : ad204 = ad213 := (by injection e213); replace p213 := eq_true p213; replace q213 := eq_true q213)))
                    go_roundg k4
                    case measure => have := HJ2.out; have := HK2.out; have := HK3.out; have := HK4.out; omega
                    case rel => exact ⟨(y210), (wrap64 (x11_4 + ((rd_T99 x7_3 x11_4).f2))), (by first | rfl | (simp; done) | (simp [*]; done) | (simp [i64_w]; done)), H', ⟨by have := HJ2.out; have := HK2.out; have := HK3.out; have := HK4.out; omega⟩, ⟨by (with_reducible repeat (first | apply Kd.R_alloc | apply Kd.R_drewN | apply Kd.R_drew)); exact HO_7.out⟩, ⟨by (with_reducible repeat (first | apply Kd.S_alloc | apply Kd.S_drewN | apply Kd.S_drew)); exact HO212.out⟩, ⟨by repeat (first | (with_reducible first | exact HB.out | apply below_alloc | apply pw_below_drewN | apply below_drew1) | exact HB.out)⟩⟩
                   ·rw [if_neg c26] at H
                    exact absurd H (by simp)
                  ·rw [if_neg c25] at H
                   exact absurd H (by simp)
                 ·rw [if_neg c24] at H
                  exact absurd H (by simp)
                ·rw [if_neg c23] at H
                 exact absurd H (by simp)
               ·rw [if_neg c21] at H
                exact absurd H (by simp)
              ·rw [if_neg c20] at H
               exact absurd H (by simp)
             ·rw [if_neg c19] at H
              have c19b0 : decide (x11_4 < (l0.length : Int)) = false := decide_eq_false c19
              clear c19
              by_cases c32 : 0 < (x7_3.length : Int)
              ·rw [if_pos c32] at H
               have c32b0 : decide (0 < (x7_3.length : Int)) = true := decide_eq_true c32
               have c32b1 : decide (0 < x7_3.length) = true := decide_eq_true (by omega)
               have c32b2 : 0 < x7_3.length := by omega
               clear c32
               simp only [Option.some.injEq, Prod.mk.injEq] at H
               obtain ⟨rfl, rfl, rfl⟩ := H
               obtain ⟨Ao33, co33, eo33⟩ := Kd.R_slice HO_7.out
               subst eo33
               have p214 : 0 ≤ (0 : Int) := (by omega)
               have q214 : 0 < (x7_3.length : Int) := of_decide_eq_true (by first | (with_reducible assumption) | assumption)
               obtain ⟨ad214, e214, hx214_0, hx214_1, hx214_2, hx214_3⟩ := at_T99 (Kd.R_reads' HO_7.out).2.2 0 p214 q214
               cases e214
               have qi214 : (0 < x7_3.length) = True := eq_true (by omega)
               (try rw [show ((0 : Int)).toNat = 0 from rfl] at hx214_0)
               (try rw [show 0 * 4 = 0 from rfl] at hx214_0)
               (try rw [Addr.add_zero'] at hx214_0)
               (try rw [show ((0 : Int)).toNat = 0 from rfl] at hx214_1)
               (try rw [show 0 * 4 = 0 from rfl] at hx214_1)
               (try rw [Addr.add_zero'] at hx214_1)
               (try rw [show ((0 : Int)).toNat = 0 from rfl] at hx214_2)
               (try rw [show 0 * 4 = 0 from rfl] at hx214_2)
               (try rw [Addr.add_zero'] at hx214_2)
               (try rw [show ((0 : Int)).toNat = 0 from rfl] at hx214_3)
               (try rw [show 0 * 4 = 0 from rfl] at hx214_3)
               (try rw [Addr.add_zero'] at hx214_3)
               replace p214 := eq_true p214
               replace q214 := eq_true q214
               go_wp2
               repeat (go_quiet (fail); try go_wp2)
               go_ret3
               exact ⟨_, by first | rfl | (simp [errW_none, errW_some] <;> rfl) | (simp [*, errW_none, errW_some] <;> rfl), by (with_reducible repeat (first | apply Kd.S_alloc | apply Kd.S_drewN | apply Kd.S_drew)); exact HO_10.out, by repeat (first | (with_reducible first | exact HB.out | apply below_alloc | apply pw_below_drewN | apply below_drew1) | exact HB.out)⟩
              ·rw [if_neg c32] at H
               exact absurd H (by simp)

end Go.Proofs.Ytagmncdbiljacaa.X
