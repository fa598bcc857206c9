/- Functions of the program as Lean functions, and proofs that their calls come to them (printed for this claim by the session's own program). No condition beyond each theorem's own hypotheses. -/
import Derived.Test.YtagmncdbiljacaaXx0
import Derived.Test.YtagmncdbiljacaaXx4
import Derived.Test.YtagmncdbiljacaaXx5
import Derived.Test.YtagmncdbiljacaaYCloneB
namespace Go.Proofs.Ytagmncdbiljacaa.X
open Go.RowKit Go.Proofs.YtagmncdbiljacaaW.PrintWords Go.Proofs.YtagmncdbiljacaaW.PrintLast Go.Proofs.YtagmncdbiljacaaW.PrintMore
attribute [local go_sem] max2_int min2_int max_two min_two max_three min_three max_four min_four   -- for this text's walks alone
set_option linter.unusedVariables false
set_option linter.unusedSimpArgs false

/-! ### modes_Best: function 26 -/
mutual
def modes_Best.j0 : Nat → List Int → Int → Bool → Option ((List (S33)) × Int × Int)
 | 0, _, _, _ => none
 | k + 1, x0, x1, x20 => if x20 = true then (some (([] : List (S33)), 0, 1)) else (if (x0.length : Int) > 4096 then (some (([] : List (S33)), 0, 4)) else (if 0 ≤ (wrap64 ((x0.length : Int) + 1)) then (if (wrap64 ((x0.length : Int) + 1) : Int).toNat ≤ 8796093022208 then (modes_Best.l0 k x0 x1 (x0.length : Int) (List.replicate (wrap64 ((x0.length : Int) + 1) : Int).toNat z93) (wrap64 ((x0.length : Int) - 1))) else (none)) else (none)))
def modes_Best.l0 : Nat → List Int → Int → Int → List (S93) → Int → Option ((List (S33)) × Int × Int)
 | 0, _, _, _, _, _ => none
 | k + 1, x0, x1, x7, x8, x9 => if x9 ≥ 0 then (if 0 ≤ x9 then (if x9 < (x8.length : Int) then ((some (([1, 2, 4] : List Int) : List Int)).bind fun y133 => (modes_Best.l1 k x0 x1 x7 (x8.set (x9 : Int).toNat (⟨1099511627776, 0, 0, 0⟩ : S93)) x9 y133 (y133.length : Int) 0)) else (none)) else (none)) else ((slices_Clone_byte_byte.f x0).bind fun t148 => (modes_Best.l3 k x7 x8 t148 ([] : List (S33)) 0))
def modes_Best.l1 : Nat → List Int → Int → Int → List (S93) → Int → List Int → Int → Int → Option ((List (S33)) × Int × Int)
 | 0, _, _, _, _, _, _, _, _ => none
 | k + 1, x0, x1, x7, x8, x9, x46, x47, x48 => if x48 < x47 then (if 0 ≤ x48 then (if x48 < (x46.length : Int) then ((modes_countBits.f k (rd x46 x48) x1).bind fun t137 => (if 0 ≤ t137 then (modes_Best.l2 k x0 x1 x7 x8 x9 (rd x46 x48) (mn (wrap64 (x7 - x9)) (wrap64 ((shl .i64 1 t137) - 1))) 1 x46 x47 x48) else (none))) else (none)) else (none)) else (modes_Best.l0 k x0 x1 x7 x8 (wrap64 (x9 - 1)))
def modes_Best.l2 : Nat → List Int → Int → Int → List (S93) → Int → Int → Int → Int → List Int → Int → Int → Option ((List (S33)) × Int × Int)
 | 0, _, _, _, _, _, _, _, _, _, _, _ => none
 | k + 1, x0, x1, x7, x8, x9, x11, x12, x13, x46, x47, x48 => if x13 ≤ x12 then (if 0 ≤ (wrap64 ((wrap64 (x9 + x13)) - 1)) then (if (wrap64 ((wrap64 (x9 + x13)) - 1)) < (x0.length : Int) then ((modes_Fits.f x11 (rd x0 (wrap64 ((wrap64 (x9 + x13)) - 1)))).bind fun t139 => (modes_Best.j4 k x0 x1 x7 x8 x9 x11 x12 x13 x46 x47 x48 t139)) else (none)) else (none)) else (modes_Best.j4 k x0 x1 x7 x8 x9 x11 x12 x13 x46 x47 x48 false)
def modes_Best.j4 : Nat → List Int → Int → Int → List (S93) → Int → Int → Int → Int → List Int → Int → Int → Bool → Option ((List (S33)) × Int × Int)
 | 0, _, _, _, _, _, _, _, _, _, _, _, _ => none
 | k + 1, x0, x1, x7, x8, x9, x11, x12, x13, x46, x47, x48, x74 => if x74 = true then (if 0 ≤ (wrap64 (x9 + x13)) then (if (wrap64 (x9 + x13)) < (x8.length : Int) then ((modes_countBits.f k x11 x1).bind fun t142 => ((modes_dataBits.f x11 x13).bind fun t143 => (if 0 ≤ x9 then (if x9 < (x8.length : Int) then ((modes_plan_better.f (wrap64 ((wrap64 ((wrap64 (4 + t142)) + t143)) + ((rd_T93 x8 (wrap64 (x9 + x13))).f0))) (wrap64 (1 + ((rd_T93 x8 (wrap64 (x9 + x13))).f1))) x13 x11 ((rd_T93 x8 x9).f0) ((rd_T93 x8 x9).f1) ((rd_T93 x8 x9).f2) ((rd_T93 x8 x9).f3)).bind fun t146 => (if t146 = true then (modes_Best.l2 k x0 x1 x7 (x8.set (x9 : Int).toNat (⟨wrap64 ((wrap64 ((wrap64 (4 + t142)) + t143)) + ((rd_T93 x8 (wrap64 (x9 + x13))).f0)), wrap64 (1 + ((rd_T93 x8 (wrap64 (x9 + x13))).f1)), x13, x11⟩ : S93)) x9 x11 x12 (wrap64 (x13 + 1)) x46 x47 x48) else (modes_Best.l2 k x0 x1 x7 x8 x9 x11 x12 (wrap64 (x13 + 1)) x46 x47 x48))) else (none)) else (none)))) else (none)) else (none)) else (modes_Best.l1 k x0 x1 x7 x8 x9 x46 x47 (wrap64 (x48 + 1)))
def modes_Best.l3 : Nat → Int → List (S93) → List Int → List (S33) → Int → Option ((List (S33)) × Int × Int)
 | 0, _, _, _, _, _ => none
 | k + 1, x7, x8, x16, x17, x18 => if x18 < x7 then (if 0 ≤ x18 then (if x18 < (x8.length : Int) then (if x18 ≤ (wrap64 (x18 + ((rd_T93 x8 x18).f2))) then (if (wrap64 (x18 + ((rd_T93 x8 x18).f2))) ≤ (x16.length : Int) then (if x17.length < 4398046511104 then (modes_Best.l3 k x7 x8 x16 (x17 ++ [(⟨(rd_T93 x8 x18).f3, ((x16.take ((wrap64 (x18 + ((rd_T93 x8 x18).f2))) : Int).toNat).drop (x18 : Int).toNat)⟩ : S33)]) (wrap64 (x18 + ((rd_T93 x8 x18).f2)))) else (none)) else (none)) else (none)) else (none)) else (none)) else (if 0 < (x8.length : Int) then (some (x17, (rd_T93 x8 0).f0, 0)) else (none))
end
def modes_Best.f (k : Nat) (l0 : List Int) (a1 : Int) : Option ((List (S33)) × Int × Int) := if a1 < 0 then (modes_Best.j0 k l0 a1 true) else (modes_Best.j0 k l0 a1 (decide (a1 > 2)))
theorem modes_Best.mono_l : ∀ k, (∀ y0 y1 y2, LeO (modes_Best.j0 k y0 y1 y2) (modes_Best.j0 (k + 1) y0 y1 y2)) ∧ (∀ y0 y1 y2 y3 y4, LeO (modes_Best.l0 k y0 y1 y2 y3 y4) (modes_Best.l0 (k + 1) y0 y1 y2 y3 y4)) ∧ (∀ y0 y1 y2 y3 y4 y5 y6 y7, LeO (modes_Best.l1 k y0 y1 y2 y3 y4 y5 y6 y7) (modes_Best.l1 (k + 1) y0 y1 y2 y3 y4 y5 y6 y7)) ∧ (∀ y0 y1 y2 y3 y4 y5 y6 y7 y8 y9 y10, LeO (modes_Best.l2 k y0 y1 y2 y3 y4 y5 y6 y7 y8 y9 y10) (modes_Best.l2 (k + 1) y0 y1 y2 y3 y4 y5 y6 y7 y8 y9 y10)) ∧ (∀ y0 y1 y2 y3 y4 y5 y6 y7 y8 y9 y10 y11, LeO (modes_Best.j4 k y0 y1 y2 y3 y4 y5 y6 y7 y8 y9 y10 y11) (modes_Best.j4 (k + 1) y0 y1 y2 y3 y4 y5 y6 y7 y8 y9 y10 y11)) ∧ (∀ y0 y1 y2 y3 y4, LeO (modes_Best.l3 k y0 y1 y2 y3 y4) (modes_Best.l3 (k + 1) y0 y1 y2 y3 y4))
 | 0 => ⟨fun _ _ _ r h => by simp [modes_Best.j0] at h, fun _ _ _ _ _ r h => by simp [modes_Best.l0] at h, fun _ _ _ _ _ _ _ _ r h => by simp [modes_Best.l1] at h, fun _ _ _ _ _ _ _ _ _ _ _ r h => by simp [modes_Best.l2] at h, fun _ _ _ _ _ _ _ _ _ _ _ _ r h => by simp [modes_Best.j4] at h, fun _ _ _ _ _ r h => by simp [modes_Best.l3] at h⟩
 | k + 1 => by
  obtain ⟨ih0, ih1, ih2, ih3, ih4, ih5⟩ := modes_Best.mono_l k
  refine ⟨?_, ?_, ?_, ?_, ?_, ?_⟩
  ·intro y0 y1 y2
   unfold modes_Best.j0
   repeat' first
   | (with_reducible exact ih0 _ _ _)
   | (with_reducible exact ih1 _ _ _ _ _)
   | (with_reducible exact ih2 _ _ _ _ _ _ _ _)
   | (with_reducible exact ih3 _ _ _ _ _ _ _ _ _ _ _)
   | (with_reducible exact ih4 _ _ _ _ _ _ _ _ _ _ _ _)
   | (with_reducible exact ih5 _ _ _ _ _)
   | (with_reducible exact modes_countBits.mono _ _ _)
   | (with_reducible exact LeO.refl _)
   | (with_reducible exact LeO.none _)
   | (with_reducible refine LeO.ite ?_ ?_)
   | (with_reducible refine LeO.bind ?_ (fun _ => ?_))
   | exact ih0 _ _ _
   | exact ih1 _ _ _ _ _
   | exact ih2 _ _ _ _ _ _ _ _
   | exact ih3 _ _ _ _ _ _ _ _ _ _ _
   | exact ih4 _ _ _ _ _ _ _ _ _ _ _ _
   | exact ih5 _ _ _ _ _
   | exact modes_countBits.mono _ _ _
   | exact LeO.none _
   | refine LeO.ite ?_ ?_
   | refine LeO.bind ?_ (fun _ => ?_)
  ·intro y0 y1 y2 y3 y4
   unfold modes_Best.l0
   repeat' first
   | (with_reducible exact ih0 _ _ _)
   | (with_reducible exact ih1 _ _ _ _ _)
   | (with_reducible exact ih2 _ _ _ _ _ _ _ _)
   | (with_reducible exact ih3 _ _ _ _ _ _ _ _ _ _ _)
   | (with_reducible exact ih4 _ _ _ _ _ _ _ _ _ _ _ _)
   | (with_reducible exact ih5 _ _ _ _ _)
   | (with_reducible exact modes_countBits.mono _ _ _)
   | (with_reducible exact LeO.refl _)
   | (with_reducible exact LeO.none _)
   | (with_reducible refine LeO.ite ?_ ?_)
   | (with_reducible refine LeO.bind ?_ (fun _ => ?_))
   | exact ih0 _ _ _
   | exact ih1 _ _ _ _ _
   | exact ih2 _ _ _ _ _ _ _ _
   | exact ih3 _ _ _ _ _ _ _ _ _ _ _
   | exact ih4 _ _ _ _ _ _ _ _ _ _ _ _
   | exact ih5 _ _ _ _ _
   | exact modes_countBits.mono _ _ _
   | exact LeO.none _
   | refine LeO.ite ?_ ?_
   | refine LeO.bind ?_ (fun _ => ?_)
  ·intro y0 y1 y2 y3 y4 y5 y6 y7
   unfold modes_Best.l1
   repeat' first
   | (with_reducible exact ih0 _ _ _)
   | (with_reducible exact ih1 _ _ _ _ _)
   | (with_reducible exact ih2 _ _ _ _ _ _ _ _)
   | (with_reducible exact ih3 _ _ _ _ _ _ _ _ _ _ _)
   | (with_reducible exact ih4 _ _ _ _ _ _ _ _ _ _ _ _)
   | (with_reducible exact ih5 _ _ _ _ _)
   | (with_reducible exact modes_countBits.mono _ _ _)
   | (with_reducible exact LeO.refl _)
   | (with_reducible exact LeO.none _)
   | (with_reducible refine LeO.ite ?_ ?_)
   | (with_reducible refine LeO.bind ?_ (fun _ => ?_))
   | exact ih0 _ _ _
   | exact ih1 _ _ _ _ _
   | exact ih2 _ _ _ _ _ _ _ _
   | exact ih3 _ _ _ _ _ _ _ _ _ _ _
   | exact ih4 _ _ _ _ _ _ _ _ _ _ _ _
   | exact ih5 _ _ _ _ _
   | exact modes_countBits.mono _ _ _
   | exact LeO.none _
   | refine LeO.ite ?_ ?_
   | refine LeO.bind ?_ (fun _ => ?_)
  ·intro y0 y1 y2 y3 y4 y5 y6 y7 y8 y9 y10
   unfold modes_Best.l2
   repeat' first
   | (with_reducible exact ih0 _ _ _)
   | (with_reducible exact ih1 _ _ _ _ _)
   | (with_reducible exact ih2 _ _ _ _ _ _ _ _)
   | (with_reducible exact ih3 _ _ _ _ _ _ _ _ _ _ _)
   | (with_reducible exact ih4 _ _ _ _ _ _ _ _ _ _ _ _)
   | (with_reducible exact ih5 _ _ _ _ _)
   | (with_reducible exact modes_countBits.mono _ _ _)
   | (with_reducible exact LeO.refl _)
   | (with_reducible exact LeO.none _)
   | (with_reducible refine LeO.ite ?_ ?_)
   | (with_reducible refine LeO.bind ?_ (fun _ => ?_))
   | exact ih0 _ _ _
   | exact ih1 _ _ _ _ _
   | exact ih2 _ _ _ _ _ _ _ _
   | exact ih3 _ _ _ _ _ _ _ _ _ _ _
   | exact ih4 _ _ _ _ _ _ _ _ _ _ _ _
   | exact ih5 _ _ _ _ _
   | exact modes_countBits.mono _ _ _
   | exact LeO.none _
   | refine LeO.ite ?_ ?_
   | refine LeO.bind ?_ (fun _ => ?_)
  ·intro y0 y1 y2 y3 y4 y5 y6 y7 y8 y9 y10 y11
   unfold modes_Best.j4
   repeat' first
   | (with_reducible exact ih0 _ _ _)
   | (with_reducible exact ih1 _ _ _ _ _)
   | (with_reducible exact ih2 _ _ _ _ _ _ _ _)
   | (with_reducible exact ih3 _ _ _ _ _ _ _ _ _ _ _)
   | (with_reducible exact ih4 _ _ _ _ _ _ _ _ _ _ _ _)
   | (with_reducible exact ih5 _ _ _ _ _)
   | (with_reducible exact modes_countBits.mono _ _ _)
   | (with_reducible exact LeO.refl _)
   | (with_reducible exact LeO.none _)
   | (with_reducible refine LeO.ite ?_ ?_)
   | (with_reducible refine LeO.bind ?_ (fun _ => ?_))
   | exact ih0 _ _ _
   | exact ih1 _ _ _ _ _
   | exact ih2 _ _ _ _ _ _ _ _
   | exact ih3 _ _ _ _ _ _ _ _ _ _ _
   | exact ih4 _ _ _ _ _ _ _ _ _ _ _ _
   | exact ih5 _ _ _ _ _
   | exact modes_countBits.mono _ _ _
   | exact LeO.none _
   | refine LeO.ite ?_ ?_
   | refine LeO.bind ?_ (fun _ => ?_)
  ·intro y0 y1 y2 y3 y4
   unfold modes_Best.l3
   repeat' first
   | (with_reducible exact ih0 _ _ _)
   | (with_reducible exact ih1 _ _ _ _ _)
   | (with_reducible exact ih2 _ _ _ _ _ _ _ _)
   | (with_reducible exact ih3 _ _ _ _ _ _ _ _ _ _ _)
   | (with_reducible exact ih4 _ _ _ _ _ _ _ _ _ _ _ _)
   | (with_reducible exact ih5 _ _ _ _ _)
   | (with_reducible exact modes_countBits.mono _ _ _)
   | (with_reducible exact LeO.refl _)
   | (with_reducible exact LeO.none _)
   | (with_reducible refine LeO.ite ?_ ?_)
   | (with_reducible refine LeO.bind ?_ (fun _ => ?_))
   | exact ih0 _ _ _
   | exact ih1 _ _ _ _ _
   | exact ih2 _ _ _ _ _ _ _ _
   | exact ih3 _ _ _ _ _ _ _ _ _ _ _
   | exact ih4 _ _ _ _ _ _ _ _ _ _ _ _
   | exact ih5 _ _ _ _ _
   | exact modes_countBits.mono _ _ _
   | exact LeO.none _
   | refine LeO.ite ?_ ?_
   | refine LeO.bind ?_ (fun _ => ?_)
theorem modes_Best.mono : ∀ a0 a1 k, LeO (modes_Best.f k a0 a1) (modes_Best.f (k + 1) a0 a1) := by
 intro a0 a1 k
 obtain ⟨ih0, ih1, ih2, ih3, ih4, ih5⟩ := modes_Best.mono_l k
 unfold modes_Best.f
 repeat' first
   | (with_reducible exact ih0 _ _ _)
   | (with_reducible exact ih1 _ _ _ _ _)
   | (with_reducible exact ih2 _ _ _ _ _ _ _ _)
   | (with_reducible exact ih3 _ _ _ _ _ _ _ _ _ _ _)
   | (with_reducible exact ih4 _ _ _ _ _ _ _ _ _ _ _ _)
   | (with_reducible exact ih5 _ _ _ _ _)
   | (with_reducible exact modes_countBits.mono _ _ _)
   | (with_reducible exact LeO.refl _)
   | (with_reducible exact LeO.none _)
   | (with_reducible refine LeO.ite ?_ ?_)
   | (with_reducible refine LeO.bind ?_ (fun _ => ?_))
   | exact ih0 _ _ _
   | exact ih1 _ _ _ _ _
   | exact ih2 _ _ _ _ _ _ _ _
   | exact ih3 _ _ _ _ _ _ _ _ _ _ _
   | exact ih4 _ _ _ _ _ _ _ _ _ _ _ _
   | exact ih5 _ _ _ _ _
   | exact modes_countBits.mono _ _ _
   | exact LeO.none _
   | refine LeO.ite ?_ ?_
   | refine LeO.bind ?_ (fun _ => ?_)
def modes_Best.T19 : Bool × List (List Nat × List Nat) := (true, [([], []), ([], []), ([0, 1], [0, 1]), ([2], [2]), ([], []), ([], []), ([4, 5, 2], [4, 5]), ([3, 6], [3, 6]), ([], []), ([8], [8]), ([7, 9], [7, 9]), ([], []), ([11], [11]), ([12], [12]), ([], []), ([], []), ([10, 13, 14, 15], [10, 13, 14, 15]), ([], []), ([17, 16, 6, 0, 1, 2, 3, 4, 5, 6, 7, 8, 9, 10, 11, 12, 13, 14, 15, 16, 17], [16, 17])])
def modes_Best.B19 : List Nat := [0, 0, 3, 7, 0, 0, 55, 127, 0, 256, 1023, 0, 2048, 6144, 0, 0, 65535, 0, 262143]
theorem modes_Best.tab19 : rtab .any (opsOf Try.f26 19) = modes_Best.T19 := by kernel_rfl
theorem modes_Best.bits19 : waitsOk modes_Best.T19.2 modes_Best.B19 = true := by kernel_rfl
def modes_Best.T29 : Bool × List (List Nat × List Nat) := (true, [([], []), ([], []), ([], []), ([1, 2], [1, 2]), ([3], [3]), ([4], [4]), ([], []), ([], []), ([], []), ([], []), ([6, 7, 8, 9], [6, 7, 8, 9]), ([5, 10], [5, 10]), ([11], [11]), ([0, 12], [0, 12]), ([13, 13, 0, 1, 2, 3, 4, 5, 6, 7, 8, 9, 10, 11, 12, 13], [0, 13])])
def modes_Best.B29 : List Nat := [0, 0, 0, 6, 14, 30, 0, 0, 0, 0, 960, 2046, 4094, 8191, 16383]
theorem modes_Best.tab29 : rtab .any (opsOf Try.f26 29) = modes_Best.T29 := by kernel_rfl
theorem modes_Best.bits29 : waitsOk modes_Best.T29.2 modes_Best.B29 = true := by kernel_rfl
def modes_Best.T30 : Bool × List (List Nat × List Nat) := (true, [([], []), ([], []), ([1], [1]), ([2], [2]), ([3], [3]), ([0, 0], [0]), ([4, 5, 0, 1, 2, 3, 4, 5], [4]), ([6, 0, 1, 2, 3, 4, 5, 6], [])])
def modes_Best.B30 : List Nat := [0, 0, 2, 6, 14, 1, 63, 127]
theorem modes_Best.tab30 : rtab .any (opsOf Try.f26 30) = modes_Best.T30 := by kernel_rfl
theorem modes_Best.bits30 : waitsOk modes_Best.T30.2 modes_Best.B30 = true := by kernel_rfl
set_option maxHeartbeats 8000000 in
set_option maxRecDepth 100000 in
theorem modes_Best.calls (k : Nat) (A0 : Option Addr) (c0 : Nat) (l0 : List Int) (a1 : Int) (r1 : List (S33)) (r2 : Int) (r3 : Int) (w : World) (hr0 : Kd.C (Kd.int .u8) w A0 l0.length l0) (hc0 : l0.length ≤ c0) (h : modes_Best.f k l0 a1 = some (r1, r2, r3)) :
  Calls Try.prog 26 #[.slice A0 l0.length c0, .int .i64 a1] w fun e w' => ∃ v0_ : Value, e = .returned (.tuple #[v0_, .int .i64 r2, .int .i64 r3]) ∧ Kd.N k33 33 w' w.heap.size (fun k_ => (w.heap.size ≤ k_)) v0_ r1 ∧ Below w.heap.size w w' := by
 have hu93 := Try.underlying93
 have hu33 := Try.underlying33
 have HR0 := Aside0.mk hr0
 have HC0 := Aside0.mk hc0
 clear hr0 hc0
 have HB := Aside0.mk (Below.refl w.heap.size w)
 have H : (if a1 < 0 then (modes_Best.j0 k l0 a1 true) else (modes_Best.j0 k l0 a1 (decide (a1 > 2)))) = some (r1, r2, r3) := h
 clear h
 have HC3 := Aside0.mk H
 clear H
 go_enter Try.func26, Try.ntmps26
 go_upto_region 1 with (fail)
 go_cut [20] (fun v20 wc => ∃ (kq : Nat) (x20_2 : Bool), v20 = .bool x20_2 ∧ Aside0 (modes_Best.j0 kq l0 a1 x20_2 = some (r1, r2, r3)) ∧ Aside0 (kq ≤ k) ∧ Aside0 (Below w.heap.size w wc))
 case first =>
  have H := HC3.out
  clear HC3
  by_cases c4 : a1 < 0
  ·rw [if_pos c4] at H
   have c4b0 : decide (a1 < 0) = true := decide_eq_true c4
   clear c4
   (first | rw [c4b0] | (simp only [i64_w, i32_w]; rw [c4b0]) | skip)
   have H' := Aside0.mk H
   clear H
   go_wp2
   go_meet
   case rel => exact ⟨_, (true), (by first | rfl | (simp; done) | (simp [*]; done) | (simp [i64_w]; done)), H', ⟨by first | omega | exact Nat.le_refl _⟩, ⟨by repeat (first | (with_reducible first | exact HB.out | apply below_alloc | apply pw_below_drewN | apply below_drew1) | exact HB.out)⟩⟩
  ·rw [if_neg c4] at H
   have c4b0 : decide (a1 < 0) = false := decide_eq_false c4
   clear c4
   (first | rw [c4b0] | (simp only [i64_w, i32_w]; rw [c4b0]) | skip)
   have H' := Aside0.mk H
   clear H
   go_wp2
   go_meet
   case rel => exact ⟨_, (decide (a1 > 2)), (by first | rfl | (simp; done) | (simp [*]; done) | (simp [i64_w]; done)), H', ⟨by first | omega | exact Nat.le_refl _⟩, ⟨by repeat (first | (with_reducible first | exact HB.out | apply below_alloc | apply pw_below_drewN | apply below_drew1) | exact HB.out)⟩⟩
 case rest =>
  clear HC3
  try clear c2
  try clear p2
  try clear c4
  try clear c4b0
  obtain ⟨kq, x20_2, rfl, HA, HJ2, HB⟩ := hcut
  cases kq with
  | zero => exact absurd HA.out (by simp [modes_Best.j0])
  | succ kj2 =>
   have H := HA.out
   clear HA
   simp only [modes_Best.j0] at H
   by_cases c5 : x20_2 = true
   ·subst c5
    have H1 : (some (([] : List (S33)), 0, 1)) = some (r1, r2, r3) := by rw [if_pos rfl] at H; exact H
    clear H
    have H := H1
    clear H1
    simp only [Option.some.injEq, Prod.mk.injEq] at H
    obtain ⟨rfl, rfl, rfl⟩ := H
    go_wp2
    go_ret3
    exact ⟨_, by first | rfl | (simp [errW_none, errW_some] <;> rfl) | (simp [*, errW_none, errW_some] <;> rfl), by first | exact Kd.S_nil _ _ _ _ _ | exact Kd.N_nil _ _ _ _ _ | exact Kd.V_nil _ _ _ _ _ | exact Kd.Q_nil _ _ _ _ _ | exact Kd.R_nil _ _ _ _ _, by repeat (first | (with_reducible first | exact HB.out | apply below_alloc | apply pw_below_drewN | apply below_drew1) | exact HB.out)⟩
   ·replace c5 := Bool.eq_false_iff.mpr c5
    subst c5
    have H1 : (if (l0.length : Int) > 4096 then (some (([] : List (S33)), 0, 4)) else (if 0 ≤ (wrap64 ((l0.length : Int) + 1)) then (if (wrap64 ((l0.length : Int) + 1) : Int).toNat ≤ 8796093022208 then (modes_Best.l0 kj2 l0 a1 (l0.length : Int) (List.replicate (wrap64 ((l0.length : Int) + 1) : Int).toNat z93) (wrap64 ((l0.length : Int) - 1))) else (none)) else (none))) = some (r1, r2, r3) := by rw [if_neg (show ¬ (false = true) by decide)] at H; exact H
    clear H
    have H := H1
    clear H1
    by_cases c6 : (l0.length : Int) > 4096
    ·rw [if_pos c6] at H
     have c6b0 : decide (4096 < (l0.length : Int)) = true := decide_eq_true c6
     have c6b1 : decide (4096 < l0.length) = true := decide_eq_true (by omega)
     clear c6
     simp only [Option.some.injEq, Prod.mk.injEq] at H
     obtain ⟨rfl, rfl, rfl⟩ := H
     go_wp2
     go_ret3
     exact ⟨_, by first | rfl | (simp [errW_none, errW_some] <;> rfl) | (simp [*, errW_none, errW_some] <;> rfl), by first | exact Kd.S_nil _ _ _ _ _ | exact Kd.N_nil _ _ _ _ _ | exact Kd.V_nil _ _ _ _ _ | exact Kd.Q_nil _ _ _ _ _ | exact Kd.R_nil _ _ _ _ _, by repeat (first | (with_reducible first | exact HB.out | apply below_alloc | apply pw_below_drewN | apply below_drew1) | exact HB.out)⟩
    ·rw [if_neg c6] at H
     have c6b0 : decide (4096 < (l0.length : Int)) = false := decide_eq_false c6
     have c6b1 : decide (4096 < l0.length) = false := decide_eq_false (by omega)
     clear c6
     obtain ⟨ji7, hji7⟩ : ∃ j_ : Int, (wrap64 ((l0.length : Int) + 1)) = j_ := ⟨_, rfl⟩
     replace H : (if 0 ≤ (ji7) then (if (ji7 : Int).toNat ≤ 8796093022208 then (modes_Best.l0 kj2 l0 a1 (l0.length : Int) (List.replicate (ji7 : Int).toNat z93) (wrap64 ((l0.length : Int) - 1))) else (none)) else (none)) = some (r1, r2, r3) := by first | (rw [hji7] at H; exact H) | (simp only [hji7] at H ⊢; exact H)
     have hji7w : (IntKind.i64.wrap ((l0.length : Int) + 1)) = ji7 := (i64_w _).trans hji7
     by_cases c8 : 0 ≤ (ji7)
     ·rw [if_pos c8] at H
      have c8b0 := eq_true c8
      have c8b1 : decide (0 ≤ (ji7)) = true := decide_eq_true c8
      clear c8
      by_cases c9 : (ji7 : Int).toNat ≤ 8796093022208
      ·rw [if_pos c9] at H
       have c9b0 := eq_true c9
       have c9b1 : decide ((ji7 : Int).toNat ≤ 8796093022208) = true := decide_eq_true c9
       clear c9
       obtain ⟨y129, hy129⟩ : ∃ y_ : List (S93), y_ = (List.replicate (ji7 : Int).toNat z93) := ⟨_, rfl⟩
       replace H : (modes_Best.l0 kj2 l0 a1 (l0.length : Int) y129 (wrap64 ((l0.length : Int) - 1))) = some (r1, r2, r3) := by first | (rw [hy129]; with_reducible exact H) | (have H2_ := (Option.bind_some _ _).symm.trans H; rw [hy129]; with_reducible exact H2_) | (have H2_ := (Option.bind_some _ _).symm.trans H; with_reducible exact H2_) | with_reducible exact H | (rw [hy129]; exact H) | exact H
       have Ny129 := Aside0.mk hy129
       clear hy129
       have H' := Aside0.mk H
       clear H
       go_wp2_with (first | ((with_reducible refine gate_dst (N := 35) rfl ?_); refine Kd.R_make k93 _ 93 rfl (N := 35) rfl 91 _ _ rfl ji7 rfl rfl Try.underlying91 (.agg #[(.int .i64 0), (.int .i64 0), (.int .i64 0), (.int .i64 0)]) 32 info93 rfl (by decide) (by omega) z93 (ok := fun _ => True) (okp := fun _ => True) (k93_mkM _ _ _ z93 ) (fun _ hk => hk) trivial (of_decide_eq_true (by first | (with_reducible assumption) | assumption)) (Nat.le_trans (Nat.mul_le_mul_right _ (of_decide_eq_true (by first | (with_reducible assumption) | assumption) : ji7.toNat ≤ 8796093022208)) (by omega)) (Below.refl _ _) (Nat.le_refl _) ?_; intro v130 w10 ho11 hb hg_ hnew_; clear hg_ hnew_; (first | rw [← Ny129.out] at ho11 | (simp only [Int.reduceToNat] at ho11; rw [← Ny129.out] at ho11)); have n0_ := Aside0.mk (Kd.R_lower (Kd.R_newM (M := fun k_ => (w.heap.size ≤ k_)) ho11 (below_size (by repeat (first | (with_reducible first | exact HB.out | apply below_alloc | apply pw_below_drewN | apply below_drew1) | exact HB.out))) (fun k_ h_ => h_)) (below_size (by repeat (first | (with_reducible first | exact HB.out | apply below_alloc | apply pw_below_drewN | apply below_drew1) | exact HB.out)))); have n1_ := Aside0.mk (below_step (by repeat (first | (with_reducible first | exact HB.out | apply below_alloc | apply pw_below_drewN | apply below_drew1) | exact HB.out)) hb); clear HB; have HO131 := n0_; have HB := n1_; clear n0_ n1_; clear hb ho11))
       go_loopg [9] kj2 (fun kq v9 w' => ∃ (x8_2 : List (S93)) (x9_2 : Int), v9 = .int .i64 x9_2 ∧ Aside0 (modes_Best.l0 kq l0 a1 (l0.length : Int) x8_2 x9_2 = some (r1, r2, r3)) ∧ Aside0 (kq ≤ kj2) ∧ Aside0 (Kd.R k93 93 w' w.heap.size (fun k_ => (w.heap.size ≤ k_)) v130 x8_2) ∧ Aside0 (Below w.heap.size w w'))
       case atStart => exact ⟨(y129), (wrap64 ((l0.length : Int) - 1)), (by first | rfl | (simp; done) | (simp [*]; done) | (simp [i64_w]; done)), H', ⟨Nat.le_refl _⟩, ⟨by (with_reducible repeat (first | apply Kd.R_alloc | apply Kd.R_drewN | apply Kd.R_drew)); exact Kd.R_mono HO131.out (fun _ hk => hk.1)⟩, ⟨by repeat (first | (with_reducible first | exact HB.out | apply below_alloc | apply pw_below_drewN | apply below_drew1) | exact HB.out)⟩⟩
       case round =>
        clear H'
        try clear c2
        try clear p2
        try clear c4
        try clear c4b0
        try clear c5
        try clear c6
        try clear c6b0
        try clear c6b1
        try clear p6
        try clear c8
        try clear c8b0
        try clear c8b1
        try clear c9
        try clear c9b0
        try clear c9b1
        try clear p2
        obtain ⟨x8_2, x9_2, rfl, HA, HK2, HO_8, HB⟩ := hrel
        cases gk with
        | zero => exact absurd HA.out (by simp [modes_Best.l0])
        | succ k2 =>
         have H := HA.out
         clear HA
         simp only [modes_Best.l0] at H
         by_cases c12 : x9_2 ≥ 0
         ·rw [if_pos c12] at H
          have c12b0 : decide (0 ≤ x9_2) = true := decide_eq_true c12
          clear c12
          by_cases c13 : 0 ≤ x9_2
          ·rw [if_pos c13] at H
           have c13b0 : decide (0 ≤ x9_2) = true := decide_eq_true c13
           clear c13
           by_cases c14 : x9_2 < (x8_2.length : Int)
           ·rw [if_pos c14] at H
            have c14b0 : decide (x9_2 < (x8_2.length : Int)) = true := decide_eq_true c14
            clear c14
            obtain ⟨y132, hy132⟩ : ∃ y_ : List (S93), y_ = (x8_2.set (x9_2 : Int).toNat (⟨1099511627776, 0, 0, 0⟩ : S93)) := ⟨_, rfl⟩
            replace H : ((some (([1, 2, 4] : List Int) : List Int)).bind fun y133 => (modes_Best.l1 k2 l0 a1 (l0.length : Int) y132 x9_2 y133 (y133.length : Int) 0)) = some (r1, r2, r3) := by first | (rw [hy132]; with_reducible exact H) | (have H2_ := (Option.bind_some _ _).symm.trans H; rw [hy132]; with_reducible exact H2_) | (have H2_ := (Option.bind_some _ _).symm.trans H; with_reducible exact H2_) | with_reducible exact H | (rw [hy132]; exact H) | exact H
            have Ny132 := Aside0.mk hy132
            clear hy132
            obtain ⟨y133, hy133⟩ : ∃ y_ : List Int, y_ = (([1, 2, 4] : List Int)) := ⟨_, rfl⟩
            replace H : (modes_Best.l1 k2 l0 a1 (l0.length : Int) y132 x9_2 y133 (y133.length : Int) 0) = some (r1, r2, r3) := by first | (rw [hy133]; with_reducible exact H) | (have H2_ := (Option.bind_some _ _).symm.trans H; rw [hy133]; with_reducible exact H2_) | (have H2_ := (Option.bind_some _ _).symm.trans H; with_reducible exact H2_) | with_reducible exact H | (rw [hy133]; exact H) | exact H
            have Ny133 := Aside0.mk hy133
            clear hy133
            have H' := Aside0.mk H
            clear H
            have p15 : 0 ≤ (x9_2 : Int) := of_decide_eq_true (by first | (with_reducible assumption) | assumption)
            have q15 : (x9_2 : Int) < ((x8_2.length : Int) : Int) := of_decide_eq_true (by first | (with_reducible assumption) | assumption)
            obtain ⟨go15, co15, eo15, gb15, gl15, cl15, HG15⟩ := Kd.R_form HO_8.out (by omega)
            (first | cases eo15 | (injection eo15 with ea_ en_ ec_; (first | subst ea_ | (injection ea_ with ea_; subst ea_)); subst ec_; clear en_))
            have GB15 := Aside0.mk gb15
            have GG15 := Aside0.mk HG15
            clear gb15 gl15 HG15
            obtain ⟨ce15, hcl15, hM15, hcc15, hfr15⟩ := Kd.R_elem HO_8.out z93 (x9_2 : Int) p15 q15
            obtain rfl := k93_openM hM15
            have hx15_0 : wr.cell? ⟨go15, (x9_2 : Int).toNat * 4, none⟩ = some (.int .i64 ((rd_T93 x8_2 x9_2).f0)) := hcc15 0 _ rfl
            have hx15_1 : wr.cell? ⟨go15, (x9_2 : Int).toNat * 4 + 1, none⟩ = some (.int .i64 ((rd_T93 x8_2 x9_2).f1)) := hcc15 1 _ rfl
            have hx15_2 : wr.cell? ⟨go15, (x9_2 : Int).toNat * 4 + 2, none⟩ = some (.int .i64 ((rd_T93 x8_2 x9_2).f2)) := hcc15 2 _ rfl
            have hx15_3 : wr.cell? ⟨go15, (x9_2 : Int).toNat * 4 + 3, none⟩ = some (.int .i64 ((rd_T93 x8_2 x9_2).f3)) := hcc15 3 _ rfl
            have hf15_0 : wr.frozen? ⟨go15, (x9_2 : Int).toNat * 4, none⟩ = false := hfr15 0
            have hf15_1 : wr.frozen? ⟨go15, (x9_2 : Int).toNat * 4 + 1, none⟩ = false := hfr15 1
            have hf15_2 : wr.frozen? ⟨go15, (x9_2 : Int).toNat * 4 + 2, none⟩ = false := hfr15 2
            have hf15_3 : wr.frozen? ⟨go15, (x9_2 : Int).toNat * 4 + 3, none⟩ = false := hfr15 3
            clear hcl15 hcc15 hfr15 hM15
            replace p15 := eq_true p15
            replace q15 := eq_true q15
            have HX16 := Aside0.mk (show Kd.R k93 93 wr w.heap.size (fun k_ => (w.heap.size ≤ k_)) (.slice (some ⟨go15, 0, none⟩) x8_2.length co15) x8_2 from (by (with_reducible repeat (first | apply Kd.R_alloc | apply Kd.R_drewN | apply Kd.R_drew)); exact HO_8.out))
            obtain ⟨ce16, hcl16, hM16, hcc16, hfr16⟩ := Kd.R_elem HX16.out z93 (x9_2 : Int) (of_decide_eq_true (by first | (with_reducible assumption) | assumption)) (by have h_ : (x9_2 : Int) < ((x8_2.length : Int) : Int) := of_decide_eq_true (by first | (with_reducible assumption) | assumption); first | exact h_ | (have e_ := (Kd.R_reads' HO_8.out).1; omega) | simpa using h_)
            obtain rfl := k93_openM hM16
            have HP16 := Kd.R_seg HX16.out (x9_2 : Int) (of_decide_eq_true (by first | (with_reducible assumption) | assumption)) (by have h_ : (x9_2 : Int) < ((x8_2.length : Int) : Int) := of_decide_eq_true (by first | (with_reducible assumption) | assumption); first | exact h_ | (have e_ := (Kd.R_reads' HO_8.out).1; omega) | simpa using h_) (seg := [.int .i64 1099511627776, .int .i64 0, .int .i64 0, .int .i64 0]) (j := 0) hcl16 hcc16 (show 4 ≤ 4 from by decide) (x' := (⟨1099511627776, 0, 0, 0⟩ : S93)) (k93_mkM _ _ _ (⟨1099511627776, 0, 0, 0⟩ : S93) ) (fun _ hk => hk)
            have hx16_0 := hcc16 0 _ rfl
            (try simp only [show (k93).sz = 4 from rfl, Nat.mul_one, Nat.add_zero] at hx16_0)
            have hf16_0 := hfr16 0
            (try simp only [show (k93).sz = 4 from rfl, Nat.mul_one, Nat.add_zero] at hf16_0)
            have hx16_1 := hcc16 1 _ rfl
            (try simp only [show (k93).sz = 4 from rfl, Nat.mul_one, Nat.add_zero] at hx16_1)
            have hf16_1 := hfr16 1
            (try simp only [show (k93).sz = 4 from rfl, Nat.mul_one, Nat.add_zero] at hf16_1)
            have hx16_2 := hcc16 2 _ rfl
            (try simp only [show (k93).sz = 4 from rfl, Nat.mul_one, Nat.add_zero] at hx16_2)
            have hf16_2 := hfr16 2
            (try simp only [show (k93).sz = 4 from rfl, Nat.mul_one, Nat.add_zero] at hf16_2)
            have hx16_3 := hcc16 3 _ rfl
            (try simp only [show (k93).sz = 4 from rfl, Nat.mul_one, Nat.add_zero] at hx16_3)
            have hf16_3 := hfr16 3
            (try simp only [show (k93).sz = 4 from rfl, Nat.mul_one, Nat.add_zero] at hf16_3)
            clear hcl16 hcc16 hfr16 hM16
            go_wp2_with (first | ((with_reducible refine gate_store (t := 93) (p := 45) rfl ?_); refine store_event (t := 93) (p := 45) (v := ?vo_w17) (w1 := ((((wr.setCell ⟨go15, (x9_2 : Int).toNat * 4, none⟩ (.int .i64 1099511627776)).setCell ⟨go15, (x9_2 : Int).toNat * 4 + 1, none⟩ (.int .i64 0)).setCell ⟨go15, (x9_2 : Int).toNat * 4 + 2, none⟩ (.int .i64 0)).setCell ⟨go15, (x9_2 : Int).toNat * 4 + 3, none⟩ (.int .i64 0))) ?hg ?ho ?hn ?hr ?_; (case ho => rfl); (case hg => rfl); (case hn => rfl); (case hr => first | (go_simp; done) | (go_simp; rfl)); intro w17 hw; have hg : wr.grownBy w17 (some go15) := (by rw [hw]; exact HP16.2); have hp_ : Kd.R k93 93 w17 w.heap.size (fun k_ => (w.heap.size ≤ k_)) (.slice (some ⟨go15, 0, none⟩) x8_2.length co15) y132 := (by rw [hw, Ny132.out]; exact HP16.1); clear HP16; have n0_ := Aside0.mk (hp_); have n1_ := Aside0.mk ((by rw [hw]; exact below_set (below_set (below_set (below_set (HB.out) GB15.out) GB15.out) GB15.out) GB15.out : Below w.heap.size w w17)); clear HO_8; clear HB; have HO_8 := n0_; have HB := n1_; clear n0_ n1_; clear hg hw hp_) | ((with_reducible refine gate_dst (N := 46) rfl ?_); refine Kd.R_lit (Kd.int .i64) _ 31 ?hg (N := 46) ?hd (xs := ([1, 2, 4] : List Int)) (inner := [.int .i64 1, .int .i64 2, .int .i64 4]) (ok := fun _ => True) (okp := fun _ => True) ?hr ?hp (fun _ hk => hk) trivial (Below.refl _ _) (Nat.le_refl _) (by simp) ?_; (case hd => rfl); (case hg => rfl); (case hr => first | (go_simp; done) | (go_simp; rfl)); (case hp => exact (Reps.one (show Kd.M (Kd.int .i64) _ _ _ 1 [.int .i64 1] from rfl) (Reps.one (show Kd.M (Kd.int .i64) _ _ _ 2 [.int .i64 2] from rfl) (Reps.one (show Kd.M (Kd.int .i64) _ _ _ 4 [.int .i64 4] from rfl) (Reps.none _ _))))); intro v134 w18 ho19 hb hg_ hnew_; clear hg_ hnew_; (first | rw [← Ny133.out] at ho19 | (simp only [Int.reduceToNat] at ho19; rw [← Ny133.out] at ho19)); have n0_ := Aside0.mk (Kd.R_below (by (with_reducible repeat (first | apply Kd.R_alloc | apply Kd.R_drewN | apply Kd.R_drew)); exact HO_8.out) hb); have n1_ := Aside0.mk (Kd.R_lower (Kd.R_newM (M := fun k_ => (w.heap.size ≤ k_)) ho19 (below_size (by repeat (first | (with_reducible first | exact HB.out | apply below_alloc | apply pw_below_drewN | apply below_drew1) | exact HB.out))) (fun k_ h_ => h_)) (below_size (by repeat (first | (with_reducible first | exact HB.out | apply below_alloc | apply pw_below_drewN | apply below_drew1) | exact HB.out)))); have n2_ := Aside0.mk (below_step (by repeat (first | (with_reducible first | exact HB.out | apply below_alloc | apply pw_below_drewN | apply below_drew1) | exact HB.out)) hb); clear HO_8; clear HB; have HO_8 := n0_; have HO135 := n1_; have HB := n2_; clear n0_ n1_ n2_; clear hb ho19; obtain ⟨Ao20, co20, eo20⟩ := Kd.R_slice HO135.out; subst eo20))
            go_loopg [48] k2 (fun kq v48 w' => ∃ (x8_3 : List (S93)) (x48_3 : Int), v48 = .int .i64 x48_3 ∧ Aside0 (modes_Best.l1 kq l0 a1 (l0.length : Int) x8_3 x9_2 y133 (y133.length : Int) x48_3 = some (r1, r2, r3)) ∧ Aside0 (kq ≤ k2) ∧ Aside0 (Kd.R k93 93 w' w.heap.size (fun k_ => (w.heap.size ≤ k_)) (.slice (some ⟨go15, 0, none⟩) x8_2.length co15) x8_3) ∧ Aside0 (Kd.R (Kd.int .i64) 31 w' w.heap.size (fun k_ => (w.heap.size ≤ k_)) (.slice Ao20 y133.length co20) y133) ∧ Aside0 (Below w.heap.size w w'))
            case atStart => exact ⟨(y132), (0), (by first | rfl | (simp; done) | (simp [*]; done) | (simp [i64_w]; done)), H', ⟨Nat.le_refl _⟩, ⟨by (with_reducible repeat (first | apply Kd.R_alloc | apply Kd.R_drewN | apply Kd.R_drew)); exact HO_8.out⟩, ⟨by (with_reducible repeat (first | apply Kd.R_alloc | apply Kd.R_drewN | apply Kd.R_drew)); exact Kd.R_mono HO135.out (fun _ hk => hk.1)⟩, ⟨by repeat (first | (with_reducible first | exact HB.out | apply below_alloc | apply pw_below_drewN | apply below_drew1) | exact HB.out)⟩⟩
            case round =>
             clear H'
             try clear c1
             try clear p1
             try clear q1
             try clear hx1
             try clear c2
             try clear p2
             try clear c4
             try clear c4b0
             try clear c5
             try clear c6
             try clear c6b0
             try clear c6b1
             try clear p6
             try clear c8
             try clear c8b0
             try clear c8b1
             try clear c9
             try clear c9b0
             try clear c9b1
             try clear c12
             try clear c12b0
             try clear c13
             try clear c13b0
             try clear c14
             try clear c14b0
             try clear c15
             try clear p15
             try clear q15
             try clear hx15
             try clear hf15
             try clear c16
             try clear hx16
             try clear hf16
             try clear hx15_0
             try clear hx15_1
             try clear hx15_2
             try clear hx15_3
             try clear hx16_0
             try clear hx16_1
             try clear hx16_2
             try clear hx16_3
             try clear p15
             try clear p2
             try clear p6
             try clear q15
             obtain ⟨x8_3, x48_3, rfl, HA, HK3, HO_8, HO_46, HB⟩ := hrel
             have hl8_3 := (Kd.R_reads' HO_8.out).1
             rw [hl8_3] at HO_8
             (try simp only [hl8_3])
             (try simp only [hl8_3] at HO_46)
             cases gk with
             | zero => exact absurd HA.out (by simp [modes_Best.l1])
             | succ k3 =>
              have H := HA.out
              clear HA
              simp only [modes_Best.l1] at H
              by_cases c21 : x48_3 < (y133.length : Int)
              ·rw [if_pos c21] at H
               have c21b0 : decide (x48_3 < (y133.length : Int)) = true := decide_eq_true c21
               (try (have c21h0 := c21b0; simp only [hl8_3] at c21h0))
               clear c21
               by_cases c22 : 0 ≤ x48_3
               ·rw [if_pos c22] at H
                have c22b0 : decide (0 ≤ x48_3) = true := decide_eq_true c22
                clear c22
                by_cases c23 : x48_3 < (y133.length : Int)
                ·rw [if_pos c23] at H
                 have c23b0 : decide (x48_3 < (y133.length : Int)) = true := decide_eq_true c23
                 (try (have c23h0 := c23b0; simp only [hl8_3] at c23h0))
                 clear c23
                 replace H := Option.bind_eq_some_iff.mp H
                 obtain ⟨t137, A240, H⟩ := H
                 replace H : (if 0 ≤ t137 then (modes_Best.l2 k3 l0 a1 (l0.length : Int) x8_3 x9_2 (rd y133 x48_3) (mn (wrap64 ((l0.length : Int) - x9_2)) (wrap64 ((shl .i64 1 t137) - 1))) 1 y133 (y133.length : Int) x48_3) else (none)) = some (r1, r2, r3) := H
                 have A24 := Aside0.mk A240
                 clear A240
                 by_cases c25 : 0 ≤ t137
                 ·rw [if_pos c25] at H
                  have c25b0 := eq_true c25
                  have c25b1 : decide (0 ≤ t137) = true := decide_eq_true c25
                  clear c25
                  obtain ⟨ji26, hji26⟩ : ∃ j_ : Int, (shl .i64 1 t137) = j_ := ⟨_, rfl⟩
                  replace H : (modes_Best.l2 k3 l0 a1 (l0.length : Int) x8_3 x9_2 (rd y133 x48_3) (mn (wrap64 ((l0.length : Int) - x9_2)) (wrap64 ((ji26) - 1))) 1 y133 (y133.length : Int) x48_3) = some (r1, r2, r3) := by first | (rw [hji26] at H; exact H) | (simp only [hji26] at H ⊢; exact H)
                  (try rw [hji26] at A24)
                  have hji26_ : (IntKind.i64.wrap (1 * 2 ^ min t137.toNat 64)) = ji26 := hji26
                  have hji26z : t137 ≤ 64 → (IntKind.i64.wrap (1 * 2 ^ t137.toNat)) = ji26 := shl_small hji26
                  have hji26u : (IntKind.i64.wrap (2 ^ min t137.toNat 64)) = ji26 := by have h_ := hji26_; rw [Int.one_mul] at h_; exact h_
                  have hji26v : t137 ≤ 64 → (IntKind.i64.wrap (2 ^ t137.toNat)) = ji26 := fun hle_ => by have h_ := hji26z hle_; rw [Int.one_mul] at h_; exact h_
                  have hji26y : (wrap64 (1 * 2 ^ min t137.toNat 64)) = ji26 := (i64_w _).symm.trans hji26_
                  have hji26x : t137 ≤ 64 → (wrap64 (1 * 2 ^ t137.toNat)) = ji26 := fun h_ => (i64_w _).symm.trans (hji26z h_)
                  obtain ⟨ji27, hji27⟩ : ∃ j_ : Int, (mn (wrap64 ((l0.length : Int) - x9_2)) (wrap64 ((ji26) - 1))) = j_ := ⟨_, rfl⟩
                  replace H : (modes_Best.l2 k3 l0 a1 (l0.length : Int) x8_3 x9_2 (rd y133 x48_3) ji27 1 y133 (y133.length : Int) x48_3) = some (r1, r2, r3) := by first | (rw [hji27] at H; exact H) | (simp only [hji27] at H ⊢; exact H)
                  (try rw [hji27] at A24)
                  have hji27_ : (if (wrap64 ((ji26) - 1)) < (wrap64 ((l0.length : Int) - x9_2)) then (wrap64 ((ji26) - 1)) else (wrap64 ((l0.length : Int) - x9_2))) = ji27 := hji27
                  have H' := Aside0.mk H
                  clear H
                  have p136 : 0 ≤ (x48_3 : Int) := of_decide_eq_true (by first | (with_reducible assumption) | assumption)
                  have q136 : x48_3 < (y133.length : Int) := of_decide_eq_true (by first | (with_reducible assumption) | assumption)
                  obtain ⟨ad136, e136, hx136_0⟩ := Kd.at_int (Kd.R_reads' HO_46.out).2.2 x48_3 p136 q136
                  cases e136
                  replace p136 := eq_true p136
                  replace q136 := eq_true q136
                  go_wp2_with (first | ((with_reducible refine gate_callee (f := 51) rfl ?_); refine goesL_ (some 57) rfl rfl Try.func51 (by kernel_rfl) rfl #[.int .i64 (rd y133 x48_3), .int .i64 a1] rfl (by (try simp only [List.map_toArray, List.map_cons, List.map_nil]); first | done | rfl | (simp only [List.length_drop, List.length_take]; rfl)) ?_; (with_reducible refine (modes_countBits.calls k3 (rd y133 x48_3) a1 t137 _ A24.out).mono ?_); rintro e w28 ⟨rfl, hb⟩; refine ⟨_, rfl, ?_⟩; have n0_ := Aside0.mk (Kd.R_below (by (with_reducible repeat (first | apply Kd.R_alloc | apply Kd.R_drewN | apply Kd.R_drew)); exact HO_8.out) hb); have n1_ := Aside0.mk (Kd.R_below (by (with_reducible repeat (first | apply Kd.R_alloc | apply Kd.R_drewN | apply Kd.R_drew)); exact HO_46.out) hb); have n2_ := Aside0.mk (below_step (by repeat (first | (with_reducible first | exact HB.out | apply below_alloc | apply pw_below_drewN | apply below_drew1) | exact HB.out)) hb); clear HO_8; clear HO_46; clear HB; have HO_8 := n0_; have HO_46 := n1_; have HB := n2_; clear n0_ n1_ n2_; (try clear hb); (try clear hb2); (try clear hk); (try clear hi)))
                  go_loopg [13] k3 (fun kq v13 w' => ∃ (x8_4 : List (S93)) (x13_4 : Int), v13 = .int .i64 x13_4 ∧ Aside0 (modes_Best.l2 kq l0 a1 (l0.length : Int) x8_4 x9_2 (rd y133 x48_3) ji27 x13_4 y133 (y133.length : Int) x48_3 = some (r1, r2, r3)) ∧ Aside0 (kq ≤ k3) ∧ Aside0 (Kd.R k93 93 w' w.heap.size (fun k_ => (w.heap.size ≤ k_)) (.slice (some ⟨go15, 0, none⟩) x8_3.length co15) x8_4) ∧ Aside0 (Kd.R (Kd.int .i64) 31 w' w.heap.size (fun k_ => (w.heap.size ≤ k_)) (.slice (some ad136) y133.length co20) y133) ∧ Aside0 (Below w.heap.size w w'))
                  case atStart => exact ⟨(x8_3), (1), (by first | rfl | (simp; done) | (simp [*]; done) | (simp [i64_w]; done)), H', ⟨Nat.le_refl _⟩, ⟨by (try simp only [hl8_3]); (with_reducible repeat (first | apply Kd.R_alloc | apply Kd.R_drewN | apply Kd.R_drew)); exact HO_8.out⟩, ⟨by (try simp only [hl8_3]); (with_reducible repeat (first | apply Kd.R_alloc | apply Kd.R_drewN | apply Kd.R_drew)); exact HO_46.out⟩, ⟨by repeat (first | (with_reducible first | exact HB.out | apply below_alloc | apply pw_below_drewN | apply below_drew1) | exact HB.out)⟩⟩
                  case round =>
                   clear H'
                   try clear c1
                   try clear p1
                   try clear q1
                   try clear hx1
                   try clear c2
                   try clear p2
                   try clear c4
                   try clear c4b0
                   try clear c5
                   try clear c6
                   try clear c6b0
                   try clear c6b1
                   try clear p6
                   try clear c8
                   try clear c8b0
                   try clear c8b1
                   try clear c9
                   try clear c9b0
                   try clear c9b1
                   try clear c12
                   try clear c12b0
                   try clear c13
                   try clear c13b0
                   try clear p13
                   try clear q13
                   try clear hx13
                   try clear c14
                   try clear c14b0
                   try clear c15
                   try clear p15
                   try clear q15
                   try clear hx15
                   try clear hf15
                   try clear c16
                   try clear hx16
                   try clear hf16
                   try clear c21
                   try clear c21b0
                   try clear c22
                   try clear c22b0
                   try clear c23
                   try clear c23b0
                   try clear c25
                   try clear c25b0
                   try clear c25b1
                   try clear c26
                   try clear hx136_0
                   try clear hx15_0
                   try clear hx15_1
                   try clear hx15_2
                   try clear hx15_3
                   try clear hx16_0
                   try clear hx16_1
                   try clear hx16_2
                   try clear hx16_3
                   try clear p1
                   try clear p136
                   try clear p15
                   try clear p2
                   try clear p6
                   try clear q1
                   try clear q136
                   try clear q15
                   obtain ⟨x8_4, x13_4, rfl, HA, HK4, HO_8, HO_46, HB⟩ := hrel
                   have hl8_4 := (Kd.R_reads' HO_8.out).1
                   rw [hl8_4] at HO_8
                   (try simp only [hl8_4])
                   (try simp only [hl8_4] at HO_46)
                   cases gk with
                   | zero => exact absurd HA.out (by simp [modes_Best.l2])
                   | succ k4 =>
                    have H := HA.out
                    clear HA
                    simp only [modes_Best.l2] at H
                    have HC29 := Aside0.mk H
                    clear H
                    go_upto_region 16 with (fail)
                    go_cut [74] (fun v74 wc => ∃ (kq : Nat) (x74_28 : Bool), v74 = .bool x74_28 ∧ Aside0 (modes_Best.j4 kq l0 a1 (l0.length : Int) x8_4 x9_2 (rd y133 x48_3) ji27 x13_4 y133 (y133.length : Int) x48_3 x74_28 = some (r1, r2, r3)) ∧ Aside0 (kq ≤ k4) ∧ Aside0 (Kd.R k93 93 wc w.heap.size (fun k_ => (w.heap.size ≤ k_)) (.slice (some ⟨go15, 0, none⟩) x8_4.length co15) x8_4) ∧ Aside0 (Kd.R (Kd.int .i64) 31 wc w.heap.size (fun k_ => (w.heap.size ≤ k_)) (.slice (some ad136) y133.length co20) y133) ∧ Aside0 (Below w.heap.size w wc))
                    case first =>
                     have H := HC29.out
                     clear HC29
                     by_cases c30 : x13_4 ≤ ji27
                     ·rw [if_pos c30] at H
                      have c30b0 : decide (x13_4 ≤ ji27) = true := decide_eq_true c30
                      clear c30
                      (first | rw [c30b0] | (simp only [i64_w, i32_w]; rw [c30b0]) | skip)
                      obtain ⟨ji31, hji31⟩ : ∃ j_ : Int, (wrap64 ((wrap64 (x9_2 + x13_4)) - 1)) = j_ := ⟨_, rfl⟩
                      replace H : (if 0 ≤ (ji31) then (if (ji31) < (l0.length : Int) then ((modes_Fits.f (rd y133 x48_3) (rd l0 (ji31))).bind fun t139 => (modes_Best.j4 k4 l0 a1 (l0.length : Int) x8_4 x9_2 (rd y133 x48_3) ji27 x13_4 y133 (y133.length : Int) x48_3 t139)) else (none)) else (none)) = some (r1, r2, r3) := by first | (rw [hji31] at H; exact H) | (simp only [hji31] at H ⊢; exact H)
                      have hji31w : (IntKind.i64.wrap ((wrap64 (x9_2 + x13_4)) - 1)) = ji31 := (i64_w _).trans hji31
                      by_cases c32 : 0 ≤ (ji31)
                      ·rw [if_pos c32] at H
                       have c32b0 : decide (0 ≤ (ji31)) = true := decide_eq_true c32
                       clear c32
                       by_cases c33 : (ji31) < (l0.length : Int)
                       ·rw [if_pos c33] at H
                        have c33b0 : decide ((ji31) < (l0.length : Int)) = true := decide_eq_true c33
                        (try (have c33h0 := c33b0; simp only [hl8_3, hl8_4] at c33h0))
                        clear c33
                        replace H := Option.bind_eq_some_iff.mp H
                        obtain ⟨t139, A340, H⟩ := H
                        replace H : (modes_Best.j4 k4 l0 a1 (l0.length : Int) x8_4 x9_2 (rd y133 x48_3) ji27 x13_4 y133 (y133.length : Int) x48_3 t139) = some (r1, r2, r3) := H
                        have A34 := Aside0.mk A340
                        clear A340
                        have H' := Aside0.mk H
                        clear H
                        have p138 : 0 ≤ ((ji31) : Int) := of_decide_eq_true (by first | (with_reducible assumption) | assumption)
                        have q138 : (ji31) < (l0.length : Int) := of_decide_eq_true (by first | (with_reducible assumption) | assumption)
                        obtain ⟨ad138, e138, hx138_0⟩ := Kd.at_int HR0.out (ji31) p138 q138
                        cases e138
                        replace hx138_0 := (HB.out.cell (World.block_lt_of_cell? w _ hx138_0)).trans hx138_0
                        replace p138 := eq_true p138
                        replace q138 := eq_true q138
                        go_wp2_with (first | (go_at_call 38; (with_reducible refine (modes_Fits.calls (rd y133 x48_3) (rd l0 (ji31)) t139 _ A34.out).mono ?_); rintro e w' ⟨rfl, ⟨nd, rfl⟩⟩))
                        go_meet
                        case rel => exact ⟨_, (t139), (by first | rfl | (simp; done) | (simp [*]; done) | (simp [i64_w]; done)), H', ⟨by have := HJ2.out; have := HK2.out; have := HK3.out; have := HK4.out; first | omega | exact Nat.le_refl _⟩, ⟨by (try simp only [hl8_3]); (try simp only [hl8_4]); (with_reducible repeat (first | apply Kd.R_alloc | apply Kd.R_drewN | apply Kd.R_drew)); exact HO_8.out⟩, ⟨by (try simp only [hl8_3]); (try simp only [hl8_4]); (with_reducible repeat (first | apply Kd.R_alloc | apply Kd.R_drewN | apply Kd.R_drew)); exact HO_46.out⟩, ⟨by repeat (first | (with_reducible first | exact HB.out | apply below_alloc | apply pw_below_drewN | apply below_drew1) | exact HB.out)⟩⟩
                       ·rw [if_neg c33] at H
                        exact absurd H (by simp)
                      ·rw [if_neg c32] at H
                       exact absurd H (by simp)
                     ·rw [if_neg c30] at H
                      have c30b0 : decide (x13_4 ≤ ji27) = false := decide_eq_false c30
                      clear c30
                      (first | rw [c30b0] | (simp only [i64_w, i32_w]; rw [c30b0]) | skip)
                      have H' := Aside0.mk H
                      clear H
                      go_wp2
                      go_meet
                      case rel => exact ⟨_, (false), (by first | rfl | (simp; done) | (simp [*]; done) | (simp [i64_w]; done)), H', ⟨by have := HJ2.out; have := HK2.out; have := HK3.out; have := HK4.out; first | omega | exact Nat.le_refl _⟩, ⟨by (try simp only [hl8_3]); (try simp only [hl8_4]); (with_reducible repeat (first | apply Kd.R_alloc | apply Kd.R_drewN | apply Kd.R_drew)); exact HO_8.out⟩, ⟨by (try simp only [hl8_3]); (try simp only [hl8_4]); (with_reducible repeat (first | apply Kd.R_alloc | apply Kd.R_drewN | apply Kd.R_drew)); exact HO_46.out⟩, ⟨by repeat (first | (with_reducible first | exact HB.out | apply below_alloc | apply pw_below_drewN | apply below_drew1) | exact HB.out)⟩⟩
                    case rest =>
                     clear HC29
                     try clear c1
                     try clear p1
                     try clear q1
                     try clear hx1
                     try clear c2
                     try clear p2
                     try clear c3
                     try clear c4
                     try clear c4b0
                     try clear c5
                     try clear c6
                     try clear c6b0
                     try clear c6b1
                     try clear p6
                     try clear c8
                     try clear c8b0
                     try clear c8b1
                     try clear c9
                     try clear c9b0
                     try clear c9b1
                     try clear c12
                     try clear c12b0
                     try clear c13
                     try clear c13b0
                     try clear p13
                     try clear q13
                     try clear hx13
                     try clear c14
                     try clear c14b0
                     try clear c15
                     try clear p15
                     try clear q15
                     try clear hx15
                     try clear hf15
                     try clear c16
                     try clear hx16
                     try clear hf16
                     try clear c21
                     try clear c21b0
                     try clear c22
                     try clear c22b0
                     try clear c23
                     try clear c23b0
                     try clear c25
                     try clear c25b0
                     try clear c25b1
                     try clear c26
                     try clear c30
                     try clear c30b0
                     try clear c32
                     try clear c32b0
                     try clear c33
                     try clear c33b0
                     try clear hx136_0
                     try clear hx138_0
                     try clear hx15_0
                     try clear hx15_1
                     try clear hx15_2
                     try clear hx15_3
                     try clear hx16_0
                     try clear hx16_1
                     try clear hx16_2
                     try clear hx16_3
                     try clear p1
                     try clear p13
                     try clear p136
                     try clear p138
                     try clear p15
                     try clear p2
                     try clear p6
                     try clear q1
                     try clear q13
                     try clear q136
                     try clear q138
                     try clear q15
                     obtain ⟨kq, x74_28, rfl, HA, HJ28, HO_8, HO_46, HB⟩ := hcut
                     cases kq with
                     | zero => exact absurd HA.out (by simp [modes_Best.j4])
                     | succ kj28 =>
                      have H := HA.out
                      clear HA
                      simp only [modes_Best.j4] at H
                      by_cases c35 : x74_28 = true
                      ·subst c35
                       have H1 : (if 0 ≤ (wrap64 (x9_2 + x13_4)) then (if (wrap64 (x9_2 + x13_4)) < (x8_4.length : Int) then ((modes_countBits.f kj28 (rd y133 x48_3) a1).bind fun t142 => ((modes_dataBits.f (rd y133 x48_3) x13_4).bind fun t143 => (if 0 ≤ x9_2 then (if x9_2 < (x8_4.length : Int) then ((modes_plan_better.f (wrap64 ((wrap64 ((wrap64 (4 + t142)) + t143)) + ((rd_T93 x8_4 (wrap64 (x9_2 + x13_4))).f0))) (wrap64 (1 + ((rd_T93 x8_4 (wrap64 (x9_2 + x13_4))).f1))) x13_4 (rd y133 x48_3) ((rd_T93 x8_4 x9_2).f0) ((rd_T93 x8_4 x9_2).f1) ((rd_T93 x8_4 x9_2).f2) ((rd_T93 x8_4 x9_2).f3)).bind fun t146 => (if t146 = true then (modes_Best.l2 kj28 l0 a1 (l0.length : Int) (x8_4.set (x9_2 : Int).toNat (⟨wrap64 ((wrap64 ((wrap64 (4 + t142)) + t143)) + ((rd_T93 x8_4 (wrap64 (x9_2 + x13_4))).f0)), wrap64 (1 + ((rd_T93 x8_4 (wrap64 (x9_2 + x13_4))).f1)), x13_4, (rd y133 x48_3)⟩ : S93)) x9_2 (rd y133 x48_3) ji27 (wrap64 (x13_4 + 1)) y133 (y133.length : Int) x48_3) else (modes_Best.l2 kj28 l0 a1 (l0.length : Int) x8_4 x9_2 (rd y133 x48_3) ji27 (wrap64 (x13_4 + 1)) y133 (y133.length : Int) x48_3))) else (none)) else (none)))) else (none)) else (none)) = some (r1, r2, r3) := by rw [if_pos rfl] at H; exact H
                       clear H
                       have H := H1
                       clear H1
                       obtain ⟨ji36, hji36⟩ : ∃ j_ : Int, (wrap64 (x9_2 + x13_4)) = j_ := ⟨_, rfl⟩
                       replace H : (if 0 ≤ (ji36) then (if (ji36) < (x8_4.length : Int) then ((modes_countBits.f kj28 (rd y133 x48_3) a1).bind fun t142 => ((modes_dataBits.f (rd y133 x48_3) x13_4).bind fun t143 => (if 0 ≤ x9_2 then (if x9_2 < (x8_4.length : Int) then ((modes_plan_better.f (wrap64 ((wrap64 ((wrap64 (4 + t142)) + t143)) + ((rd_T93 x8_4 (ji36)).f0))) (wrap64 (1 + ((rd_T93 x8_4 (ji36)).f1))) x13_4 (rd y133 x48_3) ((rd_T93 x8_4 x9_2).f0) ((rd_T93 x8_4 x9_2).f1) ((rd_T93 x8_4 x9_2).f2) ((rd_T93 x8_4 x9_2).f3)).bind fun t146 => (if t146 = true then (modes_Best.l2 kj28 l0 a1 (l0.length : Int) (x8_4.set (x9_2 : Int).toNat (⟨wrap64 ((wrap64 ((wrap64 (4 + t142)) + t143)) + ((rd_T93 x8_4 (ji36)).f0)), wrap64 (1 + ((rd_T93 x8_4 (ji36)).f1)), x13_4, (rd y133 x48_3)⟩ : S93)) x9_2 (rd y133 x48_3) ji27 (wrap64 (x13_4 + 1)) y133 (y133.length : Int) x48_3) else (modes_Best.l2 kj28 l0 a1 (l0.length : Int) x8_4 x9_2 (rd y133 x48_3) ji27 (wrap64 (x13_4 + 1)) y133 (y133.length : Int) x48_3))) else (none)) else (none)))) else (none)) else (none)) = some (r1, r2, r3) := by first | (rw [hji36] at H; exact H) | (simp only [hji36] at H ⊢; exact H)
                       have hji36w : (IntKind.i64.wrap (x9_2 + x13_4)) = ji36 := (i64_w _).trans hji36
                       by_cases c37 : 0 ≤ (ji36)
                       ·rw [if_pos c37] at H
                        have c37b0 : decide (0 ≤ (ji36)) = true := decide_eq_true c37
                        clear c37
                        by_cases c38 : (ji36) < (x8_4.length : Int)
                        ·rw [if_pos c38] at H
                         have c38b0 : decide ((ji36) < (x8_4.length : Int)) = true := decide_eq_true c38
                         (try (have c38h0 := c38b0; simp only [hl8_3, hl8_4] at c38h0))
                         clear c38
                         replace H := Option.bind_eq_some_iff.mp H
                         obtain ⟨t142, A390, H⟩ := H
                         replace H : ((modes_dataBits.f (rd y133 x48_3) x13_4).bind fun t143 => (if 0 ≤ x9_2 then (if x9_2 < (x8_4.length : Int) then ((modes_plan_better.f (wrap64 ((wrap64 ((wrap64 (4 + t142)) + t143)) + ((rd_T93 x8_4 (ji36)).f0))) (wrap64 (1 + ((rd_T93 x8_4 (ji36)).f1))) x13_4 (rd y133 x48_3) ((rd_T93 x8_4 x9_2).f0) ((rd_T93 x8_4 x9_2).f1) ((rd_T93 x8_4 x9_2).f2) ((rd_T93 x8_4 x9_2).f3)).bind fun t146 => (if t146 = true then (modes_Best.l2 kj28 l0 a1 (l0.length : Int) (x8_4.set (x9_2 : Int).toNat (⟨wrap64 ((wrap64 ((wrap64 (4 + t142)) + t143)) + ((rd_T93 x8_4 (ji36)).f0)), wrap64 (1 + ((rd_T93 x8_4 (ji36)).f1)), x13_4, (rd y133 x48_3)⟩ : S93)) x9_2 (rd y133 x48_3) ji27 (wrap64 (x13_4 + 1)) y133 (y133.length : Int) x48_3) else (modes_Best.l2 kj28 l0 a1 (l0.length : Int) x8_4 x9_2 (rd y133 x48_3) ji27 (wrap64 (x13_4 + 1)) y133 (y133.length : Int) x48_3))) else (none)) else (none))) = some (r1, r2, r3) := H
                         have A39 := Aside0.mk A390
                         clear A390
                         replace H := Option.bind_eq_some_iff.mp H
                         obtain ⟨t143, A400, H⟩ := H
                         replace H : (if 0 ≤ x9_2 then (if x9_2 < (x8_4.length : Int) then ((modes_plan_better.f (wrap64 ((wrap64 ((wrap64 (4 + t142)) + t143)) + ((rd_T93 x8_4 (ji36)).f0))) (wrap64 (1 + ((rd_T93 x8_4 (ji36)).f1))) x13_4 (rd y133 x48_3) ((rd_T93 x8_4 x9_2).f0) ((rd_T93 x8_4 x9_2).f1) ((rd_T93 x8_4 x9_2).f2) ((rd_T93 x8_4 x9_2).f3)).bind fun t146 => (if t146 = true then (modes_Best.l2 kj28 l0 a1 (l0.length : Int) (x8_4.set (x9_2 : Int).toNat (⟨wrap64 ((wrap64 ((wrap64 (4 + t142)) + t143)) + ((rd_T93 x8_4 (ji36)).f0)), wrap64 (1 + ((rd_T93 x8_4 (ji36)).f1)), x13_4, (rd y133 x48_3)⟩ : S93)) x9_2 (rd y133 x48_3) ji27 (wrap64 (x13_4 + 1)) y133 (y133.length : Int) x48_3) else (modes_Best.l2 kj28 l0 a1 (l0.length : Int) x8_4 x9_2 (rd y133 x48_3) ji27 (wrap64 (x13_4 + 1)) y133 (y133.length : Int) x48_3))) else (none)) else (none)) = some (r1, r2, r3) := H
                         have A40 := Aside0.mk A400
                         clear A400
                         by_cases c41 : 0 ≤ x9_2
                         ·rw [if_pos c41] at H
                          have c41b0 : decide (0 ≤ x9_2) = true := decide_eq_true c41
                          clear c41
                          by_cases c42 : x9_2 < (x8_4.length : Int)
                          ·rw [if_pos c42] at H
                           have c42b0 : decide (x9_2 < (x8_4.length : Int)) = true := decide_eq_true c42
                           (try (have c42h0 := c42b0; simp only [hl8_3, hl8_4] at c42h0))
                           clear c42
                           replace H := Option.bind_eq_some_iff.mp H
                           obtain ⟨t146, A430, H⟩ := H
                           replace H : (if t146 = true then (modes_Best.l2 kj28 l0 a1 (l0.length : Int) (x8_4.set (x9_2 : Int).toNat (⟨wrap64 ((wrap64 ((wrap64 (4 + t142)) + t143)) + ((rd_T93 x8_4 (ji36)).f0)), wrap64 (1 + ((rd_T93 x8_4 (ji36)).f1)), x13_4, (rd y133 x48_3)⟩ : S93)) x9_2 (rd y133 x48_3) ji27 (wrap64 (x13_4 + 1)) y133 (y133.length : Int) x48_3) else (modes_Best.l2 kj28 l0 a1 (l0.length : Int) x8_4 x9_2 (rd y133 x48_3) ji27 (wrap64 (x13_4 + 1)) y133 (y133.length : Int) x48_3)) = some (r1, r2, r3) := H
                           have A43 := Aside0.mk A430
                           clear A430
                           by_cases c44 : t146 = true
                           ·subst c44
                            have H1 : (modes_Best.l2 kj28 l0 a1 (l0.length : Int) (x8_4.set (x9_2 : Int).toNat (⟨wrap64 ((wrap64 ((wrap64 (4 + t142)) + t143)) + ((rd_T93 x8_4 (ji36)).f0)), wrap64 (1 + ((rd_T93 x8_4 (ji36)).f1)), x13_4, (rd y133 x48_3)⟩ : S93)) x9_2 (rd y133 x48_3) ji27 (wrap64 (x13_4 + 1)) y133 (y133.length : Int) x48_3) = some (r1, r2, r3) := by rw [if_pos rfl] at H; exact H
                            clear H
                            have H := H1
                            clear H1
                            obtain ⟨y147, hy147⟩ : ∃ y_ : List (S93), y_ = (x8_4.set (x9_2 : Int).toNat (⟨wrap64 ((wrap64 ((wrap64 (4 + t142)) + t143)) + ((rd_T93 x8_4 (ji36)).f0)), wrap64 (1 + ((rd_T93 x8_4 (ji36)).f1)), x13_4, (rd y133 x48_3)⟩ : S93)) := ⟨_, rfl⟩
                            replace H : (modes_Best.l2 kj28 l0 a1 (l0.length : Int) y147 x9_2 (rd y133 x48_3) ji27 (wrap64 (x13_4 + 1)) y133 (y133.length : Int) x48_3) = some (r1, r2, r3) := by first | (rw [hy147]; with_reducible exact H) | (have H2_ := (Option.bind_some _ _).symm.trans H; rw [hy147]; with_reducible exact H2_) | (have H2_ := (Option.bind_some _ _).symm.trans H; with_reducible exact H2_) | with_reducible exact H | (rw [hy147]; exact H) | exact H
                            have Ny147 := Aside0.mk hy147
                            clear hy147
                            have H' := Aside0.mk H
                            clear H
                            have p140 : 0 ≤ ((ji36) : Int) := of_decide_eq_true (by first | (with_reducible assumption) | assumption)
                            have q140 : (ji36) < (x8_4.length : Int) := of_decide_eq_true (by first | (with_reducible assumption) | assumption)
                            obtain ⟨ad140, e140, hx140_0, hx140_1, hx140_2, hx140_3⟩ := at_T93 (Kd.R_reads' HO_8.out).2.2 (ji36) p140 q140
                            obtain rfl : (⟨go15, 0, none⟩ : Addr) = ad140 := (by injection e140)
                            (first | simp only [add_plain] at hx140_0 | simp only [add_at] at hx140_0 | simp only [Addr.add, Nat.zero_add] at hx140_0 | skip)
                            (first | simp only [add_plain] at hx140_1 | simp only [add_at] at hx140_1 | simp only [Addr.add, Nat.zero_add] at hx140_1 | skip)
                            (first | simp only [add_plain] at hx140_2 | simp only [add_at] at hx140_2 | simp only [Addr.add, Nat.zero_add] at hx140_2 | skip)
                            (first | simp only [add_plain] at hx140_3 | simp only [add_at] at hx140_3 | simp only [Addr.add, Nat.zero_add] at hx140_3 | skip)
                            replace p140 := eq_true p140
                            replace q140 := eq_true q140
                            try go_wp2_with (first | ((with_reducible refine gate_dst (N := 14) rfl ?_); refine box_event ?hg (N := 14) ?hd (cs := #[.int .i64 0, .int .i64 0, .int .i64 0, .int .i64 0]) (t := 93) ?hr ?_; (case hd => rfl); (case hg => rfl); (case hr => first | (go_simp; done) | (go_simp; rfl)); intro gb141 hg w46 hbox hb; have n0_ := Aside0.mk (Kd.R_below (Kd.R_elderB (by (with_reducible repeat (first | apply Kd.R_alloc | apply Kd.R_drewN | apply Kd.R_drew)); exact HO_8.out) gb141 (Nat.le_of_eq hg.symm)) hb); have n1_ := Aside0.mk (Kd.R_below (by (with_reducible repeat (first | apply Kd.R_alloc | apply Kd.R_drewN | apply Kd.R_drew)); exact HO_46.out) hb); have n2_ := Aside0.mk (below_step (by repeat (first | (with_reducible first | exact HB.out | apply below_alloc | apply pw_below_drewN | apply below_drew1) | exact HB.out)) hb); have n3_ := Aside0.mk (hbox); have n4_ := Aside0.mk ((by rw [hg]; exact (below_size (by repeat (first | (with_reducible first | exact HB.out | apply below_alloc | apply pw_below_drewN | apply below_drew1) | exact HB.out))) : w.heap.size ≤ gb141)); have n5_ := Aside0.mk ((by rw [hg]; exact (below_size (by repeat (first | (with_reducible first | exact HB.out | apply below_alloc | apply pw_below_drewN | apply below_drew1) | exact HB.out))) : w.heap.size ≤ gb141)); clear HO_8; clear HO_46; clear HB; have HO_8 := n0_; have HO_46 := n1_; have HB := n2_; have BK141 := n3_; have GW141 := n4_; have GE141 := n5_; clear n0_ n1_ n2_ n3_ n4_ n5_; clear hb hbox hg; have hcz47_0 : w46.cell? ⟨gb141, 0, none⟩ = some (.int .i64 0) := (blk_cell BK141.out 0).trans rfl; have hcz47_1 : w46.cell? ⟨gb141, 1, none⟩ = some (.int .i64 0) := (blk_cell BK141.out 1).trans rfl; have hcz47_2 : w46.cell? ⟨gb141, 2, none⟩ = some (.int .i64 0) := (blk_cell BK141.out 2).trans rfl; have hcz47_3 : w46.cell? ⟨gb141, 3, none⟩ = some (.int .i64 0) := (blk_cell BK141.out 3).trans rfl; have hfz47_0 := blk_frozen BK141.out 0; have hfz47_1 := blk_frozen BK141.out 1; have hfz47_2 := blk_frozen BK141.out 2; have hfz47_3 := blk_frozen BK141.out 3))
                            have n0_ : Aside0 (Kd.R k93 93 ((((w46.setCell ⟨gb141, 0, none⟩ (.int .i64 ((rd_T93 x8_4 (ji36)).f0))).setCell ⟨gb141, 1, none⟩ (.int .i64 ((rd_T93 x8_4 (ji36)).f1))).setCell ⟨gb141, 2, none⟩ (.int .i64 ((rd_T93 x8_4 (ji36)).f2))).setCell ⟨gb141, 3, none⟩ (.int .i64 ((rd_T93 x8_4 (ji36)).f3))) w.heap.size (fun k_ => (w.heap.size ≤ k_) ∧ k_ ≠ gb141) (.slice (some ⟨go15, 0, none⟩) x8_4.length co15) x8_4) := ⟨by (with_reducible repeat (first | apply Kd.R_alloc | apply Kd.R_drewN | apply Kd.R_drew)); exact Kd.R_mono (Kd.R_far (p := ⟨gb141, 3, none⟩) (Kd.R_far (p := ⟨gb141, 2, none⟩) (Kd.R_far (p := ⟨gb141, 1, none⟩) (Kd.R_far (p := ⟨gb141, 0, none⟩) (Kd.R_mono HO_8.out (fun k_ hk => (⟨hk, hk.2⟩ : _ ∧ k_ ≠ gb141))) (fun _ hk => hk.2) (.int .i64 ((rd_T93 x8_4 (ji36)).f0))) (fun _ hk => hk.2) (.int .i64 ((rd_T93 x8_4 (ji36)).f1))) (fun _ hk => hk.2) (.int .i64 ((rd_T93 x8_4 (ji36)).f2))) (fun _ hk => hk.2) (.int .i64 ((rd_T93 x8_4 (ji36)).f3))) (fun _ hk => ⟨hk.1.1, hk.1.2⟩)⟩
                            have n1_ : Aside0 (Kd.R (Kd.int .i64) 31 ((((w46.setCell ⟨gb141, 0, none⟩ (.int .i64 ((rd_T93 x8_4 (ji36)).f0))).setCell ⟨gb141, 1, none⟩ (.int .i64 ((rd_T93 x8_4 (ji36)).f1))).setCell ⟨gb141, 2, none⟩ (.int .i64 ((rd_T93 x8_4 (ji36)).f2))).setCell ⟨gb141, 3, none⟩ (.int .i64 ((rd_T93 x8_4 (ji36)).f3))) w.heap.size (fun k_ => (w.heap.size ≤ k_)) (.slice (some ad136) y133.length co20) y133) := ⟨by (with_reducible repeat (first | apply Kd.R_alloc | apply Kd.R_drewN | apply Kd.R_drew)); exact Kd.R_mono (Kd.R_far (p := ⟨gb141, 3, none⟩) (Kd.R_far (p := ⟨gb141, 2, none⟩) (Kd.R_far (p := ⟨gb141, 1, none⟩) (Kd.R_far (p := ⟨gb141, 0, none⟩) (Kd.R_types HO_46.out BK141.out (by decide)) (fun _ hk => hk.2) (.int .i64 ((rd_T93 x8_4 (ji36)).f0))) (fun _ hk => hk.2) (.int .i64 ((rd_T93 x8_4 (ji36)).f1))) (fun _ hk => hk.2) (.int .i64 ((rd_T93 x8_4 (ji36)).f2))) (fun _ hk => hk.2) (.int .i64 ((rd_T93 x8_4 (ji36)).f3))) (fun _ hk => hk.1)⟩
                            have n2_ : Aside0 (((((w46.setCell ⟨gb141, 0, none⟩ (.int .i64 ((rd_T93 x8_4 (ji36)).f0))).setCell ⟨gb141, 1, none⟩ (.int .i64 ((rd_T93 x8_4 (ji36)).f1))).setCell ⟨gb141, 2, none⟩ (.int .i64 ((rd_T93 x8_4 (ji36)).f2))).setCell ⟨gb141, 3, none⟩ (.int .i64 ((rd_T93 x8_4 (ji36)).f3))).heap[gb141]? = some (.cells #[.int .i64 ((rd_T93 x8_4 (ji36)).f0), .int .i64 ((rd_T93 x8_4 (ji36)).f1), .int .i64 ((rd_T93 x8_4 (ji36)).f2), .int .i64 ((rd_T93 x8_4 (ji36)).f3)] 93 (0, 0))) := ⟨by (with_reducible repeat (first | refine blk_drewN ?_ _ | refine blk_drew ?_ | refine blk_alloc ?_ _)); refine blk_put (cs := #[.int .i64 ((rd_T93 x8_4 (ji36)).f0), .int .i64 ((rd_T93 x8_4 (ji36)).f1), .int .i64 ((rd_T93 x8_4 (ji36)).f2), .int .i64 0]) ?_ 3 _ rfl; (with_reducible repeat (first | refine blk_drewN ?_ _ | refine blk_drew ?_ | refine blk_alloc ?_ _)); refine blk_put (cs := #[.int .i64 ((rd_T93 x8_4 (ji36)).f0), .int .i64 ((rd_T93 x8_4 (ji36)).f1), .int .i64 0, .int .i64 0]) ?_ 2 _ rfl; (with_reducible repeat (first | refine blk_drewN ?_ _ | refine blk_drew ?_ | refine blk_alloc ?_ _)); refine blk_put (cs := #[.int .i64 ((rd_T93 x8_4 (ji36)).f0), .int .i64 0, .int .i64 0, .int .i64 0]) ?_ 1 _ rfl; (with_reducible repeat (first | refine blk_drewN ?_ _ | refine blk_drew ?_ | refine blk_alloc ?_ _)); refine blk_put (cs := #[.int .i64 0, .int .i64 0, .int .i64 0, .int .i64 0]) ?_ 0 _ rfl; (with_reducible repeat (first | refine blk_drewN ?_ _ | refine blk_drew ?_ | refine blk_alloc ?_ _)); exact BK141.out⟩
                            have n3_ : Aside0 (Below w.heap.size w ((((w46.setCell ⟨gb141, 0, none⟩ (.int .i64 ((rd_T93 x8_4 (ji36)).f0))).setCell ⟨gb141, 1, none⟩ (.int .i64 ((rd_T93 x8_4 (ji36)).f1))).setCell ⟨gb141, 2, none⟩ (.int .i64 ((rd_T93 x8_4 (ji36)).f2))).setCell ⟨gb141, 3, none⟩ (.int .i64 ((rd_T93 x8_4 (ji36)).f3)))) := ⟨by repeat (first | (with_reducible first | exact HB.out | apply below_alloc | apply pw_below_drewN | apply below_drew1 | refine below_set ?_ GE141.out) | exact HB.out)⟩
                            (try clear HO_8)
                            (try clear HO_46)
                            (try clear BK141)
                            (try clear HB)
                            generalize ((((w46.setCell ⟨gb141, 0, none⟩ (.int .i64 ((rd_T93 x8_4 (ji36)).f0))).setCell ⟨gb141, 1, none⟩ (.int .i64 ((rd_T93 x8_4 (ji36)).f1))).setCell ⟨gb141, 2, none⟩ (.int .i64 ((rd_T93 x8_4 (ji36)).f2))).setCell ⟨gb141, 3, none⟩ (.int .i64 ((rd_T93 x8_4 (ji36)).f3))) = w48 at n0_ n1_ n2_ n3_ ⊢
                            have HO_8 := n0_
                            have HO_46 := n1_
                            have BK141 := n2_
                            have HB := n3_
                            clear n0_ n1_ n2_ n3_
                            have n0_ := Aside0.mk (Kd.R_drew HO_8.out)
                            have n1_ := Aside0.mk (Kd.R_drew HO_46.out)
                            have n2_ := Aside0.mk (blk_drew BK141.out)
                            have n3_ := Aside0.mk (below_drew1 HB.out)
                            clear HO_8
                            clear HO_46
                            clear BK141
                            clear HB
                            have HO_8 := n0_
                            have HO_46 := n1_
                            have BK141 := n2_
                            have HB := n3_
                            clear n0_ n1_ n2_ n3_
                            refine start_ (n := 19) (S := fun w' => w'.cell? ⟨gb141, 0, none⟩ = some (.int .i64 ((rd_T93 x8_4 (ji36)).f0)) ∧ w'.cell? ⟨gb141, 1, none⟩ = some (.int .i64 ((rd_T93 x8_4 (ji36)).f1)) ∧ w'.cell? ⟨gb141, 2, none⟩ = some (.int .i64 ((rd_T93 x8_4 (ji36)).f2)) ∧ w'.cell? ⟨gb141, 3, none⟩ = some (.int .i64 ((rd_T93 x8_4 (ji36)).f3))) (ds := []) #[false, false, false, false, false, false, false, false, false, false, false, false, false, false, false, false, false, false, false] (by kernel_rfl) rfl rfl ⟨(blk_cell BK141.out 0).trans rfl, (blk_cell BK141.out 1).trans rfl, (blk_cell BK141.out 2).trans rfl, (blk_cell BK141.out 3).trans rfl⟩ (fun hHeld => ?_); refine with_tabW modes_Best.tab19 modes_Best.bits19 (fun HT_ HW_ => ?_)
                            generalize w48.drew = w49 at HO_8 HO_46 BK141 HB hHeld ⊢
                            refine pure_ (i := 0) (N := some 83) (v := ?_) (a' := ?_) #[true, false, false, false, false, false, false, false, false, false, false, false, false, false, false, false, false, false, false] rfl rfl (any_of HT_.out (by kernel_rfl)) (fun _ _ _ h => h) (Or.inl ⟨by rfl, ?_⟩) ?_ ?_
                            rotate_left
                            ·intro w'
                             go_simp
                             with_reducible rfl
                            rotate_left
                            ·simp only [Act.put, List.setIfInBounds_toArray, List.set_cons_zero, List.set_cons_succ, i64_w, i32_w]
                             rfl
                            refine pure_ (i := 1) (N := some 84) (v := ?_) (a' := ?_) #[true, true, false, false, false, false, false, false, false, false, false, false, false, false, false, false, false, false, false] rfl rfl (any_of HT_.out (by kernel_rfl)) (fun _ _ _ h => h) (Or.inl ⟨by rfl, ?_⟩) ?_ ?_
                            rotate_left
                            ·intro w'
                             go_simp
                             with_reducible rfl
                            rotate_left
                            ·simp only [Act.put, List.setIfInBounds_toArray, List.set_cons_zero, List.set_cons_succ, i64_w, i32_w]
                             rfl
                            refine pure_ (i := 4) (N := some 87) (v := ?_) (a' := ?_) #[true, true, false, false, true, false, false, false, false, false, false, false, false, false, false, false, false, false, false] rfl rfl (any_of HT_.out (by kernel_rfl)) (fun _ _ _ h => h) (Or.inl ⟨by rfl, ?_⟩) ?_ ?_
                            rotate_left
                            ·intro w'
                             go_simp
                             with_reducible rfl
                            rotate_left
                            ·simp only [Act.put, List.setIfInBounds_toArray, List.set_cons_zero, List.set_cons_succ, i64_w, i32_w]
                             rfl
                            refine pure_ (i := 5) (N := some 88) (v := ?_) (a' := ?_) #[true, true, false, false, true, true, false, false, false, false, false, false, false, false, false, false, false, false, false] rfl rfl (any_of HT_.out (by kernel_rfl)) (fun _ _ _ h => h) (Or.inl ⟨by rfl, ?_⟩) ?_ ?_
                            rotate_left
                            ·intro w'
                             go_simp
                             with_reducible rfl
                            rotate_left
                            ·simp only [Act.put, List.setIfInBounds_toArray, List.set_cons_zero, List.set_cons_succ, i64_w, i32_w]
                             rfl
                            refine pure_ (i := 8) (N := some 91) (v := ?_) (a' := ?_) #[true, true, false, false, true, true, false, false, true, false, false, false, false, false, false, false, false, false, false] rfl rfl (any_of HT_.out (by kernel_rfl)) (fun _ _ _ h => h) (Or.inl ⟨by rfl, ?_⟩) ?_ ?_
                            rotate_left
                            ·intro w'
                             go_simp
                             with_reducible rfl
                            rotate_left
                            ·simp only [Act.put, List.setIfInBounds_toArray, List.set_cons_zero, List.set_cons_succ, i64_w, i32_w]
                             rfl
                            refine pure_ (i := 11) (N := some 94) (v := ?_) (a' := ?_) #[true, true, false, false, true, true, false, false, true, false, false, true, false, false, false, false, false, false, false] rfl rfl (any_of HT_.out (by kernel_rfl)) (fun _ _ _ h => h) (Or.inl ⟨by rfl, ?_⟩) ?_ ?_
                            rotate_left
                            ·intro w'
                             go_simp
                             with_reducible rfl
                            rotate_left
                            ·simp only [Act.put, List.setIfInBounds_toArray, List.set_cons_zero, List.set_cons_succ, i64_w, i32_w]
                             rfl
                            refine pure_ (i := 14) (N := some 97) (v := ?_) (a' := ?_) #[true, true, false, false, true, true, false, false, true, false, false, true, false, false, true, false, false, false, false] rfl rfl (any_of HT_.out (by kernel_rfl)) (fun _ _ _ h => h) (Or.inl ⟨by rfl, ?_⟩) ?_ ?_
                            rotate_left
                            ·intro w'
                             go_simp
                             with_reducible rfl
                            rotate_left
                            ·simp only [Act.put, List.setIfInBounds_toArray, List.set_cons_zero, List.set_cons_succ, i64_w, i32_w]
                             rfl
                            refine pure_ (i := 15) (N := some 98) (v := ?_) (a' := ?_) #[true, true, false, false, true, true, false, false, true, false, false, true, false, false, true, true, false, false, false] rfl rfl (any_of HT_.out (by kernel_rfl)) (fun _ _ _ h => h) (Or.inl ⟨by rfl, ?_⟩) ?_ ?_
                            rotate_left
                            ·intro w'
                             go_simp
                             with_reducible rfl
                            rotate_left
                            ·simp only [Act.put, List.setIfInBounds_toArray, List.set_cons_zero, List.set_cons_succ, i64_w, i32_w]
                             rfl
                            refine take_ (i := 9) (N := some 92) (v := ?_) (a' := ?_) #[true, true, false, false, true, true, false, false, true, true, false, true, false, false, true, true, false, false, false] rfl rfl (take_ofW HT_.out HW_.out (by kernel_rfl)) (fun _ _ _ h => h) (Or.inl ⟨by rfl, ?_⟩) hHeld ?_ ?_
                            rotate_left
                            ·rintro w' ⟨s0, s1, s2, s3⟩
                             go_simp
                             with_reducible rfl
                            rotate_left
                            ·simp only [Act.put, List.setIfInBounds_toArray, List.set_cons_zero, List.set_cons_succ, i64_w, i32_w]
                             rfl
                            refine take_ (i := 12) (N := some 95) (v := ?_) (a' := ?_) #[true, true, false, false, true, true, false, false, true, true, false, true, true, false, true, true, false, false, false] rfl rfl (take_ofW HT_.out HW_.out (by kernel_rfl)) (fun _ _ _ h => h) (Or.inl ⟨by rfl, ?_⟩) hHeld ?_ ?_
                            rotate_left
                            ·rintro w' ⟨s0, s1, s2, s3⟩
                             go_simp
                             with_reducible rfl
                            rotate_left
                            ·simp only [Act.put, List.setIfInBounds_toArray, List.set_cons_zero, List.set_cons_succ, i64_w, i32_w]
                             rfl
                            refine pure_ (i := 13) (N := some 96) (v := ?_) (a' := ?_) #[true, true, false, false, true, true, false, false, true, true, false, true, true, true, true, true, false, false, false] rfl rfl (any_of HT_.out (by kernel_rfl)) (fun _ _ _ h => h) (Or.inl ⟨by rfl, ?_⟩) ?_ ?_
                            rotate_left
                            ·intro w'
                             go_simp
                             with_reducible rfl
                            rotate_left
                            ·simp only [Act.put, List.setIfInBounds_toArray, List.set_cons_zero, List.set_cons_succ, i64_w, i32_w]
                             rfl
                            refine join_ (σ := Nat) 1 #[true, true, true, true, true, true, true, true, true, true, true, true, true, true, true, true, true, true, false] (fun s_ => [(85, .int .i64 t142), (89, .int .i64 t143), (15, .pointer (some ⟨s_, 0, none⟩)), (86, .int .i64 (wrap64 (4 + t142))), (90, .int .i64 (wrap64 ((wrap64 (4 + t142)) + t143))), (93, .int .i64 (wrap64 ((wrap64 ((wrap64 (4 + t142)) + t143)) + ((rd_T93 x8_4 (ji36)).f0)))), (99, .agg #[.int .i64 (wrap64 ((wrap64 ((wrap64 (4 + t142)) + t143)) + ((rd_T93 x8_4 (ji36)).f0))), .int .i64 (wrap64 (1 + ((rd_T93 x8_4 (ji36)).f1))), .int .i64 x13_4, .int .i64 (rd y133 x48_3)])]) (fun s_ w' => (w'.cell? ⟨gb141, 0, none⟩ = some (.int .i64 ((rd_T93 x8_4 (ji36)).f0)) ∧ w'.cell? ⟨gb141, 1, none⟩ = some (.int .i64 ((rd_T93 x8_4 (ji36)).f1)) ∧ w'.cell? ⟨gb141, 2, none⟩ = some (.int .i64 ((rd_T93 x8_4 (ji36)).f2)) ∧ w'.cell? ⟨gb141, 3, none⟩ = some (.int .i64 ((rd_T93 x8_4 (ji36)).f3))) ∧ (Kd.R (Kd.int .i64) 31 w' w.heap.size (fun k_ => (w.heap.size ≤ k_)) (.slice (some ad136) y133.length co20) y133) ∧ (Kd.R k93 93 w' w.heap.size (fun k_ => (w.heap.size ≤ k_) ∧ k_ ≠ gb141 ∧ k_ ≠ s_) (.slice (some ⟨go15, 0, none⟩) x8_4.length co15) x8_4) ∧ (w'.heap[gb141]? = some (.cells #[.int .i64 ((rd_T93 x8_4 (ji36)).f0), .int .i64 ((rd_T93 x8_4 (ji36)).f1), .int .i64 ((rd_T93 x8_4 (ji36)).f2), .int .i64 ((rd_T93 x8_4 (ji36)).f3)] 93 (0, 0))) ∧ (w'.heap[s_]? = some (.cells #[.int .i64 0, .int .i64 0, .int .i64 0, .int .i64 0] 93 (0, 0))) ∧ (w.heap.size ≤ s_) ∧ (w.heap.size ≤ s_) ∧ (gb141 ≠ s_) ∧ (s_ ≠ gb141) ∧ (Below w.heap.size w w')) ?_ ?_
                            rotate_left
                            ·intro hCont
                             refine two_ (i := 2) (j := 17) (Ni := some 85) (Nj := some 15) #[true, true, true, false, true, true, false, false, true, true, false, true, true, true, true, true, false, false, false] #[true, true, false, false, true, true, false, false, true, true, false, true, true, true, true, true, false, true, false] rfl rfl rfl rfl (two_of HT_.out (by kernel_rfl)) (by decide) (by decide) (fun K hK => ?_) (fun K hK => ?_)
                             ·skip
                              refine goes_ Try.func51 (by kernel_rfl) rfl #[.int .i64 (rd y133 x48_3), .int .i64 a1] (by rfl) rfl rfl (by (try simp only [List.map_toArray, List.map_cons, List.map_nil]); first | done | rfl | (simp only [List.length_drop, List.length_take]; rfl)) ?_
                              with_reducible refine (modes_countBits.calls kj28 (rd y133 x48_3) a1 t142 _ A39.out).mono ?_
                              rintro e w50 ⟨rfl, hb⟩
                              refine ⟨_, rfl, ?_⟩
                              have n0_ := Aside0.mk (Kd.R_below (by (with_reducible repeat (first | apply Kd.R_alloc | apply Kd.R_drewN | apply Kd.R_drew)); exact HO_8.out) hb)
                              have n1_ := Aside0.mk (Kd.R_below (by (with_reducible repeat (first | apply Kd.R_alloc | apply Kd.R_drewN | apply Kd.R_drew)); exact HO_46.out) hb)
                              have n2_ := Aside0.mk (blk_below (g := gb141) (o := .cells #[.int .i64 ((rd_T93 x8_4 (ji36)).f0), .int .i64 ((rd_T93 x8_4 (ji36)).f1), .int .i64 ((rd_T93 x8_4 (ji36)).f2), .int .i64 ((rd_T93 x8_4 (ji36)).f3)] 93 (0, 0)) (by (with_reducible repeat (first | refine blk_drewN ?_ _ | refine blk_drew ?_ | refine blk_alloc ?_ _)); exact BK141.out) hb)
                              have n3_ := Aside0.mk (below_step (by repeat (first | (with_reducible first | exact HB.out | apply below_alloc | apply pw_below_drewN | apply below_drew1 | refine below_set ?_ GE141.out) | exact HB.out)) hb)
                              clear HO_8
                              clear HO_46
                              clear BK141
                              clear HB
                              have HO_8 := n0_
                              have HO_46 := n1_
                              have BK141 := n2_
                              have HB := n3_
                              clear n0_ n1_ n2_ n3_
                              (try clear hb)
                              (try clear hb2)
                              (try clear hk)
                              (try clear hi)
                              refine hK.out _ _ ⟨(blk_cell BK141.out 0).trans rfl, (blk_cell BK141.out 1).trans rfl, (blk_cell BK141.out 2).trans rfl, (blk_cell BK141.out 3).trans rfl⟩ (fun hHeld => ?_)
                              clear hK K
                              refine norm_ (a' := ?_) ?_ ?_
                              rotate_left
                              ·show Act.put _ (some 85) _ = _
                               simp only [Act.put, List.setIfInBounds_toArray, List.set_cons_zero, List.set_cons_succ, i64_w, i32_w]
                               rfl
                              refine pure_ (i := 3) (N := some 86) (v := ?_) (a' := ?_) #[true, true, true, true, true, true, false, false, true, true, false, true, true, true, true, true, false, false, false] rfl rfl (any_of HT_.out (by kernel_rfl)) (fun _ _ _ h => h) (Or.inl ⟨by rfl, ?_⟩) ?_ ?_
                              rotate_left
                              ·intro w'
                               go_simp
                               with_reducible rfl
                              rotate_left
                              ·simp only [Act.put, List.setIfInBounds_toArray, List.set_cons_zero, List.set_cons_succ, i64_w, i32_w]
                               rfl
                              refine two_ (i := 6) (j := 17) (Ni := some 89) (Nj := some 15) #[true, true, true, true, true, true, true, false, true, true, false, true, true, true, true, true, false, false, false] #[true, true, true, true, true, true, false, false, true, true, false, true, true, true, true, true, false, true, false] rfl rfl rfl rfl (two_of HT_.out (by kernel_rfl)) (by decide) (by decide) (fun K hK => ?_) (fun K hK => ?_)
                              ·skip
                               refine goes_ Try.func55 (by kernel_rfl) rfl #[.int .i64 (rd y133 x48_3), .int .i64 x13_4] (by rfl) rfl rfl (by (try simp only [List.map_toArray, List.map_cons, List.map_nil]); first | done | rfl | (simp only [List.length_drop, List.length_take]; rfl)) ?_
                               with_reducible refine (modes_dataBits.calls (rd y133 x48_3) x13_4 t143 _ A40.out).mono ?_
                               rintro e w51 ⟨rfl, hb⟩
                               refine ⟨_, rfl, ?_⟩
                               have n0_ := Aside0.mk (Kd.R_below (by (with_reducible repeat (first | apply Kd.R_alloc | apply Kd.R_drewN | apply Kd.R_drew)); exact HO_8.out) hb)
                               have n1_ := Aside0.mk (Kd.R_below (by (with_reducible repeat (first | apply Kd.R_alloc | apply Kd.R_drewN | apply Kd.R_drew)); exact HO_46.out) hb)
                               have n2_ := Aside0.mk (blk_below (g := gb141) (o := .cells #[.int .i64 ((rd_T93 x8_4 (ji36)).f0), .int .i64 ((rd_T93 x8_4 (ji36)).f1), .int .i64 ((rd_T93 x8_4 (ji36)).f2), .int .i64 ((rd_T93 x8_4 (ji36)).f3)] 93 (0, 0)) (by (with_reducible repeat (first | refine blk_drewN ?_ _ | refine blk_drew ?_ | refine blk_alloc ?_ _)); exact BK141.out) hb)
                               have n3_ := Aside0.mk (below_step (by repeat (first | (with_reducible first | exact HB.out | apply below_alloc | apply pw_below_drewN | apply below_drew1 | refine below_set ?_ GE141.out) | exact HB.out)) hb)
                               clear HO_8
                               clear HO_46
                               clear BK141
                               clear HB
                               have HO_8 := n0_
                               have HO_46 := n1_
                               have BK141 := n2_
                               have HB := n3_
                               clear n0_ n1_ n2_ n3_
                               (try clear hb)
                               (try clear hb2)
                               (try clear hk)
                               (try clear hi)
                               refine hK.out _ _ ⟨(blk_cell BK141.out 0).trans rfl, (blk_cell BK141.out 1).trans rfl, (blk_cell BK141.out 2).trans rfl, (blk_cell BK141.out 3).trans rfl⟩ (fun hHeld => ?_)
                               clear hK K
                               refine norm_ (a' := ?_) ?_ ?_
                               rotate_left
                               ·show Act.put _ (some 89) _ = _
                                simp only [Act.put, List.setIfInBounds_toArray, List.set_cons_zero, List.set_cons_succ, i64_w, i32_w]
                                rfl
                               refine pure_ (i := 7) (N := some 90) (v := ?_) (a' := ?_) #[true, true, true, true, true, true, true, true, true, true, false, true, true, true, true, true, false, false, false] rfl rfl (any_of HT_.out (by kernel_rfl)) (fun _ _ _ h => h) (Or.inl ⟨by rfl, ?_⟩) ?_ ?_
                               rotate_left
                               ·intro w'
                                go_simp
                                with_reducible rfl
                               rotate_left
                               ·simp only [Act.put, List.setIfInBounds_toArray, List.set_cons_zero, List.set_cons_succ, i64_w, i32_w]
                                rfl
                               refine pure_ (i := 10) (N := some 93) (v := ?_) (a' := ?_) #[true, true, true, true, true, true, true, true, true, true, true, true, true, true, true, true, false, false, false] rfl rfl (any_of HT_.out (by kernel_rfl)) (fun _ _ _ h => h) (Or.inl ⟨by rfl, ?_⟩) ?_ ?_
                               rotate_left
                               ·intro w'
                                go_simp
                                with_reducible rfl
                               rotate_left
                               ·simp only [Act.put, List.setIfInBounds_toArray, List.set_cons_zero, List.set_cons_succ, i64_w, i32_w]
                                rfl
                               refine pure_ (i := 16) (N := some 99) (v := ?_) (a' := ?_) #[true, true, true, true, true, true, true, true, true, true, true, true, true, true, true, true, true, false, false] rfl rfl (any_of HT_.out (by kernel_rfl)) (fun _ _ _ h => h) (Or.inl ⟨by rfl, ?_⟩) ?_ ?_
                               rotate_left
                               ·intro w'
                                go_simp
                                with_reducible rfl
                               rotate_left
                               ·simp only [Act.put, List.setIfInBounds_toArray, List.set_cons_zero, List.set_cons_succ, i64_w, i32_w]
                                rfl
                               refine one_ (i := 17) (N := some 15) #[true, true, true, true, true, true, true, true, true, true, true, true, true, true, true, true, true, true, false] rfl rfl (one_of HT_.out (by kernel_rfl)) (by decide) (fun K hK => ?_)
                               refine box_step ?hg (N := 15) ?hd (cs := #[.int .i64 0, .int .i64 0, .int .i64 0, .int .i64 0]) (t := 93) ?hr ?_; (case hd => rfl); (case hg => rfl); (case hr => first | (go_simp; done) | (go_simp; rfl))
                               intro gb144 hg w52 hbox hb
                               have n0_ := Aside0.mk (Kd.R_below (Kd.R_elderB (by (with_reducible repeat (first | apply Kd.R_alloc | apply Kd.R_drewN | apply Kd.R_drew)); exact HO_8.out) gb144 (Nat.le_of_eq hg.symm)) hb)
                               have n1_ := Aside0.mk (Kd.R_below (by (with_reducible repeat (first | apply Kd.R_alloc | apply Kd.R_drewN | apply Kd.R_drew)); exact HO_46.out) hb)
                               have n2_ := Aside0.mk (blk_below (g := gb141) (o := .cells #[.int .i64 ((rd_T93 x8_4 (ji36)).f0), .int .i64 ((rd_T93 x8_4 (ji36)).f1), .int .i64 ((rd_T93 x8_4 (ji36)).f2), .int .i64 ((rd_T93 x8_4 (ji36)).f3)] 93 (0, 0)) (by (with_reducible repeat (first | refine blk_drewN ?_ _ | refine blk_drew ?_ | refine blk_alloc ?_ _)); exact BK141.out) hb)
                               have n3_ := Aside0.mk (below_step (by repeat (first | (with_reducible first | exact HB.out | apply below_alloc | apply pw_below_drewN | apply below_drew1 | refine below_set ?_ GE141.out) | exact HB.out)) hb)
                               have n4_ := Aside0.mk (hbox)
                               have n5_ := Aside0.mk ((by rw [hg]; exact (below_size (by repeat (first | (with_reducible first | exact HB.out | apply below_alloc | apply pw_below_drewN | apply below_drew1 | refine below_set ?_ GE141.out) | exact HB.out))) : w.heap.size ≤ gb144))
                               have n6_ := Aside0.mk ((by rw [hg]; exact (below_size (by repeat (first | (with_reducible first | exact HB.out | apply below_alloc | apply pw_below_drewN | apply below_drew1 | refine below_set ?_ GE141.out) | exact HB.out))) : w.heap.size ≤ gb144))
                               have n7_ := Aside0.mk ((by rw [hg]; exact Nat.ne_of_lt (blk_lt (g := gb141) (o := .cells #[.int .i64 ((rd_T93 x8_4 (ji36)).f0), .int .i64 ((rd_T93 x8_4 (ji36)).f1), .int .i64 ((rd_T93 x8_4 (ji36)).f2), .int .i64 ((rd_T93 x8_4 (ji36)).f3)] 93 (0, 0)) (by (with_reducible repeat (first | refine blk_drewN ?_ _ | refine blk_drew ?_ | refine blk_alloc ?_ _)); exact BK141.out)) : gb141 ≠ gb144))
                               have n8_ := Aside0.mk ((by rw [hg]; exact Nat.ne_of_gt (blk_lt (g := gb141) (o := .cells #[.int .i64 ((rd_T93 x8_4 (ji36)).f0), .int .i64 ((rd_T93 x8_4 (ji36)).f1), .int .i64 ((rd_T93 x8_4 (ji36)).f2), .int .i64 ((rd_T93 x8_4 (ji36)).f3)] 93 (0, 0)) (by (with_reducible repeat (first | refine blk_drewN ?_ _ | refine blk_drew ?_ | refine blk_alloc ?_ _)); exact BK141.out)) : gb144 ≠ gb141))
                               clear HO_8
                               clear HO_46
                               clear BK141
                               clear HB
                               have HO_8 := n0_
                               have HO_46 := n1_
                               have BK141 := n2_
                               have HB := n3_
                               have BK144 := n4_
                               have GW144 := n5_
                               have GE144 := n6_
                               have NB141_144 := n7_
                               have NB144_141 := n8_
                               clear n0_ n1_ n2_ n3_ n4_ n5_ n6_ n7_ n8_
                               clear hb hbox hg
                               refine hK.out _ _ ⟨(blk_cell BK141.out 0).trans rfl, (blk_cell BK141.out 1).trans rfl, (blk_cell BK141.out 2).trans rfl, (blk_cell BK141.out 3).trans rfl⟩ (fun hHeld => ?_)
                               clear hK K
                               refine norm_ (a' := ?_) ?_ ?_
                               rotate_left
                               ·show Act.put _ (some 15) _ = _
                                simp only [Act.put, List.setIfInBounds_toArray, List.set_cons_zero, List.set_cons_succ, i64_w, i32_w]
                                rfl
                               exact norm_ (by simp only [putAll, Act.put, List.setIfInBounds_toArray, List.set_cons_zero, List.set_cons_succ]) (hCont (gb144) _ ⟨hHeld, (by (with_reducible repeat (first | apply Kd.R_alloc | apply Kd.R_drewN | apply Kd.R_drew)); exact HO_46.out), (by (with_reducible repeat (first | apply Kd.R_alloc | apply Kd.R_drewN | apply Kd.R_drew)); exact Kd.R_mono HO_8.out (fun _ hk => ⟨hk.1.1, ⟨hk.1.2, hk.2⟩⟩)), (by (with_reducible repeat (first | refine blk_drewN ?_ _ | refine blk_drew ?_ | refine blk_alloc ?_ _)); exact BK141.out), (by (with_reducible repeat (first | refine blk_drewN ?_ _ | refine blk_drew ?_ | refine blk_alloc ?_ _)); exact BK144.out), GW144.out, GE144.out, NB141_144.out, NB144_141.out, (by repeat (first | (with_reducible first | exact HB.out | apply below_alloc | apply pw_below_drewN | apply below_drew1 | refine below_set ?_ GE141.out | refine below_set ?_ GE144.out) | exact HB.out))⟩)
                              ·skip
                               refine box_step ?hg (N := 15) ?hd (cs := #[.int .i64 0, .int .i64 0, .int .i64 0, .int .i64 0]) (t := 93) ?hr ?_; (case hd => rfl); (case hg => rfl); (case hr => first | (go_simp; done) | (go_simp; rfl))
                               intro gb144 hg w51 hbox hb
                               have n0_ := Aside0.mk (Kd.R_below (Kd.R_elderB (by (with_reducible repeat (first | apply Kd.R_alloc | apply Kd.R_drewN | apply Kd.R_drew)); exact HO_8.out) gb144 (Nat.le_of_eq hg.symm)) hb)
                               have n1_ := Aside0.mk (Kd.R_below (by (with_reducible repeat (first | apply Kd.R_alloc | apply Kd.R_drewN | apply Kd.R_drew)); exact HO_46.out) hb)
                               have n2_ := Aside0.mk (blk_below (g := gb141) (o := .cells #[.int .i64 ((rd_T93 x8_4 (ji36)).f0), .int .i64 ((rd_T93 x8_4 (ji36)).f1), .int .i64 ((rd_T93 x8_4 (ji36)).f2), .int .i64 ((rd_T93 x8_4 (ji36)).f3)] 93 (0, 0)) (by (with_reducible repeat (first | refine blk_drewN ?_ _ | refine blk_drew ?_ | refine blk_alloc ?_ _)); exact BK141.out) hb)
                               have n3_ := Aside0.mk (below_step (by repeat (first | (with_reducible first | exact HB.out | apply below_alloc | apply pw_below_drewN | apply below_drew1 | refine below_set ?_ GE141.out) | exact HB.out)) hb)
                               have n4_ := Aside0.mk (hbox)
                               have n5_ := Aside0.mk ((by rw [hg]; exact (below_size (by repeat (first | (with_reducible first | exact HB.out | apply below_alloc | apply pw_below_drewN | apply below_drew1 | refine below_set ?_ GE141.out) | exact HB.out))) : w.heap.size ≤ gb144))
                               have n6_ := Aside0.mk ((by rw [hg]; exact (below_size (by repeat (first | (with_reducible first | exact HB.out | apply below_alloc | apply pw_below_drewN | apply below_drew1 | refine below_set ?_ GE141.out) | exact HB.out))) : w.heap.size ≤ gb144))
                               have n7_ := Aside0.mk ((by rw [hg]; exact Nat.ne_of_lt (blk_lt (g := gb141) (o := .cells #[.int .i64 ((rd_T93 x8_4 (ji36)).f0), .int .i64 ((rd_T93 x8_4 (ji36)).f1), .int .i64 ((rd_T93 x8_4 (ji36)).f2), .int .i64 ((rd_T93 x8_4 (ji36)).f3)] 93 (0, 0)) (by (with_reducible repeat (first | refine blk_drewN ?_ _ | refine blk_drew ?_ | refine blk_alloc ?_ _)); exact BK141.out)) : gb141 ≠ gb144))
                               have n8_ := Aside0.mk ((by rw [hg]; exact Nat.ne_of_gt (blk_lt (g := gb141) (o := .cells #[.int .i64 ((rd_T93 x8_4 (ji36)).f0), .int .i64 ((rd_T93 x8_4 (ji36)).f1), .int .i64 ((rd_T93 x8_4 (ji36)).f2), .int .i64 ((rd_T93 x8_4 (ji36)).f3)] 93 (0, 0)) (by (with_reducible repeat (first | refine blk_drewN ?_ _ | refine blk_drew ?_ | refine blk_alloc ?_ _)); exact BK141.out)) : gb144 ≠ gb141))
                               clear HO_8
                               clear HO_46
                               clear BK141
                               clear HB
                               have HO_8 := n0_
                               have HO_46 := n1_
                               have BK141 := n2_
                               have HB := n3_
                               have BK144 := n4_
                               have GW144 := n5_
                               have GE144 := n6_
                               have NB141_144 := n7_
                               have NB144_141 := n8_
                               clear n0_ n1_ n2_ n3_ n4_ n5_ n6_ n7_ n8_
                               clear hb hbox hg
                               refine hK.out _ _ ⟨(blk_cell BK141.out 0).trans rfl, (blk_cell BK141.out 1).trans rfl, (blk_cell BK141.out 2).trans rfl, (blk_cell BK141.out 3).trans rfl⟩ (fun hHeld => ?_)
                               clear hK K
                               refine norm_ (a' := ?_) ?_ ?_
                               rotate_left
                               ·show Act.put _ (some 15) _ = _
                                simp only [Act.put, List.setIfInBounds_toArray, List.set_cons_zero, List.set_cons_succ, i64_w, i32_w]
                                rfl
                               refine one_ (i := 6) (N := some 89) #[true, true, true, true, true, true, true, false, true, true, false, true, true, true, true, true, false, true, false] rfl rfl (one_of HT_.out (by kernel_rfl)) (by decide) (fun K hK => ?_)
                               refine goes_ Try.func55 (by kernel_rfl) rfl #[.int .i64 (rd y133 x48_3), .int .i64 x13_4] (by rfl) rfl rfl (by (try simp only [List.map_toArray, List.map_cons, List.map_nil]); first | done | rfl | (simp only [List.length_drop, List.length_take]; rfl)) ?_
                               with_reducible refine (modes_dataBits.calls (rd y133 x48_3) x13_4 t143 _ A40.out).mono ?_
                               rintro e w52 ⟨rfl, hb⟩
                               refine ⟨_, rfl, ?_⟩
                               have n0_ := Aside0.mk (Kd.R_below (by (with_reducible repeat (first | apply Kd.R_alloc | apply Kd.R_drewN | apply Kd.R_drew)); exact HO_8.out) hb)
                               have n1_ := Aside0.mk (Kd.R_below (by (with_reducible repeat (first | apply Kd.R_alloc | apply Kd.R_drewN | apply Kd.R_drew)); exact HO_46.out) hb)
                               have n2_ := Aside0.mk (blk_below (g := gb141) (o := .cells #[.int .i64 ((rd_T93 x8_4 (ji36)).f0), .int .i64 ((rd_T93 x8_4 (ji36)).f1), .int .i64 ((rd_T93 x8_4 (ji36)).f2), .int .i64 ((rd_T93 x8_4 (ji36)).f3)] 93 (0, 0)) (by (with_reducible repeat (first | refine blk_drewN ?_ _ | refine blk_drew ?_ | refine blk_alloc ?_ _)); exact BK141.out) hb)
                               have n3_ := Aside0.mk (blk_below (g := gb144) (o := .cells #[.int .i64 0, .int .i64 0, .int .i64 0, .int .i64 0] 93 (0, 0)) (by (with_reducible repeat (first | refine blk_drewN ?_ _ | refine blk_drew ?_ | refine blk_alloc ?_ _)); exact BK144.out) hb)
                               have n4_ := Aside0.mk (below_step (by repeat (first | (with_reducible first | exact HB.out | apply below_alloc | apply pw_below_drewN | apply below_drew1 | refine below_set ?_ GE141.out | refine below_set ?_ GE144.out) | exact HB.out)) hb)
                               clear HO_8
                               clear HO_46
                               clear BK141
                               clear BK144
                               clear HB
                               have HO_8 := n0_
                               have HO_46 := n1_
                               have BK141 := n2_
                               have BK144 := n3_
                               have HB := n4_
                               clear n0_ n1_ n2_ n3_ n4_
                               (try clear hb)
                               (try clear hb2)
                               (try clear hk)
                               (try clear hi)
                               refine hK.out _ _ ⟨(blk_cell BK141.out 0).trans rfl, (blk_cell BK141.out 1).trans rfl, (blk_cell BK141.out 2).trans rfl, (blk_cell BK141.out 3).trans rfl⟩ (fun hHeld => ?_)
                               clear hK K
                               refine norm_ (a' := ?_) ?_ ?_
                               rotate_left
                               ·show Act.put _ (some 89) _ = _
                                simp only [Act.put, List.setIfInBounds_toArray, List.set_cons_zero, List.set_cons_succ, i64_w, i32_w]
                                rfl
                               refine pure_ (i := 7) (N := some 90) (v := ?_) (a' := ?_) #[true, true, true, true, true, true, true, true, true, true, false, true, true, true, true, true, false, true, false] rfl rfl (any_of HT_.out (by kernel_rfl)) (fun _ _ _ h => h) (Or.inl ⟨by rfl, ?_⟩) ?_ ?_
                               rotate_left
                               ·intro w'
                                go_simp
                                with_reducible rfl
                               rotate_left
                               ·simp only [Act.put, List.setIfInBounds_toArray, List.set_cons_zero, List.set_cons_succ, i64_w, i32_w]
                                rfl
                               refine pure_ (i := 10) (N := some 93) (v := ?_) (a' := ?_) #[true, true, true, true, true, true, true, true, true, true, true, true, true, true, true, true, false, true, false] rfl rfl (any_of HT_.out (by kernel_rfl)) (fun _ _ _ h => h) (Or.inl ⟨by rfl, ?_⟩) ?_ ?_
                               rotate_left
                               ·intro w'
                                go_simp
                                with_reducible rfl
                               rotate_left
                               ·simp only [Act.put, List.setIfInBounds_toArray, List.set_cons_zero, List.set_cons_succ, i64_w, i32_w]
                                rfl
                               refine pure_ (i := 16) (N := some 99) (v := ?_) (a' := ?_) #[true, true, true, true, true, true, true, true, true, true, true, true, true, true, true, true, true, true, false] rfl rfl (any_of HT_.out (by kernel_rfl)) (fun _ _ _ h => h) (Or.inl ⟨by rfl, ?_⟩) ?_ ?_
                               rotate_left
                               ·intro w'
                                go_simp
                                with_reducible rfl
                               rotate_left
                               ·simp only [Act.put, List.setIfInBounds_toArray, List.set_cons_zero, List.set_cons_succ, i64_w, i32_w]
                                rfl
                               exact norm_ (by simp only [putAll, Act.put, List.setIfInBounds_toArray, List.set_cons_zero, List.set_cons_succ]) (hCont (gb144) _ ⟨hHeld, (by (with_reducible repeat (first | apply Kd.R_alloc | apply Kd.R_drewN | apply Kd.R_drew)); exact HO_46.out), (by (with_reducible repeat (first | apply Kd.R_alloc | apply Kd.R_drewN | apply Kd.R_drew)); exact Kd.R_mono HO_8.out (fun _ hk => ⟨hk.1.1, ⟨hk.1.2, hk.2⟩⟩)), (by (with_reducible repeat (first | refine blk_drewN ?_ _ | refine blk_drew ?_ | refine blk_alloc ?_ _)); exact BK141.out), (by (with_reducible repeat (first | refine blk_drewN ?_ _ | refine blk_drew ?_ | refine blk_alloc ?_ _)); exact BK144.out), GW144.out, GE144.out, NB141_144.out, NB144_141.out, (by repeat (first | (with_reducible first | exact HB.out | apply below_alloc | apply pw_below_drewN | apply below_drew1 | refine below_set ?_ GE141.out | refine below_set ?_ GE144.out) | exact HB.out))⟩)
                             ·skip
                              refine box_step ?hg (N := 15) ?hd (cs := #[.int .i64 0, .int .i64 0, .int .i64 0, .int .i64 0]) (t := 93) ?hr ?_; (case hd => rfl); (case hg => rfl); (case hr => first | (go_simp; done) | (go_simp; rfl))
                              intro gb144 hg w50 hbox hb
                              have n0_ := Aside0.mk (Kd.R_below (Kd.R_elderB (by (with_reducible repeat (first | apply Kd.R_alloc | apply Kd.R_drewN | apply Kd.R_drew)); exact HO_8.out) gb144 (Nat.le_of_eq hg.symm)) hb)
                              have n1_ := Aside0.mk (Kd.R_below (by (with_reducible repeat (first | apply Kd.R_alloc | apply Kd.R_drewN | apply Kd.R_drew)); exact HO_46.out) hb)
                              have n2_ := Aside0.mk (blk_below (g := gb141) (o := .cells #[.int .i64 ((rd_T93 x8_4 (ji36)).f0), .int .i64 ((rd_T93 x8_4 (ji36)).f1), .int .i64 ((rd_T93 x8_4 (ji36)).f2), .int .i64 ((rd_T93 x8_4 (ji36)).f3)] 93 (0, 0)) (by (with_reducible repeat (first | refine blk_drewN ?_ _ | refine blk_drew ?_ | refine blk_alloc ?_ _)); exact BK141.out) hb)
                              have n3_ := Aside0.mk (below_step (by repeat (first | (with_reducible first | exact HB.out | apply below_alloc | apply pw_below_drewN | apply below_drew1 | refine below_set ?_ GE141.out) | exact HB.out)) hb)
                              have n4_ := Aside0.mk (hbox)
                              have n5_ := Aside0.mk ((by rw [hg]; exact (below_size (by repeat (first | (with_reducible first | exact HB.out | apply below_alloc | apply pw_below_drewN | apply below_drew1 | refine below_set ?_ GE141.out) | exact HB.out))) : w.heap.size ≤ gb144))
                              have n6_ := Aside0.mk ((by rw [hg]; exact (below_size (by repeat (first | (with_reducible first | exact HB.out | apply below_alloc | apply pw_below_drewN | apply below_drew1 | refine below_set ?_ GE141.out) | exact HB.out))) : w.heap.size ≤ gb144))
                              have n7_ := Aside0.mk ((by rw [hg]; exact Nat.ne_of_lt (blk_lt (g := gb141) (o := .cells #[.int .i64 ((rd_T93 x8_4 (ji36)).f0), .int .i64 ((rd_T93 x8_4 (ji36)).f1), .int .i64 ((rd_T93 x8_4 (ji36)).f2), .int .i64 ((rd_T93 x8_4 (ji36)).f3)] 93 (0, 0)) (by (with_reducible repeat (first | refine blk_drewN ?_ _ | refine blk_drew ?_ | refine blk_alloc ?_ _)); exact BK141.out)) : gb141 ≠ gb144))
                              have n8_ := Aside0.mk ((by rw [hg]; exact Nat.ne_of_gt (blk_lt (g := gb141) (o := .cells #[.int .i64 ((rd_T93 x8_4 (ji36)).f0), .int .i64 ((rd_T93 x8_4 (ji36)).f1), .int .i64 ((rd_T93 x8_4 (ji36)).f2), .int .i64 ((rd_T93 x8_4 (ji36)).f3)] 93 (0, 0)) (by (with_reducible repeat (first | refine blk_drewN ?_ _ | refine blk_drew ?_ | refine blk_alloc ?_ _)); exact BK141.out)) : gb144 ≠ gb141))
                              clear HO_8
                              clear HO_46
                              clear BK141
                              clear HB
                              have HO_8 := n0_
                              have HO_46 := n1_
                              have BK141 := n2_
                              have HB := n3_
                              have BK144 := n4_
                              have GW144 := n5_
                              have GE144 := n6_
                              have NB141_144 := n7_
                              have NB144_141 := n8_
                              clear n0_ n1_ n2_ n3_ n4_ n5_ n6_ n7_ n8_
                              clear hb hbox hg
                              refine hK.out _ _ ⟨(blk_cell BK141.out 0).trans rfl, (blk_cell BK141.out 1).trans rfl, (blk_cell BK141.out 2).trans rfl, (blk_cell BK141.out 3).trans rfl⟩ (fun hHeld => ?_)
                              clear hK K
                              refine norm_ (a' := ?_) ?_ ?_
                              rotate_left
                              ·show Act.put _ (some 15) _ = _
                               simp only [Act.put, List.setIfInBounds_toArray, List.set_cons_zero, List.set_cons_succ, i64_w, i32_w]
                               rfl
                              refine one_ (i := 2) (N := some 85) #[true, true, true, false, true, true, false, false, true, true, false, true, true, true, true, true, false, true, false] rfl rfl (one_of HT_.out (by kernel_rfl)) (by decide) (fun K hK => ?_)
                              refine goes_ Try.func51 (by kernel_rfl) rfl #[.int .i64 (rd y133 x48_3), .int .i64 a1] (by rfl) rfl rfl (by (try simp only [List.map_toArray, List.map_cons, List.map_nil]); first | done | rfl | (simp only [List.length_drop, List.length_take]; rfl)) ?_
                              with_reducible refine (modes_countBits.calls kj28 (rd y133 x48_3) a1 t142 _ A39.out).mono ?_
                              rintro e w51 ⟨rfl, hb⟩
                              refine ⟨_, rfl, ?_⟩
                              have n0_ := Aside0.mk (Kd.R_below (by (with_reducible repeat (first | apply Kd.R_alloc | apply Kd.R_drewN | apply Kd.R_drew)); exact HO_8.out) hb)
                              have n1_ := Aside0.mk (Kd.R_below (by (with_reducible repeat (first | apply Kd.R_alloc | apply Kd.R_drewN | apply Kd.R_drew)); exact HO_46.out) hb)
                              have n2_ := Aside0.mk (blk_below (g := gb141) (o := .cells #[.int .i64 ((rd_T93 x8_4 (ji36)).f0), .int .i64 ((rd_T93 x8_4 (ji36)).f1), .int .i64 ((rd_T93 x8_4 (ji36)).f2), .int .i64 ((rd_T93 x8_4 (ji36)).f3)] 93 (0, 0)) (by (with_reducible repeat (first | refine blk_drewN ?_ _ | refine blk_drew ?_ | refine blk_alloc ?_ _)); exact BK141.out) hb)
                              have n3_ := Aside0.mk (blk_below (g := gb144) (o := .cells #[.int .i64 0, .int .i64 0, .int .i64 0, .int .i64 0] 93 (0, 0)) (by (with_reducible repeat (first | refine blk_drewN ?_ _ | refine blk_drew ?_ | refine blk_alloc ?_ _)); exact BK144.out) hb)
                              have n4_ := Aside0.mk (below_step (by repeat (first | (with_reducible first | exact HB.out | apply below_alloc | apply pw_below_drewN | apply below_drew1 | refine below_set ?_ GE141.out | refine below_set ?_ GE144.out) | exact HB.out)) hb)
                              clear HO_8
                              clear HO_46
                              clear BK141
                              clear BK144
                              clear HB
                              have HO_8 := n0_
                              have HO_46 := n1_
                              have BK141 := n2_
                              have BK144 := n3_
                              have HB := n4_
                              clear n0_ n1_ n2_ n3_ n4_
                              (try clear hb)
                              (try clear hb2)
                              (try clear hk)
                              (try clear hi)
                              refine hK.out _ _ ⟨(blk_cell BK141.out 0).trans rfl, (blk_cell BK141.out 1).trans rfl, (blk_cell BK141.out 2).trans rfl, (blk_cell BK141.out 3).trans rfl⟩ (fun hHeld => ?_)
                              clear hK K
                              refine norm_ (a' := ?_) ?_ ?_
                              rotate_left
                              ·show Act.put _ (some 85) _ = _
                               simp only [Act.put, List.setIfInBounds_toArray, List.set_cons_zero, List.set_cons_succ, i64_w, i32_w]
                               rfl
                              refine pure_ (i := 3) (N := some 86) (v := ?_) (a' := ?_) #[true, true, true, true, true, true, false, false, true, true, false, true, true, true, true, true, false, true, false] rfl rfl (any_of HT_.out (by kernel_rfl)) (fun _ _ _ h => h) (Or.inl ⟨by rfl, ?_⟩) ?_ ?_
                              rotate_left
                              ·intro w'
                               go_simp
                               with_reducible rfl
                              rotate_left
                              ·simp only [Act.put, List.setIfInBounds_toArray, List.set_cons_zero, List.set_cons_succ, i64_w, i32_w]
                               rfl
                              refine one_ (i := 6) (N := some 89) #[true, true, true, true, true, true, true, false, true, true, false, true, true, true, true, true, false, true, false] rfl rfl (one_of HT_.out (by kernel_rfl)) (by decide) (fun K hK => ?_)
                              refine goes_ Try.func55 (by kernel_rfl) rfl #[.int .i64 (rd y133 x48_3), .int .i64 x13_4] (by rfl) rfl rfl (by (try simp only [List.map_toArray, List.map_cons, List.map_nil]); first | done | rfl | (simp only [List.length_drop, List.length_take]; rfl)) ?_
                              with_reducible refine (modes_dataBits.calls (rd y133 x48_3) x13_4 t143 _ A40.out).mono ?_
                              rintro e w52 ⟨rfl, hb⟩
                              refine ⟨_, rfl, ?_⟩
                              have n0_ := Aside0.mk (Kd.R_below (by (with_reducible repeat (first | apply Kd.R_alloc | apply Kd.R_drewN | apply Kd.R_drew)); exact HO_8.out) hb)
                              have n1_ := Aside0.mk (Kd.R_below (by (with_reducible repeat (first | apply Kd.R_alloc | apply Kd.R_drewN | apply Kd.R_drew)); exact HO_46.out) hb)
                              have n2_ := Aside0.mk (blk_below (g := gb141) (o := .cells #[.int .i64 ((rd_T93 x8_4 (ji36)).f0), .int .i64 ((rd_T93 x8_4 (ji36)).f1), .int .i64 ((rd_T93 x8_4 (ji36)).f2), .int .i64 ((rd_T93 x8_4 (ji36)).f3)] 93 (0, 0)) (by (with_reducible repeat (first | refine blk_drewN ?_ _ | refine blk_drew ?_ | refine blk_alloc ?_ _)); exact BK141.out) hb)
                              have n3_ := Aside0.mk (blk_below (g := gb144) (o := .cells #[.int .i64 0, .int .i64 0, .int .i64 0, .int .i64 0] 93 (0, 0)) (by (with_reducible repeat (first | refine blk_drewN ?_ _ | refine blk_drew ?_ | refine blk_alloc ?_ _)); exact BK144.out) hb)
                              have n4_ := Aside0.mk (below_step (by repeat (first | (with_reducible first | exact HB.out | apply below_alloc | apply pw_below_drewN | apply below_drew1 | refine below_set ?_ GE141.out | refine below_set ?_ GE144.out) | exact HB.out)) hb)
                              clear HO_8
                              clear HO_46
                              clear BK141
                              clear BK144
                              clear HB
                              have HO_8 := n0_
                              have HO_46 := n1_
                              have BK141 := n2_
                              have BK144 := n3_
                              have HB := n4_
                              clear n0_ n1_ n2_ n3_ n4_
                              (try clear hb)
                              (try clear hb2)
                              (try clear hk)
                              (try clear hi)
                              refine hK.out _ _ ⟨(blk_cell BK141.out 0).trans rfl, (blk_cell BK141.out 1).trans rfl, (blk_cell BK141.out 2).trans rfl, (blk_cell BK141.out 3).trans rfl⟩ (fun hHeld => ?_)
                              clear hK K
                              refine norm_ (a' := ?_) ?_ ?_
                              rotate_left
                              ·show Act.put _ (some 89) _ = _
                               simp only [Act.put, List.setIfInBounds_toArray, List.set_cons_zero, List.set_cons_succ, i64_w, i32_w]
                               rfl
                              refine pure_ (i := 7) (N := some 90) (v := ?_) (a' := ?_) #[true, true, true, true, true, true, true, true, true, true, false, true, true, true, true, true, false, true, false] rfl rfl (any_of HT_.out (by kernel_rfl)) (fun _ _ _ h => h) (Or.inl ⟨by rfl, ?_⟩) ?_ ?_
                              rotate_left
                              ·intro w'
                               go_simp
                               with_reducible rfl
                              rotate_left
                              ·simp only [Act.put, List.setIfInBounds_toArray, List.set_cons_zero, List.set_cons_succ, i64_w, i32_w]
                               rfl
                              refine pure_ (i := 10) (N := some 93) (v := ?_) (a' := ?_) #[true, true, true, true, true, true, true, true, true, true, true, true, true, true, true, true, false, true, false] rfl rfl (any_of HT_.out (by kernel_rfl)) (fun _ _ _ h => h) (Or.inl ⟨by rfl, ?_⟩) ?_ ?_
                              rotate_left
                              ·intro w'
                               go_simp
                               with_reducible rfl
                              rotate_left
                              ·simp only [Act.put, List.setIfInBounds_toArray, List.set_cons_zero, List.set_cons_succ, i64_w, i32_w]
                               rfl
                              refine pure_ (i := 16) (N := some 99) (v := ?_) (a' := ?_) #[true, true, true, true, true, true, true, true, true, true, true, true, true, true, true, true, true, true, false] rfl rfl (any_of HT_.out (by kernel_rfl)) (fun _ _ _ h => h) (Or.inl ⟨by rfl, ?_⟩) ?_ ?_
                              rotate_left
                              ·intro w'
                               go_simp
                               with_reducible rfl
                              rotate_left
                              ·simp only [Act.put, List.setIfInBounds_toArray, List.set_cons_zero, List.set_cons_succ, i64_w, i32_w]
                               rfl
                              exact norm_ (by simp only [putAll, Act.put, List.setIfInBounds_toArray, List.set_cons_zero, List.set_cons_succ]) (hCont (gb144) _ ⟨hHeld, (by (with_reducible repeat (first | apply Kd.R_alloc | apply Kd.R_drewN | apply Kd.R_drew)); exact HO_46.out), (by (with_reducible repeat (first | apply Kd.R_alloc | apply Kd.R_drewN | apply Kd.R_drew)); exact Kd.R_mono HO_8.out (fun _ hk => ⟨hk.1.1, ⟨hk.1.2, hk.2⟩⟩)), (by (with_reducible repeat (first | refine blk_drewN ?_ _ | refine blk_drew ?_ | refine blk_alloc ?_ _)); exact BK141.out), (by (with_reducible repeat (first | refine blk_drewN ?_ _ | refine blk_drew ?_ | refine blk_alloc ?_ _)); exact BK144.out), GW144.out, GE144.out, NB141_144.out, NB144_141.out, (by repeat (first | (with_reducible first | exact HB.out | apply below_alloc | apply pw_below_drewN | apply below_drew1 | refine below_set ?_ GE141.out | refine below_set ?_ GE144.out) | exact HB.out))⟩)
                            rintro gb144 w53 ⟨hS_, h0_, h1_, h2_, h3_, h4_, h5_, h6_, h7_, h8_⟩
                            have n0_ : Aside0 (Kd.R (Kd.int .i64) 31 w53 w.heap.size (fun k_ => (w.heap.size ≤ k_)) (.slice (some ad136) y133.length co20) y133) := ⟨h0_⟩
                            have n1_ : Aside0 (Kd.R k93 93 w53 w.heap.size (fun k_ => (w.heap.size ≤ k_) ∧ k_ ≠ gb141 ∧ k_ ≠ gb144) (.slice (some ⟨go15, 0, none⟩) x8_4.length co15) x8_4) := ⟨h1_⟩
                            have n2_ : Aside0 (w53.heap[gb141]? = some (.cells #[.int .i64 ((rd_T93 x8_4 (ji36)).f0), .int .i64 ((rd_T93 x8_4 (ji36)).f1), .int .i64 ((rd_T93 x8_4 (ji36)).f2), .int .i64 ((rd_T93 x8_4 (ji36)).f3)] 93 (0, 0))) := ⟨h2_⟩
                            have n3_ : Aside0 (w53.heap[gb144]? = some (.cells #[.int .i64 0, .int .i64 0, .int .i64 0, .int .i64 0] 93 (0, 0))) := ⟨h3_⟩
                            have n4_ : Aside0 (w.heap.size ≤ gb144) := ⟨h4_⟩
                            have n5_ : Aside0 (w.heap.size ≤ gb144) := ⟨h5_⟩
                            have n6_ : Aside0 (gb141 ≠ gb144) := ⟨h6_⟩
                            have n7_ : Aside0 (gb144 ≠ gb141) := ⟨h7_⟩
                            have n8_ : Aside0 (Below w.heap.size w w53) := ⟨h8_⟩
                            clear HO_8
                            clear HO_46
                            clear BK141
                            clear HB
                            clear h0_ h1_ h2_ h3_ h4_ h5_ h6_ h7_ h8_
                            have HO_46 := n0_
                            have HO_8 := n1_
                            have BK141 := n2_
                            have BK144 := n3_
                            have GW144 := n4_
                            have GE144 := n5_
                            have NB141_144 := n6_
                            have NB144_141 := n7_
                            have HB := n8_
                            clear n0_ n1_ n2_ n3_ n4_ n5_ n6_ n7_ n8_
                            have hHeld : w53.cell? ⟨gb141, 0, none⟩ = some (.int .i64 ((rd_T93 x8_4 (ji36)).f0)) ∧ w53.cell? ⟨gb141, 1, none⟩ = some (.int .i64 ((rd_T93 x8_4 (ji36)).f1)) ∧ w53.cell? ⟨gb141, 2, none⟩ = some (.int .i64 ((rd_T93 x8_4 (ji36)).f2)) ∧ w53.cell? ⟨gb141, 3, none⟩ = some (.int .i64 ((rd_T93 x8_4 (ji36)).f3)) := hS_
                            refine norm_ (a' := ?_) ?_ ?_
                            rotate_left
                            ·simp only [putAll, Act.put, List.setIfInBounds_toArray, List.set_cons_zero, List.set_cons_succ]
                             rfl
                            refine one_ (i := 18) (N := none) #[true, true, true, true, true, true, true, true, true, true, true, true, true, true, true, true, true, true, true] rfl rfl (one_of HT_.out (by kernel_rfl)) (by decide) (fun K hK => ?_)
                            have hs54 : w53.cell? ⟨gb144, 0, none⟩ = some (.int .i64 0) := (blk_cell BK144.out 0).trans rfl
                            have hfs54 := blk_frozen BK144.out 0
                            have hns54_0 := NB141_144.out
                            have hms54_0 := NB144_141.out
                            have hs55 : w53.cell? ⟨gb144, 1, none⟩ = some (.int .i64 0) := (blk_cell BK144.out 1).trans rfl
                            have hfs55 := blk_frozen BK144.out 1
                            have hns55_0 := NB141_144.out
                            have hms55_0 := NB144_141.out
                            have hs56 : w53.cell? ⟨gb144, 2, none⟩ = some (.int .i64 0) := (blk_cell BK144.out 2).trans rfl
                            have hfs56 := blk_frozen BK144.out 2
                            have hns56_0 := NB141_144.out
                            have hms56_0 := NB144_141.out
                            have hs57 : w53.cell? ⟨gb144, 3, none⟩ = some (.int .i64 0) := (blk_cell BK144.out 3).trans rfl
                            have hfs57 := blk_frozen BK144.out 3
                            have hns57_0 := NB141_144.out
                            have hms57_0 := NB144_141.out
                            refine skip_ (w1 := ?_) (by rfl) rfl ?_ ?_
                            rotate_left
                            ·go_simp
                             rfl
                            refine hK.out _ _ ⟨((cell_far (p := ⟨gb144, _, none⟩) NB141_144.out _).trans (((cell_far (p := ⟨gb144, _, none⟩) NB141_144.out _).trans (((cell_far (p := ⟨gb144, _, none⟩) NB141_144.out _).trans (((cell_far (p := ⟨gb144, _, none⟩) NB141_144.out _).trans (hHeld.1)))))))), ((cell_far (p := ⟨gb144, _, none⟩) NB141_144.out _).trans (((cell_far (p := ⟨gb144, _, none⟩) NB141_144.out _).trans (((cell_far (p := ⟨gb144, _, none⟩) NB141_144.out _).trans (((cell_far (p := ⟨gb144, _, none⟩) NB141_144.out _).trans (hHeld.2.1)))))))), ((cell_far (p := ⟨gb144, _, none⟩) NB141_144.out _).trans (((cell_far (p := ⟨gb144, _, none⟩) NB141_144.out _).trans (((cell_far (p := ⟨gb144, _, none⟩) NB141_144.out _).trans (((cell_far (p := ⟨gb144, _, none⟩) NB141_144.out _).trans (hHeld.2.2.1)))))))), ((cell_far (p := ⟨gb144, _, none⟩) NB141_144.out _).trans (((cell_far (p := ⟨gb144, _, none⟩) NB141_144.out _).trans (((cell_far (p := ⟨gb144, _, none⟩) NB141_144.out _).trans (((cell_far (p := ⟨gb144, _, none⟩) NB141_144.out _).trans (hHeld.2.2.2))))))))⟩ (fun hHeld => ?_)
                            clear hK K
                            refine done_ (done_of HT_.out (by kernel_rfl)) ?_
                            try go_wp2
                            have n0_ : Aside0 (Kd.R k93 93 ((((w53.setCell ⟨gb144, 0, none⟩ (.int .i64 (wrap64 ((wrap64 ((wrap64 (4 + t142)) + t143)) + ((rd_T93 x8_4 (ji36)).f0))))).setCell ⟨gb144, 1, none⟩ (.int .i64 (wrap64 (1 + ((rd_T93 x8_4 (ji36)).f1))))).setCell ⟨gb144, 2, none⟩ (.int .i64 x13_4)).setCell ⟨gb144, 3, none⟩ (.int .i64 (rd y133 x48_3))) w.heap.size (fun k_ => (w.heap.size ≤ k_) ∧ k_ ≠ gb141 ∧ k_ ≠ gb144) (.slice (some ⟨go15, 0, none⟩) x8_4.length co15) x8_4) := ⟨by (with_reducible repeat (first | apply Kd.R_alloc | apply Kd.R_drewN | apply Kd.R_drew)); exact Kd.R_mono (Kd.R_far (p := ⟨gb144, 3, none⟩) (Kd.R_far (p := ⟨gb144, 2, none⟩) (Kd.R_far (p := ⟨gb144, 1, none⟩) (Kd.R_far (p := ⟨gb144, 0, none⟩) (Kd.R_mono HO_8.out (fun k_ hk => (⟨hk, hk.2.2⟩ : _ ∧ k_ ≠ gb144))) (fun _ hk => hk.2) (.int .i64 (wrap64 ((wrap64 ((wrap64 (4 + t142)) + t143)) + ((rd_T93 x8_4 (ji36)).f0))))) (fun _ hk => hk.2) (.int .i64 (wrap64 (1 + ((rd_T93 x8_4 (ji36)).f1))))) (fun _ hk => hk.2) (.int .i64 x13_4)) (fun _ hk => hk.2) (.int .i64 (rd y133 x48_3))) (fun _ hk => ⟨hk.1.1, ⟨hk.1.2.1, hk.1.2.2⟩⟩)⟩
                            have n1_ : Aside0 (Kd.R (Kd.int .i64) 31 ((((w53.setCell ⟨gb144, 0, none⟩ (.int .i64 (wrap64 ((wrap64 ((wrap64 (4 + t142)) + t143)) + ((rd_T93 x8_4 (ji36)).f0))))).setCell ⟨gb144, 1, none⟩ (.int .i64 (wrap64 (1 + ((rd_T93 x8_4 (ji36)).f1))))).setCell ⟨gb144, 2, none⟩ (.int .i64 x13_4)).setCell ⟨gb144, 3, none⟩ (.int .i64 (rd y133 x48_3))) w.heap.size (fun k_ => (w.heap.size ≤ k_)) (.slice (some ad136) y133.length co20) y133) := ⟨by (with_reducible repeat (first | apply Kd.R_alloc | apply Kd.R_drewN | apply Kd.R_drew)); exact Kd.R_mono (Kd.R_far (p := ⟨gb144, 3, none⟩) (Kd.R_far (p := ⟨gb144, 2, none⟩) (Kd.R_far (p := ⟨gb144, 1, none⟩) (Kd.R_far (p := ⟨gb144, 0, none⟩) (Kd.R_types HO_46.out BK144.out (by decide)) (fun _ hk => hk.2) (.int .i64 (wrap64 ((wrap64 ((wrap64 (4 + t142)) + t143)) + ((rd_T93 x8_4 (ji36)).f0))))) (fun _ hk => hk.2) (.int .i64 (wrap64 (1 + ((rd_T93 x8_4 (ji36)).f1))))) (fun _ hk => hk.2) (.int .i64 x13_4)) (fun _ hk => hk.2) (.int .i64 (rd y133 x48_3))) (fun _ hk => hk.1)⟩
                            have n2_ : Aside0 (((((w53.setCell ⟨gb144, 0, none⟩ (.int .i64 (wrap64 ((wrap64 ((wrap64 (4 + t142)) + t143)) + ((rd_T93 x8_4 (ji36)).f0))))).setCell ⟨gb144, 1, none⟩ (.int .i64 (wrap64 (1 + ((rd_T93 x8_4 (ji36)).f1))))).setCell ⟨gb144, 2, none⟩ (.int .i64 x13_4)).setCell ⟨gb144, 3, none⟩ (.int .i64 (rd y133 x48_3))).heap[gb141]? = some (.cells #[.int .i64 ((rd_T93 x8_4 (ji36)).f0), .int .i64 ((rd_T93 x8_4 (ji36)).f1), .int .i64 ((rd_T93 x8_4 (ji36)).f2), .int .i64 ((rd_T93 x8_4 (ji36)).f3)] 93 (0, 0))) := ⟨by (with_reducible repeat (first | refine blk_drewN ?_ _ | refine blk_drew ?_ | refine blk_alloc ?_ _)); refine blk_far ?_ NB141_144.out _; (with_reducible repeat (first | refine blk_drewN ?_ _ | refine blk_drew ?_ | refine blk_alloc ?_ _)); refine blk_far ?_ NB141_144.out _; (with_reducible repeat (first | refine blk_drewN ?_ _ | refine blk_drew ?_ | refine blk_alloc ?_ _)); refine blk_far ?_ NB141_144.out _; (with_reducible repeat (first | refine blk_drewN ?_ _ | refine blk_drew ?_ | refine blk_alloc ?_ _)); refine blk_far ?_ NB141_144.out _; (with_reducible repeat (first | refine blk_drewN ?_ _ | refine blk_drew ?_ | refine blk_alloc ?_ _)); exact BK141.out⟩
                            have n3_ : Aside0 (((((w53.setCell ⟨gb144, 0, none⟩ (.int .i64 (wrap64 ((wrap64 ((wrap64 (4 + t142)) + t143)) + ((rd_T93 x8_4 (ji36)).f0))))).setCell ⟨gb144, 1, none⟩ (.int .i64 (wrap64 (1 + ((rd_T93 x8_4 (ji36)).f1))))).setCell ⟨gb144, 2, none⟩ (.int .i64 x13_4)).setCell ⟨gb144, 3, none⟩ (.int .i64 (rd y133 x48_3))).heap[gb144]? = some (.cells #[.int .i64 (wrap64 ((wrap64 ((wrap64 (4 + t142)) + t143)) + ((rd_T93 x8_4 (ji36)).f0))), .int .i64 (wrap64 (1 + ((rd_T93 x8_4 (ji36)).f1))), .int .i64 x13_4, .int .i64 (rd y133 x48_3)] 93 (0, 0))) := ⟨by (with_reducible repeat (first | refine blk_drewN ?_ _ | refine blk_drew ?_ | refine blk_alloc ?_ _)); refine blk_put (cs := #[.int .i64 (wrap64 ((wrap64 ((wrap64 (4 + t142)) + t143)) + ((rd_T93 x8_4 (ji36)).f0))), .int .i64 (wrap64 (1 + ((rd_T93 x8_4 (ji36)).f1))), .int .i64 x13_4, .int .i64 0]) ?_ 3 _ rfl; (with_reducible repeat (first | refine blk_drewN ?_ _ | refine blk_drew ?_ | refine blk_alloc ?_ _)); refine blk_put (cs := #[.int .i64 (wrap64 ((wrap64 ((wrap64 (4 + t142)) + t143)) + ((rd_T93 x8_4 (ji36)).f0))), .int .i64 (wrap64 (1 + ((rd_T93 x8_4 (ji36)).f1))), .int .i64 0, .int .i64 0]) ?_ 2 _ rfl; (with_reducible repeat (first | refine blk_drewN ?_ _ | refine blk_drew ?_ | refine blk_alloc ?_ _)); refine blk_put (cs := #[.int .i64 (wrap64 ((wrap64 ((wrap64 (4 + t142)) + t143)) + ((rd_T93 x8_4 (ji36)).f0))), .int .i64 0, .int .i64 0, .int .i64 0]) ?_ 1 _ rfl; (with_reducible repeat (first | refine blk_drewN ?_ _ | refine blk_drew ?_ | refine blk_alloc ?_ _)); refine blk_put (cs := #[.int .i64 0, .int .i64 0, .int .i64 0, .int .i64 0]) ?_ 0 _ rfl; (with_reducible repeat (first | refine blk_drewN ?_ _ | refine blk_drew ?_ | refine blk_alloc ?_ _)); exact BK144.out⟩
                            have n4_ : Aside0 (Below w.heap.size w ((((w53.setCell ⟨gb144, 0, none⟩ (.int .i64 (wrap64 ((wrap64 ((wrap64 (4 + t142)) + t143)) + ((rd_T93 x8_4 (ji36)).f0))))).setCell ⟨gb144, 1, none⟩ (.int .i64 (wrap64 (1 + ((rd_T93 x8_4 (ji36)).f1))))).setCell ⟨gb144, 2, none⟩ (.int .i64 x13_4)).setCell ⟨gb144, 3, none⟩ (.int .i64 (rd y133 x48_3)))) := ⟨by repeat (first | (with_reducible first | exact HB.out | apply below_alloc | apply pw_below_drewN | apply below_drew1 | refine below_set ?_ GE141.out | refine below_set ?_ GE144.out) | exact HB.out)⟩
                            (try clear HO_8)
                            (try clear HO_46)
                            (try clear BK141)
                            (try clear BK144)
                            (try clear HB)
                            generalize ((((w53.setCell ⟨gb144, 0, none⟩ (.int .i64 (wrap64 ((wrap64 ((wrap64 (4 + t142)) + t143)) + ((rd_T93 x8_4 (ji36)).f0))))).setCell ⟨gb144, 1, none⟩ (.int .i64 (wrap64 (1 + ((rd_T93 x8_4 (ji36)).f1))))).setCell ⟨gb144, 2, none⟩ (.int .i64 x13_4)).setCell ⟨gb144, 3, none⟩ (.int .i64 (rd y133 x48_3))) = w58 at n0_ n1_ n2_ n3_ n4_ ⊢
                            have HO_8 := n0_
                            have HO_46 := n1_
                            have BK141 := n2_
                            have BK144 := n3_
                            have HB := n4_
                            clear n0_ n1_ n2_ n3_ n4_
                            have n0_ := Aside0.mk (Kd.R_drew HO_8.out)
                            have n1_ := Aside0.mk (Kd.R_drew HO_46.out)
                            have n2_ := Aside0.mk (blk_drew BK141.out)
                            have n3_ := Aside0.mk (blk_drew BK144.out)
                            have n4_ := Aside0.mk (below_drew1 HB.out)
                            clear HO_8
                            clear HO_46
                            clear BK141
                            clear BK144
                            clear HB
                            have HO_8 := n0_
                            have HO_46 := n1_
                            have BK141 := n2_
                            have BK144 := n3_
                            have HB := n4_
                            clear n0_ n1_ n2_ n3_ n4_
                            have p145 : 0 ≤ (x9_2 : Int) := of_decide_eq_true (by first | (with_reducible assumption) | assumption)
                            have q145 : x9_2 < (x8_4.length : Int) := of_decide_eq_true (by first | (with_reducible assumption) | assumption)
                            obtain ⟨ad145, e145, hx145_0, hx145_1, hx145_2, hx145_3⟩ := at_T93 (Kd.R_reads' HO_8.out).2.2 x9_2 p145 q145
                            obtain rfl : (⟨go15, 0, none⟩ : Addr) = ad145 := (by injection e145)
                            (first | simp only [add_plain] at hx145_0 | simp only [add_at] at hx145_0 | simp only [Addr.add, Nat.zero_add] at hx145_0 | skip)
                            (first | simp only [add_plain] at hx145_1 | simp only [add_at] at hx145_1 | simp only [Addr.add, Nat.zero_add] at hx145_1 | skip)
                            (first | simp only [add_plain] at hx145_2 | simp only [add_at] at hx145_2 | simp only [Addr.add, Nat.zero_add] at hx145_2 | skip)
                            (first | simp only [add_plain] at hx145_3 | simp only [add_at] at hx145_3 | simp only [Addr.add, Nat.zero_add] at hx145_3 | skip)
                            replace p145 := eq_true p145
                            replace q145 := eq_true q145
                            refine start_ (n := 6) (S := fun w' => w'.cell? ⟨gb144, 0, none⟩ = some (.int .i64 (wrap64 ((wrap64 ((wrap64 (4 + t142)) + t143)) + ((rd_T93 x8_4 (ji36)).f0)))) ∧ w'.cell? ⟨gb144, 1, none⟩ = some (.int .i64 (wrap64 (1 + ((rd_T93 x8_4 (ji36)).f1)))) ∧ w'.cell? ⟨gb144, 2, none⟩ = some (.int .i64 x13_4) ∧ w'.cell? ⟨gb144, 3, none⟩ = some (.int .i64 (rd y133 x48_3)) ∧ w'.cell? ⟨go15, (x9_2).toNat * 4, none⟩ = some (.int .i64 ((rd_T93 x8_4 x9_2).f0)) ∧ w'.cell? ⟨go15, (x9_2).toNat * 4 + 1, none⟩ = some (.int .i64 ((rd_T93 x8_4 x9_2).f1)) ∧ w'.cell? ⟨go15, (x9_2).toNat * 4 + 2, none⟩ = some (.int .i64 ((rd_T93 x8_4 x9_2).f2)) ∧ w'.cell? ⟨go15, (x9_2).toNat * 4 + 3, none⟩ = some (.int .i64 ((rd_T93 x8_4 x9_2).f3))) (ds := []) #[false, false, false, false, false, false] (by kernel_rfl) rfl rfl ⟨(blk_cell BK144.out 0).trans rfl, (blk_cell BK144.out 1).trans rfl, (blk_cell BK144.out 2).trans rfl, (blk_cell BK144.out 3).trans rfl, hx145_0, hx145_1, hx145_2, hx145_3⟩ (fun hHeld => ?_)
                            generalize w58.drew = w59 at HO_8 HO_46 BK141 BK144 HB hx145_0 hx145_1 hx145_2 hx145_3 hHeld ⊢
                            refine pure_ (i := 1) (N := some 101) (v := ?_) (a' := ?_) #[false, true, false, false, false, false] rfl rfl (by kernel_rfl) (fun _ _ _ h => h) (Or.inl ⟨by rfl, ?_⟩) ?_ ?_
                            rotate_left
                            ·intro w'
                             go_simp
                             with_reducible rfl
                            rotate_left
                            ·simp only [Act.put, List.setIfInBounds_toArray, List.set_cons_zero, List.set_cons_succ, i64_w, i32_w]
                             rfl
                            refine pure_ (i := 2) (N := some 102) (v := ?_) (a' := ?_) #[false, true, true, false, false, false] rfl rfl (by kernel_rfl) (fun _ _ _ h => h) (Or.inl ⟨by rfl, ?_⟩) ?_ ?_
                            rotate_left
                            ·intro w'
                             go_simp
                             with_reducible rfl
                            rotate_left
                            ·simp only [Act.put, List.setIfInBounds_toArray, List.set_cons_zero, List.set_cons_succ, i64_w, i32_w]
                             rfl
                            refine pure_ (i := 3) (N := some 103) (v := ?_) (a' := ?_) #[false, true, true, true, false, false] rfl rfl (by kernel_rfl) (fun _ _ _ h => h) (Or.inl ⟨by rfl, ?_⟩) ?_ ?_
                            rotate_left
                            ·intro w'
                             go_simp
                             with_reducible rfl
                            rotate_left
                            ·simp only [Act.put, List.setIfInBounds_toArray, List.set_cons_zero, List.set_cons_succ, i64_w, i32_w]
                             rfl
                            refine take_ (i := 0) (N := some 100) (v := ?_) (a' := ?_) #[true, true, true, true, false, false] rfl rfl (by kernel_rfl) (fun _ _ _ h => h) (Or.inl ⟨by rfl, ?_⟩) hHeld ?_ ?_
                            rotate_left
                            ·rintro w' ⟨s0, s1, s2, s3, s4, s5, s6, s7⟩
                             go_simp
                             with_reducible rfl
                            rotate_left
                            ·simp only [Act.put, List.setIfInBounds_toArray, List.set_cons_zero, List.set_cons_succ, i64_w, i32_w]
                             rfl
                            refine take_ (i := 4) (N := some 104) (v := ?_) (a' := ?_) #[true, true, true, true, true, false] rfl rfl (by kernel_rfl) (fun _ _ _ h => h) (Or.inl ⟨by rfl, ?_⟩) hHeld ?_ ?_
                            rotate_left
                            ·rintro w' ⟨s0, s1, s2, s3, s4, s5, s6, s7⟩
                             go_simp
                             with_reducible rfl
                            rotate_left
                            ·simp only [Act.put, List.setIfInBounds_toArray, List.set_cons_zero, List.set_cons_succ, i64_w, i32_w]
                             rfl
                            refine one_ (i := 5) (N := some 105) #[true, true, true, true, true, true] rfl rfl (by kernel_rfl) (by decide) (fun K hK => ?_)
                            refine goes_ Try.func66 (by kernel_rfl) rfl #[.agg #[.int .i64 (wrap64 ((wrap64 ((wrap64 (4 + t142)) + t143)) + ((rd_T93 x8_4 (ji36)).f0))), .int .i64 (wrap64 (1 + ((rd_T93 x8_4 (ji36)).f1))), .int .i64 x13_4, .int .i64 (rd y133 x48_3)], .agg #[.int .i64 ((rd_T93 x8_4 x9_2).f0), .int .i64 ((rd_T93 x8_4 x9_2).f1), .int .i64 ((rd_T93 x8_4 x9_2).f2), .int .i64 ((rd_T93 x8_4 x9_2).f3)]] (by rfl) rfl rfl (by (try simp only [List.map_toArray, List.map_cons, List.map_nil]); first | done | (simp only [hji36]; rfl) | rfl | (simp only [List.length_drop, List.length_take]; rfl)) ?_
                            with_reducible refine (modes_plan_better.calls (wrap64 ((wrap64 ((wrap64 (4 + t142)) + t143)) + ((rd_T93 x8_4 (ji36)).f0))) (wrap64 (1 + ((rd_T93 x8_4 (ji36)).f1))) x13_4 (rd y133 x48_3) ((rd_T93 x8_4 x9_2).f0) ((rd_T93 x8_4 x9_2).f1) ((rd_T93 x8_4 x9_2).f2) ((rd_T93 x8_4 x9_2).f3) true _ A43.out).mono ?_
                            rintro e w60 ⟨rfl, hb⟩
                            have HS4_ := (hb.cell (World.block_lt_of_cell? _ _ (hHeld.2.2.2.2.1))).trans (hHeld.2.2.2.2.1)
                            have HS5_ := (hb.cell (World.block_lt_of_cell? _ _ (hHeld.2.2.2.2.2.1))).trans (hHeld.2.2.2.2.2.1)
                            have HS6_ := (hb.cell (World.block_lt_of_cell? _ _ (hHeld.2.2.2.2.2.2.1))).trans (hHeld.2.2.2.2.2.2.1)
                            have HS7_ := (hb.cell (World.block_lt_of_cell? _ _ (hHeld.2.2.2.2.2.2.2))).trans (hHeld.2.2.2.2.2.2.2)
                            refine ⟨_, rfl, ?_⟩
                            have n0_ := Aside0.mk (Kd.R_below (by (with_reducible repeat (first | apply Kd.R_alloc | apply Kd.R_drewN | apply Kd.R_drew)); exact HO_8.out) hb)
                            have n1_ := Aside0.mk (Kd.R_below (by (with_reducible repeat (first | apply Kd.R_alloc | apply Kd.R_drewN | apply Kd.R_drew)); exact HO_46.out) hb)
                            have n2_ := Aside0.mk (blk_below (g := gb141) (o := .cells #[.int .i64 ((rd_T93 x8_4 (ji36)).f0), .int .i64 ((rd_T93 x8_4 (ji36)).f1), .int .i64 ((rd_T93 x8_4 (ji36)).f2), .int .i64 ((rd_T93 x8_4 (ji36)).f3)] 93 (0, 0)) (by (with_reducible repeat (first | refine blk_drewN ?_ _ | refine blk_drew ?_ | refine blk_alloc ?_ _)); exact BK141.out) hb)
                            have n3_ := Aside0.mk (blk_below (g := gb144) (o := .cells #[.int .i64 (wrap64 ((wrap64 ((wrap64 (4 + t142)) + t143)) + ((rd_T93 x8_4 (ji36)).f0))), .int .i64 (wrap64 (1 + ((rd_T93 x8_4 (ji36)).f1))), .int .i64 x13_4, .int .i64 (rd y133 x48_3)] 93 (0, 0)) (by (with_reducible repeat (first | refine blk_drewN ?_ _ | refine blk_drew ?_ | refine blk_alloc ?_ _)); exact BK144.out) hb)
                            have n4_ := Aside0.mk (below_step (by repeat (first | (with_reducible first | exact HB.out | apply below_alloc | apply pw_below_drewN | apply below_drew1 | refine below_set ?_ GE141.out | refine below_set ?_ GE144.out) | exact HB.out)) hb)
                            clear HO_8
                            clear HO_46
                            clear BK141
                            clear BK144
                            clear HB
                            have HO_8 := n0_
                            have HO_46 := n1_
                            have BK141 := n2_
                            have BK144 := n3_
                            have HB := n4_
                            clear n0_ n1_ n2_ n3_ n4_
                            (try clear hb)
                            (try clear hb2)
                            (try clear hk)
                            (try clear hi)
                            refine hK.out _ _ ⟨(blk_cell BK144.out 0).trans rfl, (blk_cell BK144.out 1).trans rfl, (blk_cell BK144.out 2).trans rfl, (blk_cell BK144.out 3).trans rfl, HS4_, HS5_, HS6_, HS7_⟩ (fun hHeld => ?_)
                            clear hK K
                            refine norm_ (a' := ?_) ?_ ?_
                            rotate_left
                            ·show Act.put _ (some 105) _ = _
                             simp only [Act.put, List.setIfInBounds_toArray, List.set_cons_zero, List.set_cons_succ, i64_w, i32_w]
                             rfl
                            refine done_ (by kernel_rfl) ?_
                            have hnb61 := NB144_141.out
                            have hnc61 := NB141_144.out
                            have hcz62_0 : w60.cell? ⟨gb144, 0, none⟩ = some (.int .i64 (wrap64 ((wrap64 ((wrap64 (4 + t142)) + t143)) + ((rd_T93 x8_4 (ji36)).f0)))) := (blk_cell BK144.out 0).trans rfl
                            have hcz62_1 : w60.cell? ⟨gb144, 1, none⟩ = some (.int .i64 (wrap64 (1 + ((rd_T93 x8_4 (ji36)).f1)))) := (blk_cell BK144.out 1).trans rfl
                            have hcz62_2 : w60.cell? ⟨gb144, 2, none⟩ = some (.int .i64 x13_4) := (blk_cell BK144.out 2).trans rfl
                            have hcz62_3 : w60.cell? ⟨gb144, 3, none⟩ = some (.int .i64 (rd y133 x48_3)) := (blk_cell BK144.out 3).trans rfl
                            have hfz62_0 := blk_frozen BK144.out 0
                            have hfz62_1 := blk_frozen BK144.out 1
                            have hfz62_2 := blk_frozen BK144.out 2
                            have hfz62_3 := blk_frozen BK144.out 3
                            have p45 : 0 ≤ (x9_2 : Int) := of_decide_eq_true (by first | (with_reducible assumption) | assumption)
                            have q45 : (x9_2 : Int) < ((x8_4.length : Int) : Int) := of_decide_eq_true (by first | (with_reducible assumption) | assumption)
                            obtain ⟨ce45, hcl45, hM45, hcc45, hfr45⟩ := Kd.R_elem HO_8.out z93 (x9_2 : Int) p45 q45
                            obtain rfl := k93_openM hM45
                            have hx45_0 : w60.cell? ⟨go15, (x9_2 : Int).toNat * 4, none⟩ = some (.int .i64 ((rd_T93 x8_4 x9_2).f0)) := hcc45 0 _ rfl
                            have hx45_1 : w60.cell? ⟨go15, (x9_2 : Int).toNat * 4 + 1, none⟩ = some (.int .i64 ((rd_T93 x8_4 x9_2).f1)) := hcc45 1 _ rfl
                            have hx45_2 : w60.cell? ⟨go15, (x9_2 : Int).toNat * 4 + 2, none⟩ = some (.int .i64 ((rd_T93 x8_4 x9_2).f2)) := hcc45 2 _ rfl
                            have hx45_3 : w60.cell? ⟨go15, (x9_2 : Int).toNat * 4 + 3, none⟩ = some (.int .i64 ((rd_T93 x8_4 x9_2).f3)) := hcc45 3 _ rfl
                            have hf45_0 : w60.frozen? ⟨go15, (x9_2 : Int).toNat * 4, none⟩ = false := hfr45 0
                            have hf45_1 : w60.frozen? ⟨go15, (x9_2 : Int).toNat * 4 + 1, none⟩ = false := hfr45 1
                            have hf45_2 : w60.frozen? ⟨go15, (x9_2 : Int).toNat * 4 + 2, none⟩ = false := hfr45 2
                            have hf45_3 : w60.frozen? ⟨go15, (x9_2 : Int).toNat * 4 + 3, none⟩ = false := hfr45 3
                            clear hcl45 hcc45 hfr45 hM45
                            replace p45 := eq_true p45
                            replace q45 := eq_true q45
                            have HX63 := Aside0.mk (show Kd.R k93 93 w60 w.heap.size (fun k_ => (w.heap.size ≤ k_) ∧ k_ ≠ gb141 ∧ k_ ≠ gb144) (.slice (some ⟨go15, 0, none⟩) x8_4.length co15) x8_4 from (by (with_reducible repeat (first | apply Kd.R_alloc | apply Kd.R_drewN | apply Kd.R_drew)); exact HO_8.out))
                            obtain ⟨ce63, hcl63, hM63, hcc63, hfr63⟩ := Kd.R_elem HX63.out z93 (x9_2 : Int) (of_decide_eq_true (by first | (with_reducible assumption) | assumption)) (by have h_ : (x9_2 : Int) < ((x8_4.length : Int) : Int) := of_decide_eq_true (by first | (with_reducible assumption) | assumption); first | exact h_ | (have e_ := (Kd.R_reads' HO_8.out).1; omega) | simpa using h_)
                            obtain rfl := k93_openM hM63
                            have HP63 := Kd.R_seg HX63.out (x9_2 : Int) (of_decide_eq_true (by first | (with_reducible assumption) | assumption)) (by have h_ : (x9_2 : Int) < ((x8_4.length : Int) : Int) := of_decide_eq_true (by first | (with_reducible assumption) | assumption); first | exact h_ | (have e_ := (Kd.R_reads' HO_8.out).1; omega) | simpa using h_) (seg := [.int .i64 (wrap64 ((wrap64 ((wrap64 (4 + t142)) + t143)) + ((rd_T93 x8_4 (ji36)).f0))), .int .i64 (wrap64 (1 + ((rd_T93 x8_4 (ji36)).f1))), .int .i64 x13_4, .int .i64 (rd y133 x48_3)]) (j := 0) hcl63 hcc63 (show 4 ≤ 4 from by decide) (x' := (⟨wrap64 ((wrap64 ((wrap64 (4 + t142)) + t143)) + ((rd_T93 x8_4 (ji36)).f0)), wrap64 (1 + ((rd_T93 x8_4 (ji36)).f1)), x13_4, (rd y133 x48_3)⟩ : S93)) (k93_mkM _ _ _ (⟨wrap64 ((wrap64 ((wrap64 (4 + t142)) + t143)) + ((rd_T93 x8_4 (ji36)).f0)), wrap64 (1 + ((rd_T93 x8_4 (ji36)).f1)), x13_4, (rd y133 x48_3)⟩ : S93) ) (fun _ hk => hk)
                            have hx63_0 := hcc63 0 _ rfl
                            (try simp only [show (k93).sz = 4 from rfl, Nat.mul_one, Nat.add_zero] at hx63_0)
                            have hf63_0 := hfr63 0
                            (try simp only [show (k93).sz = 4 from rfl, Nat.mul_one, Nat.add_zero] at hf63_0)
                            have hx63_1 := hcc63 1 _ rfl
                            (try simp only [show (k93).sz = 4 from rfl, Nat.mul_one, Nat.add_zero] at hx63_1)
                            have hf63_1 := hfr63 1
                            (try simp only [show (k93).sz = 4 from rfl, Nat.mul_one, Nat.add_zero] at hf63_1)
                            have hx63_2 := hcc63 2 _ rfl
                            (try simp only [show (k93).sz = 4 from rfl, Nat.mul_one, Nat.add_zero] at hx63_2)
                            have hf63_2 := hfr63 2
                            (try simp only [show (k93).sz = 4 from rfl, Nat.mul_one, Nat.add_zero] at hf63_2)
                            have hx63_3 := hcc63 3 _ rfl
                            (try simp only [show (k93).sz = 4 from rfl, Nat.mul_one, Nat.add_zero] at hx63_3)
                            have hf63_3 := hfr63 3
                            (try simp only [show (k93).sz = 4 from rfl, Nat.mul_one, Nat.add_zero] at hf63_3)
                            clear hcl63 hcc63 hfr63 hM63
                            try go_wp2_with (first | ((with_reducible refine gate_store (t := 93) (p := 109) rfl ?_); refine store_event (t := 93) (p := 109) (v := ?vo_w64) (w1 := ((((w60.setCell ⟨go15, (x9_2 : Int).toNat * 4, none⟩ (.int .i64 (wrap64 ((wrap64 ((wrap64 (4 + t142)) + t143)) + ((rd_T93 x8_4 (ji36)).f0))))).setCell ⟨go15, (x9_2 : Int).toNat * 4 + 1, none⟩ (.int .i64 (wrap64 (1 + ((rd_T93 x8_4 (ji36)).f1))))).setCell ⟨go15, (x9_2 : Int).toNat * 4 + 2, none⟩ (.int .i64 x13_4)).setCell ⟨go15, (x9_2 : Int).toNat * 4 + 3, none⟩ (.int .i64 (rd y133 x48_3)))) ?hg ?ho ?hn ?hr ?_; (case ho => rfl); (case hg => rfl); (case hn => rfl); (case hr => first | (go_simp; done) | (go_simp; rfl)); intro w64 hw; have hg : w60.grownBy w64 (some go15) := (by rw [hw]; exact HP63.2); have hp_ : Kd.R k93 93 w64 w.heap.size (fun k_ => (w.heap.size ≤ k_) ∧ k_ ≠ gb141 ∧ k_ ≠ gb144) (.slice (some ⟨go15, 0, none⟩) x8_4.length co15) y147 := (by rw [hw, Ny147.out]; exact HP63.1); clear HP63; have n0_ := Aside0.mk (hp_); have n1_ := Aside0.mk (Kd.R_over' (v := (.slice (some ⟨go15, 0, none⟩) x8_4.length co15)) (by (with_reducible repeat (first | apply Kd.R_alloc | apply Kd.R_drewN | apply Kd.R_drew)); exact HO_46.out) (Kd.R_typed HO_8.out) (by decide) hg); have n2_ := Aside0.mk (blk_grown (g := gb141) (o := .cells #[.int .i64 ((rd_T93 x8_4 (ji36)).f0), .int .i64 ((rd_T93 x8_4 (ji36)).f1), .int .i64 ((rd_T93 x8_4 (ji36)).f2), .int .i64 ((rd_T93 x8_4 (ji36)).f3)] 93 (0, 0)) (by (with_reducible repeat (first | refine blk_drewN ?_ _ | refine blk_drew ?_ | refine blk_alloc ?_ _)); exact BK141.out) hg (Kd.R_away HO_8.out (fun _ hk => hk.2.1))); have n3_ := Aside0.mk (blk_grown (g := gb144) (o := .cells #[.int .i64 (wrap64 ((wrap64 ((wrap64 (4 + t142)) + t143)) + ((rd_T93 x8_4 (ji36)).f0))), .int .i64 (wrap64 (1 + ((rd_T93 x8_4 (ji36)).f1))), .int .i64 x13_4, .int .i64 (rd y133 x48_3)] 93 (0, 0)) (by (with_reducible repeat (first | refine blk_drewN ?_ _ | refine blk_drew ?_ | refine blk_alloc ?_ _)); exact BK144.out) hg (Kd.R_away HO_8.out (fun _ hk => hk.2.2))); have n4_ := Aside0.mk ((by rw [hw]; exact below_set (below_set (below_set (below_set (HB.out) GB15.out) GB15.out) GB15.out) GB15.out : Below w.heap.size w w64)); clear HO_8; clear HO_46; clear BK141; clear BK144; clear HB; have HO_8 := n0_; have HO_46 := n1_; have BK141 := n2_; have BK144 := n3_; have HB := n4_; clear n0_ n1_ n2_ n3_ n4_; clear hg hw hp_))
                            (try simp only [← hl8_4])
                            go_roundg kj28
                            case measure => have := HJ2.out; have := HK2.out; have := HK3.out; have := HK4.out; have := HJ28.out; omega
                            case rel => exact ⟨(y147), (wrap64 (x13_4 + 1)), (by first | rfl | (simp; done) | (simp [*]; done) | (simp [i64_w]; done)), H', ⟨by have := HJ2.out; have := HK2.out; have := HK3.out; have := HK4.out; have := HJ28.out; omega⟩, ⟨by (try simp only [hl8_3]); (try simp only [hl8_4]); (with_reducible repeat (first | apply Kd.R_alloc | apply Kd.R_drewN | apply Kd.R_drew)); exact Kd.R_mono HO_8.out (fun _ hk => hk.1)⟩, ⟨by (try simp only [hl8_3]); (try simp only [hl8_4]); (with_reducible repeat (first | apply Kd.R_alloc | apply Kd.R_drewN | apply Kd.R_drew)); exact HO_46.out⟩, ⟨by repeat (first | (with_reducible first | exact HB.out | apply below_alloc | apply pw_below_drewN | apply below_drew1 | refine below_set ?_ GE141.out | refine below_set ?_ GE144.out) | exact HB.out)⟩⟩
                           ·replace c44 := Bool.eq_false_iff.mpr c44
                            subst c44
                            have H1 : (modes_Best.l2 kj28 l0 a1 (l0.length : Int) x8_4 x9_2 (rd y133 x48_3) ji27 (wrap64 (x13_4 + 1)) y133 (y133.length : Int) x48_3) = some (r1, r2, r3) := by rw [if_neg (show ¬ (false = true) by decide)] at H; exact H
                            clear H
                            have H := H1
                            clear H1
                            have H' := Aside0.mk H
                            clear H
                            have p140 : 0 ≤ ((ji36) : Int) := of_decide_eq_true (by first | (with_reducible assumption) | assumption)
                            have q140 : (ji36) < (x8_4.length : Int) := of_decide_eq_true (by first | (with_reducible assumption) | assumption)
                            obtain ⟨ad140, e140, hx140_0, hx140_1, hx140_2, hx140_3⟩ := at_T93 (Kd.R_reads' HO_8.out).2.2 (ji36) p140 q140
                            obtain rfl : (⟨go15, 0, none⟩ : Addr) = ad140 := (by injection e140)
                            (first | simp only [add_plain] at hx140_0 | simp only [add_at] at hx140_0 | simp only [Addr.add, Nat.zero_add] at hx140_0 | skip)
                            (first | simp only [add_plain] at hx140_1 | simp only [add_at] at hx140_1 | simp only [Addr.add, Nat.zero_add] at hx140_1 | skip)
                            (first | simp only [add_plain] at hx140_2 | simp only [add_at] at hx140_2 | simp only [Addr.add, Nat.zero_add] at hx140_2 | skip)
                            (first | simp only [add_plain] at hx140_3 | simp only [add_at] at hx140_3 | simp only [Addr.add, Nat.zero_add] at hx140_3 | skip)
                            replace p140 := eq_true p140
                            replace q140 := eq_true q140
                            try go_wp2_with (first | ((with_reducible refine gate_dst (N := 14) rfl ?_); refine box_event ?hg (N := 14) ?hd (cs := #[.int .i64 0, .int .i64 0, .int .i64 0, .int .i64 0]) (t := 93) ?hr ?_; (case hd => rfl); (case hg => rfl); (case hr => first | (go_simp; done) | (go_simp; rfl)); intro gb141 hg w65 hbox hb; have n0_ := Aside0.mk (Kd.R_below (Kd.R_elderB (by (with_reducible repeat (first | apply Kd.R_alloc | apply Kd.R_drewN | apply Kd.R_drew)); exact HO_8.out) gb141 (Nat.le_of_eq hg.symm)) hb); have n1_ := Aside0.mk (Kd.R_below (by (with_reducible repeat (first | apply Kd.R_alloc | apply Kd.R_drewN | apply Kd.R_drew)); exact HO_46.out) hb); have n2_ := Aside0.mk (below_step (by repeat (first | (with_reducible first | exact HB.out | apply below_alloc | apply pw_below_drewN | apply below_drew1) | exact HB.out)) hb); have n3_ := Aside0.mk (hbox); have n4_ := Aside0.mk ((by rw [hg]; exact (below_size (by repeat (first | (with_reducible first | exact HB.out | apply below_alloc | apply pw_below_drewN | apply below_drew1) | exact HB.out))) : w.heap.size ≤ gb141)); have n5_ := Aside0.mk ((by rw [hg]; exact (below_size (by repeat (first | (with_reducible first | exact HB.out | apply below_alloc | apply pw_below_drewN | apply below_drew1) | exact HB.out))) : w.heap.size ≤ gb141)); clear HO_8; clear HO_46; clear HB; have HO_8 := n0_; have HO_46 := n1_; have HB := n2_; have BK141 := n3_; have GW141 := n4_; have GE141 := n5_; clear n0_ n1_ n2_ n3_ n4_ n5_; clear hb hbox hg; have hcz66_0 : w65.cell? ⟨gb141, 0, none⟩ = some (.int .i64 0) := (blk_cell BK141.out 0).trans rfl; have hcz66_1 : w65.cell? ⟨gb141, 1, none⟩ = some (.int .i64 0) := (blk_cell BK141.out 1).trans rfl; have hcz66_2 : w65.cell? ⟨gb141, 2, none⟩ = some (.int .i64 0) := (blk_cell BK141.out 2).trans rfl; have hcz66_3 : w65.cell? ⟨gb141, 3, none⟩ = some (.int .i64 0) := (blk_cell BK141.out 3).trans rfl; have hfz66_0 := blk_frozen BK141.out 0; have hfz66_1 := blk_frozen BK141.out 1; have hfz66_2 := blk_frozen BK141.out 2; have hfz66_3 := blk_frozen BK141.out 3))
                            have n0_ : Aside0 (Kd.R k93 93 ((((w65.setCell ⟨gb141, 0, none⟩ (.int .i64 ((rd_T93 x8_4 (ji36)).f0))).setCell ⟨gb141, 1, none⟩ (.int .i64 ((rd_T93 x8_4 (ji36)).f1))).setCell ⟨gb141, 2, none⟩ (.int .i64 ((rd_T93 x8_4 (ji36)).f2))).setCell ⟨gb141, 3, none⟩ (.int .i64 ((rd_T93 x8_4 (ji36)).f3))) w.heap.size (fun k_ => (w.heap.size ≤ k_) ∧ k_ ≠ gb141) (.slice (some ⟨go15, 0, none⟩) x8_4.length co15) x8_4) := ⟨by (with_reducible repeat (first | apply Kd.R_alloc | apply Kd.R_drewN | apply Kd.R_drew)); exact Kd.R_mono (Kd.R_far (p := ⟨gb141, 3, none⟩) (Kd.R_far (p := ⟨gb141, 2, none⟩) (Kd.R_far (p := ⟨gb141, 1, none⟩) (Kd.R_far (p := ⟨gb141, 0, none⟩) (Kd.R_mono HO_8.out (fun k_ hk => (⟨hk, hk.2⟩ : _ ∧ k_ ≠ gb141))) (fun _ hk => hk.2) (.int .i64 ((rd_T93 x8_4 (ji36)).f0))) (fun _ hk => hk.2) (.int .i64 ((rd_T93 x8_4 (ji36)).f1))) (fun _ hk => hk.2) (.int .i64 ((rd_T93 x8_4 (ji36)).f2))) (fun _ hk => hk.2) (.int .i64 ((rd_T93 x8_4 (ji36)).f3))) (fun _ hk => ⟨hk.1.1, hk.1.2⟩)⟩
                            have n1_ : Aside0 (Kd.R (Kd.int .i64) 31 ((((w65.setCell ⟨gb141, 0, none⟩ (.int .i64 ((rd_T93 x8_4 (ji36)).f0))).setCell ⟨gb141, 1, none⟩ (.int .i64 ((rd_T93 x8_4 (ji36)).f1))).setCell ⟨gb141, 2, none⟩ (.int .i64 ((rd_T93 x8_4 (ji36)).f2))).setCell ⟨gb141, 3, none⟩ (.int .i64 ((rd_T93 x8_4 (ji36)).f3))) w.heap.size (fun k_ => (w.heap.size ≤ k_)) (.slice (some ad136) y133.length co20) y133) := ⟨by (with_reducible repeat (first | apply Kd.R_alloc | apply Kd.R_drewN | apply Kd.R_drew)); exact Kd.R_mono (Kd.R_far (p := ⟨gb141, 3, none⟩) (Kd.R_far (p := ⟨gb141, 2, none⟩) (Kd.R_far (p := ⟨gb141, 1, none⟩) (Kd.R_far (p := ⟨gb141, 0, none⟩) (Kd.R_types HO_46.out BK141.out (by decide)) (fun _ hk => hk.2) (.int .i64 ((rd_T93 x8_4 (ji36)).f0))) (fun _ hk => hk.2) (.int .i64 ((rd_T93 x8_4 (ji36)).f1))) (fun _ hk => hk.2) (.int .i64 ((rd_T93 x8_4 (ji36)).f2))) (fun _ hk => hk.2) (.int .i64 ((rd_T93 x8_4 (ji36)).f3))) (fun _ hk => hk.1)⟩
                            have n2_ : Aside0 (((((w65.setCell ⟨gb141, 0, none⟩ (.int .i64 ((rd_T93 x8_4 (ji36)).f0))).setCell ⟨gb141, 1, none⟩ (.int .i64 ((rd_T93 x8_4 (ji36)).f1))).setCell ⟨gb141, 2, none⟩ (.int .i64 ((rd_T93 x8_4 (ji36)).f2))).setCell ⟨gb141, 3, none⟩ (.int .i64 ((rd_T93 x8_4 (ji36)).f3))).heap[gb141]? = some (.cells #[.int .i64 ((rd_T93 x8_4 (ji36)).f0), .int .i64 ((rd_T93 x8_4 (ji36)).f1), .int .i64 ((rd_T93 x8_4 (ji36)).f2), .int .i64 ((rd_T93 x8_4 (ji36)).f3)] 93 (0, 0))) := ⟨by (with_reducible repeat (first | refine blk_drewN ?_ _ | refine blk_drew ?_ | refine blk_alloc ?_ _)); refine blk_put (cs := #[.int .i64 ((rd_T93 x8_4 (ji36)).f0), .int .i64 ((rd_T93 x8_4 (ji36)).f1), .int .i64 ((rd_T93 x8_4 (ji36)).f2), .int .i64 0]) ?_ 3 _ rfl; (with_reducible repeat (first | refine blk_drewN ?_ _ | refine blk_drew ?_ | refine blk_alloc ?_ _)); refine blk_put (cs := #[.int .i64 ((rd_T93 x8_4 (ji36)).f0), .int .i64 ((rd_T93 x8_4 (ji36)).f1), .int .i64 0, .int .i64 0]) ?_ 2 _ rfl; (with_reducible repeat (first | refine blk_drewN ?_ _ | refine blk_drew ?_ | refine blk_alloc ?_ _)); refine blk_put (cs := #[.int .i64 ((rd_T93 x8_4 (ji36)).f0), .int .i64 0, .int .i64 0, .int .i64 0]) ?_ 1 _ rfl; (with_reducible repeat (first | refine blk_drewN ?_ _ | refine blk_drew ?_ | refine blk_alloc ?_ _)); refine blk_put (cs := #[.int .i64 0, .int .i64 0, .int .i64 0, .int .i64 0]) ?_ 0 _ rfl; (with_reducible repeat (first | refine blk_drewN ?_ _ | refine blk_drew ?_ | refine blk_alloc ?_ _)); exact BK141.out⟩
                            have n3_ : Aside0 (Below w.heap.size w ((((w65.setCell ⟨gb141, 0, none⟩ (.int .i64 ((rd_T93 x8_4 (ji36)).f0))).setCell ⟨gb141, 1, none⟩ (.int .i64 ((rd_T93 x8_4 (ji36)).f1))).setCell ⟨gb141, 2, none⟩ (.int .i64 ((rd_T93 x8_4 (ji36)).f2))).setCell ⟨gb141, 3, none⟩ (.int .i64 ((rd_T93 x8_4 (ji36)).f3)))) := ⟨by repeat (first | (with_reducible first | exact HB.out | apply below_alloc | apply pw_below_drewN | apply below_drew1 | refine below_set ?_ GE141.out) | exact HB.out)⟩
                            (try clear HO_8)
                            (try clear HO_46)
                            (try clear BK141)
                            (try clear HB)
                            generalize ((((w65.setCell ⟨gb141, 0, none⟩ (.int .i64 ((rd_T93 x8_4 (ji36)).f0))).setCell ⟨gb141, 1, none⟩ (.int .i64 ((rd_T93 x8_4 (ji36)).f1))).setCell ⟨gb141, 2, none⟩ (.int .i64 ((rd_T93 x8_4 (ji36)).f2))).setCell ⟨gb141, 3, none⟩ (.int .i64 ((rd_T93 x8_4 (ji36)).f3))) = w67 at n0_ n1_ n2_ n3_ ⊢
                            have HO_8 := n0_
                            have HO_46 := n1_
                            have BK141 := n2_
                            have HB := n3_
                            clear n0_ n1_ n2_ n3_
                            have n0_ := Aside0.mk (Kd.R_drew HO_8.out)
                            have n1_ := Aside0.mk (Kd.R_drew HO_46.out)
                            have n2_ := Aside0.mk (blk_drew BK141.out)
                            have n3_ := Aside0.mk (below_drew1 HB.out)
                            clear HO_8
                            clear HO_46
                            clear BK141
                            clear HB
                            have HO_8 := n0_
                            have HO_46 := n1_
                            have BK141 := n2_
                            have HB := n3_
                            clear n0_ n1_ n2_ n3_
                            refine start_ (n := 19) (S := fun w' => w'.cell? ⟨gb141, 0, none⟩ = some (.int .i64 ((rd_T93 x8_4 (ji36)).f0)) ∧ w'.cell? ⟨gb141, 1, none⟩ = some (.int .i64 ((rd_T93 x8_4 (ji36)).f1)) ∧ w'.cell? ⟨gb141, 2, none⟩ = some (.int .i64 ((rd_T93 x8_4 (ji36)).f2)) ∧ w'.cell? ⟨gb141, 3, none⟩ = some (.int .i64 ((rd_T93 x8_4 (ji36)).f3))) (ds := []) #[false, false, false, false, false, false, false, false, false, false, false, false, false, false, false, false, false, false, false] (by kernel_rfl) rfl rfl ⟨(blk_cell BK141.out 0).trans rfl, (blk_cell BK141.out 1).trans rfl, (blk_cell BK141.out 2).trans rfl, (blk_cell BK141.out 3).trans rfl⟩ (fun hHeld => ?_); refine with_tabW modes_Best.tab19 modes_Best.bits19 (fun HT_ HW_ => ?_)
                            generalize w67.drew = w68 at HO_8 HO_46 BK141 HB hHeld ⊢
                            refine pure_ (i := 0) (N := some 83) (v := ?_) (a' := ?_) #[true, false, false, false, false, false, false, false, false, false, false, false, false, false, false, false, false, false, false] rfl rfl (any_of HT_.out (by kernel_rfl)) (fun _ _ _ h => h) (Or.inl ⟨by rfl, ?_⟩) ?_ ?_
                            rotate_left
                            ·intro w'
                             go_simp
                             with_reducible rfl
                            rotate_left
                            ·simp only [Act.put, List.setIfInBounds_toArray, List.set_cons_zero, List.set_cons_succ, i64_w, i32_w]
                             rfl
                            refine pure_ (i := 1) (N := some 84) (v := ?_) (a' := ?_) #[true, true, false, false, false, false, false, false, false, false, false, false, false, false, false, false, false, false, false] rfl rfl (any_of HT_.out (by kernel_rfl)) (fun _ _ _ h => h) (Or.inl ⟨by rfl, ?_⟩) ?_ ?_
                            rotate_left
                            ·intro w'
                             go_simp
                             with_reducible rfl
                            rotate_left
                            ·simp only [Act.put, List.setIfInBounds_toArray, List.set_cons_zero, List.set_cons_succ, i64_w, i32_w]
                             rfl
                            refine pure_ (i := 4) (N := some 87) (v := ?_) (a' := ?_) #[true, true, false, false, true, false, false, false, false, false, false, false, false, false, false, false, false, false, false] rfl rfl (any_of HT_.out (by kernel_rfl)) (fun _ _ _ h => h) (Or.inl ⟨by rfl, ?_⟩) ?_ ?_
                            rotate_left
                            ·intro w'
                             go_simp
                             with_reducible rfl
                            rotate_left
                            ·simp only [Act.put, List.setIfInBounds_toArray, List.set_cons_zero, List.set_cons_succ, i64_w, i32_w]
                             rfl
                            refine pure_ (i := 5) (N := some 88) (v := ?_) (a' := ?_) #[true, true, false, false, true, true, false, false, false, false, false, false, false, false, false, false, false, false, false] rfl rfl (any_of HT_.out (by kernel_rfl)) (fun _ _ _ h => h) (Or.inl ⟨by rfl, ?_⟩) ?_ ?_
                            rotate_left
                            ·intro w'
                             go_simp
                             with_reducible rfl
                            rotate_left
                            ·simp only [Act.put, List.setIfInBounds_toArray, List.set_cons_zero, List.set_cons_succ, i64_w, i32_w]
                             rfl
                            refine pure_ (i := 8) (N := some 91) (v := ?_) (a' := ?_) #[true, true, false, false, true, true, false, false, true, false, false, false, false, false, false, false, false, false, false] rfl rfl (any_of HT_.out (by kernel_rfl)) (fun _ _ _ h => h) (Or.inl ⟨by rfl, ?_⟩) ?_ ?_
                            rotate_left
                            ·intro w'
                             go_simp
                             with_reducible rfl
                            rotate_left
                            ·simp only [Act.put, List.setIfInBounds_toArray, List.set_cons_zero, List.set_cons_succ, i64_w, i32_w]
                             rfl
                            refine pure_ (i := 11) (N := some 94) (v := ?_) (a' := ?_) #[true, true, false, false, true, true, false, false, true, false, false, true, false, false, false, false, false, false, false] rfl rfl (any_of HT_.out (by kernel_rfl)) (fun _ _ _ h => h) (Or.inl ⟨by rfl, ?_⟩) ?_ ?_
                            rotate_left
                            ·intro w'
                             go_simp
                             with_reducible rfl
                            rotate_left
                            ·simp only [Act.put, List.setIfInBounds_toArray, List.set_cons_zero, List.set_cons_succ, i64_w, i32_w]
                             rfl
                            refine pure_ (i := 14) (N := some 97) (v := ?_) (a' := ?_) #[true, true, false, false, true, true, false, false, true, false, false, true, false, false, true, false, false, false, false] rfl rfl (any_of HT_.out (by kernel_rfl)) (fun _ _ _ h => h) (Or.inl ⟨by rfl, ?_⟩) ?_ ?_
                            rotate_left
                            ·intro w'
                             go_simp
                             with_reducible rfl
                            rotate_left
                            ·simp only [Act.put, List.setIfInBounds_toArray, List.set_cons_zero, List.set_cons_succ, i64_w, i32_w]
                             rfl
                            refine pure_ (i := 15) (N := some 98) (v := ?_) (a' := ?_) #[true, true, false, false, true, true, false, false, true, false, false, true, false, false, true, true, false, false, false] rfl rfl (any_of HT_.out (by kernel_rfl)) (fun _ _ _ h => h) (Or.inl ⟨by rfl, ?_⟩) ?_ ?_
                            rotate_left
                            ·intro w'
                             go_simp
                             with_reducible rfl
                            rotate_left
                            ·simp only [Act.put, List.setIfInBounds_toArray, List.set_cons_zero, List.set_cons_succ, i64_w, i32_w]
                             rfl
                            refine take_ (i := 9) (N := some 92) (v := ?_) (a' := ?_) #[true, true, false, false, true, true, false, false, true, true, false, true, false, false, true, true, false, false, false] rfl rfl (take_ofW HT_.out HW_.out (by kernel_rfl)) (fun _ _ _ h => h) (Or.inl ⟨by rfl, ?_⟩) hHeld ?_ ?_
                            rotate_left
                            ·rintro w' ⟨s0, s1, s2, s3⟩
                             go_simp
                             with_reducible rfl
                            rotate_left
                            ·simp only [Act.put, List.setIfInBounds_toArray, List.set_cons_zero, List.set_cons_succ, i64_w, i32_w]
                             rfl
                            refine take_ (i := 12) (N := some 95) (v := ?_) (a' := ?_) #[true, true, false, false, true, true, false, false, true, true, false, true, true, false, true, true, false, false, false] rfl rfl (take_ofW HT_.out HW_.out (by kernel_rfl)) (fun _ _ _ h => h) (Or.inl ⟨by rfl, ?_⟩) hHeld ?_ ?_
                            rotate_left
                            ·rintro w' ⟨s0, s1, s2, s3⟩
                             go_simp
                             with_reducible rfl
                            rotate_left
                            ·simp only [Act.put, List.setIfInBounds_toArray, List.set_cons_zero, List.set_cons_succ, i64_w, i32_w]
                             rfl
                            refine pure_ (i := 13) (N := some 96) (v := ?_) (a' := ?_) #[true, true, false, false, true, true, false, false, true, true, false, true, true, true, true, true, false, false, false] rfl rfl (any_of HT_.out (by kernel_rfl)) (fun _ _ _ h => h) (Or.inl ⟨by rfl, ?_⟩) ?_ ?_
                            rotate_left
                            ·intro w'
                             go_simp
                             with_reducible rfl
                            rotate_left
                            ·simp only [Act.put, List.setIfInBounds_toArray, List.set_cons_zero, List.set_cons_succ, i64_w, i32_w]
                             rfl
                            refine join_ (σ := Nat) 1 #[true, true, true, true, true, true, true, true, true, true, true, true, true, true, true, true, true, true, false] (fun s_ => [(85, .int .i64 t142), (89, .int .i64 t143), (15, .pointer (some ⟨s_, 0, none⟩)), (86, .int .i64 (wrap64 (4 + t142))), (90, .int .i64 (wrap64 ((wrap64 (4 + t142)) + t143))), (93, .int .i64 (wrap64 ((wrap64 ((wrap64 (4 + t142)) + t143)) + ((rd_T93 x8_4 (ji36)).f0)))), (99, .agg #[.int .i64 (wrap64 ((wrap64 ((wrap64 (4 + t142)) + t143)) + ((rd_T93 x8_4 (ji36)).f0))), .int .i64 (wrap64 (1 + ((rd_T93 x8_4 (ji36)).f1))), .int .i64 x13_4, .int .i64 (rd y133 x48_3)])]) (fun s_ w' => (w'.cell? ⟨gb141, 0, none⟩ = some (.int .i64 ((rd_T93 x8_4 (ji36)).f0)) ∧ w'.cell? ⟨gb141, 1, none⟩ = some (.int .i64 ((rd_T93 x8_4 (ji36)).f1)) ∧ w'.cell? ⟨gb141, 2, none⟩ = some (.int .i64 ((rd_T93 x8_4 (ji36)).f2)) ∧ w'.cell? ⟨gb141, 3, none⟩ = some (.int .i64 ((rd_T93 x8_4 (ji36)).f3))) ∧ (Kd.R (Kd.int .i64) 31 w' w.heap.size (fun k_ => (w.heap.size ≤ k_)) (.slice (some ad136) y133.length co20) y133) ∧ (Kd.R k93 93 w' w.heap.size (fun k_ => (w.heap.size ≤ k_) ∧ k_ ≠ gb141 ∧ k_ ≠ s_) (.slice (some ⟨go15, 0, none⟩) x8_4.length co15) x8_4) ∧ (w'.heap[gb141]? = some (.cells #[.int .i64 ((rd_T93 x8_4 (ji36)).f0), .int .i64 ((rd_T93 x8_4 (ji36)).f1), .int .i64 ((rd_T93 x8_4 (ji36)).f2), .int .i64 ((rd_T93 x8_4 (ji36)).f3)] 93 (0, 0))) ∧ (w'.heap[s_]? = some (.cells #[.int .i64 0, .int .i64 0, .int .i64 0, .int .i64 0] 93 (0, 0))) ∧ (w.heap.size ≤ s_) ∧ (w.heap.size ≤ s_) ∧ (gb141 ≠ s_) ∧ (s_ ≠ gb141) ∧ (Below w.heap.size w w')) ?_ ?_
                            rotate_left
                            ·intro hCont
                             refine two_ (i := 2) (j := 17) (Ni := some 85) (Nj := some 15) #[true, true, true, false, true, true, false, false, true, true, false, true, true, true, true, true, false, false, false] #[true, true, false, false, true, true, false, false, true, true, false, true, true, true, true, true, false, true, false] rfl rfl rfl rfl (two_of HT_.out (by kernel_rfl)) (by decide) (by decide) (fun K hK => ?_) (fun K hK => ?_)
                             ·skip
                              refine goes_ Try.func51 (by kernel_rfl) rfl #[.int .i64 (rd y133 x48_3), .int .i64 a1] (by rfl) rfl rfl (by (try simp only [List.map_toArray, List.map_cons, List.map_nil]); first | done | rfl | (simp only [List.length_drop, List.length_take]; rfl)) ?_
                              with_reducible refine (modes_countBits.calls kj28 (rd y133 x48_3) a1 t142 _ A39.out).mono ?_
                              rintro e w69 ⟨rfl, hb⟩
                              refine ⟨_, rfl, ?_⟩
                              have n0_ := Aside0.mk (Kd.R_below (by (with_reducible repeat (first | apply Kd.R_alloc | apply Kd.R_drewN | apply Kd.R_drew)); exact HO_8.out) hb)
                              have n1_ := Aside0.mk (Kd.R_below (by (with_reducible repeat (first | apply Kd.R_alloc | apply Kd.R_drewN | apply Kd.R_drew)); exact HO_46.out) hb)
                              have n2_ := Aside0.mk (blk_below (g := gb141) (o := .cells #[.int .i64 ((rd_T93 x8_4 (ji36)).f0), .int .i64 ((rd_T93 x8_4 (ji36)).f1), .int .i64 ((rd_T93 x8_4 (ji36)).f2), .int .i64 ((rd_T93 x8_4 (ji36)).f3)] 93 (0, 0)) (by (with_reducible repeat (first | refine blk_drewN ?_ _ | refine blk_drew ?_ | refine blk_alloc ?_ _)); exact BK141.out) hb)
                              have n3_ := Aside0.mk (below_step (by repeat (first | (with_reducible first | exact HB.out | apply below_alloc | apply pw_below_drewN | apply below_drew1 | refine below_set ?_ GE141.out) | exact HB.out)) hb)
                              clear HO_8
                              clear HO_46
                              clear BK141
                              clear HB
                              have HO_8 := n0_
                              have HO_46 := n1_
                              have BK141 := n2_
                              have HB := n3_
                              clear n0_ n1_ n2_ n3_
                              (try clear hb)
                              (try clear hb2)
                              (try clear hk)
                              (try clear hi)
                              refine hK.out _ _ ⟨(blk_cell BK141.out 0).trans rfl, (blk_cell BK141.out 1).trans rfl, (blk_cell BK141.out 2).trans rfl, (blk_cell BK141.out 3).trans rfl⟩ (fun hHeld => ?_)
                              clear hK K
                              refine norm_ (a' := ?_) ?_ ?_
                              rotate_left
                              ·show Act.put _ (some 85) _ = _
                               simp only [Act.put, List.setIfInBounds_toArray, List.set_cons_zero, List.set_cons_succ, i64_w, i32_w]
                               rfl
                              refine pure_ (i := 3) (N := some 86) (v := ?_) (a' := ?_) #[true, true, true, true, true, true, false, false, true, true, false, true, true, true, true, true, false, false, false] rfl rfl (any_of HT_.out (by kernel_rfl)) (fun _ _ _ h => h) (Or.inl ⟨by rfl, ?_⟩) ?_ ?_
                              rotate_left
                              ·intro w'
                               go_simp
                               with_reducible rfl
                              rotate_left
                              ·simp only [Act.put, List.setIfInBounds_toArray, List.set_cons_zero, List.set_cons_succ, i64_w, i32_w]
                               rfl
                              refine two_ (i := 6) (j := 17) (Ni := some 89) (Nj := some 15) #[true, true, true, true, true, true, true, false, true, true, false, true, true, true, true, true, false, false, false] #[true, true, true, true, true, true, false, false, true, true, false, true, true, true, true, true, false, true, false] rfl rfl rfl rfl (two_of HT_.out (by kernel_rfl)) (by decide) (by decide) (fun K hK => ?_) (fun K hK => ?_)
                              ·skip
                               refine goes_ Try.func55 (by kernel_rfl) rfl #[.int .i64 (rd y133 x48_3), .int .i64 x13_4] (by rfl) rfl rfl (by (try simp only [List.map_toArray, List.map_cons, List.map_nil]); first | done | rfl | (simp only [List.length_drop, List.length_take]; rfl)) ?_
                               with_reducible refine (modes_dataBits.calls (rd y133 x48_3) x13_4 t143 _ A40.out).mono ?_
                               rintro e w70 ⟨rfl, hb⟩
                               refine ⟨_, rfl, ?_⟩
                               have n0_ := Aside0.mk (Kd.R_below (by (with_reducible repeat (first | apply Kd.R_alloc | apply Kd.R_drewN | apply Kd.R_drew)); exact HO_8.out) hb)
                               have n1_ := Aside0.mk (Kd.R_below (by (with_reducible repeat (first | apply Kd.R_alloc | apply Kd.R_drewN | apply Kd.R_drew)); exact HO_46.out) hb)
                               have n2_ := Aside0.mk (blk_below (g := gb141) (o := .cells #[.int .i64 ((rd_T93 x8_4 (ji36)).f0), .int .i64 ((rd_T93 x8_4 (ji36)).f1), .int .i64 ((rd_T93 x8_4 (ji36)).f2), .int .i64 ((rd_T93 x8_4 (ji36)).f3)] 93 (0, 0)) (by (with_reducible repeat (first | refine blk_drewN ?_ _ | refine blk_drew ?_ | refine blk_alloc ?_ _)); exact BK141.out) hb)
                               have n3_ := Aside0.mk (below_step (by repeat (first | (with_reducible first | exact HB.out | apply below_alloc | apply pw_below_drewN | apply below_drew1 | refine below_set ?_ GE141.out) | exact HB.out)) hb)
                               clear HO_8
                               clear HO_46
                               clear BK141
                               clear HB
                               have HO_8 := n0_
                               have HO_46 := n1_
                               have BK141 := n2_
                               have HB := n3_
                               clear n0_ n1_ n2_ n3_
                               (try clear hb)
                               (try clear hb2)
                               (try clear hk)
                               (try clear hi)
                               refine hK.out _ _ ⟨(blk_cell BK141.out 0).trans rfl, (blk_cell BK141.out 1).trans rfl, (blk_cell BK141.out 2).trans rfl, (blk_cell BK141.out 3).trans rfl⟩ (fun hHeld => ?_)
                               clear hK K
                               refine norm_ (a' := ?_) ?_ ?_
                               rotate_left
                               ·show Act.put _ (some 89) _ = _
                                simp only [Act.put, List.setIfInBounds_toArray, List.set_cons_zero, List.set_cons_succ, i64_w, i32_w]
                                rfl
                               refine pure_ (i := 7) (N := some 90) (v := ?_) (a' := ?_) #[true, true, true, true, true, true, true, true, true, true, false, true, true, true, true, true, false, false, false] rfl rfl (any_of HT_.out (by kernel_rfl)) (fun _ _ _ h => h) (Or.inl ⟨by rfl, ?_⟩) ?_ ?_
                               rotate_left
                               ·intro w'
                                go_simp
                                with_reducible rfl
                               rotate_left
                               ·simp only [Act.put, List.setIfInBounds_toArray, List.set_cons_zero, List.set_cons_succ, i64_w, i32_w]
                                rfl
                               refine pure_ (i := 10) (N := some 93) (v := ?_) (a' := ?_) #[true, true, true, true, true, true, true, true, true, true, true, true, true, true, true, true, false, false, false] rfl rfl (any_of HT_.out (by kernel_rfl)) (fun _ _ _ h => h) (Or.inl ⟨by rfl, ?_⟩) ?_ ?_
                               rotate_left
                               ·intro w'
                                go_simp
                                with_reducible rfl
                               rotate_left
                               ·simp only [Act.put, List.setIfInBounds_toArray, List.set_cons_zero, List.set_cons_succ, i64_w, i32_w]
                                rfl
                               refine pure_ (i := 16) (N := some 99) (v := ?_) (a' := ?_) #[true, true, true, true, true, true, true, true, true, true, true, true, true, true, true, true, true, false, false] rfl rfl (any_of HT_.out (by kernel_rfl)) (fun _ _ _ h => h) (Or.inl ⟨by rfl, ?_⟩) ?_ ?_
                               rotate_left
                               ·intro w'
                                go_simp
                                with_reducible rfl
                               rotate_left
                               ·simp only [Act.put, List.setIfInBounds_toArray, List.set_cons_zero, List.set_cons_succ, i64_w, i32_w]
                                rfl
                               refine one_ (i := 17) (N := some 15) #[true, true, true, true, true, true, true, true, true, true, true, true, true, true, true, true, true, true, false] rfl rfl (one_of HT_.out (by kernel_rfl)) (by decide) (fun K hK => ?_)
                               refine box_step ?hg (N := 15) ?hd (cs := #[.int .i64 0, .int .i64 0, .int .i64 0, .int .i64 0]) (t := 93) ?hr ?_; (case hd => rfl); (case hg => rfl); (case hr => first | (go_simp; done) | (go_simp; rfl))
                               intro gb144 hg w71 hbox hb
                               have n0_ := Aside0.mk (Kd.R_below (Kd.R_elderB (by (with_reducible repeat (first | apply Kd.R_alloc | apply Kd.R_drewN | apply Kd.R_drew)); exact HO_8.out) gb144 (Nat.le_of_eq hg.symm)) hb)
                               have n1_ := Aside0.mk (Kd.R_below (by (with_reducible repeat (first | apply Kd.R_alloc | apply Kd.R_drewN | apply Kd.R_drew)); exact HO_46.out) hb)
                               have n2_ := Aside0.mk (blk_below (g := gb141) (o := .cells #[.int .i64 ((rd_T93 x8_4 (ji36)).f0), .int .i64 ((rd_T93 x8_4 (ji36)).f1), .int .i64 ((rd_T93 x8_4 (ji36)).f2), .int .i64 ((rd_T93 x8_4 (ji36)).f3)] 93 (0, 0)) (by (with_reducible repeat (first | refine blk_drewN ?_ _ | refine blk_drew ?_ | refine blk_alloc ?_ _)); exact BK141.out) hb)
                               have n3_ := Aside0.mk (below_step (by repeat (first | (with_reducible first | exact HB.out | apply below_alloc | apply pw_below_drewN | apply below_drew1 | refine below_set ?_ GE141.out) | exact HB.out)) hb)
                               have n4_ := Aside0.mk (hbox)
                               have n5_ := Aside0.mk ((by rw [hg]; exact (below_size (by repeat (first | (with_reducible first | exact HB.out | apply below_alloc | apply pw_below_drewN | apply below_drew1 | refine below_set ?_ GE141.out) | exact HB.out))) : w.heap.size ≤ gb144))
                               have n6_ := Aside0.mk ((by rw [hg]; exact (below_size (by repeat (first | (with_reducible first | exact HB.out | apply below_alloc | apply pw_below_drewN | apply below_drew1 | refine below_set ?_ GE141.out) | exact HB.out))) : w.heap.size ≤ gb144))
                               have n7_ := Aside0.mk ((by rw [hg]; exact Nat.ne_of_lt (blk_lt (g := gb141) (o := .cells #[.int .i64 ((rd_T93 x8_4 (ji36)).f0), .int .i64 ((rd_T93 x8_4 (ji36)).f1), .int .i64 ((rd_T93 x8_4 (ji36)).f2), .int .i64 ((rd_T93 x8_4 (ji36)).f3)] 93 (0, 0)) (by (with_reducible repeat (first | refine blk_drewN ?_ _ | refine blk_drew ?_ | refine blk_alloc ?_ _)); exact BK141.out)) : gb141 ≠ gb144))
                               have n8_ := Aside0.mk ((by rw [hg]; exact Nat.ne_of_gt (blk_lt (g := gb141) (o := .cells #[.int .i64 ((rd_T93 x8_4 (ji36)).f0), .int .i64 ((rd_T93 x8_4 (ji36)).f1), .int .i64 ((rd_T93 x8_4 (ji36)).f2), .int .i64 ((rd_T93 x8_4 (ji36)).f3)] 93 (0, 0)) (by (with_reducible repeat (first | refine blk_drewN ?_ _ | refine blk_drew ?_ | refine blk_alloc ?_ _)); exact BK141.out)) : gb144 ≠ gb141))
                               clear HO_8
                               clear HO_46
                               clear BK141
                               clear HB
                               have HO_8 := n0_
                               have HO_46 := n1_
                               have BK141 := n2_
                               have HB := n3_
                               have BK144 := n4_
                               have GW144 := n5_
                               have GE144 := n6_
                               have NB141_144 := n7_
                               have NB144_141 := n8_
                               clear n0_ n1_ n2_ n3_ n4_ n5_ n6_ n7_ n8_
                               clear hb hbox hg
                               refine hK.out _ _ ⟨(blk_cell BK141.out 0).trans rfl, (blk_cell BK141.out 1).trans rfl, (blk_cell BK141.out 2).trans rfl, (blk_cell BK141.out 3).trans rfl⟩ (fun hHeld => ?_)
                               clear hK K
                               refine norm_ (a' := ?_) ?_ ?_
                               rotate_left
                               ·show Act.put _ (some 15) _ = _
                                simp only [Act.put, List.setIfInBounds_toArray, List.set_cons_zero, List.set_cons_succ, i64_w, i32_w]
                                rfl
                               exact norm_ (by simp only [putAll, Act.put, List.setIfInBounds_toArray, List.set_cons_zero, List.set_cons_succ]) (hCont (gb144) _ ⟨hHeld, (by (with_reducible repeat (first | apply Kd.R_alloc | apply Kd.R_drewN | apply Kd.R_drew)); exact HO_46.out), (by (with_reducible repeat (first | apply Kd.R_alloc | apply Kd.R_drewN | apply Kd.R_drew)); exact Kd.R_mono HO_8.out (fun _ hk => ⟨hk.1.1, ⟨hk.1.2, hk.2⟩⟩)), (by (with_reducible repeat (first | refine blk_drewN ?_ _ | refine blk_drew ?_ | refine blk_alloc ?_ _)); exact BK141.out), (by (with_reducible repeat (first | refine blk_drewN ?_ _ | refine blk_drew ?_ | refine blk_alloc ?_ _)); exact BK144.out), GW144.out, GE144.out, NB141_144.out, NB144_141.out, (by repeat (first | (with_reducible first | exact HB.out | apply below_alloc | apply pw_below_drewN | apply below_drew1 | refine below_set ?_ GE141.out | refine below_set ?_ GE144.out) | exact HB.out))⟩)
                              ·skip
                               refine box_step ?hg (N := 15) ?hd (cs := #[.int .i64 0, .int .i64 0, .int .i64 0, .int .i64 0]) (t := 93) ?hr ?_; (case hd => rfl); (case hg => rfl); (case hr => first | (go_simp; done) | (go_simp; rfl))
                               intro gb144 hg w70 hbox hb
                               have n0_ := Aside0.mk (Kd.R_below (Kd.R_elderB (by (with_reducible repeat (first | apply Kd.R_alloc | apply Kd.R_drewN | apply Kd.R_drew)); exact HO_8.out) gb144 (Nat.le_of_eq hg.symm)) hb)
                               have n1_ := Aside0.mk (Kd.R_below (by (with_reducible repeat (first | apply Kd.R_alloc | apply Kd.R_drewN | apply Kd.R_drew)); exact HO_46.out) hb)
                               have n2_ := Aside0.mk (blk_below (g := gb141) (o := .cells #[.int .i64 ((rd_T93 x8_4 (ji36)).f0), .int .i64 ((rd_T93 x8_4 (ji36)).f1), .int .i64 ((rd_T93 x8_4 (ji36)).f2), .int .i64 ((rd_T93 x8_4 (ji36)).f3)] 93 (0, 0)) (by (with_reducible repeat (first | refine blk_drewN ?_ _ | refine blk_drew ?_ | refine blk_alloc ?_ _)); exact BK141.out) hb)
                               have n3_ := Aside0.mk (below_step (by repeat (first | (with_reducible first | exact HB.out | apply below_alloc | apply pw_below_drewN | apply below_drew1 | refine below_set ?_ GE141.out) | exact HB.out)) hb)
                               have n4_ := Aside0.mk (hbox)
                               have n5_ := Aside0.mk ((by rw [hg]; exact (below_size (by repeat (first | (with_reducible first | exact HB.out | apply below_alloc | apply pw_below_drewN | apply below_drew1 | refine below_set ?_ GE141.out) | exact HB.out))) : w.heap.size ≤ gb144))
                               have n6_ := Aside0.mk ((by rw [hg]; exact (below_size (by repeat (first | (with_reducible first | exact HB.out | apply below_alloc | apply pw_below_drewN | apply below_drew1 | refine below_set ?_ GE141.out) | exact HB.out))) : w.heap.size ≤ gb144))
                               have n7_ := Aside0.mk ((by rw [hg]; exact Nat.ne_of_lt (blk_lt (g := gb141) (o := .cells #[.int .i64 ((rd_T93 x8_4 (ji36)).f0), .int .i64 ((rd_T93 x8_4 (ji36)).f1), .int .i64 ((rd_T93 x8_4 (ji36)).f2), .int .i64 ((rd_T93 x8_4 (ji36)).f3)] 93 (0, 0)) (by (with_reducible repeat (first | refine blk_drewN ?_ _ | refine blk_drew ?_ | refine blk_alloc ?_ _)); exact BK141.out)) : gb141 ≠ gb144))
                               have n8_ := Aside0.mk ((by rw [hg]; exact Nat.ne_of_gt (blk_lt (g := gb141) (o := .cells #[.int .i64 ((rd_T93 x8_4 (ji36)).f0), .int .i64 ((rd_T93 x8_4 (ji36)).f1), .int .i64 ((rd_T93 x8_4 (ji36)).f2), .int .i64 ((rd_T93 x8_4 (ji36)).f3)] 93 (0, 0)) (by (with_reducible repeat (first | refine blk_drewN ?_ _ | refine blk_drew ?_ | refine blk_alloc ?_ _)); exact BK141.out)) : gb144 ≠ gb141))
                               clear HO_8
                               clear HO_46
                               clear BK141
                               clear HB
                               have HO_8 := n0_
                               have HO_46 := n1_
                               have BK141 := n2_
                               have HB := n3_
                               have BK144 := n4_
                               have GW144 := n5_
                               have GE144 := n6_
                               have NB141_144 := n7_
                               have NB144_141 := n8_
                               clear n0_ n1_ n2_ n3_ n4_ n5_ n6_ n7_ n8_
                               clear hb hbox hg
                               refine hK.out _ _ ⟨(blk_cell BK141.out 0).trans rfl, (blk_cell BK141.out 1).trans rfl, (blk_cell BK141.out 2).trans rfl, (blk_cell BK141.out 3).trans rfl⟩ (fun hHeld => ?_)
                               clear hK K
                               refine norm_ (a' := ?_) ?_ ?_
                               rotate_left
                               ·show Act.put _ (some 15) _ = _
                                simp only [Act.put, List.setIfInBounds_toArray, List.set_cons_zero, List.set_cons_succ, i64_w, i32_w]
                                rfl
                               refine one_ (i := 6) (N := some 89) #[true, true, true, true, true, true, true, false, true, true, false, true, true, true, true, true, false, true, false] rfl rfl (one_of HT_.out (by kernel_rfl)) (by decide) (fun K hK => ?_)
                               refine goes_ Try.func55 (by kernel_rfl) rfl #[.int .i64 (rd y133 x48_3), .int .i64 x13_4] (by rfl) rfl rfl (by (try simp only [List.map_toArray, List.map_cons, List.map_nil]); first | done | rfl | (simp only [List.length_drop, List.length_take]; rfl)) ?_
                               with_reducible refine (modes_dataBits.calls (rd y133 x48_3) x13_4 t143 _ A40.out).mono ?_
                               rintro e w71 ⟨rfl, hb⟩
                               refine ⟨_, rfl, ?_⟩
                               have n0_ := Aside0.mk (Kd.R_below (by (with_reducible repeat (first | apply Kd.R_alloc | apply Kd.R_drewN | apply Kd.R_drew)); exact HO_8.out) hb)
                               have n1_ := Aside0.mk (Kd.R_below (by (with_reducible repeat (first | apply Kd.R_alloc | apply Kd.R_drewN | apply Kd.R_drew)); exact HO_46.out) hb)
                               have n2_ := Aside0.mk (blk_below (g := gb141) (o := .cells #[.int .i64 ((rd_T93 x8_4 (ji36)).f0), .int .i64 ((rd_T93 x8_4 (ji36)).f1), .int .i64 ((rd_T93 x8_4 (ji36)).f2), .int .i64 ((rd_T93 x8_4 (ji36)).f3)] 93 (0, 0)) (by (with_reducible repeat (first | refine blk_drewN ?_ _ | refine blk_drew ?_ | refine blk_alloc ?_ _)); exact BK141.out) hb)
                               have n3_ := Aside0.mk (blk_below (g := gb144) (o := .cells #[.int .i64 0, .int .i64 0, .int .i64 0, .int .i64 0] 93 (0, 0)) (by (with_reducible repeat (first | refine blk_drewN ?_ _ | refine blk_drew ?_ | refine blk_alloc ?_ _)); exact BK144.out) hb)
                               have n4_ := Aside0.mk (below_step (by repeat (first | (with_reducible first | exact HB.out | apply below_alloc | apply pw_below_drewN | apply below_drew1 | refine below_set ?_ GE141.out | refine below_set ?_ GE144.out) | exact HB.out)) hb)
                               clear HO_8
                               clear HO_46
                               clear BK141
                               clear BK144
                               clear HB
                               have HO_8 := n0_
                               have HO_46 := n1_
                               have BK141 := n2_
                               have BK144 := n3_
                               have HB := n4_
                               clear n0_ n1_ n2_ n3_ n4_
                               (try clear hb)
                               (try clear hb2)
                               (try clear hk)
                               (try clear hi)
                               refine hK.out _ _ ⟨(blk_cell BK141.out 0).trans rfl, (blk_cell BK141.out 1).trans rfl, (blk_cell BK141.out 2).trans rfl, (blk_cell BK141.out 3).trans rfl⟩ (fun hHeld => ?_)
                               clear hK K
                               refine norm_ (a' := ?_) ?_ ?_
                               rotate_left
                               ·show Act.put _ (some 89) _ = _
                                simp only [Act.put, List.setIfInBounds_toArray, List.set_cons_zero, List.set_cons_succ, i64_w, i32_w]
                                rfl
                               refine pure_ (i := 7) (N := some 90) (v := ?_) (a' := ?_) #[true, true, true, true, true, true, true, true, true, true, false, true, true, true, true, true, false, true, false] rfl rfl (any_of HT_.out (by kernel_rfl)) (fun _ _ _ h => h) (Or.inl ⟨by rfl, ?_⟩) ?_ ?_
                               rotate_left
                               ·intro w'
                                go_simp
                                with_reducible rfl
                               rotate_left
                               ·simp only [Act.put, List.setIfInBounds_toArray, List.set_cons_zero, List.set_cons_succ, i64_w, i32_w]
                                rfl
                               refine pure_ (i := 10) (N := some 93) (v := ?_) (a' := ?_) #[true, true, true, true, true, true, true, true, true, true, true, true, true, true, true, true, false, true, false] rfl rfl (any_of HT_.out (by kernel_rfl)) (fun _ _ _ h => h) (Or.inl ⟨by rfl, ?_⟩) ?_ ?_
                               rotate_left
                               ·intro w'
                                go_simp
                                with_reducible rfl
                               rotate_left
                               ·simp only [Act.put, List.setIfInBounds_toArray, List.set_cons_zero, List.set_cons_succ, i64_w, i32_w]
                                rfl
                               refine pure_ (i := 16) (N := some 99) (v := ?_) (a' := ?_) #[true, true, true, true, true, true, true, true, true, true, true, true, true, true, true, true, true, true, false] rfl rfl (any_of HT_.out (by kernel_rfl)) (fun _ _ _ h => h) (Or.inl ⟨by rfl, ?_⟩) ?_ ?_
                               rotate_left
                               ·intro w'
                                go_simp
                                with_reducible rfl
                               rotate_left
                               ·simp only [Act.put, List.setIfInBounds_toArray, List.set_cons_zero, List.set_cons_succ, i64_w, i32_w]
                                rfl
                               exact norm_ (by simp only [putAll, Act.put, List.setIfInBounds_toArray, List.set_cons_zero, List.set_cons_succ]) (hCont (gb144) _ ⟨hHeld, (by (with_reducible repeat (first | apply Kd.R_alloc | apply Kd.R_drewN | apply Kd.R_drew)); exact HO_46.out), (by (with_reducible repeat (first | apply Kd.R_alloc | apply Kd.R_drewN | apply Kd.R_drew)); exact Kd.R_mono HO_8.out (fun _ hk => ⟨hk.1.1, ⟨hk.1.2, hk.2⟩⟩)), (by (with_reducible repeat (first | refine blk_drewN ?_ _ | refine blk_drew ?_ | refine blk_alloc ?_ _)); exact BK141.out), (by (with_reducible repeat (first | refine blk_drewN ?_ _ | refine blk_drew ?_ | refine blk_alloc ?_ _)); exact BK144.out), GW144.out, GE144.out, NB141_144.out, NB144_141.out, (by repeat (first | (with_reducible first | exact HB.out | apply below_alloc | apply pw_below_drewN | apply below_drew1 | refine below_set ?_ GE141.out | refine below_set ?_ GE144.out) | exact HB.out))⟩)
                             ·skip
                              refine box_step ?hg (N := 15) ?hd (cs := #[.int .i64 0, .int .i64 0, .int .i64 0, .int .i64 0]) (t := 93) ?hr ?_; (case hd => rfl); (case hg => rfl); (case hr => first | (go_simp; done) | (go_simp; rfl))
                              intro gb144 hg w69 hbox hb
                              have n0_ := Aside0.mk (Kd.R_below (Kd.R_elderB (by (with_reducible repeat (first | apply Kd.R_alloc | apply Kd.R_drewN | apply Kd.R_drew)); exact HO_8.out) gb144 (Nat.le_of_eq hg.symm)) hb)
                              have n1_ := Aside0.mk (Kd.R_below (by (with_reducible repeat (first | apply Kd.R_alloc | apply Kd.R_drewN | apply Kd.R_drew)); exact HO_46.out) hb)
                              have n2_ := Aside0.mk (blk_below (g := gb141) (o := .cells #[.int .i64 ((rd_T93 x8_4 (ji36)).f0), .int .i64 ((rd_T93 x8_4 (ji36)).f1), .int .i64 ((rd_T93 x8_4 (ji36)).f2), .int .i64 ((rd_T93 x8_4 (ji36)).f3)] 93 (0, 0)) (by (with_reducible repeat (first | refine blk_drewN ?_ _ | refine blk_drew ?_ | refine blk_alloc ?_ _)); exact BK141.out) hb)
                              have n3_ := Aside0.mk (below_step (by repeat (first | (with_reducible first | exact HB.out | apply below_alloc | apply pw_below_drewN | apply below_drew1 | refine below_set ?_ GE141.out) | exact HB.out)) hb)
                              have n4_ := Aside0.mk (hbox)
                              have n5_ := Aside0.mk ((by rw [hg]; exact (below_size (by repeat (first | (with_reducible first | exact HB.out | apply below_alloc | apply pw_below_drewN | apply below_drew1 | refine below_set ?_ GE141.out) | exact HB.out))) : w.heap.size ≤ gb144))
                              have n6_ := Aside0.mk ((by rw [hg]; exact (below_size (by repeat (first | (with_reducible first | exact HB.out | apply below_alloc | apply pw_below_drewN | apply below_drew1 | refine below_set ?_ GE141.out) | exact HB.out))) : w.heap.size ≤ gb144))
                              have n7_ := Aside0.mk ((by rw [hg]; exact Nat.ne_of_lt (blk_lt (g := gb141) (o := .cells #[.int .i64 ((rd_T93 x8_4 (ji36)).f0), .int .i64 ((rd_T93 x8_4 (ji36)).f1), .int .i64 ((rd_T93 x8_4 (ji36)).f2), .int .i64 ((rd_T93 x8_4 (ji36)).f3)] 93 (0, 0)) (by (with_reducible repeat (first | refine blk_drewN ?_ _ | refine blk_drew ?_ | refine blk_alloc ?_ _)); exact BK141.out)) : gb141 ≠ gb144))
                              have n8_ := Aside0.mk ((by rw [hg]; exact Nat.ne_of_gt (blk_lt (g := gb141) (o := .cells #[.int .i64 ((rd_T93 x8_4 (ji36)).f0), .int .i64 ((rd_T93 x8_4 (ji36)).f1), .int .i64 ((rd_T93 x8_4 (ji36)).f2), .int .i64 ((rd_T93 x8_4 (ji36)).f3)] 93 (0, 0)) (by (with_reducible repeat (first | refine blk_drewN ?_ _ | refine blk_drew ?_ | refine blk_alloc ?_ _)); exact BK141.out)) : gb144 ≠ gb141))
                              clear HO_8
                              clear HO_46
                              clear BK141
                              clear HB
                              have HO_8 := n0_
                              have HO_46 := n1_
                              have BK141 := n2_
                              have HB := n3_
                              have BK144 := n4_
                              have GW144 := n5_
                              have GE144 := n6_
                              have NB141_144 := n7_
                              have NB144_141 := n8_
                              clear n0_ n1_ n2_ n3_ n4_ n5_ n6_ n7_ n8_
                              clear hb hbox hg
                              refine hK.out _ _ ⟨(blk_cell BK141.out 0).trans rfl, (blk_cell BK141.out 1).trans rfl, (blk_cell BK141.out 2).trans rfl, (blk_cell BK141.out 3).trans rfl⟩ (fun hHeld => ?_)
                              clear hK K
                              refine norm_ (a' := ?_) ?_ ?_
                              rotate_left
                              ·show Act.put _ (some 15) _ = _
                               simp only [Act.put, List.setIfInBounds_toArray, List.set_cons_zero, List.set_cons_succ, i64_w, i32_w]
                               rfl
                              refine one_ (i := 2) (N := some 85) #[true, true, true, false, true, true, false, false, true, true, false, true, true, true, true, true, false, true, false] rfl rfl (one_of HT_.out (by kernel_rfl)) (by decide) (fun K hK => ?_)
                              refine goes_ Try.func51 (by kernel_rfl) rfl #[.int .i64 (rd y133 x48_3), .int .i64 a1] (by rfl) rfl rfl (by (try simp only [List.map_toArray, List.map_cons, List.map_nil]); first | done | rfl | (simp only [List.length_drop, List.length_take]; rfl)) ?_
                              with_reducible refine (modes_countBits.calls kj28 (rd y133 x48_3) a1 t142 _ A39.out).mono ?_
                              rintro e w70 ⟨rfl, hb⟩
                              refine ⟨_, rfl, ?_⟩
                              have n0_ := Aside0.mk (Kd.R_below (by (with_reducible repeat (first | apply Kd.R_alloc | apply Kd.R_drewN | apply Kd.R_drew)); exact HO_8.out) hb)
                              have n1_ := Aside0.mk (Kd.R_below (by (with_reducible repeat (first | apply Kd.R_alloc | apply Kd.R_drewN | apply Kd.R_drew)); exact HO_46.out) hb)
                              have n2_ := Aside0.mk (blk_below (g := gb141) (o := .cells #[.int .i64 ((rd_T93 x8_4 (ji36)).f0), .int .i64 ((rd_T93 x8_4 (ji36)).f1), .int .i64 ((rd_T93 x8_4 (ji36)).f2), .int .i64 ((rd_T93 x8_4 (ji36)).f3)] 93 (0, 0)) (by (with_reducible repeat (first | refine blk_drewN ?_ _ | refine blk_drew ?_ | refine blk_alloc ?_ _)); exact BK141.out) hb)
                              have n3_ := Aside0.mk (blk_below (g := gb144) (o := .cells #[.int .i64 0, .int .i64 0, .int .i64 0, .int .i64 0] 93 (0, 0)) (by (with_reducible repeat (first | refine blk_drewN ?_ _ | refine blk_drew ?_ | refine blk_alloc ?_ _)); exact BK144.out) hb)
                              have n4_ := Aside0.mk (below_step (by repeat (first | (with_reducible first | exact HB.out | apply below_alloc | apply pw_below_drewN | apply below_drew1 | refine below_set ?_ GE141.out | refine below_set ?_ GE144.out) | exact HB.out)) hb)
                              clear HO_8
                              clear HO_46
                              clear BK141
                              clear BK144
                              clear HB
                              have HO_8 := n0_
                              have HO_46 := n1_
                              have BK141 := n2_
                              have BK144 := n3_
                              have HB := n4_
                              clear n0_ n1_ n2_ n3_ n4_
                              (try clear hb)
                              (try clear hb2)
                              (try clear hk)
                              (try clear hi)
                              refine hK.out _ _ ⟨(blk_cell BK141.out 0).trans rfl, (blk_cell BK141.out 1).trans rfl, (blk_cell BK141.out 2).trans rfl, (blk_cell BK141.out 3).trans rfl⟩ (fun hHeld => ?_)
                              clear hK K
                              refine norm_ (a' := ?_) ?_ ?_
                              rotate_left
                              ·show Act.put _ (some 85) _ = _
                               simp only [Act.put, List.setIfInBounds_toArray, List.set_cons_zero, List.set_cons_succ, i64_w, i32_w]
                               rfl
                              refine pure_ (i := 3) (N := some 86) (v := ?_) (a' := ?_) #[true, true, true, true, true, true, false, false, true, true, false, true, true, true, true, true, false, true, false] rfl rfl (any_of HT_.out (by kernel_rfl)) (fun _ _ _ h => h) (Or.inl ⟨by rfl, ?_⟩) ?_ ?_
                              rotate_left
                              ·intro w'
                               go_simp
                               with_reducible rfl
                              rotate_left
                              ·simp only [Act.put, List.setIfInBounds_toArray, List.set_cons_zero, List.set_cons_succ, i64_w, i32_w]
                               rfl
                              refine one_ (i := 6) (N := some 89) #[true, true, true, true, true, true, true, false, true, true, false, true, true, true, true, true, false, true, false] rfl rfl (one_of HT_.out (by kernel_rfl)) (by decide) (fun K hK => ?_)
                              refine goes_ Try.func55 (by kernel_rfl) rfl #[.int .i64 (rd y133 x48_3), .int .i64 x13_4] (by rfl) rfl rfl (by (try simp only [List.map_toArray, List.map_cons, List.map_nil]); first | done | rfl | (simp only [List.length_drop, List.length_take]; rfl)) ?_
                              with_reducible refine (modes_dataBits.calls (rd y133 x48_3) x13_4 t143 _ A40.out).mono ?_
                              rintro e w71 ⟨rfl, hb⟩
                              refine ⟨_, rfl, ?_⟩
                              have n0_ := Aside0.mk (Kd.R_below (by (with_reducible repeat (first | apply Kd.R_alloc | apply Kd.R_drewN | apply Kd.R_drew)); exact HO_8.out) hb)
                              have n1_ := Aside0.mk (Kd.R_below (by (with_reducible repeat (first | apply Kd.R_alloc | apply Kd.R_drewN | apply Kd.R_drew)); exact HO_46.out) hb)
                              have n2_ := Aside0.mk (blk_below (g := gb141) (o := .cells #[.int .i64 ((rd_T93 x8_4 (ji36)).f0), .int .i64 ((rd_T93 x8_4 (ji36)).f1), .int .i64 ((rd_T93 x8_4 (ji36)).f2), .int .i64 ((rd_T93 x8_4 (ji36)).f3)] 93 (0, 0)) (by (with_reducible repeat (first | refine blk_drewN ?_ _ | refine blk_drew ?_ | refine blk_alloc ?_ _)); exact BK141.out) hb)
                              have n3_ := Aside0.mk (blk_below (g := gb144) (o := .cells #[.int .i64 0, .int .i64 0, .int .i64 0, .int .i64 0] 93 (0, 0)) (by (with_reducible repeat (first | refine blk_drewN ?_ _ | refine blk_drew ?_ | refine blk_alloc ?_ _)); exact BK144.out) hb)
                              have n4_ := Aside0.mk (below_step (by repeat (first | (with_reducible first | exact HB.out | apply below_alloc | apply pw_below_drewN | apply below_drew1 | refine below_set ?_ GE141.out | refine below_set ?_ GE144.out) | exact HB.out)) hb)
                              clear HO_8
                              clear HO_46
                              clear BK141
                              clear BK144
                              clear HB
                              have HO_8 := n0_
                              have HO_46 := n1_
                              have BK141 := n2_
                              have BK144 := n3_
                              have HB := n4_
                              clear n0_ n1_ n2_ n3_ n4_
                              (try clear hb)
                              (try clear hb2)
                              (try clear hk)
                              (try clear hi)
                              refine hK.out _ _ ⟨(blk_cell BK141.out 0).trans rfl, (blk_cell BK141.out 1).trans rfl, (blk_cell BK141.out 2).trans rfl, (blk_cell BK141.out 3).trans rfl⟩ (fun hHeld => ?_)
                              clear hK K
                              refine norm_ (a' := ?_) ?_ ?_
                              rotate_left
                              ·show Act.put _ (some 89) _ = _
                               simp only [Act.put, List.setIfInBounds_toArray, List.set_cons_zero, List.set_cons_succ, i64_w, i32_w]
                               rfl
                              refine pure_ (i := 7) (N := some 90) (v := ?_) (a' := ?_) #[true, true, true, true, true, true, true, true, true, true, false, true, true, true, true, true, false, true, false] rfl rfl (any_of HT_.out (by kernel_rfl)) (fun _ _ _ h => h) (Or.inl ⟨by rfl, ?_⟩) ?_ ?_
                              rotate_left
                              ·intro w'
                               go_simp
                               with_reducible rfl
                              rotate_left
                              ·simp only [Act.put, List.setIfInBounds_toArray, List.set_cons_zero, List.set_cons_succ, i64_w, i32_w]
                               rfl
                              refine pure_ (i := 10) (N := some 93) (v := ?_) (a' := ?_) #[true, true, true, true, true, true, true, true, true, true, true, true, true, true, true, true, false, true, false] rfl rfl (any_of HT_.out (by kernel_rfl)) (fun _ _ _ h => h) (Or.inl ⟨by rfl, ?_⟩) ?_ ?_
                              rotate_left
                              ·intro w'
                               go_simp
                               with_reducible rfl
                              rotate_left
                              ·simp only [Act.put, List.setIfInBounds_toArray, List.set_cons_zero, List.set_cons_succ, i64_w, i32_w]
                               rfl
                              refine pure_ (i := 16) (N := some 99) (v := ?_) (a' := ?_) #[true, true, true, true, true, true, true, true, true, true, true, true, true, true, true, true, true, true, false] rfl rfl (any_of HT_.out (by kernel_rfl)) (fun _ _ _ h => h) (Or.inl ⟨by rfl, ?_⟩) ?_ ?_
                              rotate_left
                              ·intro w'
                               go_simp
                               with_reducible rfl
                              rotate_left
                              ·simp only [Act.put, List.setIfInBounds_toArray, List.set_cons_zero, List.set_cons_succ, i64_w, i32_w]
                               rfl
                              exact norm_ (by simp only [putAll, Act.put, List.setIfInBounds_toArray, List.set_cons_zero, List.set_cons_succ]) (hCont (gb144) _ ⟨hHeld, (by (with_reducible repeat (first | apply Kd.R_alloc | apply Kd.R_drewN | apply Kd.R_drew)); exact HO_46.out), (by (with_reducible repeat (first | apply Kd.R_alloc | apply Kd.R_drewN | apply Kd.R_drew)); exact Kd.R_mono HO_8.out (fun _ hk => ⟨hk.1.1, ⟨hk.1.2, hk.2⟩⟩)), (by (with_reducible repeat (first | refine blk_drewN ?_ _ | refine blk_drew ?_ | refine blk_alloc ?_ _)); exact BK141.out), (by (with_reducible repeat (first | refine blk_drewN ?_ _ | refine blk_drew ?_ | refine blk_alloc ?_ _)); exact BK144.out), GW144.out, GE144.out, NB141_144.out, NB144_141.out, (by repeat (first | (with_reducible first | exact HB.out | apply below_alloc | apply pw_below_drewN | apply below_drew1 | refine below_set ?_ GE141.out | refine below_set ?_ GE144.out) | exact HB.out))⟩)
                            rintro gb144 w72 ⟨hS_, h0_, h1_, h2_, h3_, h4_, h5_, h6_, h7_, h8_⟩
                            have n0_ : Aside0 (Kd.R (Kd.int .i64) 31 w72 w.heap.size (fun k_ => (w.heap.size ≤ k_)) (.slice (some ad136) y133.length co20) y133) := ⟨h0_⟩
                            have n1_ : Aside0 (Kd.R k93 93 w72 w.heap.size (fun k_ => (w.heap.size ≤ k_) ∧ k_ ≠ gb141 ∧ k_ ≠ gb144) (.slice (some ⟨go15, 0, none⟩) x8_4.length co15) x8_4) := ⟨h1_⟩
                            have n2_ : Aside0 (w72.heap[gb141]? = some (.cells #[.int .i64 ((rd_T93 x8_4 (ji36)).f0), .int .i64 ((rd_T93 x8_4 (ji36)).f1), .int .i64 ((rd_T93 x8_4 (ji36)).f2), .int .i64 ((rd_T93 x8_4 (ji36)).f3)] 93 (0, 0))) := ⟨h2_⟩
                            have n3_ : Aside0 (w72.heap[gb144]? = some (.cells #[.int .i64 0, .int .i64 0, .int .i64 0, .int .i64 0] 93 (0, 0))) := ⟨h3_⟩
                            have n4_ : Aside0 (w.heap.size ≤ gb144) := ⟨h4_⟩
                            have n5_ : Aside0 (w.heap.size ≤ gb144) := ⟨h5_⟩
                            have n6_ : Aside0 (gb141 ≠ gb144) := ⟨h6_⟩
                            have n7_ : Aside0 (gb144 ≠ gb141) := ⟨h7_⟩
                            have n8_ : Aside0 (Below w.heap.size w w72) := ⟨h8_⟩
                            clear HO_8
                            clear HO_46
                            clear BK141
                            clear HB
                            clear h0_ h1_ h2_ h3_ h4_ h5_ h6_ h7_ h8_
                            have HO_46 := n0_
                            have HO_8 := n1_
                            have BK141 := n2_
                            have BK144 := n3_
                            have GW144 := n4_
                            have GE144 := n5_
                            have NB141_144 := n6_
                            have NB144_141 := n7_
                            have HB := n8_
                            clear n0_ n1_ n2_ n3_ n4_ n5_ n6_ n7_ n8_
                            have hHeld : w72.cell? ⟨gb141, 0, none⟩ = some (.int .i64 ((rd_T93 x8_4 (ji36)).f0)) ∧ w72.cell? ⟨gb141, 1, none⟩ = some (.int .i64 ((rd_T93 x8_4 (ji36)).f1)) ∧ w72.cell? ⟨gb141, 2, none⟩ = some (.int .i64 ((rd_T93 x8_4 (ji36)).f2)) ∧ w72.cell? ⟨gb141, 3, none⟩ = some (.int .i64 ((rd_T93 x8_4 (ji36)).f3)) := hS_
                            refine norm_ (a' := ?_) ?_ ?_
                            rotate_left
                            ·simp only [putAll, Act.put, List.setIfInBounds_toArray, List.set_cons_zero, List.set_cons_succ]
                             rfl
                            refine one_ (i := 18) (N := none) #[true, true, true, true, true, true, true, true, true, true, true, true, true, true, true, true, true, true, true] rfl rfl (one_of HT_.out (by kernel_rfl)) (by decide) (fun K hK => ?_)
                            have hs73 : w72.cell? ⟨gb144, 0, none⟩ = some (.int .i64 0) := (blk_cell BK144.out 0).trans rfl
                            have hfs73 := blk_frozen BK144.out 0
                            have hns73_0 := NB141_144.out
                            have hms73_0 := NB144_141.out
                            have hs74 : w72.cell? ⟨gb144, 1, none⟩ = some (.int .i64 0) := (blk_cell BK144.out 1).trans rfl
                            have hfs74 := blk_frozen BK144.out 1
                            have hns74_0 := NB141_144.out
                            have hms74_0 := NB144_141.out
                            have hs75 : w72.cell? ⟨gb144, 2, none⟩ = some (.int .i64 0) := (blk_cell BK144.out 2).trans rfl
                            have hfs75 := blk_frozen BK144.out 2
                            have hns75_0 := NB141_144.out
                            have hms75_0 := NB144_141.out
                            have hs76 : w72.cell? ⟨gb144, 3, none⟩ = some (.int .i64 0) := (blk_cell BK144.out 3).trans rfl
                            have hfs76 := blk_frozen BK144.out 3
                            have hns76_0 := NB141_144.out
                            have hms76_0 := NB144_141.out
                            refine skip_ (w1 := ?_) (by rfl) rfl ?_ ?_
                            rotate_left
                            ·go_simp
                             rfl
                            refine hK.out _ _ ⟨((cell_far (p := ⟨gb144, _, none⟩) NB141_144.out _).trans (((cell_far (p := ⟨gb144, _, none⟩) NB141_144.out _).trans (((cell_far (p := ⟨gb144, _, none⟩) NB141_144.out _).trans (((cell_far (p := ⟨gb144, _, none⟩) NB141_144.out _).trans (hHeld.1)))))))), ((cell_far (p := ⟨gb144, _, none⟩) NB141_144.out _).trans (((cell_far (p := ⟨gb144, _, none⟩) NB141_144.out _).trans (((cell_far (p := ⟨gb144, _, none⟩) NB141_144.out _).trans (((cell_far (p := ⟨gb144, _, none⟩) NB141_144.out _).trans (hHeld.2.1)))))))), ((cell_far (p := ⟨gb144, _, none⟩) NB141_144.out _).trans (((cell_far (p := ⟨gb144, _, none⟩) NB141_144.out _).trans (((cell_far (p := ⟨gb144, _, none⟩) NB141_144.out _).trans (((cell_far (p := ⟨gb144, _, none⟩) NB141_144.out _).trans (hHeld.2.2.1)))))))), ((cell_far (p := ⟨gb144, _, none⟩) NB141_144.out _).trans (((cell_far (p := ⟨gb144, _, none⟩) NB141_144.out _).trans (((cell_far (p := ⟨gb144, _, none⟩) NB141_144.out _).trans (((cell_far (p := ⟨gb144, _, none⟩) NB141_144.out _).trans (hHeld.2.2.2))))))))⟩ (fun hHeld => ?_)
                            clear hK K
                            refine done_ (done_of HT_.out (by kernel_rfl)) ?_
                            try go_wp2
                            have n0_ : Aside0 (Kd.R k93 93 ((((w72.setCell ⟨gb144, 0, none⟩ (.int .i64 (wrap64 ((wrap64 ((wrap64 (4 + t142)) + t143)) + ((rd_T93 x8_4 (ji36)).f0))))).setCell ⟨gb144, 1, none⟩ (.int .i64 (wrap64 (1 + ((rd_T93 x8_4 (ji36)).f1))))).setCell ⟨gb144, 2, none⟩ (.int .i64 x13_4)).setCell ⟨gb144, 3, none⟩ (.int .i64 (rd y133 x48_3))) w.heap.size (fun k_ => (w.heap.size ≤ k_) ∧ k_ ≠ gb141 ∧ k_ ≠ gb144) (.slice (some ⟨go15, 0, none⟩) x8_4.length co15) x8_4) := ⟨by (with_reducible repeat (first | apply Kd.R_alloc | apply Kd.R_drewN | apply Kd.R_drew)); exact Kd.R_mono (Kd.R_far (p := ⟨gb144, 3, none⟩) (Kd.R_far (p := ⟨gb144, 2, none⟩) (Kd.R_far (p := ⟨gb144, 1, none⟩) (Kd.R_far (p := ⟨gb144, 0, none⟩) (Kd.R_mono HO_8.out (fun k_ hk => (⟨hk, hk.2.2⟩ : _ ∧ k_ ≠ gb144))) (fun _ hk => hk.2) (.int .i64 (wrap64 ((wrap64 ((wrap64 (4 + t142)) + t143)) + ((rd_T93 x8_4 (ji36)).f0))))) (fun _ hk => hk.2) (.int .i64 (wrap64 (1 + ((rd_T93 x8_4 (ji36)).f1))))) (fun _ hk => hk.2) (.int .i64 x13_4)) (fun _ hk => hk.2) (.int .i64 (rd y133 x48_3))) (fun _ hk => ⟨hk.1.1, ⟨hk.1.2.1, hk.1.2.2⟩⟩)⟩
                            have n1_ : Aside0 (Kd.R (Kd.int .i64) 31 ((((w72.setCell ⟨gb144, 0, none⟩ (.int .i64 (wrap64 ((wrap64 ((wrap64 (4 + t142)) + t143)) + ((rd_T93 x8_4 (ji36)).f0))))).setCell ⟨gb144, 1, none⟩ (.int .i64 (wrap64 (1 + ((rd_T93 x8_4 (ji36)).f1))))).setCell ⟨gb144, 2, none⟩ (.int .i64 x13_4)).setCell ⟨gb144, 3, none⟩ (.int .i64 (rd y133 x48_3))) w.heap.size (fun k_ => (w.heap.size ≤ k_)) (.slice (some ad136) y133.length co20) y133) := ⟨by (with_reducible repeat (first | apply Kd.R_alloc | apply Kd.R_drewN | apply Kd.R_drew)); exact Kd.R_mono (Kd.R_far (p := ⟨gb144, 3, none⟩) (Kd.R_far (p := ⟨gb144, 2, none⟩) (Kd.R_far (p := ⟨gb144, 1, none⟩) (Kd.R_far (p := ⟨gb144, 0, none⟩) (Kd.R_types HO_46.out BK144.out (by decide)) (fun _ hk => hk.2) (.int .i64 (wrap64 ((wrap64 ((wrap64 (4 + t142)) + t143)) + ((rd_T93 x8_4 (ji36)).f0))))) (fun _ hk => hk.2) (.int .i64 (wrap64 (1 + ((rd_T93 x8_4 (ji36)).f1))))) (fun _ hk => hk.2) (.int .i64 x13_4)) (fun _ hk => hk.2) (.int .i64 (rd y133 x48_3))) (fun _ hk => hk.1)⟩
                            have n2_ : Aside0 (((((w72.setCell ⟨gb144, 0, none⟩ (.int .i64 (wrap64 ((wrap64 ((wrap64 (4 + t142)) + t143)) + ((rd_T93 x8_4 (ji36)).f0))))).setCell ⟨gb144, 1, none⟩ (.int .i64 (wrap64 (1 + ((rd_T93 x8_4 (ji36)).f1))))).setCell ⟨gb144, 2, none⟩ (.int .i64 x13_4)).setCell ⟨gb144, 3, none⟩ (.int .i64 (rd y133 x48_3))).heap[gb141]? = some (.cells #[.int .i64 ((rd_T93 x8_4 (ji36)).f0), .int .i64 ((rd_T93 x8_4 (ji36)).f1), .int .i64 ((rd_T93 x8_4 (ji36)).f2), .int .i64 ((rd_T93 x8_4 (ji36)).f3)] 93 (0, 0))) := ⟨by (with_reducible repeat (first | refine blk_drewN ?_ _ | refine blk_drew ?_ | refine blk_alloc ?_ _)); refine blk_far ?_ NB141_144.out _; (with_reducible repeat (first | refine blk_drewN ?_ _ | refine blk_drew ?_ | refine blk_alloc ?_ _)); refine blk_far ?_ NB141_144.out _; (with_reducible repeat (first | refine blk_drewN ?_ _ | refine blk_drew ?_ | refine blk_alloc ?_ _)); refine blk_far ?_ NB141_144.out _; (with_reducible repeat (first | refine blk_drewN ?_ _ | refine blk_drew ?_ | refine blk_alloc ?_ _)); refine blk_far ?_ NB141_144.out _; (with_reducible repeat (first | refine blk_drewN ?_ _ | refine blk_drew ?_ | refine blk_alloc ?_ _)); exact BK141.out⟩
                            have n3_ : Aside0 (((((w72.setCell ⟨gb144, 0, none⟩ (.int .i64 (wrap64 ((wrap64 ((wrap64 (4 + t142)) + t143)) + ((rd_T93 x8_4 (ji36)).f0))))).setCell ⟨gb144, 1, none⟩ (.int .i64 (wrap64 (1 + ((rd_T93 x8_4 (ji36)).f1))))).setCell ⟨gb144, 2, none⟩ (.int .i64 x13_4)).setCell ⟨gb144, 3, none⟩ (.int .i64 (rd y133 x48_3))).heap[gb144]? = some (.cells #[.int .i64 (wrap64 ((wrap64 ((wrap64 (4 + t142)) + t143)) + ((rd_T93 x8_4 (ji36)).f0))), .int .i64 (wrap64 (1 + ((rd_T93 x8_4 (ji36)).f1))), .int .i64 x13_4, .int .i64 (rd y133 x48_3)] 93 (0, 0))) := ⟨by (with_reducible repeat (first | refine blk_drewN ?_ _ | refine blk_drew ?_ | refine blk_alloc ?_ _)); refine blk_put (cs := #[.int .i64 (wrap64 ((wrap64 ((wrap64 (4 + t142)) + t143)) + ((rd_T93 x8_4 (ji36)).f0))), .int .i64 (wrap64 (1 + ((rd_T93 x8_4 (ji36)).f1))), .int .i64 x13_4, .int .i64 0]) ?_ 3 _ rfl; (with_reducible repeat (first | refine blk_drewN ?_ _ | refine blk_drew ?_ | refine blk_alloc ?_ _)); refine blk_put (cs := #[.int .i64 (wrap64 ((wrap64 ((wrap64 (4 + t142)) + t143)) + ((rd_T93 x8_4 (ji36)).f0))), .int .i64 (wrap64 (1 + ((rd_T93 x8_4 (ji36)).f1))), .int .i64 0, .int .i64 0]) ?_ 2 _ rfl; (with_reducible repeat (first | refine blk_drewN ?_ _ | refine blk_drew ?_ | refine blk_alloc ?_ _)); refine blk_put (cs := #[.int .i64 (wrap64 ((wrap64 ((wrap64 (4 + t142)) + t143)) + ((rd_T93 x8_4 (ji36)).f0))), .int .i64 0, .int .i64 0, .int .i64 0]) ?_ 1 _ rfl; (with_reducible repeat (first | refine blk_drewN ?_ _ | refine blk_drew ?_ | refine blk_alloc ?_ _)); refine blk_put (cs := #[.int .i64 0, .int .i64 0, .int .i64 0, .int .i64 0]) ?_ 0 _ rfl; (with_reducible repeat (first | refine blk_drewN ?_ _ | refine blk_drew ?_ | refine blk_alloc ?_ _)); exact BK144.out⟩
                            have n4_ : Aside0 (Below w.heap.size w ((((w72.setCell ⟨gb144, 0, none⟩ (.int .i64 (wrap64 ((wrap64 ((wrap64 (4 + t142)) + t143)) + ((rd_T93 x8_4 (ji36)).f0))))).setCell ⟨gb144, 1, none⟩ (.int .i64 (wrap64 (1 + ((rd_T93 x8_4 (ji36)).f1))))).setCell ⟨gb144, 2, none⟩ (.int .i64 x13_4)).setCell ⟨gb144, 3, none⟩ (.int .i64 (rd y133 x48_3)))) := ⟨by repeat (first | (with_reducible first | exact HB.out | apply below_alloc | apply pw_below_drewN | apply below_drew1 | refine below_set ?_ GE141.out | refine below_set ?_ GE144.out) | exact HB.out)⟩
                            (try clear HO_8)
                            (try clear HO_46)
                            (try clear BK141)
                            (try clear BK144)
                            (try clear HB)
                            generalize ((((w72.setCell ⟨gb144, 0, none⟩ (.int .i64 (wrap64 ((wrap64 ((wrap64 (4 + t142)) + t143)) + ((rd_T93 x8_4 (ji36)).f0))))).setCell ⟨gb144, 1, none⟩ (.int .i64 (wrap64 (1 + ((rd_T93 x8_4 (ji36)).f1))))).setCell ⟨gb144, 2, none⟩ (.int .i64 x13_4)).setCell ⟨gb144, 3, none⟩ (.int .i64 (rd y133 x48_3))) = w77 at n0_ n1_ n2_ n3_ n4_ ⊢
                            have HO_8 := n0_
                            have HO_46 := n1_
                            have BK141 := n2_
                            have BK144 := n3_
                            have HB := n4_
                            clear n0_ n1_ n2_ n3_ n4_
                            have n0_ := Aside0.mk (Kd.R_drew HO_8.out)
                            have n1_ := Aside0.mk (Kd.R_drew HO_46.out)
                            have n2_ := Aside0.mk (blk_drew BK141.out)
                            have n3_ := Aside0.mk (blk_drew BK144.out)
                            have n4_ := Aside0.mk (below_drew1 HB.out)
                            clear HO_8
                            clear HO_46
                            clear BK141
                            clear BK144
                            clear HB
                            have HO_8 := n0_
                            have HO_46 := n1_
                            have BK141 := n2_
                            have BK144 := n3_
                            have HB := n4_
                            clear n0_ n1_ n2_ n3_ n4_
                            have p145 : 0 ≤ (x9_2 : Int) := of_decide_eq_true (by first | (with_reducible assumption) | assumption)
                            have q145 : x9_2 < (x8_4.length : Int) := of_decide_eq_true (by first | (with_reducible assumption) | assumption)
                            obtain ⟨ad145, e145, hx145_0, hx145_1, hx145_2, hx145_3⟩ := at_T93 (Kd.R_reads' HO_8.out).2.2 x9_2 p145 q145
                            obtain rfl : (⟨go15, 0, none⟩ : Addr) = ad145 := (by injection e145)
                            (first | simp only [add_plain] at hx145_0 | simp only [add_at] at hx145_0 | simp only [Addr.add, Nat.zero_add] at hx145_0 | skip)
                            (first | simp only [add_plain] at hx145_1 | simp only [add_at] at hx145_1 | simp only [Addr.add, Nat.zero_add] at hx145_1 | skip)
                            (first | simp only [add_plain] at hx145_2 | simp only [add_at] at hx145_2 | simp only [Addr.add, Nat.zero_add] at hx145_2 | skip)
                            (first | simp only [add_plain] at hx145_3 | simp only [add_at] at hx145_3 | simp only [Addr.add, Nat.zero_add] at hx145_3 | skip)
                            replace p145 := eq_true p145
                            replace q145 := eq_true q145
                            refine start_ (n := 6) (S := fun w' => w'.cell? ⟨gb144, 0, none⟩ = some (.int .i64 (wrap64 ((wrap64 ((wrap64 (4 + t142)) + t143)) + ((rd_T93 x8_4 (ji36)).f0)))) ∧ w'.cell? ⟨gb144, 1, none⟩ = some (.int .i64 (wrap64 (1 + ((rd_T93 x8_4 (ji36)).f1)))) ∧ w'.cell? ⟨gb144, 2, none⟩ = some (.int .i64 x13_4) ∧ w'.cell? ⟨gb144, 3, none⟩ = some (.int .i64 (rd y133 x48_3)) ∧ w'.cell? ⟨go15, (x9_2).toNat * 4, none⟩ = some (.int .i64 ((rd_T93 x8_4 x9_2).f0)) ∧ w'.cell? ⟨go15, (x9_2).toNat * 4 + 1, none⟩ = some (.int .i64 ((rd_T93 x8_4 x9_2).f1)) ∧ w'.cell? ⟨go15, (x9_2).toNat * 4 + 2, none⟩ = some (.int .i64 ((rd_T93 x8_4 x9_2).f2)) ∧ w'.cell? ⟨go15, (x9_2).toNat * 4 + 3, none⟩ = some (.int .i64 ((rd_T93 x8_4 x9_2).f3))) (ds := []) #[false, false, false, false, false, false] (by kernel_rfl) rfl rfl ⟨(blk_cell BK144.out 0).trans rfl, (blk_cell BK144.out 1).trans rfl, (blk_cell BK144.out 2).trans rfl, (blk_cell BK144.out 3).trans rfl, hx145_0, hx145_1, hx145_2, hx145_3⟩ (fun hHeld => ?_)
                            generalize w77.drew = w78 at HO_8 HO_46 BK141 BK144 HB hx145_0 hx145_1 hx145_2 hx145_3 hHeld ⊢
                            refine pure_ (i := 1) (N := some 101) (v := ?_) (a' := ?_) #[false, true, false, false, false, false] rfl rfl (by kernel_rfl) (fun _ _ _ h => h) (Or.inl ⟨by rfl, ?_⟩) ?_ ?_
                            rotate_left
                            ·intro w'
                             go_simp
                             with_reducible rfl
                            rotate_left
                            ·simp only [Act.put, List.setIfInBounds_toArray, List.set_cons_zero, List.set_cons_succ, i64_w, i32_w]
                             rfl
                            refine pure_ (i := 2) (N := some 102) (v := ?_) (a' := ?_) #[false, true, true, false, false, false] rfl rfl (by kernel_rfl) (fun _ _ _ h => h) (Or.inl ⟨by rfl, ?_⟩) ?_ ?_
                            rotate_left
                            ·intro w'
                             go_simp
                             with_reducible rfl
                            rotate_left
                            ·simp only [Act.put, List.setIfInBounds_toArray, List.set_cons_zero, List.set_cons_succ, i64_w, i32_w]
                             rfl
                            refine pure_ (i := 3) (N := some 103) (v := ?_) (a' := ?_) #[false, true, true, true, false, false] rfl rfl (by kernel_rfl) (fun _ _ _ h => h) (Or.inl ⟨by rfl, ?_⟩) ?_ ?_
                            rotate_left
                            ·intro w'
                             go_simp
                             with_reducible rfl
                            rotate_left
                            ·simp only [Act.put, List.setIfInBounds_toArray, List.set_cons_zero, List.set_cons_succ, i64_w, i32_w]
                             rfl
                            refine take_ (i := 0) (N := some 100) (v := ?_) (a' := ?_) #[true, true, true, true, false, false] rfl rfl (by kernel_rfl) (fun _ _ _ h => h) (Or.inl ⟨by rfl, ?_⟩) hHeld ?_ ?_
                            rotate_left
                            ·rintro w' ⟨s0, s1, s2, s3, s4, s5, s6, s7⟩
                             go_simp
                             with_reducible rfl
                            rotate_left
                            ·simp only [Act.put, List.setIfInBounds_toArray, List.set_cons_zero, List.set_cons_succ, i64_w, i32_w]
                             rfl
                            refine take_ (i := 4) (N := some 104) (v := ?_) (a' := ?_) #[true, true, true, true, true, false] rfl rfl (by kernel_rfl) (fun _ _ _ h => h) (Or.inl ⟨by rfl, ?_⟩) hHeld ?_ ?_
                            rotate_left
                            ·rintro w' ⟨s0, s1, s2, s3, s4, s5, s6, s7⟩
                             go_simp
                             with_reducible rfl
                            rotate_left
                            ·simp only [Act.put, List.setIfInBounds_toArray, List.set_cons_zero, List.set_cons_succ, i64_w, i32_w]
                             rfl
                            refine one_ (i := 5) (N := some 105) #[true, true, true, true, true, true] rfl rfl (by kernel_rfl) (by decide) (fun K hK => ?_)
                            refine goes_ Try.func66 (by kernel_rfl) rfl #[.agg #[.int .i64 (wrap64 ((wrap64 ((wrap64 (4 + t142)) + t143)) + ((rd_T93 x8_4 (ji36)).f0))), .int .i64 (wrap64 (1 + ((rd_T93 x8_4 (ji36)).f1))), .int .i64 x13_4, .int .i64 (rd y133 x48_3)], .agg #[.int .i64 ((rd_T93 x8_4 x9_2).f0), .int .i64 ((rd_T93 x8_4 x9_2).f1), .int .i64 ((rd_T93 x8_4 x9_2).f2), .int .i64 ((rd_T93 x8_4 x9_2).f3)]] (by rfl) rfl rfl (by (try simp only [List.map_toArray, List.map_cons, List.map_nil]); first | done | (simp only [hji36]; rfl) | rfl | (simp only [List.length_drop, List.length_take]; rfl)) ?_
                            with_reducible refine (modes_plan_better.calls (wrap64 ((wrap64 ((wrap64 (4 + t142)) + t143)) + ((rd_T93 x8_4 (ji36)).f0))) (wrap64 (1 + ((rd_T93 x8_4 (ji36)).f1))) x13_4 (rd y133 x48_3) ((rd_T93 x8_4 x9_2).f0) ((rd_T93 x8_4 x9_2).f1) ((rd_T93 x8_4 x9_2).f2) ((rd_T93 x8_4 x9_2).f3) false _ A43.out).mono ?_
                            rintro e w79 ⟨rfl, hb⟩
                            have HS4_ := (hb.cell (World.block_lt_of_cell? _ _ (hHeld.2.2.2.2.1))).trans (hHeld.2.2.2.2.1)
                            have HS5_ := (hb.cell (World.block_lt_of_cell? _ _ (hHeld.2.2.2.2.2.1))).trans (hHeld.2.2.2.2.2.1)
                            have HS6_ := (hb.cell (World.block_lt_of_cell? _ _ (hHeld.2.2.2.2.2.2.1))).trans (hHeld.2.2.2.2.2.2.1)
                            have HS7_ := (hb.cell (World.block_lt_of_cell? _ _ (hHeld.2.2.2.2.2.2.2))).trans (hHeld.2.2.2.2.2.2.2)
                            refine ⟨_, rfl, ?_⟩
                            have n0_ := Aside0.mk (Kd.R_below (by (with_reducible repeat (first | apply Kd.R_alloc | apply Kd.R_drewN | apply Kd.R_drew)); exact HO_8.out) hb)
                            have n1_ := Aside0.mk (Kd.R_below (by (with_reducible repeat (first | apply Kd.R_alloc | apply Kd.R_drewN | apply Kd.R_drew)); exact HO_46.out) hb)
                            have n2_ := Aside0.mk (blk_below (g := gb141) (o := .cells #[.int .i64 ((rd_T93 x8_4 (ji36)).f0), .int .i64 ((rd_T93 x8_4 (ji36)).f1), .int .i64 ((rd_T93 x8_4 (ji36)).f2), .int .i64 ((rd_T93 x8_4 (ji36)).f3)] 93 (0, 0)) (by (with_reducible repeat (first | refine blk_drewN ?_ _ | refine blk_drew ?_ | refine blk_alloc ?_ _)); exact BK141.out) hb)
                            have n3_ := Aside0.mk (blk_below (g := gb144) (o := .cells #[.int .i64 (wrap64 ((wrap64 ((wrap64 (4 + t142)) + t143)) + ((rd_T93 x8_4 (ji36)).f0))), .int .i64 (wrap64 (1 + ((rd_T93 x8_4 (ji36)).f1))), .int .i64 x13_4, .int .i64 (rd y133 x48_3)] 93 (0, 0)) (by (with_reducible repeat (first | refine blk_drewN ?_ _ | refine blk_drew ?_ | refine blk_alloc ?_ _)); exact BK144.out) hb)
                            have n4_ := Aside0.mk (below_step (by repeat (first | (with_reducible first | exact HB.out | apply below_alloc | apply pw_below_drewN | apply below_drew1 | refine below_set ?_ GE141.out | refine below_set ?_ GE144.out) | exact HB.out)) hb)
                            clear HO_8
                            clear HO_46
                            clear BK141
                            clear BK144
                            clear HB
                            have HO_8 := n0_
                            have HO_46 := n1_
                            have BK141 := n2_
                            have BK144 := n3_
                            have HB := n4_
                            clear n0_ n1_ n2_ n3_ n4_
                            (try clear hb)
                            (try clear hb2)
                            (try clear hk)
                            (try clear hi)
                            refine hK.out _ _ ⟨(blk_cell BK144.out 0).trans rfl, (blk_cell BK144.out 1).trans rfl, (blk_cell BK144.out 2).trans rfl, (blk_cell BK144.out 3).trans rfl, HS4_, HS5_, HS6_, HS7_⟩ (fun hHeld => ?_)
                            clear hK K
                            refine norm_ (a' := ?_) ?_ ?_
                            rotate_left
                            ·show Act.put _ (some 105) _ = _
                             simp only [Act.put, List.setIfInBounds_toArray, List.set_cons_zero, List.set_cons_succ, i64_w, i32_w]
                             rfl
                            refine done_ (by kernel_rfl) ?_
                            try go_wp2
                            (try simp only [← hl8_4])
                            go_roundg kj28
                            case measure => have := HJ2.out; have := HK2.out; have := HK3.out; have := HK4.out; have := HJ28.out; omega
                            case rel => exact ⟨(x8_4), (wrap64 (x13_4 + 1)), (by first | rfl | (simp; done) | (simp [*]; done) | (simp [i64_w]; done)), H', ⟨by have := HJ2.out; have := HK2.out; have := HK3.out; have := HK4.out; have := HJ28.out; omega⟩, ⟨by (try simp only [hl8_3]); (try simp only [hl8_4]); (with_reducible repeat (first | apply Kd.R_alloc | apply Kd.R_drewN | apply Kd.R_drew)); exact Kd.R_mono HO_8.out (fun _ hk => hk.1)⟩, ⟨by (try simp only [hl8_3]); (try simp only [hl8_4]); (with_reducible repeat (first | apply Kd.R_alloc | apply Kd.R_drewN | apply Kd.R_drew)); exact HO_46.out⟩, ⟨by repeat (first | (with_reducible first | exact HB.out | apply below_alloc | apply pw_below_drewN | apply below_drew1 | refine below_set ?_ GE141.out | refine below_set ?_ GE144.out) | exact HB.out)⟩⟩
                          ·rw [if_neg c42] at H
                           exact absurd H (by simp)
                         ·rw [if_neg c41] at H
                          exact absurd H (by simp)
                        ·rw [if_neg c38] at H
                         exact absurd H (by simp)
                       ·rw [if_neg c37] at H
                        exact absurd H (by simp)
                      ·replace c35 := Bool.eq_false_iff.mpr c35
                       subst c35
                       have H1 : (modes_Best.l1 kj28 l0 a1 (l0.length : Int) x8_4 x9_2 y133 (y133.length : Int) (wrap64 (x48_3 + 1))) = some (r1, r2, r3) := by rw [if_neg (show ¬ (false = true) by decide)] at H; exact H
                       clear H
                       have H := H1
                       clear H1
                       have H' := Aside0.mk H
                       clear H
                       go_wp2
                       (try simp only [← hl8_3, ← hl8_4])
                       go_roundg kj28
                       case measure => have := HJ2.out; have := HK2.out; have := HK3.out; have := HK4.out; have := HJ28.out; omega
                       case rel => exact ⟨(x8_4), (wrap64 (x48_3 + 1)), (by first | rfl | (simp; done) | (simp [*]; done) | (simp [i64_w]; done)), H', ⟨by have := HJ2.out; have := HK2.out; have := HK3.out; have := HK4.out; have := HJ28.out; omega⟩, ⟨by (try simp only [hl8_3]); (try simp only [hl8_4]); (with_reducible repeat (first | apply Kd.R_alloc | apply Kd.R_drewN | apply Kd.R_drew)); exact HO_8.out⟩, ⟨by (try simp only [hl8_3]); (try simp only [hl8_4]); (with_reducible repeat (first | apply Kd.R_alloc | apply Kd.R_drewN | apply Kd.R_drew)); exact HO_46.out⟩, ⟨by repeat (first | (with_reducible first | exact HB.out | apply below_alloc | apply pw_below_drewN | apply below_drew1) | exact HB.out)⟩⟩
                 ·rw [if_neg c25] at H
                  exact absurd H (by simp)
                ·rw [if_neg c23] at H
                 exact absurd H (by simp)
               ·rw [if_neg c22] at H
                exact absurd H (by simp)
              ·rw [if_neg c21] at H
               have c21b0 : decide (x48_3 < (y133.length : Int)) = false := decide_eq_false c21
               (try (have c21h0 := c21b0; simp only [hl8_3] at c21h0))
               clear c21
               have H' := Aside0.mk H
               clear H
               go_wp2
               (try simp only [← hl8_3])
               go_roundg k3
               case measure => have := HJ2.out; have := HK2.out; have := HK3.out; omega
               case rel => exact ⟨(x8_3), (wrap64 (x9_2 - 1)), (by first | rfl | (simp; done) | (simp [*]; done) | (simp [i64_w]; done)), H', ⟨by have := HJ2.out; have := HK2.out; have := HK3.out; omega⟩, ⟨by (try simp only [hl8_3]); (with_reducible repeat (first | apply Kd.R_alloc | apply Kd.R_drewN | apply Kd.R_drew)); exact HO_8.out⟩, ⟨by repeat (first | (with_reducible first | exact HB.out | apply below_alloc | apply pw_below_drewN | apply below_drew1) | exact HB.out)⟩⟩
           ·rw [if_neg c14] at H
            exact absurd H (by simp)
          ·rw [if_neg c13] at H
           exact absurd H (by simp)
         ·rw [if_neg c12] at H
          have c12b0 : decide (0 ≤ x9_2) = false := decide_eq_false c12
          clear c12
          replace H := Option.bind_eq_some_iff.mp H
          obtain ⟨t148, A800, H⟩ := H
          replace H : (modes_Best.l3 k2 (l0.length : Int) x8_2 t148 ([] : List (S33)) 0) = some (r1, r2, r3) := H
          have A80 := Aside0.mk A800
          clear A800
          have H' := Aside0.mk H
          clear H
          go_wp2_with (first | ((with_reducible refine gate_callee (f := 67) rfl ?_); refine goesL_ (some 112) rfl rfl Try.func67 (by kernel_rfl) rfl #[.slice A0 l0.length c0] rfl (by (try simp only [List.map_toArray, List.map_cons, List.map_nil]); first | done | rfl | (simp only [List.length_drop, List.length_take]; rfl)) ?_; (with_reducible refine (slices_Clone_byte_byte.calls _ _ l0 t148 _ ?side1 ?side2 A80.out).mono ?_); (case side1 => repeat (first | exact (Kd.C_below HR0.out HB.out) | (with_reducible refine Kd.C_alloc ?_ _) | (with_reducible refine Kd.C_drewN ?_ _) | (with_reducible refine Kd.C_drew ?_))); (case side2 => exact HC0.out); rintro e w81 ⟨v149, rfl, ho0, hb⟩; refine ⟨_, rfl, ?_⟩; have n0_ := Aside0.mk (Kd.R_below (by (with_reducible repeat (first | apply Kd.R_alloc | apply Kd.R_drewN | apply Kd.R_drew)); exact HO_8.out) hb); have n1_ := Aside0.mk (Kd.R_lower (Kd.R_newM (M := fun k_ => (w.heap.size ≤ k_)) ho0 (below_size (by repeat (first | (with_reducible first | exact HB.out | apply below_alloc | apply pw_below_drewN | apply below_drew1) | exact HB.out))) (fun k_ h_ => h_)) (below_size (by repeat (first | (with_reducible first | exact HB.out | apply below_alloc | apply pw_below_drewN | apply below_drew1) | exact HB.out)))); have n2_ := Aside0.mk (below_step (by repeat (first | (with_reducible first | exact HB.out | apply below_alloc | apply pw_below_drewN | apply below_drew1) | exact HB.out)) hb); clear HO_8; clear HB; have HO_8 := n0_; have HO150 := n1_; have HB := n2_; clear n0_ n1_ n2_; (try clear hb); (try clear hb2); (try clear hk); (try clear hi); (try clear ho0)))
          go_loopg [17, 18] k2 (fun kq v17 v18 w' => ∃ (x17_3 : List (S33)) (x18_3 : Int), v18 = .int .i64 x18_3 ∧ Aside0 (modes_Best.l3 kq (l0.length : Int) x8_2 t148 x17_3 x18_3 = some (r1, r2, r3)) ∧ Aside0 (kq ≤ k2) ∧ Aside0 (Kd.R k93 93 w' w.heap.size (fun k_ => (w.heap.size ≤ k_)) v130 x8_2) ∧ Aside0 (Kd.R (Kd.int .u8) 5 w' w.heap.size (fun k_ => (w.heap.size ≤ k_)) v149 t148) ∧ Aside0 (Kd.N k33 33 w' w.heap.size (fun k_ => (w.heap.size ≤ k_) ∧ some k_ ≠ (v130 : Value).ownBlock) v17 x17_3) ∧ Aside0 (Below w.heap.size w w'))
          case atStart => exact ⟨(([] : List (S33))), (0), (by first | rfl | (simp; done) | (simp [*]; done) | (simp [i64_w]; done)), H', ⟨Nat.le_refl _⟩, ⟨by (with_reducible repeat (first | apply Kd.R_alloc | apply Kd.R_drewN | apply Kd.R_drew)); exact HO_8.out⟩, ⟨by (with_reducible repeat (first | apply Kd.R_alloc | apply Kd.R_drewN | apply Kd.R_drew)); exact Kd.R_mono HO150.out (fun _ hk => hk.1)⟩, ⟨by first | exact Kd.S_nil _ _ _ _ _ | exact Kd.N_nil _ _ _ _ _ | exact Kd.V_nil _ _ _ _ _ | exact Kd.Q_nil _ _ _ _ _ | exact Kd.R_nil _ _ _ _ _⟩, ⟨by repeat (first | (with_reducible first | exact HB.out | apply below_alloc | apply pw_below_drewN | apply below_drew1) | exact HB.out)⟩⟩
          case round =>
           clear H'
           try clear c1
           try clear p1
           try clear q1
           try clear hx1
           try clear c2
           try clear p2
           try clear c3
           try clear c4
           try clear c5
           try clear c6
           try clear p6
           try clear c12
           try clear c12b0
           try clear c13
           try clear c14
           try clear p14
           try clear q14
           try clear hx14
           try clear c21
           try clear c21b0
           try clear c22
           try clear c23
           try clear c25
           try clear c35
           try clear c37
           try clear c38
           try clear c41
           try clear c42
           try clear c51
           try clear c55
           try clear p64
           try clear c66
           try clear c67
           try clear hx145_0
           try clear hx145_1
           try clear hx145_2
           try clear hx145_3
           try clear p145
           try clear q145
           obtain ⟨x17_3, x18_3, rfl, HA, HK3, HO_8, HO_16, HO_17, HB⟩ := hrel
           cases gk with
           | zero => exact absurd HA.out (by simp [modes_Best.l3])
           | succ k3 =>
            have H := HA.out
            clear HA
            simp only [modes_Best.l3] at H
            by_cases c82 : x18_3 < (l0.length : Int)
            ·rw [if_pos c82] at H
             have c82b0 : decide (x18_3 < (l0.length : Int)) = true := decide_eq_true c82
             clear c82
             by_cases c83 : 0 ≤ x18_3
             ·rw [if_pos c83] at H
              have c83b0 : decide (0 ≤ x18_3) = true := decide_eq_true c83
              clear c83
              by_cases c84 : x18_3 < (x8_2.length : Int)
              ·rw [if_pos c84] at H
               have c84b0 : decide (x18_3 < (x8_2.length : Int)) = true := decide_eq_true c84
               clear c84
               have c85b0 := eq_true (of_decide_eq_true (by first | (with_reducible assumption) | assumption) : 0 ≤ x18_3)
               by_cases c86 : x18_3 ≤ (wrap64 (x18_3 + ((rd_T93 x8_2 x18_3).f2)))
               ·rw [if_pos c86] at H
                have c86b0 := eq_true c86
                have c86b1 : decide (x18_3 ≤ (wrap64 (x18_3 + ((rd_T93 x8_2 x18_3).f2)))) = true := decide_eq_true c86
                by_cases c87 : (wrap64 (x18_3 + ((rd_T93 x8_2 x18_3).f2))) ≤ (t148.length : Int)
                ·rw [if_pos c87] at H
                 have c87b0 := eq_true c87
                 have c87b1 : decide ((wrap64 (x18_3 + ((rd_T93 x8_2 x18_3).f2))) ≤ (t148.length : Int)) = true := decide_eq_true c87
                 obtain ⟨y153, hy153⟩ : ∃ y_ : List Int, y_ = ((t148.take ((wrap64 (x18_3 + ((rd_T93 x8_2 x18_3).f2))) : Int).toNat).drop (x18_3 : Int).toNat) := ⟨_, rfl⟩
                 replace H : (if x17_3.length < 4398046511104 then (modes_Best.l3 k3 (l0.length : Int) x8_2 t148 (x17_3 ++ [(⟨(rd_T93 x8_2 x18_3).f3, y153⟩ : S33)]) (wrap64 (x18_3 + ((rd_T93 x8_2 x18_3).f2)))) else (none)) = some (r1, r2, r3) := by first | (rw [hy153]; with_reducible exact H) | (have H2_ := (Option.bind_some _ _).symm.trans H; rw [hy153]; with_reducible exact H2_) | (have H2_ := (Option.bind_some _ _).symm.trans H; with_reducible exact H2_) | with_reducible exact H | (rw [hy153]; exact H) | exact H
                 have Ny153 := Aside0.mk hy153
                 clear hy153
                 by_cases c88 : x17_3.length < 4398046511104
                 ·rw [if_pos c88] at H
                  have LMc88 := Aside0.mk c88
                  clear c88
                  obtain ⟨y158, hy158⟩ : ∃ y_ : List (S33), y_ = (x17_3 ++ [(⟨(rd_T93 x8_2 x18_3).f3, y153⟩ : S33)]) := ⟨_, rfl⟩
                  replace H : (modes_Best.l3 k3 (l0.length : Int) x8_2 t148 y158 (wrap64 (x18_3 + ((rd_T93 x8_2 x18_3).f2)))) = some (r1, r2, r3) := by first | (rw [hy158]; with_reducible exact H) | (have H2_ := (Option.bind_some _ _).symm.trans H; rw [hy158]; with_reducible exact H2_) | (have H2_ := (Option.bind_some _ _).symm.trans H; with_reducible exact H2_) | with_reducible exact H | (rw [hy158]; exact H) | exact H
                  have Ny158 := Aside0.mk hy158
                  clear hy158
                  have H' := Aside0.mk H
                  clear H
                  obtain ⟨Ao89, co89, eo89⟩ := Kd.R_slice HO_8.out
                  subst eo89
                  have p151 : 0 ≤ (x18_3 : Int) := of_decide_eq_true (by first | (with_reducible assumption) | assumption)
                  have q151 : x18_3 < (x8_2.length : Int) := of_decide_eq_true (by first | (with_reducible assumption) | assumption)
                  obtain ⟨ad151, e151, hx151_0, hx151_1, hx151_2, hx151_3⟩ := at_T93 (Kd.R_reads' HO_8.out).2.2 x18_3 p151 q151
                  cases e151
                  replace p151 := eq_true p151
                  replace q151 := eq_true q151
                  try go_wp2
                  have n0_ := Aside0.mk (Kd.R_drew HO_8.out)
                  have n1_ := Aside0.mk (Kd.R_drew HO_16.out)
                  have n2_ := Aside0.mk (Kd.N_drew HO_17.out)
                  have n3_ := Aside0.mk (below_drew1 HB.out)
                  clear HO_8
                  clear HO_16
                  clear HO_17
                  clear HB
                  have HO_8 := n0_
                  have HO_16 := n1_
                  have HO_17 := n2_
                  have HB := n3_
                  clear n0_ n1_ n2_ n3_
                  have p152 : 0 ≤ (x18_3 : Int) := of_decide_eq_true (by first | (with_reducible assumption) | assumption)
                  have q152 : x18_3 < (x8_2.length : Int) := of_decide_eq_true (by first | (with_reducible assumption) | assumption)
                  obtain ⟨ad152, e152, hx152_0, hx152_1, hx152_2, hx152_3⟩ := at_T93 (Kd.R_reads' HO_8.out).2.2 x18_3 p152 q152
                  obtain rfl : ad151 = ad152 := (by injection e152)
                  replace p152 := eq_true p152
                  replace q152 := eq_true q152
                  obtain ⟨Ao92, co92, eo92⟩ := Kd.R_slice HO_16.out
                  (first | subst eo92 | (injection eo92 with f1_ f2_ f3_; have f4_ := f1_.symm; have f5_ := f3_.symm; clear f1_ f2_ f3_; subst f4_; subst f5_))
                  have q91 : ((wrap64 (x18_3 + ((rd_T93 x8_2 x18_3).f2))) : Int) ≤ ((t148.length : Int) : Int) := of_decide_eq_true (by first | (with_reducible assumption) | assumption)
                  obtain ⟨i091, hi091, _, hsz91, _⟩ := info_parts info5
                  have hroom91 : t148.length ≤ co92 := (Kd.R_reads' HO_16.out).2.1
                  have hC91 : Kd.F (Kd.int .u8) _ _ Ao92 t148.length t148 := (Kd.V_at (base := w.heap.size) (Kd.R_V (Kd.R_apart' (Kd.R_apart' (HO_16.out) (Kd.R_typed HO_8.out) (by decide)) (Kd.N_typed HO_17.out) (by decide)))).2.2
                  have ql91 : (x18_3 : Int) ≤ ((wrap64 (x18_3 + ((rd_T93 x8_2 x18_3).f2))) : Int) := of_decide_eq_true (by first | (with_reducible assumption) | assumption)
                  have q091 : (0 : Int) ≤ (x18_3 : Int) := of_decide_eq_true (by first | (with_reducible assumption) | assumption)
                  have hcut91 := cut_mid3 (P := Try.prog) 22 5 .i64 .i64 Try.underlying22 hi091 1 hsz91 Ao92 t148.length co92 x18_3 (wrap64 (x18_3 + ((rd_T93 x8_2 x18_3).f2))) q091 ql91 q91 hroom91
                  have hr91 := Kd.F_mid3 (lo := (x18_3 : Int).toNat) (hi := ((wrap64 (x18_3 + ((rd_T93 x8_2 x18_3).f2))) : Int).toNat) (c := co92) hC91 (by omega) (by omega) hroom91
                  obtain ⟨A91, hA91⟩ : ∃ A1, A1 = (if ((wrap64 (x18_3 + ((rd_T93 x8_2 x18_3).f2))) : Int).toNat = (x18_3 : Int).toNat then Ao92 else (Ao92 : Option Addr).map (·.add ((x18_3 : Int).toNat * 1))) := ⟨_, rfl⟩
                  have hy91 : y153.length = ((wrap64 (x18_3 + ((rd_T93 x8_2 x18_3).f2))) : Int).toNat - (x18_3 : Int).toNat := (by rw [Ny153.out, List.length_drop, List.length_take] <;> omega)
                  rw [show ((t148).take ((wrap64 (x18_3 + ((rd_T93 x8_2 x18_3).f2))) : Int).toNat).drop (x18_3 : Int).toNat = y153 from Ny153.out.symm] at hr91
                  replace hr91 : Kd.F (Kd.int .u8) _ _ A91 y153.length y153 := (by rw [hA91]; exact hr91)
                  rw [← hy91, ← hA91] at hcut91
                  have HO157 := Aside0.mk (show Kd.V (Kd.int .u8) 5 _ w.heap.size _ (.slice A91 y153.length y153.length) y153 from Kd.V_mk (Nat.le_refl _) hr91)
                  have HC157 := Aside0.mk (Nat.le_refl y153.length)
                  clear hr91 hC91 hroom91 hi091 hsz91
                  have KY91 := Aside0.mk hy91
                  have KA91 := Aside0.mk hA91
                  clear hy91 hA91
                  replace q91 := eq_true q91
                  refine start_ (n := 15) (S := fun w' => w'.cell? (ad151.add ((x18_3).toNat * 4)) = some (.int .i64 ((rd_T93 x8_2 x18_3).f0)) ∧ w'.cell? ⟨(ad151.add ((x18_3).toNat * 4)).block, (ad151.add ((x18_3).toNat * 4)).off + 1, none⟩ = some (.int .i64 ((rd_T93 x8_2 x18_3).f1)) ∧ w'.cell? ⟨(ad151.add ((x18_3).toNat * 4)).block, (ad151.add ((x18_3).toNat * 4)).off + 2, none⟩ = some (.int .i64 ((rd_T93 x8_2 x18_3).f2)) ∧ w'.cell? ⟨(ad151.add ((x18_3).toNat * 4)).block, (ad151.add ((x18_3).toNat * 4)).off + 3, none⟩ = some (.int .i64 ((rd_T93 x8_2 x18_3).f3))) (ds := [12, 13]) #[false, false, false, false, false, false, false, false, false, false, false, false, false, false, false] (by kernel_rfl) rfl rfl ⟨hx152_0, hx152_1, hx152_2, hx152_3⟩ (fun hHeld => ?_); refine with_tabW modes_Best.tab29 modes_Best.bits29 (fun HT_ HW_ => ?_)
                  generalize wr.drew = w90 at HO_8 HO_16 HO_17 HB HO157 hx152_0 hx152_1 hx152_2 hx152_3 hHeld ⊢
                  refine pure_ (i := 0) (N := some 130) (v := ?_) (a' := ?_) #[true, false, false, false, false, false, false, false, false, false, false, false, false, false, false] rfl rfl (any_of HT_.out (by kernel_rfl)) (fun _ _ _ h => h) (Or.inl ⟨by rfl, ?_⟩) ?_ ?_
                  rotate_left
                  ·intro w'
                   go_simp
                   with_reducible rfl
                  rotate_left
                  ·simp only [Act.put, List.setIfInBounds_toArray, List.set_cons_zero, List.set_cons_succ, i64_w, i32_w]
                   rfl
                  refine pure_ (i := 1) (N := some 131) (v := ?_) (a' := ?_) #[true, true, false, false, false, false, false, false, false, false, false, false, false, false, false] rfl rfl (any_of HT_.out (by kernel_rfl)) (fun _ _ _ h => h) (Or.inl ⟨by rfl, ?_⟩) ?_ ?_
                  rotate_left
                  ·intro w'
                   go_simp
                   with_reducible rfl
                  rotate_left
                  ·simp only [Act.put, List.setIfInBounds_toArray, List.set_cons_zero, List.set_cons_succ, i64_w, i32_w]
                   rfl
                  refine pure_ (i := 2) (N := some 132) (v := ?_) (a' := ?_) #[true, true, true, false, false, false, false, false, false, false, false, false, false, false, false] rfl rfl (any_of HT_.out (by kernel_rfl)) (fun _ _ _ h => h) (Or.inl ⟨by rfl, ?_⟩) ?_ ?_
                  rotate_left
                  ·intro w'
                   go_simp
                   with_reducible rfl
                  rotate_left
                  ·simp only [Act.put, List.setIfInBounds_toArray, List.set_cons_zero, List.set_cons_succ, i64_w, i32_w]
                   rfl
                  refine pure_ (i := 3) (N := some 133) (v := ?_) (a' := ?_) #[true, true, true, true, false, false, false, false, false, false, false, false, false, false, false] rfl rfl (any_of HT_.out (by kernel_rfl)) (fun _ _ _ h => h) (Or.inl ⟨by rfl, ?_⟩) ?_ ?_
                  rotate_left
                  ·intro w'
                   go_simp
                   with_reducible rfl
                  rotate_left
                  ·simp only [Act.put, List.setIfInBounds_toArray, List.set_cons_zero, List.set_cons_succ, i64_w, i32_w]
                   rfl
                  refine pure_ (i := 4) (N := some 134) (v := ?_) (a' := ?_) #[true, true, true, true, true, false, false, false, false, false, false, false, false, false, false] rfl rfl (any_of HT_.out (by kernel_rfl)) (fun _ _ _ h => h) (Or.inl ⟨by rfl, ?_⟩) ?_ ?_
                  rotate_left
                  ·intro w'
                   go_simp
                   with_reducible rfl
                  rotate_left
                  ·simp only [Act.put, List.setIfInBounds_toArray, List.set_cons_zero, List.set_cons_succ, i64_w, i32_w]
                   rfl
                  refine pure_ (i := 6) (N := some 136) (v := ?_) (a' := ?_) #[true, true, true, true, true, false, true, false, false, false, false, false, false, false, false] rfl rfl (any_of HT_.out (by kernel_rfl)) (fun _ _ _ h => h) (Or.inl ⟨by rfl, ?_⟩) ?_ ?_
                  rotate_left
                  ·intro w'
                   go_simp
                   with_reducible rfl
                  rotate_left
                  ·simp only [Act.put, List.setIfInBounds_toArray, List.set_cons_zero, List.set_cons_succ, i64_w, i32_w]
                   rfl
                  refine pure_ (i := 7) (N := some 137) (v := ?_) (a' := ?_) #[true, true, true, true, true, false, true, true, false, false, false, false, false, false, false] rfl rfl (any_of HT_.out (by kernel_rfl)) (fun _ _ _ h => h) (Or.inl ⟨by rfl, ?_⟩) ?_ ?_
                  rotate_left
                  ·intro w'
                   go_simp
                   with_reducible rfl
                  rotate_left
                  ·simp only [Act.put, List.setIfInBounds_toArray, List.set_cons_zero, List.set_cons_succ, i64_w, i32_w]
                   rfl
                  refine pure_ (i := 8) (N := some 138) (v := ?_) (a' := ?_) #[true, true, true, true, true, false, true, true, true, false, false, false, false, false, false] rfl rfl (any_of HT_.out (by kernel_rfl)) (fun _ _ _ h => h) (Or.inl ⟨by rfl, ?_⟩) ?_ ?_
                  rotate_left
                  ·intro w'
                   go_simp
                   with_reducible rfl
                  rotate_left
                  ·simp only [Act.put, List.setIfInBounds_toArray, List.set_cons_zero, List.set_cons_succ, i64_w, i32_w]
                   rfl
                  refine pure_ (i := 9) (N := some 139) (v := ?_) (a' := ?_) #[true, true, true, true, true, false, true, true, true, true, false, false, false, false, false] rfl rfl (any_of HT_.out (by kernel_rfl)) (fun _ _ _ h => h) (Or.inl ⟨by rfl, ?_⟩) ?_ ?_
                  rotate_left
                  ·intro w'
                   go_simp
                   with_reducible rfl
                  rotate_left
                  ·simp only [Act.put, List.setIfInBounds_toArray, List.set_cons_zero, List.set_cons_succ, i64_w, i32_w]
                   rfl
                  refine pure_ (i := 10) (N := some 140) (v := ?_) (a' := ?_) #[true, true, true, true, true, false, true, true, true, true, true, false, false, false, false] rfl rfl (any_of HT_.out (by kernel_rfl)) (fun _ _ _ h => h) (Or.inl ⟨by rfl, ?_⟩) ?_ ?_
                  rotate_left
                  ·intro w'
                   go_simp
                   with_reducible rfl
                  rotate_left
                  ·simp only [Act.put, List.setIfInBounds_toArray, List.set_cons_zero, List.set_cons_succ, i64_w, i32_w]
                   rfl
                  refine take_ (i := 5) (N := some 135) (v := ?_) (a' := ?_) #[true, true, true, true, true, true, true, true, true, true, true, false, false, false, false] rfl rfl (take_ofW HT_.out HW_.out (by kernel_rfl)) (fun _ _ _ h => h) (Or.inl ⟨by rfl, ?_⟩) hHeld ?_ ?_
                  rotate_left
                  ·rintro w' ⟨s0, s1, s2, s3⟩
                   go_simp
                   with_reducible rfl
                  rotate_left
                  ·simp only [Act.put, List.setIfInBounds_toArray, List.set_cons_zero, List.set_cons_succ, i64_w, i32_w]
                   rfl
                  refine pure_ (i := 11) (N := some 141) (v := ?_) (a' := ?_) #[true, true, true, true, true, true, true, true, true, true, true, true, false, false, false] rfl rfl (any_of HT_.out (by kernel_rfl)) (fun _ _ _ h => h) (Or.inl ⟨by rfl, ?_⟩) ?_ ?_
                  rotate_left
                  ·intro w'
                   go_simp
                   with_reducible rfl
                  rotate_left
                  ·simp only [Act.put, List.setIfInBounds_toArray, List.set_cons_zero, List.set_cons_succ, i64_w, i32_w]
                   rfl
                  refine last_ (i := 12) (N := some 142) #[true, true, true, true, true, true, true, true, true, true, true, true, true, false, false] rfl rfl (one_of HT_.out (by kernel_rfl)) (by decide) (fun K hK => ?_)
                  refine value_ (w1 := ?_) (v := ?_) (by rfl) rfl ?_ ?_
                  rotate_left 2
                  ·go_simp
                   constructor
                   ·rfl
                   ·rfl
                  refine hK.out _ _ ?_
                  clear hK K
                  refine norm_ (a' := ?_) ?_ ?_
                  rotate_left
                  ·show Act.put _ (some 142) _ = _
                   simp only [Act.put, List.setIfInBounds_toArray, List.set_cons_zero, List.set_cons_succ, i64_w, i32_w]
                   rfl
                  refine last_ (i := 13) (N := some 143) #[true, true, true, true, true, true, true, true, true, true, true, true, true, true, false] rfl rfl (one_of HT_.out (by kernel_rfl)) (by decide) (fun K hK => ?_)
                  refine Kd.N_append_step k33 (w0 := w) w.heap.size (by rfl) (.tmp 130) (.tmp 142) 25 33 (.agg #[(.int .i64 0), (.slice none 0 0)]) 32 rfl Try.underlying25 info33 rfl (by decide) (by omega) u17 x17_3 (⟨(rd_T93 x8_2 x18_3).f3, y153⟩ : S33) [.int .i64 ((rd_T93 x8_2 x18_3).f3), .slice A91 y153.length y153.length] (fun k_ => (w.heap.size ≤ k_) ∧ some k_ ≠ (.slice (some ad151) x8_2.length co89 : Value).ownBlock) (fun k_ => ((fun k_ => (w.heap.size ≤ k_) ∧ some k_ ≠ (.slice (some ad151) x8_2.length co89 : Value).ownBlock)) k_ ∧ some k_ ≠ (u17 : Value).ownBlock) rfl rfl ?aP (fun _ hk => hk) ?aF ?aO ?aB ?aS ?aL ?_
                  (case aP => exact (k33_mkF _ _ (⟨(rd_T93 x8_2 x18_3).f3, y153⟩ : S33) (Kd.V_reads' (Kd.V_mono (ok' := (fun k_ => ((fun k_ => (w.heap.size ≤ k_) ∧ some k_ ≠ (.slice (some ad151) x8_2.length co89 : Value).ownBlock)) k_ ∧ some k_ ≠ (u17 : Value).ownBlock)) (HO157.out) (fun k_ hk => ⟨⟨hk.1.1, hk.1.2⟩, hk.2⟩))).2.1 (Kd.V_F (Kd.V_mono (ok' := (fun k_ => ((fun k_ => (w.heap.size ≤ k_) ∧ some k_ ≠ (.slice (some ad151) x8_2.length co89 : Value).ownBlock)) k_ ∧ some k_ ≠ (u17 : Value).ownBlock)) (HO157.out) (fun k_ hk => ⟨⟨hk.1.1, hk.1.2⟩, hk.2⟩)))))
                  (case aB => exact (by repeat (first | (with_reducible first | exact HB.out | apply below_alloc | apply pw_below_drewN | apply below_drew1) | exact HB.out)))
                  (case aF => exact (fun k_ hk => ⟨(Nat.le_trans (below_size (by repeat (first | (with_reducible first | exact HB.out | apply below_alloc | apply pw_below_drewN | apply below_drew1) | exact HB.out))) hk), Kd.fresh' (Kd.R_lt (by (with_reducible repeat (first | apply Kd.R_alloc | apply Kd.R_drewN | apply Kd.R_drew)); exact HO_8.out)) k_ hk⟩))
                  (case aO => exact (by (with_reducible repeat (first | apply Kd.N_alloc | apply Kd.N_drewN | apply Kd.N_drew)); exact HO_17.out))
                  (case aS => exact (below_size (by repeat (first | (with_reducible first | exact HB.out | apply below_alloc | apply pw_below_drewN | apply below_drew1) | exact HB.out))))
                  (case aL => have := LMc88.out; omega)
                  intro v159 w93 ho hb hg hat
                  rw [← Ny158.out] at ho
                  have n0_ := Aside0.mk (Kd.R_over' (by (with_reducible repeat (first | apply Kd.R_alloc | apply Kd.R_drewN | apply Kd.R_drew)); exact HO_8.out) (Kd.N_typed (by (with_reducible repeat (first | apply Kd.N_alloc | apply Kd.N_drewN | apply Kd.N_drew)); exact HO_17.out)) (by decide) hg)
                  have n1_ := Aside0.mk (Kd.R_over' (by (with_reducible repeat (first | apply Kd.R_alloc | apply Kd.R_drewN | apply Kd.R_drew)); exact HO_16.out) (Kd.N_typed (by (with_reducible repeat (first | apply Kd.N_alloc | apply Kd.N_drewN | apply Kd.N_drew)); exact HO_17.out)) (by decide) hg)
                  have n2_ := Aside0.mk (Kd.V_afterv (ok := (fun k_ => (w.heap.size ≤ k_) ∧ some k_ ≠ (.slice (some ad151) x8_2.length co89 : Value).ownBlock)) (by (with_reducible repeat (first | apply Kd.V_alloc | apply Kd.V_drewN | apply Kd.V_drew)); exact HO157.out) hg hat)
                  have n3_ := Aside0.mk (hb)
                  have n4_ := Aside0.mk (ho)
                  clear HO_8
                  clear HO_16
                  clear HO157
                  clear HB
                  clear HO_17
                  have HO_8 := n0_
                  have HO_16 := n1_
                  have HO157 := n2_
                  have HB := n3_
                  have HO160 := n4_
                  clear n0_ n1_ n2_ n3_ n4_
                  clear ho hb hg hat
                  refine hK.out _ _ ?_
                  clear hK K
                  refine norm_ (a' := ?_) ?_ ?_
                  rotate_left
                  ·show Act.put _ (some 143) _ = _
                   simp only [Act.put, List.setIfInBounds_toArray, List.set_cons_zero, List.set_cons_succ, i64_w, i32_w]
                   rfl
                  refine pure_ (i := 14) (N := some 17) (v := ?_) (a' := ?_) #[true, true, true, true, true, true, true, true, true, true, true, true, true, true, true] rfl rfl (any_of HT_.out (by kernel_rfl)) (fun _ _ _ h => h) (Or.inl ⟨by rfl, ?_⟩) ?_ ?_
                  rotate_left
                  ·intro w'
                   go_simp
                   with_reducible rfl
                  rotate_left
                  ·simp only [Act.put, List.setIfInBounds_toArray, List.set_cons_zero, List.set_cons_succ, i64_w, i32_w]
                   rfl
                  refine done_ (done_of HT_.out (by kernel_rfl)) ?_
                  have p161 : 0 ≤ (x18_3 : Int) := of_decide_eq_true (by first | (with_reducible assumption) | assumption)
                  have q161 : x18_3 < (x8_2.length : Int) := of_decide_eq_true (by first | (with_reducible assumption) | assumption)
                  obtain ⟨ad161, e161, hx161_0, hx161_1, hx161_2, hx161_3⟩ := at_T93 (Kd.R_reads' HO_8.out).2.2 x18_3 p161 q161
                  obtain rfl : ad151 = ad161 := (by injection e161)
                  replace p161 := eq_true p161
                  replace q161 := eq_true q161
                  try go_wp2
                  go_roundg k3
                  case measure => have := HJ2.out; have := HK2.out; have := HK3.out; omega
                  case rel => exact ⟨(y158), (wrap64 (x18_3 + ((rd_T93 x8_2 x18_3).f2))), (by first | rfl | (simp; done) | (simp [*]; done) | (simp [i64_w]; done)), H', ⟨by have := HJ2.out; have := HK2.out; have := HK3.out; omega⟩, ⟨by (with_reducible repeat (first | apply Kd.R_alloc | apply Kd.R_drewN | apply Kd.R_drew)); exact HO_8.out⟩, ⟨by (with_reducible repeat (first | apply Kd.R_alloc | apply Kd.R_drewN | apply Kd.R_drew)); exact HO_16.out⟩, ⟨by (with_reducible repeat (first | apply Kd.N_alloc | apply Kd.N_drewN | apply Kd.N_drew)); exact HO160.out⟩, ⟨by repeat (first | (with_reducible first | exact HB.out | apply below_alloc | apply pw_below_drewN | apply below_drew1) | exact HB.out)⟩⟩
                 ·rw [if_neg c88] at H
                  exact absurd H (by simp)
                ·rw [if_neg c87] at H
                 exact absurd H (by simp)
               ·rw [if_neg c86] at H
                exact absurd H (by simp)
              ·rw [if_neg c84] at H
               exact absurd H (by simp)
             ·rw [if_neg c83] at H
              exact absurd H (by simp)
            ·rw [if_neg c82] at H
             have c82b0 : decide (x18_3 < (l0.length : Int)) = false := decide_eq_false c82
             clear c82
             by_cases c94 : 0 < (x8_2.length : Int)
             ·rw [if_pos c94] at H
              have c94b0 : decide (0 < (x8_2.length : Int)) = true := decide_eq_true c94
              have c94b1 : decide (0 < x8_2.length) = true := decide_eq_true (by omega)
              have c94b2 : 0 < x8_2.length := by omega
              clear c94
              simp only [Option.some.injEq, Prod.mk.injEq] at H
              obtain ⟨rfl, rfl, rfl⟩ := H
              try go_wp2
              have n0_ := Aside0.mk (Kd.R_drew HO_8.out)
              have n1_ := Aside0.mk (Kd.R_drew HO_16.out)
              have n2_ := Aside0.mk (Kd.N_drew HO_17.out)
              have n3_ := Aside0.mk (below_drew1 HB.out)
              clear HO_8
              clear HO_16
              clear HO_17
              clear HB
              have HO_8 := n0_
              have HO_16 := n1_
              have HO_17 := n2_
              have HB := n3_
              clear n0_ n1_ n2_ n3_
              obtain ⟨Ao96, co96, eo96⟩ := Kd.R_slice HO_8.out
              (first | subst eo96 | (injection eo96 with f1_ f2_ f3_; have f4_ := f1_.symm; have f5_ := f3_.symm; clear f1_ f2_ f3_; subst f4_; subst f5_))
              have p162 : 0 ≤ (0 : Int) := (by omega)
              have q162 : 0 < (x8_2.length : Int) := of_decide_eq_true (by first | (with_reducible assumption) | assumption)
              obtain ⟨ad162, e162, hx162_0, hx162_1, hx162_2, hx162_3⟩ := at_T93 (Kd.R_reads' HO_8.out).2.2 0 p162 q162
              cases e162
              have qi162 : (0 < x8_2.length) = True := eq_true (by omega)
              (try rw [show ((0 : Int)).toNat = 0 from rfl] at hx162_0)
              (try rw [show 0 * 4 = 0 from rfl] at hx162_0)
              (try rw [Addr.add_zero'] at hx162_0)
              (try rw [show ((0 : Int)).toNat = 0 from rfl] at hx162_1)
              (try rw [show 0 * 4 = 0 from rfl] at hx162_1)
              (try rw [Addr.add_zero'] at hx162_1)
              (try rw [show ((0 : Int)).toNat = 0 from rfl] at hx162_2)
              (try rw [show 0 * 4 = 0 from rfl] at hx162_2)
              (try rw [Addr.add_zero'] at hx162_2)
              (try rw [show ((0 : Int)).toNat = 0 from rfl] at hx162_3)
              (try rw [show 0 * 4 = 0 from rfl] at hx162_3)
              (try rw [Addr.add_zero'] at hx162_3)
              replace p162 := eq_true p162
              replace q162 := eq_true q162
              refine start_ (n := 8) (S := fun w' => w'.cell? ad162 = some (.int .i64 ((rd_T93 x8_2 0).f0)) ∧ w'.cell? ⟨ad162.block, ad162.off + 1, none⟩ = some (.int .i64 ((rd_T93 x8_2 0).f1)) ∧ w'.cell? ⟨ad162.block, ad162.off + 2, none⟩ = some (.int .i64 ((rd_T93 x8_2 0).f2)) ∧ w'.cell? ⟨ad162.block, ad162.off + 3, none⟩ = some (.int .i64 ((rd_T93 x8_2 0).f3))) (ds := []) #[false, false, false, false, false, false, false, false] (by kernel_rfl) rfl rfl ⟨hx162_0, hx162_1, hx162_2, hx162_3⟩ (fun hHeld => ?_); refine with_tabW modes_Best.tab30 modes_Best.bits30 (fun HT_ HW_ => ?_)
              generalize wr.drew = w95 at HO_8 HO_16 HO_17 HB hx162_0 hx162_1 hx162_2 hx162_3 hHeld ⊢
              refine pure_ (i := 0) (N := some 144) (v := ?_) (a' := ?_) #[true, false, false, false, false, false, false, false] rfl rfl (any_of HT_.out (by kernel_rfl)) (fun _ _ _ h => h) (Or.inl ⟨by rfl, ?_⟩) ?_ ?_
              rotate_left
              ·intro w'
               go_simp
               with_reducible rfl
              rotate_left
              ·simp only [Act.put, List.setIfInBounds_toArray, List.set_cons_zero, List.set_cons_succ, i64_w, i32_w]
               rfl
              refine pure_ (i := 1) (N := some 145) (v := ?_) (a' := ?_) #[true, true, false, false, false, false, false, false] rfl rfl (any_of HT_.out (by kernel_rfl)) (fun _ _ _ h => h) (Or.inl ⟨by rfl, ?_⟩) ?_ ?_
              rotate_left
              ·intro w'
               go_simp
               with_reducible rfl
              rotate_left
              ·simp only [Act.put, List.setIfInBounds_toArray, List.set_cons_zero, List.set_cons_succ, i64_w, i32_w]
               rfl
              refine pure_ (i := 2) (N := some 146) (v := ?_) (a' := ?_) #[true, true, true, false, false, false, false, false] rfl rfl (any_of HT_.out (by kernel_rfl)) (fun _ _ _ h => h) (Or.inl ⟨by rfl, ?_⟩) ?_ ?_
              rotate_left
              ·intro w'
               go_simp
               with_reducible rfl
              rotate_left
              ·simp only [Act.put, List.setIfInBounds_toArray, List.set_cons_zero, List.set_cons_succ, i64_w, i32_w]
               rfl
              refine pure_ (i := 3) (N := some 147) (v := ?_) (a' := ?_) #[true, true, true, true, false, false, false, false] rfl rfl (any_of HT_.out (by kernel_rfl)) (fun _ _ _ h => h) (Or.inl ⟨by rfl, ?_⟩) ?_ ?_
              rotate_left
              ·intro w'
               go_simp
               with_reducible rfl
              rotate_left
              ·simp only [Act.put, List.setIfInBounds_toArray, List.set_cons_zero, List.set_cons_succ, i64_w, i32_w]
               rfl
              refine pure_ (i := 5) (N := some 4) (v := ?_) (a' := ?_) #[true, true, true, true, false, true, false, false] rfl rfl (any_of HT_.out (by kernel_rfl)) (fun _ _ _ h => h) (Or.inl ⟨by rfl, ?_⟩) ?_ ?_
              rotate_left
              ·intro w'
               go_simp
               with_reducible rfl
              rotate_left
              ·simp only [Act.put, List.setIfInBounds_toArray, List.set_cons_zero, List.set_cons_succ, i64_w, i32_w]
               rfl
              refine take_ (i := 4) (N := some 148) (v := ?_) (a' := ?_) #[true, true, true, true, true, true, false, false] rfl rfl (take_ofW HT_.out HW_.out (by kernel_rfl)) (fun _ _ _ h => h) (Or.inl ⟨by rfl, ?_⟩) hHeld ?_ ?_
              rotate_left
              ·rintro w' ⟨s0, s1, s2, s3⟩
               go_simp
               with_reducible rfl
              rotate_left
              ·simp only [Act.put, List.setIfInBounds_toArray, List.set_cons_zero, List.set_cons_succ, i64_w, i32_w]
               rfl
              refine pure_ (i := 6) (N := some 5) (v := ?_) (a' := ?_) #[true, true, true, true, true, true, true, false] rfl rfl (any_of HT_.out (by kernel_rfl)) (fun _ _ _ h => h) (Or.inl ⟨by rfl, ?_⟩) ?_ ?_
              rotate_left
              ·intro w'
               go_simp
               with_reducible rfl
              rotate_left
              ·simp only [Act.put, List.setIfInBounds_toArray, List.set_cons_zero, List.set_cons_succ, i64_w, i32_w]
               rfl
              refine pure_ (i := 7) (N := some 6) (v := ?_) (a' := ?_) #[true, true, true, true, true, true, true, true] rfl rfl (any_of HT_.out (by kernel_rfl)) (fun _ _ _ h => h) (Or.inl ⟨by rfl, ?_⟩) ?_ ?_
              rotate_left
              ·intro w'
               go_simp
               with_reducible rfl
              rotate_left
              ·simp only [Act.put, List.setIfInBounds_toArray, List.set_cons_zero, List.set_cons_succ, i64_w, i32_w]
               rfl
              refine done_ (done_of HT_.out (by kernel_rfl)) ?_
              try go_wp2
              go_ret3
              exact ⟨_, by first | rfl | (simp [errW_none, errW_some] <;> rfl) | (simp only [← hji7]; first | rfl | (simp [errW_none, errW_some] <;> rfl)) | (simp [*, errW_none, errW_some] <;> rfl), by (with_reducible repeat (first | apply Kd.N_alloc | apply Kd.N_drewN | apply Kd.N_drew)); exact Kd.N_mono HO_17.out (fun _ hk => hk.1), by repeat (first | (with_reducible first | exact HB.out | apply below_alloc | apply pw_below_drewN | apply below_drew1) | exact HB.out)⟩
             ·rw [if_neg c94] at H
              exact absurd H (by simp)
      ·rw [if_neg c9] at H
       exact absurd H (by simp)
     ·rw [if_neg c8] at H
      exact absurd H (by simp)

end Go.Proofs.Ytagmncdbiljacaa.X
