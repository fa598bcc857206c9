/- Functions of the program as Lean functions, and proofs that their calls come to them (printed for this claim by the session's own program). No condition beyond each theorem's own hypotheses. -/
import Derived.Test.YtagmncdbiljacaaXx0
import Derived.Test.YtagmncdbiljacaaXx10
import Derived.Test.YtagmncdbiljacaaXx19
import Derived.Test.YtagmncdbiljacaaXx25
import Derived.Test.YtagmncdbiljacaaYExample
import Derived.Test.YtagmncdbiljacaaYMBits
namespace Go.Proofs.Ytagmncdbiljacaa.X
open Go.RowKit Go.Proofs.YtagmncdbiljacaaW.PrintWords Go.Proofs.YtagmncdbiljacaaW.PrintLast Go.Proofs.YtagmncdbiljacaaW.PrintMore
attribute [local go_sem] max2_int min2_int max_two min_two max_three min_three max_four min_four   -- for this text's walks alone
set_option linter.unusedVariables false
set_option linter.unusedSimpArgs false

/-! ### barscanlaw16_ModesLimits: function 4 -/
mutual
def barscanlaw16_ModesLimits.l0 : Nat → Int → Int → Int → Bool → Int → Int → Option (Bool)
 | 0, _, _, _, _, _, _ => none
 | k + 1, x0, x1, x2, x3, x9, x10 => if x10 < (wrap64 (Int.tmod x0 3)) then (barscanlaw16_ModesLimits.l0 k x0 x1 x2 x3 (wrap64 (x9 * 2)) (wrap64 (x10 + 1))) else (if x3 = true then (barscanlaw16_ModesLimits.l1 k x2 x9 (wrap64 (Int.tmod x1 3)) ([] : List (S33)) 0) else ((barscanref16_CountBits.f k x9 (wrap64 (Int.tmod x1 3))).bind fun bt324 => (if 0 ≤ (IntKind.u64.wrap (bt324.1)) then ((barscanlaw16_repeated.f k 55 (wrap64 ((wrap64 ((shl .i64 1 (IntKind.u64.wrap (bt324.1))) - 3)) + (wrap64 (Int.tmod x2 5))))).bind fun t326 => ((some (([(⟨x9, t326⟩ : S33)] : List (S33)) : List (S33))).bind fun y329 => ((modes_Bits.f y329 (wrap64 (Int.tmod x1 3))).bind fun bt332 => ((barscanref16_Bits.f k y329 (wrap64 (Int.tmod x1 3))).bind fun bt334 => (if bt332.1 = bt334.1 then (if bt332.2 = bt334.2 then ((barscanlaw16_exampleHolds.f).bind fun t336 => (some t336)) else (some false)) else (some false)))))) else (none))))
def barscanlaw16_ModesLimits.l1 : Nat → Int → Int → Int → List (S33) → Int → Option (Bool)
 | 0, _, _, _, _, _ => none
 | k + 1, x2, x9, x11, x12, x13 => if x13 < (wrap64 (4094 + (wrap64 (Int.tmod x2 5)))) then (if x12.length < 4398046511104 then (barscanlaw16_ModesLimits.l1 k x2 x9 x11 (x12 ++ [(⟨x9, ([] : List Int)⟩ : S33)]) (wrap64 (x13 + 1))) else (none)) else ((modes_Bits.f x12 x11).bind fun bt319 => ((barscanref16_Bits.f k x12 x11).bind fun bt321 => (if bt319.1 = bt321.1 then (if bt319.2 = bt321.2 then ((barscanlaw16_exampleHolds.f).bind fun t323 => (some t323)) else (some false)) else (some false))))
end
def barscanlaw16_ModesLimits.f (k : Nat) (a0 : Int) (a1 : Int) (a2 : Int) (a3 : Bool) : Option (Bool) := barscanlaw16_ModesLimits.l0 k a0 a1 a2 a3 1 0
theorem barscanlaw16_ModesLimits.mono_l : ∀ k, (∀ y0 y1 y2 y3 y4 y5, LeO (barscanlaw16_ModesLimits.l0 k y0 y1 y2 y3 y4 y5) (barscanlaw16_ModesLimits.l0 (k + 1) y0 y1 y2 y3 y4 y5)) ∧ (∀ y0 y1 y2 y3 y4, LeO (barscanlaw16_ModesLimits.l1 k y0 y1 y2 y3 y4) (barscanlaw16_ModesLimits.l1 (k + 1) y0 y1 y2 y3 y4))
 | 0 => ⟨fun _ _ _ _ _ _ r h => by simp [barscanlaw16_ModesLimits.l0] at h, fun _ _ _ _ _ r h => by simp [barscanlaw16_ModesLimits.l1] at h⟩
 | k + 1 => by
  obtain ⟨ih0, ih1⟩ := barscanlaw16_ModesLimits.mono_l k
  refine ⟨?_, ?_⟩
  ·intro y0 y1 y2 y3 y4 y5
   unfold barscanlaw16_ModesLimits.l0
   repeat' first
   | (with_reducible exact ih0 _ _ _ _ _ _)
   | (with_reducible exact ih1 _ _ _ _ _)
   | (with_reducible exact barscanlaw16_repeated.mono _ _ _)
   | (with_reducible exact barscanref16_Bits.mono _ _ _)
   | (with_reducible exact barscanref16_CountBits.mono _ _ _)
   | (with_reducible exact LeO.refl _)
   | (with_reducible exact LeO.none _)
   | (with_reducible refine LeO.ite ?_ ?_)
   | (with_reducible refine LeO.bind ?_ (fun _ => ?_))
   | exact ih0 _ _ _ _ _ _
   | exact ih1 _ _ _ _ _
   | exact barscanlaw16_repeated.mono _ _ _
   | exact barscanref16_Bits.mono _ _ _
   | exact barscanref16_CountBits.mono _ _ _
   | exact LeO.none _
   | refine LeO.ite ?_ ?_
   | refine LeO.bind ?_ (fun _ => ?_)
  ·intro y0 y1 y2 y3 y4
   unfold barscanlaw16_ModesLimits.l1
   repeat' first
   | (with_reducible exact ih0 _ _ _ _ _ _)
   | (with_reducible exact ih1 _ _ _ _ _)
   | (with_reducible exact barscanlaw16_repeated.mono _ _ _)
   | (with_reducible exact barscanref16_Bits.mono _ _ _)
   | (with_reducible exact barscanref16_CountBits.mono _ _ _)
   | (with_reducible exact LeO.refl _)
   | (with_reducible exact LeO.none _)
   | (with_reducible refine LeO.ite ?_ ?_)
   | (with_reducible refine LeO.bind ?_ (fun _ => ?_))
   | exact ih0 _ _ _ _ _ _
   | exact ih1 _ _ _ _ _
   | exact barscanlaw16_repeated.mono _ _ _
   | exact barscanref16_Bits.mono _ _ _
   | exact barscanref16_CountBits.mono _ _ _
   | exact LeO.none _
   | refine LeO.ite ?_ ?_
   | refine LeO.bind ?_ (fun _ => ?_)
theorem barscanlaw16_ModesLimits.mono : ∀ a0 a1 a2 a3 k, LeO (barscanlaw16_ModesLimits.f k a0 a1 a2 a3) (barscanlaw16_ModesLimits.f (k + 1) a0 a1 a2 a3) := by
 intro a0 a1 a2 a3 k
 obtain ⟨ih0, ih1⟩ := barscanlaw16_ModesLimits.mono_l k
 unfold barscanlaw16_ModesLimits.f
 repeat' first
   | (with_reducible exact ih0 _ _ _ _ _ _)
   | (with_reducible exact ih1 _ _ _ _ _)
   | (with_reducible exact barscanlaw16_repeated.mono _ _ _)
   | (with_reducible exact barscanref16_Bits.mono _ _ _)
   | (with_reducible exact barscanref16_CountBits.mono _ _ _)
   | (with_reducible exact LeO.refl _)
   | (with_reducible exact LeO.none _)
   | (with_reducible refine LeO.ite ?_ ?_)
   | (with_reducible refine LeO.bind ?_ (fun _ => ?_))
   | exact ih0 _ _ _ _ _ _
   | exact ih1 _ _ _ _ _
   | exact barscanlaw16_repeated.mono _ _ _
   | exact barscanref16_Bits.mono _ _ _
   | exact barscanref16_CountBits.mono _ _ _
   | exact LeO.none _
   | refine LeO.ite ?_ ?_
   | refine LeO.bind ?_ (fun _ => ?_)
set_option maxHeartbeats 8000000 in
set_option maxRecDepth 100000 in
theorem barscanlaw16_ModesLimits.calls (k : Nat) (a0 : Int) (a1 : Int) (a2 : Int) (a3 : Bool) (r : Bool) (w : World) (h : barscanlaw16_ModesLimits.f k a0 a1 a2 a3 = some r) :
  Calls Try.prog 4 #[.int .u8 a0, .int .u8 a1, .int .u8 a2, .bool a3] w fun e w' => e = .returned (.bool r) ∧ Below w.heap.size w w' := by
 have hu33 := Try.underlying33
 have HB := Aside0.mk (Below.refl w.heap.size w)
 have H : (barscanlaw16_ModesLimits.l0 k a0 a1 a2 a3 1 0) = some r := h
 clear h
 have H' := Aside0.mk H
 clear H
 go_enter Try.func4, Try.ntmps4
 go_wp2
 go_loopg [9, 10] k (fun kq v9 v10 w' => ∃ (x9_1 : Int) (x10_1 : Int), v9 = .int .i64 x9_1 ∧ v10 = .int .i64 x10_1 ∧ Aside0 (barscanlaw16_ModesLimits.l0 kq a0 a1 a2 a3 x9_1 x10_1 = some r) ∧ Aside0 (kq ≤ k) ∧ Aside0 (Below w.heap.size w w'))
 case atStart => exact ⟨(1), (0), (by first | rfl | (simp; done) | (simp [*]; done) | (simp [i64_w]; done)), (by first | rfl | (simp; done) | (simp [*]; done) | (simp [i64_w]; done)), H', ⟨Nat.le_refl _⟩, ⟨by repeat (first | (with_reducible first | exact HB.out | apply below_alloc | apply pw_below_drewN | apply below_drew1) | exact HB.out)⟩⟩
 case round =>
  clear H'
  try clear p2
  try clear c4
  obtain ⟨x9_1, x10_1, rfl, rfl, HA, HK1, HB⟩ := hrel
  cases gk with
  | zero => exact absurd HA.out (by simp [barscanlaw16_ModesLimits.l0])
  | succ k1 =>
   have H := HA.out
   clear HA
   simp only [barscanlaw16_ModesLimits.l0] at H
   by_cases c5 : x10_1 < (wrap64 (Int.tmod a0 3))
   ·rw [if_pos c5] at H
    have c5b0 : decide (x10_1 < (wrap64 (Int.tmod a0 3))) = true := decide_eq_true c5
    clear c5
    have H' := Aside0.mk H
    clear H
    go_wp2
    go_roundg k1
    case measure => have := HK1.out; omega
    case rel => exact ⟨(wrap64 (x9_1 * 2)), (wrap64 (x10_1 + 1)), (by first | rfl | (simp; done) | (simp [*]; done) | (simp [i64_w]; done)), (by first | rfl | (simp; done) | (simp [*]; done) | (simp [i64_w]; done)), H', ⟨by have := HK1.out; omega⟩, ⟨by repeat (first | (with_reducible first | exact HB.out | apply below_alloc | apply pw_below_drewN | apply below_drew1) | exact HB.out)⟩⟩
   ·rw [if_neg c5] at H
    have c5b0 : decide (x10_1 < (wrap64 (Int.tmod a0 3))) = false := decide_eq_false c5
    clear c5
    by_cases c6 : a3 = true
    ·subst c6
     have H1 : (barscanlaw16_ModesLimits.l1 k1 a2 x9_1 (wrap64 (Int.tmod a1 3)) ([] : List (S33)) 0) = some r := by rw [if_pos rfl] at H; exact H
     clear H
     have H := H1
     clear H1
     have H' := Aside0.mk H
     clear H
     go_wp2
     go_loopg [12, 13] k1 (fun kq v12 v13 w' => ∃ (x12_2 : List (S33)) (x13_2 : Int), v13 = .int .i64 x13_2 ∧ Aside0 (barscanlaw16_ModesLimits.l1 kq a2 x9_1 (wrap64 (Int.tmod a1 3)) x12_2 x13_2 = some r) ∧ Aside0 (kq ≤ k1) ∧ Aside0 (Kd.N k33 33 w' w.heap.size (fun _ => True) v12 x12_2) ∧ Aside0 (Below w.heap.size w w'))
     case atStart => exact ⟨(([] : List (S33))), (0), (by first | rfl | (simp; done) | (simp [*]; done) | (simp [i64_w]; done)), H', ⟨Nat.le_refl _⟩, ⟨by first | exact Kd.S_nil _ _ _ _ _ | exact Kd.N_nil _ _ _ _ _ | exact Kd.V_nil _ _ _ _ _ | exact Kd.Q_nil _ _ _ _ _ | exact Kd.R_nil _ _ _ _ _⟩, ⟨by repeat (first | (with_reducible first | exact HB.out | apply below_alloc | apply pw_below_drewN | apply below_drew1) | exact HB.out)⟩⟩
     case round =>
      clear H'
      try clear p2
      try clear c4
      try clear c5
      try clear c5b0
      try clear c6
      try clear p6
      try clear p2
      obtain ⟨x12_2, x13_2, rfl, HA, HK2, HO_12, HB⟩ := hrel
      cases gk with
      | zero => exact absurd HA.out (by simp [barscanlaw16_ModesLimits.l1])
      | succ k2 =>
       have H := HA.out
       clear HA
       simp only [barscanlaw16_ModesLimits.l1] at H
       by_cases c7 : x13_2 < (wrap64 (4094 + (wrap64 (Int.tmod a2 5))))
       ·rw [if_pos c7] at H
        have c7b0 : decide (x13_2 < (wrap64 (4094 + (wrap64 (Int.tmod a2 5))))) = true := decide_eq_true c7
        clear c7
        by_cases c8 : x12_2.length < 4398046511104
        ·rw [if_pos c8] at H
         have LMc8 := Aside0.mk c8
         clear c8
         obtain ⟨y316, hy316⟩ : ∃ y_ : List (S33), y_ = (x12_2 ++ [(⟨x9_1, ([] : List Int)⟩ : S33)]) := ⟨_, rfl⟩
         replace H : (barscanlaw16_ModesLimits.l1 k2 a2 x9_1 (wrap64 (Int.tmod a1 3)) y316 (wrap64 (x13_2 + 1))) = some r := by first | (rw [hy316]; with_reducible exact H) | (have H2_ := (Option.bind_some _ _).symm.trans H; rw [hy316]; with_reducible exact H2_) | (have H2_ := (Option.bind_some _ _).symm.trans H; with_reducible exact H2_) | with_reducible exact H | (rw [hy316]; exact H) | exact H
         have Ny316 := Aside0.mk hy316
         clear hy316
         have H' := Aside0.mk H
         clear H
         go_wp2_with (first | ((with_reducible refine gate_builtin (b := .append) (xs := #[.tmp 46, .tmp 49]) rfl ?_); at_builtin; refine Kd.N_append k33 (w0 := w) w.heap.size rfl (.tmp 46) (.tmp 49) 25 33 (.agg #[(.int .i64 0), (.slice none 0 0)]) 32 rfl Try.underlying25 info33 rfl (by decide) (by omega) u12 x12_2 (⟨x9_1, ([] : List Int)⟩ : S33) [.int .i64 x9_1, .slice none 0 0] (fun _ => True) (fun k_ => ((fun _ => True)) k_ ∧ some k_ ≠ (u12 : Value).ownBlock) rfl rfl ?aP (fun _ hk => hk) ?aF ?aO ?aB ?aS ?aL ?_; (case aP => exact (k33_mkF _ _ (⟨x9_1, ([] : List Int)⟩ : S33) (Nat.le_refl _) (Kd.F_nil _ _ _))); (case aB => exact (by repeat (first | (with_reducible first | exact HB.out | apply below_alloc | apply pw_below_drewN | apply below_drew1) | exact HB.out))); (case aF => exact (fun _ _ => trivial)); (case aO => exact (by (with_reducible repeat (first | apply Kd.N_alloc | apply Kd.N_drewN | apply Kd.N_drew)); exact HO_12.out)); (case aS => exact (below_size (by repeat (first | (with_reducible first | exact HB.out | apply below_alloc | apply pw_below_drewN | apply below_drew1) | exact HB.out)))); (case aL => have := LMc8.out; omega); intro v317 w9 ho hb hg hat; rw [← Ny316.out] at ho; have n0_ := Aside0.mk (hb); have n1_ := Aside0.mk (ho); clear HB; clear HO_12; have HB := n0_; have HO318 := n1_; clear n0_ n1_; clear ho hb hg hat))
         go_roundg k2
         case measure => have := HK1.out; have := HK2.out; omega
         case rel => exact ⟨(y316), (wrap64 (x13_2 + 1)), (by first | rfl | (simp; done) | (simp [*]; done) | (simp [i64_w]; done)), H', ⟨by have := HK1.out; have := HK2.out; omega⟩, ⟨by (with_reducible repeat (first | apply Kd.N_alloc | apply Kd.N_drewN | apply Kd.N_drew)); exact HO318.out⟩, ⟨by repeat (first | (with_reducible first | exact HB.out | apply below_alloc | apply pw_below_drewN | apply below_drew1) | exact HB.out)⟩⟩
        ·rw [if_neg c8] at H
         exact absurd H (by simp)
       ·rw [if_neg c7] at H
        have c7b0 : decide (x13_2 < (wrap64 (4094 + (wrap64 (Int.tmod a2 5))))) = false := decide_eq_false c7
        clear c7
        replace H := Option.bind_eq_some_iff.mp H
        obtain ⟨⟨t319, t320⟩, A100, H⟩ := H
        replace H : ((barscanref16_Bits.f k2 x12_2 (wrap64 (Int.tmod a1 3))).bind fun bt321 => (if t319 = bt321.1 then (if t320 = bt321.2 then ((barscanlaw16_exampleHolds.f).bind fun t323 => (some t323)) else (some false)) else (some false))) = some r := H
        have A10 := Aside0.mk A100
        clear A100
        replace H := Option.bind_eq_some_iff.mp H
        obtain ⟨⟨t321, t322⟩, A110, H⟩ := H
        replace H : (if t319 = t321 then (if t320 = t322 then ((barscanlaw16_exampleHolds.f).bind fun t323 => (some t323)) else (some false)) else (some false)) = some r := H
        have A11 := Aside0.mk A110
        clear A110
        by_cases c12 : t319 = t321
        ·rw [if_pos c12] at H
         have c12b0 : (t319 == t321) = true := beq_iff_eq.mpr c12
         have c12b1 : (t319 != t321) = false := bne_eq_false_iff_eq.mpr c12
         clear c12
         by_cases c13 : t320 = t322
         ·rw [if_pos c13] at H
          have c13b0 : (t320 == t322) = true := beq_iff_eq.mpr c13
          have c13b1 : (t320 != t322) = false := bne_eq_false_iff_eq.mpr c13
          clear c13
          replace H := Option.bind_eq_some_iff.mp H
          obtain ⟨t323, A140, H⟩ := H
          replace H : (some t323) = some r := H
          have A14 := Aside0.mk A140
          clear A140
          obtain rfl := Option.some.inj H
          obtain ⟨Ao15, co15, eo15⟩ := Kd.N_slice HO_12.out
          subst eo15
          go_wp2_with (first | ((with_reducible refine gate_callee (f := 18) rfl ?_); refine goesL_ (some 54) rfl rfl Try.func18 (by kernel_rfl) rfl #[.slice Ao15 x12_2.length co15, .int .i64 (wrap64 (Int.tmod a1 3))] rfl (by (try simp only [List.map_toArray, List.map_cons, List.map_nil]); first | done | rfl | (simp only [List.length_drop, List.length_take]; rfl)) ?_; (with_reducible refine (modes_Bits.calls _ _ x12_2 (wrap64 (Int.tmod a1 3)) t319 t320 _ ?side1 ?side2 A10.out).mono ?_); (case side1 => repeat (first | exact (Kd.N_reads' HO_12.out).2.2 | (with_reducible refine Kd.C_alloc ?_ _) | (with_reducible refine Kd.C_drewN ?_ _) | (with_reducible refine Kd.C_drew ?_))); (case side2 => exact (Kd.N_reads' HO_12.out).2.1); rintro e w16 ⟨rfl, hb⟩; refine ⟨_, rfl, ?_⟩; have n0_ := Aside0.mk (Kd.N_below (by (with_reducible repeat (first | apply Kd.N_alloc | apply Kd.N_drewN | apply Kd.N_drew)); exact HO_12.out) hb); have n1_ := Aside0.mk (below_step (by repeat (first | (with_reducible first | exact HB.out | apply below_alloc | apply pw_below_drewN | apply below_drew1) | exact HB.out)) hb); clear HO_12; clear HB; have HO_12 := n0_; have HB := n1_; clear n0_ n1_; (try clear hb); (try clear hb2); (try clear hk); (try clear hi)) | ((with_reducible refine gate_callee (f := 19) rfl ?_); refine goesL_ (some 60) rfl rfl Try.func19 (by kernel_rfl) rfl #[.slice Ao15 x12_2.length co15, .int .i64 (wrap64 (Int.tmod a1 3))] rfl (by (try simp only [List.map_toArray, List.map_cons, List.map_nil]); first | done | rfl | (simp only [List.length_drop, List.length_take]; rfl)) ?_; (with_reducible refine (barscanref16_Bits.calls k2 _ _ x12_2 (wrap64 (Int.tmod a1 3)) t321 t322 _ ?side1 ?side2 A11.out).mono ?_); (case side1 => repeat (first | exact (Kd.N_reads' HO_12.out).2.2 | (with_reducible refine Kd.C_alloc ?_ _) | (with_reducible refine Kd.C_drewN ?_ _) | (with_reducible refine Kd.C_drew ?_))); (case side2 => exact (Kd.N_reads' HO_12.out).2.1); rintro e w' ⟨rfl, ⟨nd, rfl⟩⟩; refine ⟨_, rfl, ?_⟩) | (go_at_call 20; (with_reducible refine (barscanlaw16_exampleHolds.calls  t323 _ A14.out).mono ?_); rintro e w17 ⟨rfl, hb⟩; have n0_ := Aside0.mk (Kd.N_below (by (with_reducible repeat (first | apply Kd.N_alloc | apply Kd.N_drewN | apply Kd.N_drew)); exact HO_12.out) hb); have n1_ := Aside0.mk (below_step (by repeat (first | (with_reducible first | exact HB.out | apply below_alloc | apply pw_below_drewN | apply below_drew1) | exact HB.out)) hb); clear HO_12; clear HB; have HO_12 := n0_; have HB := n1_; clear n0_ n1_; (try clear hb); (try clear hb2); (try clear hk); (try clear hi)))
          go_ret
          exact ⟨by first | rfl | (simp [errW_none, errW_some] <;> rfl) | (simp [*, errW_none, errW_some] <;> rfl), by repeat (first | (with_reducible first | exact HB.out | apply below_alloc | apply pw_below_drewN | apply below_drew1) | exact HB.out)⟩
         ·rw [if_neg c13] at H
          have c13b0 : (t320 == t322) = false := beq_eq_false_iff_ne.mpr c13
          have c13b1 : (t320 != t322) = true := bne_iff_ne.mpr c13
          obtain rfl := Option.some.inj H
          obtain ⟨Ao18, co18, eo18⟩ := Kd.N_slice HO_12.out
          subst eo18
          go_wp2_with (first | ((with_reducible refine gate_callee (f := 18) rfl ?_); refine goesL_ (some 54) rfl rfl Try.func18 (by kernel_rfl) rfl #[.slice Ao18 x12_2.length co18, .int .i64 (wrap64 (Int.tmod a1 3))] rfl (by (try simp only [List.map_toArray, List.map_cons, List.map_nil]); first | done | rfl | (simp only [List.length_drop, List.length_take]; rfl)) ?_; (with_reducible refine (modes_Bits.calls _ _ x12_2 (wrap64 (Int.tmod a1 3)) t319 t320 _ ?side1 ?side2 A10.out).mono ?_); (case side1 => repeat (first | exact (Kd.N_reads' HO_12.out).2.2 | (with_reducible refine Kd.C_alloc ?_ _) | (with_reducible refine Kd.C_drewN ?_ _) | (with_reducible refine Kd.C_drew ?_))); (case side2 => exact (Kd.N_reads' HO_12.out).2.1); rintro e w19 ⟨rfl, hb⟩; refine ⟨_, rfl, ?_⟩; have n0_ := Aside0.mk (Kd.N_below (by (with_reducible repeat (first | apply Kd.N_alloc | apply Kd.N_drewN | apply Kd.N_drew)); exact HO_12.out) hb); have n1_ := Aside0.mk (below_step (by repeat (first | (with_reducible first | exact HB.out | apply below_alloc | apply pw_below_drewN | apply below_drew1) | exact HB.out)) hb); clear HO_12; clear HB; have HO_12 := n0_; have HB := n1_; clear n0_ n1_; (try clear hb); (try clear hb2); (try clear hk); (try clear hi)) | ((with_reducible refine gate_callee (f := 19) rfl ?_); refine goesL_ (some 60) rfl rfl Try.func19 (by kernel_rfl) rfl #[.slice Ao18 x12_2.length co18, .int .i64 (wrap64 (Int.tmod a1 3))] rfl (by (try simp only [List.map_toArray, List.map_cons, List.map_nil]); first | done | rfl | (simp only [List.length_drop, List.length_take]; rfl)) ?_; (with_reducible refine (barscanref16_Bits.calls k2 _ _ x12_2 (wrap64 (Int.tmod a1 3)) t321 t322 _ ?side1 ?side2 A11.out).mono ?_); (case side1 => repeat (first | exact (Kd.N_reads' HO_12.out).2.2 | (with_reducible refine Kd.C_alloc ?_ _) | (with_reducible refine Kd.C_drewN ?_ _) | (with_reducible refine Kd.C_drew ?_))); (case side2 => exact (Kd.N_reads' HO_12.out).2.1); rintro e w' ⟨rfl, ⟨nd, rfl⟩⟩; refine ⟨_, rfl, ?_⟩))
          go_ret
          exact ⟨by first | rfl | (simp [errW_none, errW_some] <;> rfl) | (simp [*, errW_none, errW_some] <;> rfl), by repeat (first | (with_reducible first | exact HB.out | apply below_alloc | apply pw_below_drewN | apply below_drew1) | exact HB.out)⟩
        ·rw [if_neg c12] at H
         have c12b0 : (t319 == t321) = false := beq_eq_false_iff_ne.mpr c12
         have c12b1 : (t319 != t321) = true := bne_iff_ne.mpr c12
         obtain rfl := Option.some.inj H
         obtain ⟨Ao20, co20, eo20⟩ := Kd.N_slice HO_12.out
         subst eo20
         go_wp2_with (first | ((with_reducible refine gate_callee (f := 18) rfl ?_); refine goesL_ (some 54) rfl rfl Try.func18 (by kernel_rfl) rfl #[.slice Ao20 x12_2.length co20, .int .i64 (wrap64 (Int.tmod a1 3))] rfl (by (try simp only [List.map_toArray, List.map_cons, List.map_nil]); first | done | rfl | (simp only [List.length_drop, List.length_take]; rfl)) ?_; (with_reducible refine (modes_Bits.calls _ _ x12_2 (wrap64 (Int.tmod a1 3)) t319 t320 _ ?side1 ?side2 A10.out).mono ?_); (case side1 => repeat (first | exact (Kd.N_reads' HO_12.out).2.2 | (with_reducible refine Kd.C_alloc ?_ _) | (with_reducible refine Kd.C_drewN ?_ _) | (with_reducible refine Kd.C_drew ?_))); (case side2 => exact (Kd.N_reads' HO_12.out).2.1); rintro e w21 ⟨rfl, hb⟩; refine ⟨_, rfl, ?_⟩; have n0_ := Aside0.mk (Kd.N_below (by (with_reducible repeat (first | apply Kd.N_alloc | apply Kd.N_drewN | apply Kd.N_drew)); exact HO_12.out) hb); have n1_ := Aside0.mk (below_step (by repeat (first | (with_reducible first | exact HB.out | apply below_alloc | apply pw_below_drewN | apply below_drew1) | exact HB.out)) hb); clear HO_12; clear HB; have HO_12 := n0_; have HB := n1_; clear n0_ n1_; (try clear hb); (try clear hb2); (try clear hk); (try clear hi)) | ((with_reducible refine gate_callee (f := 19) rfl ?_); refine goesL_ (some 60) rfl rfl Try.func19 (by kernel_rfl) rfl #[.slice Ao20 x12_2.length co20, .int .i64 (wrap64 (Int.tmod a1 3))] rfl (by (try simp only [List.map_toArray, List.map_cons, List.map_nil]); first | done | rfl | (simp only [List.length_drop, List.length_take]; rfl)) ?_; (with_reducible refine (barscanref16_Bits.calls k2 _ _ x12_2 (wrap64 (Int.tmod a1 3)) t321 t322 _ ?side1 ?side2 A11.out).mono ?_); (case side1 => repeat (first | exact (Kd.N_reads' HO_12.out).2.2 | (with_reducible refine Kd.C_alloc ?_ _) | (with_reducible refine Kd.C_drewN ?_ _) | (with_reducible refine Kd.C_drew ?_))); (case side2 => exact (Kd.N_reads' HO_12.out).2.1); rintro e w' ⟨rfl, ⟨nd, rfl⟩⟩; refine ⟨_, rfl, ?_⟩))
         go_ret
         exact ⟨by first | rfl | (simp [errW_none, errW_some] <;> rfl) | (simp [*, errW_none, errW_some] <;> rfl), by repeat (first | (with_reducible first | exact HB.out | apply below_alloc | apply pw_below_drewN | apply below_drew1) | exact HB.out)⟩
    ·replace c6 := Bool.eq_false_iff.mpr c6
     subst c6
     have H1 : ((barscanref16_CountBits.f k1 x9_1 (wrap64 (Int.tmod a1 3))).bind fun bt324 => (if 0 ≤ (IntKind.u64.wrap (bt324.1)) then ((barscanlaw16_repeated.f k1 55 (wrap64 ((wrap64 ((shl .i64 1 (IntKind.u64.wrap (bt324.1))) - 3)) + (wrap64 (Int.tmod a2 5))))).bind fun t326 => ((some (([(⟨x9_1, t326⟩ : S33)] : List (S33)) : List (S33))).bind fun y329 => ((modes_Bits.f y329 (wrap64 (Int.tmod a1 3))).bind fun bt332 => ((barscanref16_Bits.f k1 y329 (wrap64 (Int.tmod a1 3))).bind fun bt334 => (if bt332.1 = bt334.1 then (if bt332.2 = bt334.2 then ((barscanlaw16_exampleHolds.f).bind fun t336 => (some t336)) else (some false)) else (some false)))))) else (none))) = some r := by rw [if_neg (show ¬ (false = true) by decide)] at H; exact H
     clear H
     have H := H1
     clear H1
     replace H := Option.bind_eq_some_iff.mp H
     obtain ⟨⟨t324, t325⟩, A220, H⟩ := H
     replace H : (if 0 ≤ (IntKind.u64.wrap (t324)) then ((barscanlaw16_repeated.f k1 55 (wrap64 ((wrap64 ((shl .i64 1 (IntKind.u64.wrap (t324))) - 3)) + (wrap64 (Int.tmod a2 5))))).bind fun t326 => ((some (([(⟨x9_1, t326⟩ : S33)] : List (S33)) : List (S33))).bind fun y329 => ((modes_Bits.f y329 (wrap64 (Int.tmod a1 3))).bind fun bt332 => ((barscanref16_Bits.f k1 y329 (wrap64 (Int.tmod a1 3))).bind fun bt334 => (if bt332.1 = bt334.1 then (if bt332.2 = bt334.2 then ((barscanlaw16_exampleHolds.f).bind fun t336 => (some t336)) else (some false)) else (some false)))))) else (none)) = some r := H
     have A22 := Aside0.mk A220
     clear A220
     obtain ⟨ji23, hji23⟩ : ∃ j_ : Int, (IntKind.u64.wrap (t324)) = j_ := ⟨_, rfl⟩
     replace H : (if 0 ≤ (ji23) then ((barscanlaw16_repeated.f k1 55 (wrap64 ((wrap64 ((shl .i64 1 (ji23)) - 3)) + (wrap64 (Int.tmod a2 5))))).bind fun t326 => ((some (([(⟨x9_1, t326⟩ : S33)] : List (S33)) : List (S33))).bind fun y329 => ((modes_Bits.f y329 (wrap64 (Int.tmod a1 3))).bind fun bt332 => ((barscanref16_Bits.f k1 y329 (wrap64 (Int.tmod a1 3))).bind fun bt334 => (if bt332.1 = bt334.1 then (if bt332.2 = bt334.2 then ((barscanlaw16_exampleHolds.f).bind fun t336 => (some t336)) else (some false)) else (some false)))))) else (none)) = some r := by first | (rw [hji23] at H; exact H) | (simp only [hji23] at H ⊢; exact H)
     (try rw [hji23] at A22)
     by_cases c24 : 0 ≤ (ji23)
     ·rw [if_pos c24] at H
      have c24b0 := eq_true c24
      have c24b1 : decide (0 ≤ (ji23)) = true := decide_eq_true c24
      clear c24
      obtain ⟨ji25, hji25⟩ : ∃ j_ : Int, (shl .i64 1 (ji23)) = j_ := ⟨_, rfl⟩
      replace H : ((barscanlaw16_repeated.f k1 55 (wrap64 ((wrap64 ((ji25) - 3)) + (wrap64 (Int.tmod a2 5))))).bind fun t326 => ((some (([(⟨x9_1, t326⟩ : S33)] : List (S33)) : List (S33))).bind fun y329 => ((modes_Bits.f y329 (wrap64 (Int.tmod a1 3))).bind fun bt332 => ((barscanref16_Bits.f k1 y329 (wrap64 (Int.tmod a1 3))).bind fun bt334 => (if bt332.1 = bt334.1 then (if bt332.2 = bt334.2 then ((barscanlaw16_exampleHolds.f).bind fun t336 => (some t336)) else (some false)) else (some false)))))) = some r := by first | (rw [hji25] at H; exact H) | (simp only [hji25] at H ⊢; exact H)
      (try rw [hji25] at A22)
      have hji25_ : (IntKind.i64.wrap (1 * 2 ^ min (ji23).toNat 64)) = ji25 := hji25
      have hji25z : (ji23) ≤ 64 → (IntKind.i64.wrap (1 * 2 ^ (ji23).toNat)) = ji25 := shl_small hji25
      have hji25u : (IntKind.i64.wrap (2 ^ min (ji23).toNat 64)) = ji25 := by have h_ := hji25_; rw [Int.one_mul] at h_; exact h_
      have hji25v : (ji23) ≤ 64 → (IntKind.i64.wrap (2 ^ (ji23).toNat)) = ji25 := fun hle_ => by have h_ := hji25z hle_; rw [Int.one_mul] at h_; exact h_
      have hji25y : (wrap64 (1 * 2 ^ min (ji23).toNat 64)) = ji25 := (i64_w _).symm.trans hji25_
      have hji25x : (ji23) ≤ 64 → (wrap64 (1 * 2 ^ (ji23).toNat)) = ji25 := fun h_ => (i64_w _).symm.trans (hji25z h_)
      replace H := Option.bind_eq_some_iff.mp H
      obtain ⟨t326, A260, H⟩ := H
      replace H : ((some (([(⟨x9_1, t326⟩ : S33)] : List (S33)) : List (S33))).bind fun y329 => ((modes_Bits.f y329 (wrap64 (Int.tmod a1 3))).bind fun bt332 => ((barscanref16_Bits.f k1 y329 (wrap64 (Int.tmod a1 3))).bind fun bt334 => (if bt332.1 = bt334.1 then (if bt332.2 = bt334.2 then ((barscanlaw16_exampleHolds.f).bind fun t336 => (some t336)) else (some false)) else (some false))))) = some r := H
      have A26 := Aside0.mk A260
      clear A260
      obtain ⟨y329, hy329⟩ : ∃ y_ : List (S33), y_ = (([(⟨x9_1, t326⟩ : S33)] : List (S33))) := ⟨_, rfl⟩
      replace H : ((modes_Bits.f y329 (wrap64 (Int.tmod a1 3))).bind fun bt332 => ((barscanref16_Bits.f k1 y329 (wrap64 (Int.tmod a1 3))).bind fun bt334 => (if bt332.1 = bt334.1 then (if bt332.2 = bt334.2 then ((barscanlaw16_exampleHolds.f).bind fun t336 => (some t336)) else (some false)) else (some false)))) = some r := by first | (rw [hy329]; with_reducible exact H) | (have H2_ := (Option.bind_some _ _).symm.trans H; rw [hy329]; with_reducible exact H2_) | (have H2_ := (Option.bind_some _ _).symm.trans H; with_reducible exact H2_) | with_reducible exact H | (rw [hy329]; exact H) | exact H
      have Ny329 := Aside0.mk hy329
      clear hy329
      replace H := Option.bind_eq_some_iff.mp H
      obtain ⟨⟨t332, t333⟩, A270, H⟩ := H
      replace H : ((barscanref16_Bits.f k1 y329 (wrap64 (Int.tmod a1 3))).bind fun bt334 => (if t332 = bt334.1 then (if t333 = bt334.2 then ((barscanlaw16_exampleHolds.f).bind fun t336 => (some t336)) else (some false)) else (some false))) = some r := H
      have A27 := Aside0.mk A270
      clear A270
      replace H := Option.bind_eq_some_iff.mp H
      obtain ⟨⟨t334, t335⟩, A280, H⟩ := H
      replace H : (if t332 = t334 then (if t333 = t335 then ((barscanlaw16_exampleHolds.f).bind fun t336 => (some t336)) else (some false)) else (some false)) = some r := H
      have A28 := Aside0.mk A280
      clear A280
      by_cases c29 : t332 = t334
      ·rw [if_pos c29] at H
       have c29b0 : (t332 == t334) = true := beq_iff_eq.mpr c29
       have c29b1 : (t332 != t334) = false := bne_eq_false_iff_eq.mpr c29
       clear c29
       by_cases c30 : t333 = t335
       ·rw [if_pos c30] at H
        have c30b0 : (t333 == t335) = true := beq_iff_eq.mpr c30
        have c30b1 : (t333 != t335) = false := bne_eq_false_iff_eq.mpr c30
        clear c30
        replace H := Option.bind_eq_some_iff.mp H
        obtain ⟨t336, A310, H⟩ := H
        replace H : (some t336) = some r := H
        have A31 := Aside0.mk A310
        clear A310
        obtain rfl := Option.some.inj H
        go_wp2_with (first | ((with_reducible refine gate_callee (f := 21) rfl ?_); refine goesL_ (some 77) rfl rfl Try.func21 (by kernel_rfl) rfl #[.int .i64 x9_1, .int .i64 (wrap64 (Int.tmod a1 3))] rfl (by (try simp only [List.map_toArray, List.map_cons, List.map_nil]); first | done | rfl | (simp only [List.length_drop, List.length_take]; rfl)) ?_; (with_reducible refine (barscanref16_CountBits.calls k1 x9_1 (wrap64 (Int.tmod a1 3)) t324 t325 _ A22.out).mono ?_); rintro e w' ⟨rfl, ⟨nd, rfl⟩⟩; refine ⟨_, rfl, ?_⟩) | ((with_reducible refine gate_callee (f := 22) rfl ?_); refine goesL_ (some 89) rfl rfl Try.func22 (by kernel_rfl) rfl #[.int .u8 55, .int .i64 (wrap64 ((wrap64 ((ji25) - 3)) + (wrap64 (Int.tmod a2 5))))] rfl (by (try simp only [List.map_toArray, List.map_cons, List.map_nil]); first | done | (simp only [hji25]; rfl) | rfl | (simp only [List.length_drop, List.length_take]; rfl)) ?_; (with_reducible refine (barscanlaw16_repeated.calls k1 55 (wrap64 ((wrap64 ((ji25) - 3)) + (wrap64 (Int.tmod a2 5)))) t326 _ A26.out).mono ?_); rintro e w32 ⟨v327, rfl, ho0, hb⟩; refine ⟨_, rfl, ?_⟩; have n0_ := Aside0.mk (Kd.R_lower ho0 (below_size (by repeat (first | (with_reducible first | exact HB.out | apply below_alloc | apply pw_below_drewN | apply below_drew1) | exact HB.out)))); have n1_ := Aside0.mk (below_step (by repeat (first | (with_reducible first | exact HB.out | apply below_alloc | apply pw_below_drewN | apply below_drew1) | exact HB.out)) hb); clear HB; have HO328 := n0_; have HB := n1_; clear n0_ n1_; (try clear hb); (try clear hb2); (try clear hk); (try clear hi); (try clear ho0); obtain ⟨Ao33, co33, eo33⟩ := Kd.R_slice HO328.out; subst eo33) | ((with_reducible refine gate_dst (N := 91) rfl ?_); refine Kd.N_lit k33 _ 33 ?hg (N' := 91) ?hd (xs := ([(⟨x9_1, t326⟩ : S33)] : List (S33))) (inner := [.int .i64 x9_1, .slice Ao33 t326.length co33]) (ok := (fun _ => True)) (okp := (fun _ => True)) ?hr ?hp (fun _ hk => hk) ((show ∀ k_, w32.heap.size ≤ k_ → (fun _ => True) k_ from fun k_ hk => trivial) _ (Nat.le_refl _)) (Below.refl _ _) (Nat.le_refl _) (by simp) ?_; (case hd => rfl); (case hg => rfl); (case hr => first | (go_simp; done) | (go_simp; rfl)); (case hp => exact (Reps.c2 (show Kd.FK k33 _ _ (⟨x9_1, t326⟩ : S33) [.int .i64 x9_1, .slice Ao33 t326.length co33] from (k33_mkF _ _ (⟨x9_1, t326⟩ : S33) (Kd.R_reads' (Kd.R_mono (ok' := (fun _ => True)) (HO328.out) (fun k_ hk => trivial))).2.1 (Kd.R_F (Kd.R_mono (ok' := (fun _ => True)) (HO328.out) (fun k_ hk => trivial))))) (Reps.none _ _))); intro v330 w34 ho35 hb hg_ hnew_; clear hg_ hnew_; (first | rw [← Ny329.out] at ho35 | (simp only [Int.reduceToNat] at ho35; rw [← Ny329.out] at ho35)); have n0_ := Aside0.mk (Kd.N_lower ho35 (below_size (by repeat (first | (with_reducible first | exact HB.out | apply below_alloc | apply pw_below_drewN | apply below_drew1) | exact HB.out)))); have n1_ := Aside0.mk (below_step (by repeat (first | (with_reducible first | exact HB.out | apply below_alloc | apply pw_below_drewN | apply below_drew1) | exact HB.out)) hb); clear HB; clear HO328; have HO331 := n0_; have HB := n1_; clear n0_ n1_; clear hb ho35; obtain ⟨Ao36, co36, eo36⟩ := Kd.N_slice HO331.out; subst eo36) | ((with_reducible refine gate_callee (f := 18) rfl ?_); refine goesL_ (some 95) rfl rfl Try.func18 (by kernel_rfl) rfl #[.slice Ao36 y329.length co36, .int .i64 (wrap64 (Int.tmod a1 3))] rfl (by (try simp only [List.map_toArray, List.map_cons, List.map_nil]); first | done | rfl | (simp only [List.length_drop, List.length_take]; rfl)) ?_; (with_reducible refine (modes_Bits.calls _ _ y329 (wrap64 (Int.tmod a1 3)) t332 t333 _ ?side1 ?side2 A27.out).mono ?_); (case side1 => repeat (first | exact (Kd.N_reads' HO331.out).2.2 | (with_reducible refine Kd.C_alloc ?_ _) | (with_reducible refine Kd.C_drewN ?_ _) | (with_reducible refine Kd.C_drew ?_))); (case side2 => exact (Kd.N_reads' HO331.out).2.1); rintro e w37 ⟨rfl, hb⟩; refine ⟨_, rfl, ?_⟩; have n0_ := Aside0.mk (Kd.N_below (by (with_reducible repeat (first | apply Kd.N_alloc | apply Kd.N_drewN | apply Kd.N_drew)); exact HO331.out) hb); have n1_ := Aside0.mk (below_step (by repeat (first | (with_reducible first | exact HB.out | apply below_alloc | apply pw_below_drewN | apply below_drew1) | exact HB.out)) hb); clear HO331; clear HB; have HO331 := n0_; have HB := n1_; clear n0_ n1_; (try clear hb); (try clear hb2); (try clear hk); (try clear hi)) | ((with_reducible refine gate_callee (f := 19) rfl ?_); refine goesL_ (some 101) rfl rfl Try.func19 (by kernel_rfl) rfl #[.slice Ao36 y329.length co36, .int .i64 (wrap64 (Int.tmod a1 3))] rfl (by (try simp only [List.map_toArray, List.map_cons, List.map_nil]); first | done | rfl | (simp only [List.length_drop, List.length_take]; rfl)) ?_; (with_reducible refine (barscanref16_Bits.calls k1 _ _ y329 (wrap64 (Int.tmod a1 3)) t334 t335 _ ?side1 ?side2 A28.out).mono ?_); (case side1 => repeat (first | exact (Kd.N_reads' HO331.out).2.2 | (with_reducible refine Kd.C_alloc ?_ _) | (with_reducible refine Kd.C_drewN ?_ _) | (with_reducible refine Kd.C_drew ?_))); (case side2 => exact (Kd.N_reads' HO331.out).2.1); rintro e w' ⟨rfl, ⟨nd, rfl⟩⟩; refine ⟨_, rfl, ?_⟩) | (go_at_call 20; (with_reducible refine (barscanlaw16_exampleHolds.calls  t336 _ A31.out).mono ?_); rintro e w38 ⟨rfl, hb⟩; have n0_ := Aside0.mk (Kd.N_below (by (with_reducible repeat (first | apply Kd.N_alloc | apply Kd.N_drewN | apply Kd.N_drew)); exact HO331.out) hb); have n1_ := Aside0.mk (below_step (by repeat (first | (with_reducible first | exact HB.out | apply below_alloc | apply pw_below_drewN | apply below_drew1) | exact HB.out)) hb); clear HO331; clear HB; have HO331 := n0_; have HB := n1_; clear n0_ n1_; (try clear hb); (try clear hb2); (try clear hk); (try clear hi)))
        go_ret
        exact ⟨by first | rfl | (simp [errW_none, errW_some] <;> rfl) | (simp only [← hji23, ← hji25]; first | rfl | (simp [errW_none, errW_some] <;> rfl)) | (simp [*, errW_none, errW_some] <;> rfl), by repeat (first | (with_reducible first | exact HB.out | apply below_alloc | apply pw_below_drewN | apply below_drew1) | exact HB.out)⟩
       ·rw [if_neg c30] at H
        have c30b0 : (t333 == t335) = false := beq_eq_false_iff_ne.mpr c30
        have c30b1 : (t333 != t335) = true := bne_iff_ne.mpr c30
        obtain rfl := Option.some.inj H
        go_wp2_with (first | ((with_reducible refine gate_callee (f := 21) rfl ?_); refine goesL_ (some 77) rfl rfl Try.func21 (by kernel_rfl) rfl #[.int .i64 x9_1, .int .i64 (wrap64 (Int.tmod a1 3))] rfl (by (try simp only [List.map_toArray, List.map_cons, List.map_nil]); first | done | rfl | (simp only [List.length_drop, List.length_take]; rfl)) ?_; (with_reducible refine (barscanref16_CountBits.calls k1 x9_1 (wrap64 (Int.tmod a1 3)) t324 t325 _ A22.out).mono ?_); rintro e w' ⟨rfl, ⟨nd, rfl⟩⟩; refine ⟨_, rfl, ?_⟩) | ((with_reducible refine gate_callee (f := 22) rfl ?_); refine goesL_ (some 89) rfl rfl Try.func22 (by kernel_rfl) rfl #[.int .u8 55, .int .i64 (wrap64 ((wrap64 ((ji25) - 3)) + (wrap64 (Int.tmod a2 5))))] rfl (by (try simp only [List.map_toArray, List.map_cons, List.map_nil]); first | done | (simp only [hji25]; rfl) | rfl | (simp only [List.length_drop, List.length_take]; rfl)) ?_; (with_reducible refine (barscanlaw16_repeated.calls k1 55 (wrap64 ((wrap64 ((ji25) - 3)) + (wrap64 (Int.tmod a2 5)))) t326 _ A26.out).mono ?_); rintro e w39 ⟨v327, rfl, ho0, hb⟩; refine ⟨_, rfl, ?_⟩; have n0_ := Aside0.mk (Kd.R_lower ho0 (below_size (by repeat (first | (with_reducible first | exact HB.out | apply below_alloc | apply pw_below_drewN | apply below_drew1) | exact HB.out)))); have n1_ := Aside0.mk (below_step (by repeat (first | (with_reducible first | exact HB.out | apply below_alloc | apply pw_below_drewN | apply below_drew1) | exact HB.out)) hb); clear HB; have HO328 := n0_; have HB := n1_; clear n0_ n1_; (try clear hb); (try clear hb2); (try clear hk); (try clear hi); (try clear ho0); obtain ⟨Ao40, co40, eo40⟩ := Kd.R_slice HO328.out; subst eo40) | ((with_reducible refine gate_dst (N := 91) rfl ?_); refine Kd.N_lit k33 _ 33 ?hg (N' := 91) ?hd (xs := ([(⟨x9_1, t326⟩ : S33)] : List (S33))) (inner := [.int .i64 x9_1, .slice Ao40 t326.length co40]) (ok := (fun _ => True)) (okp := (fun _ => True)) ?hr ?hp (fun _ hk => hk) ((show ∀ k_, w39.heap.size ≤ k_ → (fun _ => True) k_ from fun k_ hk => trivial) _ (Nat.le_refl _)) (Below.refl _ _) (Nat.le_refl _) (by simp) ?_; (case hd => rfl); (case hg => rfl); (case hr => first | (go_simp; done) | (go_simp; rfl)); (case hp => exact (Reps.c2 (show Kd.FK k33 _ _ (⟨x9_1, t326⟩ : S33) [.int .i64 x9_1, .slice Ao40 t326.length co40] from (k33_mkF _ _ (⟨x9_1, t326⟩ : S33) (Kd.R_reads' (Kd.R_mono (ok' := (fun _ => True)) (HO328.out) (fun k_ hk => trivial))).2.1 (Kd.R_F (Kd.R_mono (ok' := (fun _ => True)) (HO328.out) (fun k_ hk => trivial))))) (Reps.none _ _))); intro v330 w41 ho42 hb hg_ hnew_; clear hg_ hnew_; (first | rw [← Ny329.out] at ho42 | (simp only [Int.reduceToNat] at ho42; rw [← Ny329.out] at ho42)); have n0_ := Aside0.mk (Kd.N_lower ho42 (below_size (by repeat (first | (with_reducible first | exact HB.out | apply below_alloc | apply pw_below_drewN | apply below_drew1) | exact HB.out)))); have n1_ := Aside0.mk (below_step (by repeat (first | (with_reducible first | exact HB.out | apply below_alloc | apply pw_below_drewN | apply below_drew1) | exact HB.out)) hb); clear HB; clear HO328; have HO331 := n0_; have HB := n1_; clear n0_ n1_; clear hb ho42; obtain ⟨Ao43, co43, eo43⟩ := Kd.N_slice HO331.out; subst eo43) | ((with_reducible refine gate_callee (f := 18) rfl ?_); refine goesL_ (some 95) rfl rfl Try.func18 (by kernel_rfl) rfl #[.slice Ao43 y329.length co43, .int .i64 (wrap64 (Int.tmod a1 3))] rfl (by (try simp only [List.map_toArray, List.map_cons, List.map_nil]); first | done | rfl | (simp only [List.length_drop, List.length_take]; rfl)) ?_; (with_reducible refine (modes_Bits.calls _ _ y329 (wrap64 (Int.tmod a1 3)) t332 t333 _ ?side1 ?side2 A27.out).mono ?_); (case side1 => repeat (first | exact (Kd.N_reads' HO331.out).2.2 | (with_reducible refine Kd.C_alloc ?_ _) | (with_reducible refine Kd.C_drewN ?_ _) | (with_reducible refine Kd.C_drew ?_))); (case side2 => exact (Kd.N_reads' HO331.out).2.1); rintro e w44 ⟨rfl, hb⟩; refine ⟨_, rfl, ?_⟩; have n0_ := Aside0.mk (Kd.N_below (by (with_reducible repeat (first | apply Kd.N_alloc | apply Kd.N_drewN | apply Kd.N_drew)); exact HO331.out) hb); have n1_ := Aside0.mk (below_step (by repeat (first | (with_reducible first | exact HB.out | apply below_alloc | apply pw_below_drewN | apply below_drew1) | exact HB.out)) hb); clear HO331; clear HB; have HO331 := n0_; have HB := n1_; clear n0_ n1_; (try clear hb); (try clear hb2); (try clear hk); (try clear hi)) | ((with_reducible refine gate_callee (f := 19) rfl ?_); refine goesL_ (some 101) rfl rfl Try.func19 (by kernel_rfl) rfl #[.slice Ao43 y329.length co43, .int .i64 (wrap64 (Int.tmod a1 3))] rfl (by (try simp only [List.map_toArray, List.map_cons, List.map_nil]); first | done | rfl | (simp only [List.length_drop, List.length_take]; rfl)) ?_; (with_reducible refine (barscanref16_Bits.calls k1 _ _ y329 (wrap64 (Int.tmod a1 3)) t334 t335 _ ?side1 ?side2 A28.out).mono ?_); (case side1 => repeat (first | exact (Kd.N_reads' HO331.out).2.2 | (with_reducible refine Kd.C_alloc ?_ _) | (with_reducible refine Kd.C_drewN ?_ _) | (with_reducible refine Kd.C_drew ?_))); (case side2 => exact (Kd.N_reads' HO331.out).2.1); rintro e w' ⟨rfl, ⟨nd, rfl⟩⟩; refine ⟨_, rfl, ?_⟩))
        go_ret
        exact ⟨by first | rfl | (simp [errW_none, errW_some] <;> rfl) | (simp only [← hji23, ← hji25]; first | rfl | (simp [errW_none, errW_some] <;> rfl)) | (simp [*, errW_none, errW_some] <;> rfl), by repeat (first | (with_reducible first | exact HB.out | apply below_alloc | apply pw_below_drewN | apply below_drew1) | exact HB.out)⟩
      ·rw [if_neg c29] at H
       have c29b0 : (t332 == t334) = false := beq_eq_false_iff_ne.mpr c29
       have c29b1 : (t332 != t334) = true := bne_iff_ne.mpr c29
       obtain rfl := Option.some.inj H
       go_wp2_with (first | ((with_reducible refine gate_callee (f := 21) rfl ?_); refine goesL_ (some 77) rfl rfl Try.func21 (by kernel_rfl) rfl #[.int .i64 x9_1, .int .i64 (wrap64 (Int.tmod a1 3))] rfl (by (try simp only [List.map_toArray, List.map_cons, List.map_nil]); first | done | rfl | (simp only [List.length_drop, List.length_take]; rfl)) ?_; (with_reducible refine (barscanref16_CountBits.calls k1 x9_1 (wrap64 (Int.tmod a1 3)) t324 t325 _ A22.out).mono ?_); rintro e w' ⟨rfl, ⟨nd, rfl⟩⟩; refine ⟨_, rfl, ?_⟩) | ((with_reducible refine gate_callee (f := 22) rfl ?_); refine goesL_ (some 89) rfl rfl Try.func22 (by kernel_rfl) rfl #[.int .u8 55, .int .i64 (wrap64 ((wrap64 ((ji25) - 3)) + (wrap64 (Int.tmod a2 5))))] rfl (by (try simp only [List.map_toArray, List.map_cons, List.map_nil]); first | done | (simp only [hji25]; rfl) | rfl | (simp only [List.length_drop, List.length_take]; rfl)) ?_; (with_reducible refine (barscanlaw16_repeated.calls k1 55 (wrap64 ((wrap64 ((ji25) - 3)) + (wrap64 (Int.tmod a2 5)))) t326 _ A26.out).mono ?_); rintro e w45 ⟨v327, rfl, ho0, hb⟩; refine ⟨_, rfl, ?_⟩; have n0_ := Aside0.mk (Kd.R_lower ho0 (below_size (by repeat (first | (with_reducible first | exact HB.out | apply below_alloc | apply pw_below_drewN | apply below_drew1) | exact HB.out)))); have n1_ := Aside0.mk (below_step (by repeat (first | (with_reducible first | exact HB.out | apply below_alloc | apply pw_below_drewN | apply below_drew1) | exact HB.out)) hb); clear HB; have HO328 := n0_; have HB := n1_; clear n0_ n1_; (try clear hb); (try clear hb2); (try clear hk); (try clear hi); (try clear ho0); obtain ⟨Ao46, co46, eo46⟩ := Kd.R_slice HO328.out; subst eo46) | ((with_reducible refine gate_dst (N := 91) rfl ?_); refine Kd.N_lit k33 _ 33 ?hg (N' := 91) ?hd (xs := ([(⟨x9_1, t326⟩ : S33)] : List (S33))) (inner := [.int .i64 x9_1, .slice Ao46 t326.length co46]) (ok := (fun _ => True)) (okp := (fun _ => True)) ?hr ?hp (fun _ hk => hk) ((show ∀ k_, w45.heap.size ≤ k_ → (fun _ => True) k_ from fun k_ hk => trivial) _ (Nat.le_refl _)) (Below.refl _ _) (Nat.le_refl _) (by simp) ?_; (case hd => rfl); (case hg => rfl); (case hr => first | (go_simp; done) | (go_simp; rfl)); (case hp => exact (Reps.c2 (show Kd.FK k33 _ _ (⟨x9_1, t326⟩ : S33) [.int .i64 x9_1, .slice Ao46 t326.length co46] from (k33_mkF _ _ (⟨x9_1, t326⟩ : S33) (Kd.R_reads' (Kd.R_mono (ok' := (fun _ => True)) (HO328.out) (fun k_ hk => trivial))).2.1 (Kd.R_F (Kd.R_mono (ok' := (fun _ => True)) (HO328.out) (fun k_ hk => trivial))))) (Reps.none _ _))); intro v330 w47 ho48 hb hg_ hnew_; clear hg_ hnew_; (first | rw [← Ny329.out] at ho48 | (simp only [Int.reduceToNat] at ho48; rw [← Ny329.out] at ho48)); have n0_ := Aside0.mk (Kd.N_lower ho48 (below_size (by repeat (first | (with_reducible first | exact HB.out | apply below_alloc | apply pw_below_drewN | apply below_drew1) | exact HB.out)))); have n1_ := Aside0.mk (below_step (by repeat (first | (with_reducible first | exact HB.out | apply below_alloc | apply pw_below_drewN | apply below_drew1) | exact HB.out)) hb); clear HB; clear HO328; have HO331 := n0_; have HB := n1_; clear n0_ n1_; clear hb ho48; obtain ⟨Ao49, co49, eo49⟩ := Kd.N_slice HO331.out; subst eo49) | ((with_reducible refine gate_callee (f := 18) rfl ?_); refine goesL_ (some 95) rfl rfl Try.func18 (by kernel_rfl) rfl #[.slice Ao49 y329.length co49, .int .i64 (wrap64 (Int.tmod a1 3))] rfl (by (try simp only [List.map_toArray, List.map_cons, List.map_nil]); first | done | rfl | (simp only [List.length_drop, List.length_take]; rfl)) ?_; (with_reducible refine (modes_Bits.calls _ _ y329 (wrap64 (Int.tmod a1 3)) t332 t333 _ ?side1 ?side2 A27.out).mono ?_); (case side1 => repeat (first | exact (Kd.N_reads' HO331.out).2.2 | (with_reducible refine Kd.C_alloc ?_ _) | (with_reducible refine Kd.C_drewN ?_ _) | (with_reducible refine Kd.C_drew ?_))); (case side2 => exact (Kd.N_reads' HO331.out).2.1); rintro e w50 ⟨rfl, hb⟩; refine ⟨_, rfl, ?_⟩; have n0_ := Aside0.mk (Kd.N_below (by (with_reducible repeat (first | apply Kd.N_alloc | apply Kd.N_drewN | apply Kd.N_drew)); exact HO331.out) hb); have n1_ := Aside0.mk (below_step (by repeat (first | (with_reducible first | exact HB.out | apply below_alloc | apply pw_below_drewN | apply below_drew1) | exact HB.out)) hb); clear HO331; clear HB; have HO331 := n0_; have HB := n1_; clear n0_ n1_; (try clear hb); (try clear hb2); (try clear hk); (try clear hi)) | ((with_reducible refine gate_callee (f := 19) rfl ?_); refine goesL_ (some 101) rfl rfl Try.func19 (by kernel_rfl) rfl #[.slice Ao49 y329.length co49, .int .i64 (wrap64 (Int.tmod a1 3))] rfl (by (try simp only [List.map_toArray, List.map_cons, List.map_nil]); first | done | rfl | (simp only [List.length_drop, List.length_take]; rfl)) ?_; (with_reducible refine (barscanref16_Bits.calls k1 _ _ y329 (wrap64 (Int.tmod a1 3)) t334 t335 _ ?side1 ?side2 A28.out).mono ?_); (case side1 => repeat (first | exact (Kd.N_reads' HO331.out).2.2 | (with_reducible refine Kd.C_alloc ?_ _) | (with_reducible refine Kd.C_drewN ?_ _) | (with_reducible refine Kd.C_drew ?_))); (case side2 => exact (Kd.N_reads' HO331.out).2.1); rintro e w' ⟨rfl, ⟨nd, rfl⟩⟩; refine ⟨_, rfl, ?_⟩))
       go_ret
       exact ⟨by first | rfl | (simp [errW_none, errW_some] <;> rfl) | (simp only [← hji23, ← hji25]; first | rfl | (simp [errW_none, errW_some] <;> rfl)) | (simp [*, errW_none, errW_some] <;> rfl), by repeat (first | (with_reducible first | exact HB.out | apply below_alloc | apply pw_below_drewN | apply below_drew1) | exact HB.out)⟩
     ·rw [if_neg c24] at H
      exact absurd H (by simp)

/-- THE ONE PURE STATEMENT of barscanlaw16_ModesLimits: yours. -/
def barscanlaw16_ModesLimits.Pure : Prop := ∀ (a0 : Int) (a1 : Int) (a2 : Int) (a3 : Bool), (Lit.int .u8 a0).wf = true → (Lit.int .u8 a1).wf = true → (Lit.int .u8 a2).wf = true → ∃ k, barscanlaw16_ModesLimits.f k a0 a1 a2 a3 = some true
theorem barscanlaw16_ModesLimits.walk (P : barscanlaw16_ModesLimits.Pure) (a0 : Int) (a1 : Int) (a2 : Int) (a3 : Bool) (w : World) (w0 : (Lit.int .u8 a0).wf = true) (w1 : (Lit.int .u8 a1).wf = true) (w2 : (Lit.int .u8 a2).wf = true) :
  Calls Try.prog 4 #[.int .u8 a0, .int .u8 a1, .int .u8 a2, .bool a3] w fun e w' => e = .returned (.bool true) ∧ Below w.heap.size w w' := by
 obtain ⟨k, h⟩ := P a0 a1 a2 a3 w0 w1 w2
 refine (barscanlaw16_ModesLimits.calls k a0 a1 a2 a3 true w h).mono ?_
 rintro e w' ⟨rfl, hd⟩
 exact ⟨rfl, hd⟩

end Go.Proofs.Ytagmncdbiljacaa.X
