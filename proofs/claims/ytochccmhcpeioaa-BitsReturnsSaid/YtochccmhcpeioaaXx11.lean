/- Functions of the program as Lean functions, and proofs that their calls come to them (printed for this claim by the session's own program). No condition beyond each theorem's own hypotheses. -/
import Derived.Test.YtochccmhcpeioaaXx0
import Derived.Test.YtochccmhcpeioaaXx1
import Derived.Test.YtochccmhcpeioaaXx2
import Derived.Test.YtochccmhcpeioaaXx3
import Derived.Test.YtochccmhcpeioaaXx9
import Derived.Test.YtochccmhcpeioaaYAlive
namespace Go.Proofs.Ytochccmhcpeioaa.X
open Go.RowKit Go.Proofs.YtochccmhcpeioaaW.PrintWords Go.Proofs.YtochccmhcpeioaaW.PrintLast Go.Proofs.YtochccmhcpeioaaW.PrintMore
attribute [local go_sem] max2_int min2_int max_two min_two max_three min_three max_four min_four   -- for this text's walks alone
set_option linter.unusedVariables false
set_option linter.unusedSimpArgs false

/-! ### barscanlaw01_BitsReturns: function 11 -/
mutual
def barscanlaw01_BitsReturns.j0 : Nat → List Bool → Int → Bool → Bool → Option (Bool)
  | 0, _, _, _, _ => none
  | k + 1, x0, x1, x2, x58 => if x58 = true then (some false) else ((bits_Words.f x0 x1 x2).bind fun bt341 => (if bt341.2 = 0 then ((bits_FromWords.f k bt341.1 x1).bind fun bt347 => (if bt347.2 = 0 then (if (bt347.1.length : Int) < (x0.length : Int) then (barscanlaw01_BitsReturns.j1 k x0 x2 bt347.1 true) else (if (bt347.1.length : Int) ≥ (wrap64 ((x0.length : Int) + x1)) then (barscanlaw01_BitsReturns.j1 k x0 x2 bt347.1 true) else (if 0 ≤ (x0.length : Int) then (if (x0.length : Int) ≤ (bt347.1.length : Int) then ((barscanref01_Same.f k (bt347.1.take ((x0.length : Int) : Int).toNat) x0).bind fun t355 => (barscanlaw01_BitsReturns.j1 k x0 x2 bt347.1 (!t355))) else (none)) else (none)))) else (barscanlaw01_BitsReturns.j1 k x0 x2 bt347.1 true))) else (if x1 < 1 then ((barscanlaw01_alive.f).bind fun t345 => (some t345)) else (if x1 > 62 then ((barscanlaw01_alive.f).bind fun t346 => (some t346)) else (some false)))))
def barscanlaw01_BitsReturns.j1 : Nat → List Bool → Bool → List Bool → Bool → Option (Bool)
  | 0, _, _, _, _ => none
  | k + 1, x0, x2, x13, x109 => if x109 = true then (some false) else (barscanlaw01_BitsReturns.l0 k x2 x13 (x0.length : Int))
def barscanlaw01_BitsReturns.l0 : Nat → Bool → List Bool → Int → Option (Bool)
  | 0, _, _, _ => none
  | k + 1, x2, x13, x15 => if x15 < (x13.length : Int) then (if 0 ≤ x15 then (if ((rdOf false x13 x15) != x2) = true then (some false) else (barscanlaw01_BitsReturns.l0 k x2 x13 (wrap64 (x15 + 1)))) else (none)) else ((barscanlaw01_alive.f).bind fun t357 => (some t357))
end
def barscanlaw01_BitsReturns.f (k : Nat) (l0 : List Bool) (a1 : Int) (a2 : Bool) : Option (Bool) := if (l0.length : Int) > 2000 then ((barscanlaw01_alive.f).bind fun t325 => (some t325)) else ((bits_Bytes.f k l0).bind fun t326 => ((bits_FromBytes.f k t326 (l0.length : Int)).bind fun bt329 => ((bits_Format.f k l0).bind fun t333 => ((bits_Parse.f k t333).bind fun bt334 => (if bt329.2 = 0 then (if bt334.2 = 0 then ((barscanref01_Same.f k l0 bt329.1).bind fun t338 => (if t338 = true then ((barscanref01_Same.f k l0 bt334.1).bind fun t339 => (if t339 = true then ((bits_Weight.f k l0).bind fun t340 => (barscanlaw01_BitsReturns.j0 k l0 a1 a2 (decide (t340 > (l0.length : Int))))) else (barscanlaw01_BitsReturns.j0 k l0 a1 a2 true))) else (barscanlaw01_BitsReturns.j0 k l0 a1 a2 true))) else (barscanlaw01_BitsReturns.j0 k l0 a1 a2 true)) else (barscanlaw01_BitsReturns.j0 k l0 a1 a2 true))))))
theorem barscanlaw01_BitsReturns.mono_l : ∀ k, (∀ y0 y1 y2 y3, LeO (barscanlaw01_BitsReturns.j0 k y0 y1 y2 y3) (barscanlaw01_BitsReturns.j0 (k + 1) y0 y1 y2 y3)) ∧ (∀ y0 y1 y2 y3, LeO (barscanlaw01_BitsReturns.j1 k y0 y1 y2 y3) (barscanlaw01_BitsReturns.j1 (k + 1) y0 y1 y2 y3)) ∧ (∀ y0 y1 y2, LeO (barscanlaw01_BitsReturns.l0 k y0 y1 y2) (barscanlaw01_BitsReturns.l0 (k + 1) y0 y1 y2))
  | 0 => ⟨fun _ _ _ _ r h => by simp [barscanlaw01_BitsReturns.j0] at h, fun _ _ _ _ r h => by simp [barscanlaw01_BitsReturns.j1] at h, fun _ _ _ r h => by simp [barscanlaw01_BitsReturns.l0] at h⟩
  | k + 1 => by
    obtain ⟨ih0, ih1, ih2⟩ := barscanlaw01_BitsReturns.mono_l k
    refine ⟨?_, ?_, ?_⟩
    · intro y0 y1 y2 y3
      unfold barscanlaw01_BitsReturns.j0
      repeat' first
      | (with_reducible exact ih0 _ _ _ _)
      | (with_reducible exact ih1 _ _ _ _)
      | (with_reducible exact ih2 _ _ _)
      | (with_reducible exact barscanref01_Same.mono _ _ _)
      | (with_reducible exact bits_Bytes.mono _ _)
      | (with_reducible exact bits_Format.mono _ _)
      | (with_reducible exact bits_FromBytes.mono _ _ _)
      | (with_reducible exact bits_FromWords.mono _ _ _)
      | (with_reducible exact bits_Parse.mono _ _)
      | (with_reducible exact bits_Weight.mono _ _)
      | (with_reducible exact LeO.refl _)
      | (with_reducible exact LeO.none _)
      | (with_reducible refine LeO.ite ?_ ?_)
      | (with_reducible refine LeO.bind ?_ (fun _ => ?_))
      | exact ih0 _ _ _ _
      | exact ih1 _ _ _ _
      | exact ih2 _ _ _
      | exact barscanref01_Same.mono _ _ _
      | exact bits_Bytes.mono _ _
      | exact bits_Format.mono _ _
      | exact bits_FromBytes.mono _ _ _
      | exact bits_FromWords.mono _ _ _
      | exact bits_Parse.mono _ _
      | exact bits_Weight.mono _ _
      | exact LeO.none _
      | refine LeO.ite ?_ ?_
      | refine LeO.bind ?_ (fun _ => ?_)
    · intro y0 y1 y2 y3
      unfold barscanlaw01_BitsReturns.j1
      repeat' first
      | (with_reducible exact ih0 _ _ _ _)
      | (with_reducible exact ih1 _ _ _ _)
      | (with_reducible exact ih2 _ _ _)
      | (with_reducible exact barscanref01_Same.mono _ _ _)
      | (with_reducible exact bits_Bytes.mono _ _)
      | (with_reducible exact bits_Format.mono _ _)
      | (with_reducible exact bits_FromBytes.mono _ _ _)
      | (with_reducible exact bits_FromWords.mono _ _ _)
      | (with_reducible exact bits_Parse.mono _ _)
      | (with_reducible exact bits_Weight.mono _ _)
      | (with_reducible exact LeO.refl _)
      | (with_reducible exact LeO.none _)
      | (with_reducible refine LeO.ite ?_ ?_)
      | (with_reducible refine LeO.bind ?_ (fun _ => ?_))
      | exact ih0 _ _ _ _
      | exact ih1 _ _ _ _
      | exact ih2 _ _ _
      | exact barscanref01_Same.mono _ _ _
      | exact bits_Bytes.mono _ _
      | exact bits_Format.mono _ _
      | exact bits_FromBytes.mono _ _ _
      | exact bits_FromWords.mono _ _ _
      | exact bits_Parse.mono _ _
      | exact bits_Weight.mono _ _
      | exact LeO.none _
      | refine LeO.ite ?_ ?_
      | refine LeO.bind ?_ (fun _ => ?_)
    · intro y0 y1 y2
      unfold barscanlaw01_BitsReturns.l0
      repeat' first
      | (with_reducible exact ih0 _ _ _ _)
      | (with_reducible exact ih1 _ _ _ _)
      | (with_reducible exact ih2 _ _ _)
      | (with_reducible exact barscanref01_Same.mono _ _ _)
      | (with_reducible exact bits_Bytes.mono _ _)
      | (with_reducible exact bits_Format.mono _ _)
      | (with_reducible exact bits_FromBytes.mono _ _ _)
      | (with_reducible exact bits_FromWords.mono _ _ _)
      | (with_reducible exact bits_Parse.mono _ _)
      | (with_reducible exact bits_Weight.mono _ _)
      | (with_reducible exact LeO.refl _)
      | (with_reducible exact LeO.none _)
      | (with_reducible refine LeO.ite ?_ ?_)
      | (with_reducible refine LeO.bind ?_ (fun _ => ?_))
      | exact ih0 _ _ _ _
      | exact ih1 _ _ _ _
      | exact ih2 _ _ _
      | exact barscanref01_Same.mono _ _ _
      | exact bits_Bytes.mono _ _
      | exact bits_Format.mono _ _
      | exact bits_FromBytes.mono _ _ _
      | exact bits_FromWords.mono _ _ _
      | exact bits_Parse.mono _ _
      | exact bits_Weight.mono _ _
      | exact LeO.none _
      | refine LeO.ite ?_ ?_
      | refine LeO.bind ?_ (fun _ => ?_)
theorem barscanlaw01_BitsReturns.mono : ∀ a0 a1 a2 k, LeO (barscanlaw01_BitsReturns.f k a0 a1 a2) (barscanlaw01_BitsReturns.f (k + 1) a0 a1 a2) := by
  intro a0 a1 a2 k
  obtain ⟨ih0, ih1, ih2⟩ := barscanlaw01_BitsReturns.mono_l k
  unfold barscanlaw01_BitsReturns.f
  repeat' first
      | (with_reducible exact ih0 _ _ _ _)
      | (with_reducible exact ih1 _ _ _ _)
      | (with_reducible exact ih2 _ _ _)
      | (with_reducible exact barscanref01_Same.mono _ _ _)
      | (with_reducible exact bits_Bytes.mono _ _)
      | (with_reducible exact bits_Format.mono _ _)
      | (with_reducible exact bits_FromBytes.mono _ _ _)
      | (with_reducible exact bits_FromWords.mono _ _ _)
      | (with_reducible exact bits_Parse.mono _ _)
      | (with_reducible exact bits_Weight.mono _ _)
      | (with_reducible exact LeO.refl _)
      | (with_reducible exact LeO.none _)
      | (with_reducible refine LeO.ite ?_ ?_)
      | (with_reducible refine LeO.bind ?_ (fun _ => ?_))
      | exact ih0 _ _ _ _
      | exact ih1 _ _ _ _
      | exact ih2 _ _ _
      | exact barscanref01_Same.mono _ _ _
      | exact bits_Bytes.mono _ _
      | exact bits_Format.mono _ _
      | exact bits_FromBytes.mono _ _ _
      | exact bits_FromWords.mono _ _ _
      | exact bits_Parse.mono _ _
      | exact bits_Weight.mono _ _
      | exact LeO.none _
      | refine LeO.ite ?_ ?_
      | refine LeO.bind ?_ (fun _ => ?_)
set_option maxHeartbeats 8000000 in
set_option maxRecDepth 100000 in
theorem barscanlaw01_BitsReturns.calls (k : Nat) (A0 : Option Addr) (c0 : Nat) (l0 : List Bool) (a1 : Int) (a2 : Bool) (r : Bool) (w : World) (hr0 : Kd.C Kd.bool w A0 l0.length l0) (hc0 : l0.length ≤ c0) (h : barscanlaw01_BitsReturns.f k l0 a1 a2 = some r) :
    Calls Try.prog 11 #[.slice A0 l0.length c0, .int .i64 a1, .bool a2] w fun e w' => e = .returned (.bool r) ∧ Below w.heap.size w w' := by
  have HR0 := Aside0.mk hr0
  have HC0 := Aside0.mk hc0
  clear hr0 hc0
  have HB := Aside0.mk (Below.refl w.heap.size w)
  have H : (if (l0.length : Int) > 2000 then ((barscanlaw01_alive.f).bind fun t325 => (some t325)) else ((bits_Bytes.f k l0).bind fun t326 => ((bits_FromBytes.f k t326 (l0.length : Int)).bind fun bt329 => ((bits_Format.f k l0).bind fun t333 => ((bits_Parse.f k t333).bind fun bt334 => (if bt329.2 = 0 then (if bt334.2 = 0 then ((barscanref01_Same.f k l0 bt329.1).bind fun t338 => (if t338 = true then ((barscanref01_Same.f k l0 bt334.1).bind fun t339 => (if t339 = true then ((bits_Weight.f k l0).bind fun t340 => (barscanlaw01_BitsReturns.j0 k l0 a1 a2 (decide (t340 > (l0.length : Int))))) else (barscanlaw01_BitsReturns.j0 k l0 a1 a2 true))) else (barscanlaw01_BitsReturns.j0 k l0 a1 a2 true))) else (barscanlaw01_BitsReturns.j0 k l0 a1 a2 true)) else (barscanlaw01_BitsReturns.j0 k l0 a1 a2 true))))))) = some r := h
  clear h
  by_cases c4 : (l0.length : Int) > 2000
  · rw [if_pos c4] at H
    have c4b0 : decide (2000 < (l0.length : Int)) = true := decide_eq_true c4
    have c4b1 : decide (2000 < l0.length) = true := decide_eq_true (by omega)
    clear c4
    replace H := Option.bind_eq_some_iff.mp H
    obtain ⟨t325, A50, H⟩ := H
    replace H : (some t325) = some r := H
    have A5 := Aside0.mk A50
    clear A50
    obtain rfl := Option.some.inj H
    go_enter Try.func11, Try.ntmps11
    go_wp2_with (first | ((with_reducible refine gate_callee (f := 12) rfl ?_); refine goesL_ (some 19) rfl rfl Try.func12 (by kernel_rfl) rfl #[] rfl (by (try simp only [List.map_toArray, List.map_cons, List.map_nil]); first | done | rfl | (simp only [List.length_drop, List.length_take]; rfl)) ?_; (with_reducible refine (barscanlaw01_alive.calls  t325 _ A5.out).mono ?_); rintro e w6 ⟨rfl, hb⟩; refine ⟨_, rfl, ?_⟩; have n0_ := Aside0.mk (below_step (by repeat (first | (with_reducible first | exact HB.out | apply below_alloc | apply pw_below_drewN | apply below_drew1) | exact HB.out)) hb); clear HB; have HB := n0_; clear n0_; (try clear hb); (try clear hb2); (try clear hk); (try clear hi)))
    go_ret
    exact ⟨by first | rfl | (simp [errW_none, errW_some] <;> rfl) | (simp [*, errW_none, errW_some] <;> rfl), by repeat (first | (with_reducible first | exact HB.out | apply below_alloc | apply pw_below_drewN | apply below_drew1) | exact HB.out)⟩
  · rw [if_neg c4] at H
    have c4b0 : decide (2000 < (l0.length : Int)) = false := decide_eq_false c4
    have c4b1 : decide (2000 < l0.length) = false := decide_eq_false (by omega)
    clear c4
    replace H := Option.bind_eq_some_iff.mp H
    obtain ⟨t326, A70, H⟩ := H
    replace H : ((bits_FromBytes.f k t326 (l0.length : Int)).bind fun bt329 => ((bits_Format.f k l0).bind fun t333 => ((bits_Parse.f k t333).bind fun bt334 => (if bt329.2 = 0 then (if bt334.2 = 0 then ((barscanref01_Same.f k l0 bt329.1).bind fun t338 => (if t338 = true then ((barscanref01_Same.f k l0 bt334.1).bind fun t339 => (if t339 = true then ((bits_Weight.f k l0).bind fun t340 => (barscanlaw01_BitsReturns.j0 k l0 a1 a2 (decide (t340 > (l0.length : Int))))) else (barscanlaw01_BitsReturns.j0 k l0 a1 a2 true))) else (barscanlaw01_BitsReturns.j0 k l0 a1 a2 true))) else (barscanlaw01_BitsReturns.j0 k l0 a1 a2 true)) else (barscanlaw01_BitsReturns.j0 k l0 a1 a2 true))))) = some r := H
    have A7 := Aside0.mk A70
    clear A70
    replace H := Option.bind_eq_some_iff.mp H
    obtain ⟨⟨t329, t330⟩, A80, H⟩ := H
    replace H : ((bits_Format.f k l0).bind fun t333 => ((bits_Parse.f k t333).bind fun bt334 => (if t330 = 0 then (if bt334.2 = 0 then ((barscanref01_Same.f k l0 t329).bind fun t338 => (if t338 = true then ((barscanref01_Same.f k l0 bt334.1).bind fun t339 => (if t339 = true then ((bits_Weight.f k l0).bind fun t340 => (barscanlaw01_BitsReturns.j0 k l0 a1 a2 (decide (t340 > (l0.length : Int))))) else (barscanlaw01_BitsReturns.j0 k l0 a1 a2 true))) else (barscanlaw01_BitsReturns.j0 k l0 a1 a2 true))) else (barscanlaw01_BitsReturns.j0 k l0 a1 a2 true)) else (barscanlaw01_BitsReturns.j0 k l0 a1 a2 true)))) = some r := H
    have A8 := Aside0.mk A80
    clear A80
    replace H := Option.bind_eq_some_iff.mp H
    obtain ⟨t333, A90, H⟩ := H
    replace H : ((bits_Parse.f k t333).bind fun bt334 => (if t330 = 0 then (if bt334.2 = 0 then ((barscanref01_Same.f k l0 t329).bind fun t338 => (if t338 = true then ((barscanref01_Same.f k l0 bt334.1).bind fun t339 => (if t339 = true then ((bits_Weight.f k l0).bind fun t340 => (barscanlaw01_BitsReturns.j0 k l0 a1 a2 (decide (t340 > (l0.length : Int))))) else (barscanlaw01_BitsReturns.j0 k l0 a1 a2 true))) else (barscanlaw01_BitsReturns.j0 k l0 a1 a2 true))) else (barscanlaw01_BitsReturns.j0 k l0 a1 a2 true)) else (barscanlaw01_BitsReturns.j0 k l0 a1 a2 true))) = some r := H
    have A9 := Aside0.mk A90
    clear A90
    replace H := Option.bind_eq_some_iff.mp H
    obtain ⟨⟨t334, t335⟩, A100, H⟩ := H
    replace H : (if t330 = 0 then (if t335 = 0 then ((barscanref01_Same.f k l0 t329).bind fun t338 => (if t338 = true then ((barscanref01_Same.f k l0 t334).bind fun t339 => (if t339 = true then ((bits_Weight.f k l0).bind fun t340 => (barscanlaw01_BitsReturns.j0 k l0 a1 a2 (decide (t340 > (l0.length : Int))))) else (barscanlaw01_BitsReturns.j0 k l0 a1 a2 true))) else (barscanlaw01_BitsReturns.j0 k l0 a1 a2 true))) else (barscanlaw01_BitsReturns.j0 k l0 a1 a2 true)) else (barscanlaw01_BitsReturns.j0 k l0 a1 a2 true)) = some r := H
    have A10 := Aside0.mk A100
    clear A100
    have HC11 := Aside0.mk H
    clear H
    go_enter Try.func11, Try.ntmps11
    go_upto_region 5 with (first | ((with_reducible refine gate_callee (f := 36) rfl ?_); refine goesL_ (some 22) rfl rfl Try.func36 (by kernel_rfl) rfl #[.slice A0 l0.length c0] rfl (by (try simp only [List.map_toArray, List.map_cons, List.map_nil]); first | done | rfl | (simp only [List.length_drop, List.length_take]; rfl)) ?_; (with_reducible refine (bits_Bytes.calls k _ _ l0 t326 _ ?side1 ?side2 A7.out).mono ?_); (case side1 => repeat (first | exact HR0.out | (with_reducible refine Kd.C_alloc ?_ _) | (with_reducible refine Kd.C_drewN ?_ _) | (with_reducible refine Kd.C_drew ?_))); (case side2 => exact HC0.out); rintro e w12 ⟨v327, rfl, ho0, hb⟩; refine ⟨_, rfl, ?_⟩; have n0_ := Aside0.mk (Kd.R_lower ho0 (below_size (by repeat (first | (with_reducible first | exact HB.out | apply below_alloc | apply pw_below_drewN | apply below_drew1) | exact HB.out)))); have n1_ := Aside0.mk (below_step (by repeat (first | (with_reducible first | exact HB.out | apply below_alloc | apply pw_below_drewN | apply below_drew1) | exact HB.out)) hb); clear HB; have HO328 := n0_; have HB := n1_; clear n0_ n1_; (try clear hb); (try clear hb2); (try clear hk); (try clear hi); (try clear ho0); obtain ⟨Ao13, co13, eo13⟩ := Kd.R_slice HO328.out; subst eo13) | ((with_reducible refine gate_callee (f := 34) rfl ?_); refine goesL_ (some 25) rfl rfl Try.func34 (by kernel_rfl) rfl #[.slice Ao13 t326.length co13, .int .i64 (l0.length : Int)] rfl (by (try simp only [List.map_toArray, List.map_cons, List.map_nil]); first | done | rfl | (simp only [List.length_drop, List.length_take]; rfl)) ?_; (with_reducible refine (bits_FromBytes.calls k _ _ t326 (l0.length : Int) t329 t330 _ ?side1 ?side2 A8.out).mono ?_); (case side1 => repeat (first | exact (Kd.R_reads' HO328.out).2.2 | (with_reducible refine Kd.C_alloc ?_ _) | (with_reducible refine Kd.C_drewN ?_ _) | (with_reducible refine Kd.C_drew ?_))); (case side2 => exact (Kd.R_reads' HO328.out).2.1); rintro e w14 ⟨v331, rfl, ho0, hb⟩; refine ⟨_, rfl, ?_⟩; have n0_ := Aside0.mk (Kd.R_below (by (with_reducible repeat (first | apply Kd.R_alloc | apply Kd.R_drewN | apply Kd.R_drew)); exact HO328.out) hb); have n1_ := Aside0.mk (Kd.R_lower ho0 (below_size (by repeat (first | (with_reducible first | exact HB.out | apply below_alloc | apply pw_below_drewN | apply below_drew1) | exact HB.out)))); have n2_ := Aside0.mk (below_step (by repeat (first | (with_reducible first | exact HB.out | apply below_alloc | apply pw_below_drewN | apply below_drew1) | exact HB.out)) hb); clear HO328; clear HB; have HO328 := n0_; have HO332 := n1_; have HB := n2_; clear n0_ n1_ n2_; (try clear hb); (try clear hb2); (try clear hk); (try clear hi); (try clear ho0)) | ((with_reducible refine gate_callee (f := 30) rfl ?_); refine goesL_ (some 30) rfl rfl Try.func30 (by kernel_rfl) rfl #[.slice A0 l0.length c0] rfl (by (try simp only [List.map_toArray, List.map_cons, List.map_nil]); first | done | rfl | (simp only [List.length_drop, List.length_take]; rfl)) ?_; (with_reducible refine (bits_Format.calls k _ _ l0 t333 _ ?side1 ?side2 A9.out).mono ?_); (case side1 => repeat (first | exact (Kd.C_below HR0.out HB.out) | (with_reducible refine Kd.C_alloc ?_ _) | (with_reducible refine Kd.C_drewN ?_ _) | (with_reducible refine Kd.C_drew ?_))); (case side2 => exact HC0.out); rintro e w15 ⟨rfl, hb⟩; refine ⟨_, rfl, ?_⟩; have n0_ := Aside0.mk (Kd.R_below (by (with_reducible repeat (first | apply Kd.R_alloc | apply Kd.R_drewN | apply Kd.R_drew)); exact HO328.out) hb); have n1_ := Aside0.mk (Kd.R_below (by (with_reducible repeat (first | apply Kd.R_alloc | apply Kd.R_drewN | apply Kd.R_drew)); exact HO332.out) hb); have n2_ := Aside0.mk (below_step (by repeat (first | (with_reducible first | exact HB.out | apply below_alloc | apply pw_below_drewN | apply below_drew1) | exact HB.out)) hb); clear HO328; clear HO332; clear HB; have HO328 := n0_; have HO332 := n1_; have HB := n2_; clear n0_ n1_ n2_; (try clear hb); (try clear hb2); (try clear hk); (try clear hi)) | ((with_reducible refine gate_callee (f := 26) rfl ?_); refine goesL_ (some 31) rfl rfl Try.func26 (by kernel_rfl) rfl #[.string t333] rfl (by (try simp only [List.map_toArray, List.map_cons, List.map_nil]); first | done | rfl | (simp only [List.length_drop, List.length_take]; rfl)) ?_; (with_reducible refine (bits_Parse.calls k t333 t334 t335 _ A10.out).mono ?_); rintro e w16 ⟨v336, rfl, ho0, hb⟩; refine ⟨_, rfl, ?_⟩; have n0_ := Aside0.mk (Kd.R_below (by (with_reducible repeat (first | apply Kd.R_alloc | apply Kd.R_drewN | apply Kd.R_drew)); exact HO328.out) hb); have n1_ := Aside0.mk (Kd.R_elder' (by (with_reducible repeat (first | apply Kd.R_alloc | apply Kd.R_drewN | apply Kd.R_drew)); exact HO332.out) (Kd.R_base ho0) hb); have n2_ := Aside0.mk (Kd.R_lower (Kd.R_new' ho0 (Kd.R_lt (by (with_reducible repeat (first | apply Kd.R_alloc | apply Kd.R_drewN | apply Kd.R_drew)); exact HO332.out))) (below_size (by repeat (first | (with_reducible first | exact HB.out | apply below_alloc | apply pw_below_drewN | apply below_drew1) | exact HB.out)))); have n3_ := Aside0.mk (below_step (by repeat (first | (with_reducible first | exact HB.out | apply below_alloc | apply pw_below_drewN | apply below_drew1) | exact HB.out)) hb); clear HO328; clear HO332; clear HB; have HO328 := n0_; have HO332 := n1_; have HO337 := n2_; have HB := n3_; clear n0_ n1_ n2_ n3_; (try clear hb); (try clear hb2); (try clear hk); (try clear hi); (try clear ho0)))
    (try simp only [Act.put, List.setIfInBounds_toArray, List.set_cons_zero, List.set_cons_succ])
    go_cut [58] (fun v58 wc => ∃ (kq : Nat) (x58_10 : Bool), v58 = .bool x58_10 ∧ Aside0 (barscanlaw01_BitsReturns.j0 kq l0 a1 a2 x58_10 = some r) ∧ Aside0 (kq ≤ k) ∧ Aside0 (Below w.heap.size w wc))
    case first =>
      have H := HC11.out
      clear HC11
      by_cases c17 : t330 = 0
      · rw [if_pos c17] at H
        have c17b0 : (t330 == 0) = true := beq_iff_eq.mpr c17
        have c17b1 : (t330 != 0) = false := bne_eq_false_iff_eq.mpr c17
        clear c17
        (first | rw [c17b0] | (simp only [i64_w, i32_w]; rw [c17b0]) | skip)
        by_cases c18 : t335 = 0
        · rw [if_pos c18] at H
          have c18b0 : (t335 == 0) = true := beq_iff_eq.mpr c18
          have c18b1 : (t335 != 0) = false := bne_eq_false_iff_eq.mpr c18
          clear c18
          replace H := Option.bind_eq_some_iff.mp H
          obtain ⟨t338, A190, H⟩ := H
          replace H : (if t338 = true then ((barscanref01_Same.f k l0 t334).bind fun t339 => (if t339 = true then ((bits_Weight.f k l0).bind fun t340 => (barscanlaw01_BitsReturns.j0 k l0 a1 a2 (decide (t340 > (l0.length : Int))))) else (barscanlaw01_BitsReturns.j0 k l0 a1 a2 true))) else (barscanlaw01_BitsReturns.j0 k l0 a1 a2 true)) = some r := H
          have A19 := Aside0.mk A190
          clear A190
          by_cases c20 : t338 = true
          · subst c20
            have H1 : ((barscanref01_Same.f k l0 t334).bind fun t339 => (if t339 = true then ((bits_Weight.f k l0).bind fun t340 => (barscanlaw01_BitsReturns.j0 k l0 a1 a2 (decide (t340 > (l0.length : Int))))) else (barscanlaw01_BitsReturns.j0 k l0 a1 a2 true))) = some r := by rw [if_pos rfl] at H; exact H
            clear H
            have H := H1
            clear H1
            replace H := Option.bind_eq_some_iff.mp H
            obtain ⟨t339, A210, H⟩ := H
            replace H : (if t339 = true then ((bits_Weight.f k l0).bind fun t340 => (barscanlaw01_BitsReturns.j0 k l0 a1 a2 (decide (t340 > (l0.length : Int))))) else (barscanlaw01_BitsReturns.j0 k l0 a1 a2 true)) = some r := H
            have A21 := Aside0.mk A210
            clear A210
            by_cases c22 : t339 = true
            · subst c22
              have H1 : ((bits_Weight.f k l0).bind fun t340 => (barscanlaw01_BitsReturns.j0 k l0 a1 a2 (decide (t340 > (l0.length : Int))))) = some r := by rw [if_pos rfl] at H; exact H
              clear H
              have H := H1
              clear H1
              replace H := Option.bind_eq_some_iff.mp H
              obtain ⟨t340, A230, H⟩ := H
              replace H : (barscanlaw01_BitsReturns.j0 k l0 a1 a2 (decide (t340 > (l0.length : Int)))) = some r := H
              have A23 := Aside0.mk A230
              clear A230
              have H' := Aside0.mk H
              clear H
              obtain ⟨Ao24, co24, eo24⟩ := Kd.R_slice HO332.out
              subst eo24
              go_wp2_with (first | (go_at_call 17; (with_reducible refine (barscanref01_Same.calls k _ _ l0 _ _ t329 true _ ?side1 ?side2 ?side3 ?side4 A19.out).mono ?_); (case side1 => repeat (first | exact (Kd.C_below HR0.out HB.out) | (with_reducible refine Kd.C_alloc ?_ _) | (with_reducible refine Kd.C_drewN ?_ _) | (with_reducible refine Kd.C_drew ?_))); (case side2 => exact HC0.out); (case side3 => repeat (first | exact (Kd.R_reads' HO332.out).2.2 | (with_reducible refine Kd.C_alloc ?_ _) | (with_reducible refine Kd.C_drewN ?_ _) | (with_reducible refine Kd.C_drew ?_))); (case side4 => exact (Kd.R_reads' HO332.out).2.1); rintro e w' ⟨rfl, ⟨nd, rfl⟩⟩; obtain ⟨Ao25, co25, eo25⟩ := Kd.R_slice HO337.out; subst eo25) | (go_at_call 17; (with_reducible refine (barscanref01_Same.calls k _ _ l0 _ _ t334 true _ ?side1 ?side2 ?side3 ?side4 A21.out).mono ?_); (case side1 => repeat (first | exact (Kd.C_below HR0.out (by repeat (first | (with_reducible first | exact HB.out | apply below_alloc | apply pw_below_drewN | apply below_drew1) | exact HB.out))) | (with_reducible refine Kd.C_alloc ?_ _) | (with_reducible refine Kd.C_drewN ?_ _) | (with_reducible refine Kd.C_drew ?_))); (case side2 => exact HC0.out); (case side3 => repeat (first | exact (Kd.R_reads' HO337.out).2.2 | (with_reducible refine Kd.C_alloc ?_ _) | (with_reducible refine Kd.C_drewN ?_ _) | (with_reducible refine Kd.C_drew ?_))); (case side4 => exact (Kd.R_reads' HO337.out).2.1); rintro e w' ⟨rfl, ⟨nd, rfl⟩⟩) | (go_at_call 32; (with_reducible refine (bits_Weight.calls k _ _ l0 t340 _ ?side1 ?side2 A23.out).mono ?_); (case side1 => repeat (first | exact (Kd.C_below HR0.out (by repeat (first | (with_reducible first | exact HB.out | apply below_alloc | apply pw_below_drewN | apply below_drew1) | exact HB.out))) | (with_reducible refine Kd.C_alloc ?_ _) | (with_reducible refine Kd.C_drewN ?_ _) | (with_reducible refine Kd.C_drew ?_))); (case side2 => exact HC0.out); rintro e w' ⟨rfl, ⟨nd, rfl⟩⟩))
              go_meet
              case rel => exact ⟨_, (decide (t340 > (l0.length : Int))), (by first | rfl | (simp; done) | (simp [*]; done)), H', ⟨by first | omega | exact Nat.le_refl _⟩, ⟨by repeat (first | (with_reducible first | exact HB.out | apply below_alloc | apply pw_below_drewN | apply below_drew1) | exact HB.out)⟩⟩
            · replace c22 := Bool.eq_false_iff.mpr c22
              subst c22
              have H1 : (barscanlaw01_BitsReturns.j0 k l0 a1 a2 true) = some r := by rw [if_neg (show ¬ (false = true) by decide)] at H; exact H
              clear H
              have H := H1
              clear H1
              have H' := Aside0.mk H
              clear H
              obtain ⟨Ao26, co26, eo26⟩ := Kd.R_slice HO332.out
              subst eo26
              go_wp2_with (first | (go_at_call 17; (with_reducible refine (barscanref01_Same.calls k _ _ l0 _ _ t329 true _ ?side1 ?side2 ?side3 ?side4 A19.out).mono ?_); (case side1 => repeat (first | exact (Kd.C_below HR0.out HB.out) | (with_reducible refine Kd.C_alloc ?_ _) | (with_reducible refine Kd.C_drewN ?_ _) | (with_reducible refine Kd.C_drew ?_))); (case side2 => exact HC0.out); (case side3 => repeat (first | exact (Kd.R_reads' HO332.out).2.2 | (with_reducible refine Kd.C_alloc ?_ _) | (with_reducible refine Kd.C_drewN ?_ _) | (with_reducible refine Kd.C_drew ?_))); (case side4 => exact (Kd.R_reads' HO332.out).2.1); rintro e w' ⟨rfl, ⟨nd, rfl⟩⟩; obtain ⟨Ao27, co27, eo27⟩ := Kd.R_slice HO337.out; subst eo27) | (go_at_call 17; (with_reducible refine (barscanref01_Same.calls k _ _ l0 _ _ t334 false _ ?side1 ?side2 ?side3 ?side4 A21.out).mono ?_); (case side1 => repeat (first | exact (Kd.C_below HR0.out (by repeat (first | (with_reducible first | exact HB.out | apply below_alloc | apply pw_below_drewN | apply below_drew1) | exact HB.out))) | (with_reducible refine Kd.C_alloc ?_ _) | (with_reducible refine Kd.C_drewN ?_ _) | (with_reducible refine Kd.C_drew ?_))); (case side2 => exact HC0.out); (case side3 => repeat (first | exact (Kd.R_reads' HO337.out).2.2 | (with_reducible refine Kd.C_alloc ?_ _) | (with_reducible refine Kd.C_drewN ?_ _) | (with_reducible refine Kd.C_drew ?_))); (case side4 => exact (Kd.R_reads' HO337.out).2.1); rintro e w' ⟨rfl, ⟨nd, rfl⟩⟩))
              go_meet
              case rel => exact ⟨_, (true), (by first | rfl | (simp; done) | (simp [*]; done)), H', ⟨by first | omega | exact Nat.le_refl _⟩, ⟨by repeat (first | (with_reducible first | exact HB.out | apply below_alloc | apply pw_below_drewN | apply below_drew1) | exact HB.out)⟩⟩
          · replace c20 := Bool.eq_false_iff.mpr c20
            subst c20
            have H1 : (barscanlaw01_BitsReturns.j0 k l0 a1 a2 true) = some r := by rw [if_neg (show ¬ (false = true) by decide)] at H; exact H
            clear H
            have H := H1
            clear H1
            have H' := Aside0.mk H
            clear H
            obtain ⟨Ao28, co28, eo28⟩ := Kd.R_slice HO332.out
            subst eo28
            go_wp2_with (first | (go_at_call 17; (with_reducible refine (barscanref01_Same.calls k _ _ l0 _ _ t329 false _ ?side1 ?side2 ?side3 ?side4 A19.out).mono ?_); (case side1 => repeat (first | exact (Kd.C_below HR0.out HB.out) | (with_reducible refine Kd.C_alloc ?_ _) | (with_reducible refine Kd.C_drewN ?_ _) | (with_reducible refine Kd.C_drew ?_))); (case side2 => exact HC0.out); (case side3 => repeat (first | exact (Kd.R_reads' HO332.out).2.2 | (with_reducible refine Kd.C_alloc ?_ _) | (with_reducible refine Kd.C_drewN ?_ _) | (with_reducible refine Kd.C_drew ?_))); (case side4 => exact (Kd.R_reads' HO332.out).2.1); rintro e w' ⟨rfl, ⟨nd, rfl⟩⟩))
            go_meet
            case rel => exact ⟨_, (true), (by first | rfl | (simp; done) | (simp [*]; done)), H', ⟨by first | omega | exact Nat.le_refl _⟩, ⟨by repeat (first | (with_reducible first | exact HB.out | apply below_alloc | apply pw_below_drewN | apply below_drew1) | exact HB.out)⟩⟩
        · rw [if_neg c18] at H
          have c18b0 : (t335 == 0) = false := beq_eq_false_iff_ne.mpr c18
          have c18b1 : (t335 != 0) = true := bne_iff_ne.mpr c18
          have H' := Aside0.mk H
          clear H
          go_wp2
          go_meet
          case rel => exact ⟨_, (true), (by first | rfl | (simp; done) | (simp [*]; done)), H', ⟨by first | omega | exact Nat.le_refl _⟩, ⟨by repeat (first | (with_reducible first | exact HB.out | apply below_alloc | apply pw_below_drewN | apply below_drew1) | exact HB.out)⟩⟩
      · rw [if_neg c17] at H
        have c17b0 : (t330 == 0) = false := beq_eq_false_iff_ne.mpr c17
        have c17b1 : (t330 != 0) = true := bne_iff_ne.mpr c17
        (first | rw [c17b0] | (simp only [i64_w, i32_w]; rw [c17b0]) | skip)
        have H' := Aside0.mk H
        clear H
        go_wp2
        go_meet
        case rel => exact ⟨_, (true), (by first | rfl | (simp; done) | (simp [*]; done)), H', ⟨by first | omega | exact Nat.le_refl _⟩, ⟨by repeat (first | (with_reducible first | exact HB.out | apply below_alloc | apply pw_below_drewN | apply below_drew1) | exact HB.out)⟩⟩
    case rest =>
      clear HC11
      try clear c1
      try clear c2
      try clear p2
      try clear c3
      try clear c4
      try clear c4b0
      try clear c4b1
      try clear c11
      try clear c12
      try clear c17
      try clear c17b0
      try clear c17b1
      try clear c18
      try clear c18b0
      try clear c18b1
      try clear c20
      try clear c22
      try clear c26
      obtain ⟨kq, x58_10, rfl, HA, HJ10, HB⟩ := hcut
      cases kq with
      | zero => exact absurd HA.out (by simp [barscanlaw01_BitsReturns.j0])
      | succ kj10 =>
        have H := HA.out
        clear HA
        simp only [barscanlaw01_BitsReturns.j0] at H
        by_cases c29 : x58_10 = true
        · subst c29
          have H1 : (some false) = some r := by rw [if_pos rfl] at H; exact H
          clear H
          have H := H1
          clear H1
          obtain rfl := Option.some.inj H
          go_wp2
          go_ret
          exact ⟨by first | rfl | (simp [errW_none, errW_some] <;> rfl) | (simp [*, errW_none, errW_some] <;> rfl), by repeat (first | (with_reducible first | exact HB.out | apply below_alloc | apply pw_below_drewN | apply below_drew1) | exact HB.out)⟩
        · replace c29 := Bool.eq_false_iff.mpr c29
          subst c29
          have H1 : ((bits_Words.f l0 a1 a2).bind fun bt341 => (if bt341.2 = 0 then ((bits_FromWords.f kj10 bt341.1 a1).bind fun bt347 => (if bt347.2 = 0 then (if (bt347.1.length : Int) < (l0.length : Int) then (barscanlaw01_BitsReturns.j1 kj10 l0 a2 bt347.1 true) else (if (bt347.1.length : Int) ≥ (wrap64 ((l0.length : Int) + a1)) then (barscanlaw01_BitsReturns.j1 kj10 l0 a2 bt347.1 true) else (if 0 ≤ (l0.length : Int) then (if (l0.length : Int) ≤ (bt347.1.length : Int) then ((barscanref01_Same.f kj10 (bt347.1.take ((l0.length : Int) : Int).toNat) l0).bind fun t355 => (barscanlaw01_BitsReturns.j1 kj10 l0 a2 bt347.1 (!t355))) else (none)) else (none)))) else (barscanlaw01_BitsReturns.j1 kj10 l0 a2 bt347.1 true))) else (if a1 < 1 then ((barscanlaw01_alive.f).bind fun t345 => (some t345)) else (if a1 > 62 then ((barscanlaw01_alive.f).bind fun t346 => (some t346)) else (some false))))) = some r := by rw [if_neg (show ¬ (false = true) by decide)] at H; exact H
          clear H
          have H := H1
          clear H1
          replace H := Option.bind_eq_some_iff.mp H
          obtain ⟨⟨t341, t342⟩, A300, H⟩ := H
          replace H : (if t342 = 0 then ((bits_FromWords.f kj10 t341 a1).bind fun bt347 => (if bt347.2 = 0 then (if (bt347.1.length : Int) < (l0.length : Int) then (barscanlaw01_BitsReturns.j1 kj10 l0 a2 bt347.1 true) else (if (bt347.1.length : Int) ≥ (wrap64 ((l0.length : Int) + a1)) then (barscanlaw01_BitsReturns.j1 kj10 l0 a2 bt347.1 true) else (if 0 ≤ (l0.length : Int) then (if (l0.length : Int) ≤ (bt347.1.length : Int) then ((barscanref01_Same.f kj10 (bt347.1.take ((l0.length : Int) : Int).toNat) l0).bind fun t355 => (barscanlaw01_BitsReturns.j1 kj10 l0 a2 bt347.1 (!t355))) else (none)) else (none)))) else (barscanlaw01_BitsReturns.j1 kj10 l0 a2 bt347.1 true))) else (if a1 < 1 then ((barscanlaw01_alive.f).bind fun t345 => (some t345)) else (if a1 > 62 then ((barscanlaw01_alive.f).bind fun t346 => (some t346)) else (some false)))) = some r := H
          have A30 := Aside0.mk A300
          clear A300
          by_cases c31 : t342 = 0
          · rw [if_pos c31] at H
            have c31b0 : (t342 == 0) = true := beq_iff_eq.mpr c31
            have c31b1 : (t342 != 0) = false := bne_eq_false_iff_eq.mpr c31
            clear c31
            replace H := Option.bind_eq_some_iff.mp H
            obtain ⟨⟨t347, t348⟩, A320, H⟩ := H
            replace H : (if t348 = 0 then (if (t347.length : Int) < (l0.length : Int) then (barscanlaw01_BitsReturns.j1 kj10 l0 a2 t347 true) else (if (t347.length : Int) ≥ (wrap64 ((l0.length : Int) + a1)) then (barscanlaw01_BitsReturns.j1 kj10 l0 a2 t347 true) else (if 0 ≤ (l0.length : Int) then (if (l0.length : Int) ≤ (t347.length : Int) then ((barscanref01_Same.f kj10 (t347.take ((l0.length : Int) : Int).toNat) l0).bind fun t355 => (barscanlaw01_BitsReturns.j1 kj10 l0 a2 t347 (!t355))) else (none)) else (none)))) else (barscanlaw01_BitsReturns.j1 kj10 l0 a2 t347 true)) = some r := H
            have A32 := Aside0.mk A320
            clear A320
            have HC33 := Aside0.mk H
            clear H
            go_upto_region 11 with (first | ((with_reducible refine gate_callee (f := 18) rfl ?_); refine goesL_ (some 63) rfl rfl Try.func18 (by kernel_rfl) rfl #[.slice A0 l0.length c0, .int .i64 a1, .bool a2] rfl (by (try simp only [List.map_toArray, List.map_cons, List.map_nil]); first | done | rfl | (simp only [List.length_drop, List.length_take]; rfl)) ?_; (with_reducible refine (bits_Words.calls _ _ l0 a1 a2 t341 t342 _ ?side1 ?side2 A30.out).mono ?_); (case side1 => repeat (first | exact (Kd.C_below HR0.out HB.out) | (with_reducible refine Kd.C_alloc ?_ _) | (with_reducible refine Kd.C_drewN ?_ _) | (with_reducible refine Kd.C_drew ?_))); (case side2 => exact HC0.out); rintro e w34 ⟨v343, rfl, ho0, hb⟩; refine ⟨_, rfl, ?_⟩; have n0_ := Aside0.mk (Kd.R_lower ho0 (below_size (by repeat (first | (with_reducible first | exact HB.out | apply below_alloc | apply pw_below_drewN | apply below_drew1) | exact HB.out)))); have n1_ := Aside0.mk (below_step (by repeat (first | (with_reducible first | exact HB.out | apply below_alloc | apply pw_below_drewN | apply below_drew1) | exact HB.out)) hb); clear HB; have HO344 := n0_; have HB := n1_; clear n0_ n1_; (try clear hb); (try clear hb2); (try clear hk); (try clear hi); (try clear ho0); obtain ⟨Ao35, co35, eo35⟩ := Kd.R_slice HO344.out; subst eo35) | ((with_reducible refine gate_callee (f := 20) rfl ?_); refine goesL_ (some 80) rfl rfl Try.func20 (by kernel_rfl) rfl #[.slice Ao35 t341.length co35, .int .i64 a1] rfl (by (try simp only [List.map_toArray, List.map_cons, List.map_nil]); first | done | rfl | (simp only [List.length_drop, List.length_take]; rfl)) ?_; (with_reducible refine (bits_FromWords.calls kj10 _ _ t341 a1 t347 t348 _ ?side1 ?side2 A32.out).mono ?_); (case side1 => repeat (first | exact (Kd.R_reads' HO344.out).2.2 | (with_reducible refine Kd.C_alloc ?_ _) | (with_reducible refine Kd.C_drewN ?_ _) | (with_reducible refine Kd.C_drew ?_))); (case side2 => exact (Kd.R_reads' HO344.out).2.1); rintro e w36 ⟨v349, rfl, ho0, hb⟩; refine ⟨_, rfl, ?_⟩; have n0_ := Aside0.mk (Kd.R_below (by (with_reducible repeat (first | apply Kd.R_alloc | apply Kd.R_drewN | apply Kd.R_drew)); exact HO344.out) hb); have n1_ := Aside0.mk (Kd.R_lower ho0 (below_size (by repeat (first | (with_reducible first | exact HB.out | apply below_alloc | apply pw_below_drewN | apply below_drew1) | exact HB.out)))); have n2_ := Aside0.mk (below_step (by repeat (first | (with_reducible first | exact HB.out | apply below_alloc | apply pw_below_drewN | apply below_drew1) | exact HB.out)) hb); clear HO344; clear HB; have HO344 := n0_; have HO350 := n1_; have HB := n2_; clear n0_ n1_ n2_; (try clear hb); (try clear hb2); (try clear hk); (try clear hi); (try clear ho0)))
            (try simp only [Act.put, List.setIfInBounds_toArray, List.set_cons_zero, List.set_cons_succ])
            go_cut [109] (fun v109 wc => ∃ (kq : Nat) (x109_32 : Bool), v109 = .bool x109_32 ∧ Aside0 (barscanlaw01_BitsReturns.j1 kq l0 a2 t347 x109_32 = some r) ∧ Aside0 (kq ≤ kj10) ∧ Aside0 (Kd.R Kd.bool 4 wc w.heap.size (fun _ => True) v349 t347) ∧ Aside0 (Below w.heap.size w wc))
            case first =>
              have H := HC33.out
              clear HC33
              by_cases c37 : t348 = 0
              · rw [if_pos c37] at H
                have c37b0 : (t348 == 0) = true := beq_iff_eq.mpr c37
                have c37b1 : (t348 != 0) = false := bne_eq_false_iff_eq.mpr c37
                clear c37
                (first | rw [c37b0] | (simp only [i64_w, i32_w]; rw [c37b0]) | skip)
                by_cases c38 : (t347.length : Int) < (l0.length : Int)
                · rw [if_pos c38] at H
                  have c38b0 : decide ((t347.length : Int) < (l0.length : Int)) = true := decide_eq_true c38
                  have c38b1 : decide (t347.length < l0.length) = true := decide_eq_true (Int.ofNat_lt.mp c38)
                  clear c38
                  have H' := Aside0.mk H
                  clear H
                  obtain ⟨Ao39, co39, eo39⟩ := Kd.R_slice HO350.out
                  subst eo39
                  go_wp2
                  go_meet
                  case rel => exact ⟨_, (true), (by first | rfl | (simp; done) | (simp [*]; done)), H', ⟨by have := HJ10.out; first | omega | exact Nat.le_refl _⟩, ⟨by (with_reducible repeat (first | apply Kd.R_alloc | apply Kd.R_drewN | apply Kd.R_drew)); exact HO350.out⟩, ⟨by repeat (first | (with_reducible first | exact HB.out | apply below_alloc | apply pw_below_drewN | apply below_drew1) | exact HB.out)⟩⟩
                · rw [if_neg c38] at H
                  have c38b0 : decide ((t347.length : Int) < (l0.length : Int)) = false := decide_eq_false c38
                  have c38b1 : decide (t347.length < l0.length) = false := decide_eq_false (fun h => c38 (Int.ofNat_lt.mpr h))
                  clear c38
                  by_cases c40 : (t347.length : Int) ≥ (wrap64 ((l0.length : Int) + a1))
                  · rw [if_pos c40] at H
                    have c40b0 : decide ((wrap64 ((l0.length : Int) + a1)) ≤ (t347.length : Int)) = true := decide_eq_true c40
                    clear c40
                    have H' := Aside0.mk H
                    clear H
                    obtain ⟨Ao41, co41, eo41⟩ := Kd.R_slice HO350.out
                    subst eo41
                    go_wp2
                    go_meet
                    case rel => exact ⟨_, (true), (by first | rfl | (simp; done) | (simp [*]; done)), H', ⟨by have := HJ10.out; first | omega | exact Nat.le_refl _⟩, ⟨by (with_reducible repeat (first | apply Kd.R_alloc | apply Kd.R_drewN | apply Kd.R_drew)); exact HO350.out⟩, ⟨by repeat (first | (with_reducible first | exact HB.out | apply below_alloc | apply pw_below_drewN | apply below_drew1) | exact HB.out)⟩⟩
                  · rw [if_neg c40] at H
                    have c40b0 : decide ((wrap64 ((l0.length : Int) + a1)) ≤ (t347.length : Int)) = false := decide_eq_false c40
                    clear c40
                    by_cases c42 : 0 ≤ (l0.length : Int)
                    · rw [if_pos c42] at H
                      have c42b0 := eq_true c42
                      have c42b1 : decide (0 ≤ (l0.length : Int)) = true := decide_eq_true c42
                      clear c42
                      by_cases c43 : (l0.length : Int) ≤ (t347.length : Int)
                      · rw [if_pos c43] at H
                        have c43b0 := eq_true c43
                        have c43b1 : decide ((l0.length : Int) ≤ (t347.length : Int)) = true := decide_eq_true c43
                        clear c43
                        obtain ⟨y351, hy351⟩ : ∃ y_ : List Bool, y_ = (t347.take ((l0.length : Int) : Int).toNat) := ⟨_, rfl⟩
                        replace H : ((barscanref01_Same.f kj10 y351 l0).bind fun t355 => (barscanlaw01_BitsReturns.j1 kj10 l0 a2 t347 (!t355))) = some r := by first | (rw [hy351]; with_reducible exact H) | (have H2_ := (Option.bind_some _ _).symm.trans H; rw [hy351]; with_reducible exact H2_) | (have H2_ := (Option.bind_some _ _).symm.trans H; with_reducible exact H2_) | with_reducible exact H | (rw [hy351]; exact H) | exact H
                        have Ny351 := Aside0.mk hy351
                        clear hy351
                        replace H := Option.bind_eq_some_iff.mp H
                        obtain ⟨t355, A440, H⟩ := H
                        replace H : (barscanlaw01_BitsReturns.j1 kj10 l0 a2 t347 (!t355)) = some r := H
                        have A44 := Aside0.mk A440
                        clear A440
                        have H' := Aside0.mk H
                        clear H
                        obtain ⟨Ao45, co45, eo45⟩ := Kd.R_slice HO350.out
                        subst eo45
                        have q46 : ((l0.length : Int) : Int) ≤ ((t347.length : Int) : Int) := of_decide_eq_true (by first | (with_reducible assumption) | assumption)
                        obtain ⟨i046, hi046, _, hsz46, _⟩ := info_parts info4
                        have hroom46 : t347.length ≤ co45 := (Kd.R_reads' HO350.out).2.1
                        have hC46 : Kd.C Kd.bool _ Ao45 t347.length t347 := (Kd.R_reads' HO350.out).2.2
                        have hcut46 := cut_to (P := Try.prog) 22 4 .i64 Try.underlying22 hi046 Ao45 t347.length co45 (l0.length : Int) (of_decide_eq_true (by first | (with_reducible assumption) | assumption)) q46 hroom46
                        have hr46 := Kd.C_take (m := ((l0.length : Int) : Int).toNat) hC46 (by omega)
                        have hy46 : y351.length = ((l0.length : Int) : Int).toNat := (by rw [Ny351.out, List.length_take]; omega)
                        rw [← Ny351.out] at hr46
                        rw [← hy46] at hcut46
                        have HR354 := Aside0.mk hr46
                        have HC354 := Aside0.mk (show y351.length ≤ co45 from by omega)
                        clear hr46 hC46 hroom46 hi046 hsz46
                        have KY46 := Aside0.mk hy46
                        clear hy46
                        have KL46 := Aside0.mk (show ((l0.length : Int) : Int).toNat ≤ t347.length from by omega)
                        replace q46 := eq_true q46
                        go_wp2_with (first | (go_at_call 17; (with_reducible refine (barscanref01_Same.calls kj10 _ _ y351 _ _ l0 t355 _ ?side1 ?side2 ?side3 ?side4 A44.out).mono ?_); (case side1 => repeat (first | exact (by repeat (first | (with_reducible exact HR354.out) | (with_reducible refine Kd.C_alloc ?_ _) | (with_reducible refine Kd.C_drewN ?_ _) | (with_reducible refine Kd.C_drew ?_) | exact HR354.out)) | (with_reducible refine Kd.C_alloc ?_ _) | (with_reducible refine Kd.C_drewN ?_ _) | (with_reducible refine Kd.C_drew ?_))); (case side2 => exact HC354.out); (case side3 => repeat (first | exact (Kd.C_below HR0.out HB.out) | (with_reducible refine Kd.C_alloc ?_ _) | (with_reducible refine Kd.C_drewN ?_ _) | (with_reducible refine Kd.C_drew ?_))); (case side4 => exact HC0.out); rintro e w' ⟨rfl, ⟨nd, rfl⟩⟩))
                        go_meet
                        case rel => exact ⟨_, (!t355), (by first | rfl | (simp; done) | (simp [*]; done)), H', ⟨by have := HJ10.out; first | omega | exact Nat.le_refl _⟩, ⟨by (with_reducible repeat (first | apply Kd.R_alloc | apply Kd.R_drewN | apply Kd.R_drew)); exact HO350.out⟩, ⟨by repeat (first | (with_reducible first | exact HB.out | apply below_alloc | apply pw_below_drewN | apply below_drew1) | exact HB.out)⟩⟩
                      · rw [if_neg c43] at H
                        exact absurd H (by simp)
                    · rw [if_neg c42] at H
                      exact absurd H (by simp)
              · rw [if_neg c37] at H
                have c37b0 : (t348 == 0) = false := beq_eq_false_iff_ne.mpr c37
                have c37b1 : (t348 != 0) = true := bne_iff_ne.mpr c37
                (first | rw [c37b0] | (simp only [i64_w, i32_w]; rw [c37b0]) | skip)
                have H' := Aside0.mk H
                clear H
                go_wp2
                go_meet
                case rel => exact ⟨_, (true), (by first | rfl | (simp; done) | (simp [*]; done)), H', ⟨by have := HJ10.out; first | omega | exact Nat.le_refl _⟩, ⟨by (with_reducible repeat (first | apply Kd.R_alloc | apply Kd.R_drewN | apply Kd.R_drew)); exact HO350.out⟩, ⟨by repeat (first | (with_reducible first | exact HB.out | apply below_alloc | apply pw_below_drewN | apply below_drew1) | exact HB.out)⟩⟩
            case rest =>
              clear HC33
              try clear c1
              try clear c2
              try clear p2
              try clear c3
              try clear c4
              try clear c4b0
              try clear c4b1
              try clear q4
              try clear p6
              try clear c11
              try clear c12
              try clear c17
              try clear c17b0
              try clear c17b1
              try clear c18
              try clear c18b0
              try clear c18b1
              try clear c20
              try clear c22
              try clear c26
              try clear c29
              try clear c30
              try clear c31
              try clear c31b0
              try clear c31b1
              try clear c34
              try clear c36
              try clear c37
              try clear c37b0
              try clear c37b1
              try clear c38
              try clear c38b0
              try clear c38b1
              try clear c40
              try clear c40b0
              try clear c42
              try clear c42b0
              try clear c42b1
              try clear c43
              try clear c43b0
              try clear c43b1
              try clear q46
              try clear p2
              try clear q46
              obtain ⟨kq, x109_32, rfl, HA, HJ32, HO_13, HB⟩ := hcut
              cases kq with
              | zero => exact absurd HA.out (by simp [barscanlaw01_BitsReturns.j1])
              | succ kj32 =>
                have H := HA.out
                clear HA
                simp only [barscanlaw01_BitsReturns.j1] at H
                by_cases c47 : x109_32 = true
                · subst c47
                  have H1 : (some false) = some r := by rw [if_pos rfl] at H; exact H
                  clear H
                  have H := H1
                  clear H1
                  obtain rfl := Option.some.inj H
                  go_wp2
                  go_ret
                  exact ⟨by first | rfl | (simp [errW_none, errW_some] <;> rfl) | (simp [*, errW_none, errW_some] <;> rfl), by repeat (first | (with_reducible first | exact HB.out | apply below_alloc | apply pw_below_drewN | apply below_drew1) | exact HB.out)⟩
                · replace c47 := Bool.eq_false_iff.mpr c47
                  subst c47
                  have H1 : (barscanlaw01_BitsReturns.l0 kj32 a2 t347 (l0.length : Int)) = some r := by rw [if_neg (show ¬ (false = true) by decide)] at H; exact H
                  clear H
                  have H := H1
                  clear H1
                  have H' := Aside0.mk H
                  clear H
                  go_wp2
                  go_loopg [15] kj32 (fun kq v15 w' => ∃ (x15_3 : Int), v15 = .int .i64 x15_3 ∧ Aside0 (barscanlaw01_BitsReturns.l0 kq a2 t347 x15_3 = some r) ∧ Aside0 (kq ≤ kj32) ∧ Aside0 (Kd.R Kd.bool 4 w' w.heap.size (fun _ => True) v349 t347) ∧ Aside0 (Below w.heap.size w w'))
                  case atStart => exact ⟨((l0.length : Int)), (by first | rfl | (simp; done) | (simp [*]; done)), H', ⟨Nat.le_refl _⟩, ⟨by (with_reducible repeat (first | apply Kd.R_alloc | apply Kd.R_drewN | apply Kd.R_drew)); exact HO_13.out⟩, ⟨by repeat (first | (with_reducible first | exact HB.out | apply below_alloc | apply pw_below_drewN | apply below_drew1) | exact HB.out)⟩⟩
                  case round =>
                    clear H'
                    try clear c1
                    try clear c2
                    try clear p2
                    try clear c3
                    try clear c4
                    try clear c4b0
                    try clear c4b1
                    try clear q4
                    try clear p6
                    try clear c11
                    try clear c12
                    try clear c17
                    try clear c17b0
                    try clear c17b1
                    try clear c18
                    try clear c18b0
                    try clear c18b1
                    try clear c20
                    try clear c22
                    try clear c26
                    try clear c29
                    try clear c30
                    try clear c31
                    try clear c31b0
                    try clear c31b1
                    try clear c34
                    try clear c36
                    try clear c37
                    try clear c37b0
                    try clear c37b1
                    try clear c38
                    try clear c38b0
                    try clear c38b1
                    try clear c40
                    try clear c40b0
                    try clear c42
                    try clear c42b0
                    try clear c42b1
                    try clear c43
                    try clear c43b0
                    try clear c43b1
                    try clear q46
                    try clear c47
                    try clear p2
                    try clear p6
                    try clear q4
                    try clear q46
                    obtain ⟨x15_3, rfl, HA, HK3, HO_13, HB⟩ := hrel
                    cases gk with
                    | zero => exact absurd HA.out (by simp [barscanlaw01_BitsReturns.l0])
                    | succ k3 =>
                      have H := HA.out
                      clear HA
                      simp only [barscanlaw01_BitsReturns.l0] at H
                      by_cases c48 : x15_3 < (t347.length : Int)
                      · rw [if_pos c48] at H
                        have c48b0 : decide (x15_3 < (t347.length : Int)) = true := decide_eq_true c48
                        clear c48
                        by_cases c49 : 0 ≤ x15_3
                        · rw [if_pos c49] at H
                          have c49b0 : decide (0 ≤ x15_3) = true := decide_eq_true c49
                          clear c49
                          by_cases c50 : ((rdOf false t347 x15_3) != a2) = true
                          · rw [if_pos c50] at H
                            have c50b0 : ((rdOf false t347 x15_3) != a2) = true := c50
                            (try (have c50b1 : decide ((rdOf false t347 x15_3) = a2) = false := by simpa using c50))
                            (try (have c50b2 : ((rdOf false t347 x15_3) == a2) = false := by simpa using c50))
                            (try (have c50b3 : ¬ ((rdOf false t347 x15_3) = a2) := by simpa using c50))
                            clear c50
                            obtain rfl := Option.some.inj H
                            obtain ⟨Ao51, co51, eo51⟩ := Kd.R_slice HO_13.out
                            subst eo51
                            have p356 : 0 ≤ (x15_3 : Int) := of_decide_eq_true (by first | (with_reducible assumption) | assumption)
                            have q356 : x15_3 < (t347.length : Int) := of_decide_eq_true (by first | (with_reducible assumption) | assumption)
                            obtain ⟨ad356, e356, hx356_0⟩ := Kd.at_bool (Kd.R_reads' HO_13.out).2.2 x15_3 p356 q356
                            cases e356
                            replace p356 := eq_true p356
                            replace q356 := eq_true q356
                            go_wp2
                            go_ret
                            exact ⟨by first | rfl | (simp [errW_none, errW_some] <;> rfl) | (simp [*, errW_none, errW_some] <;> rfl), by repeat (first | (with_reducible first | exact HB.out | apply below_alloc | apply pw_below_drewN | apply below_drew1) | exact HB.out)⟩
                          · rw [if_neg c50] at H
                            have c50b0 : ((rdOf false t347 x15_3) != a2) = false := by simpa using c50
                            (try (have c50b1 : decide ((rdOf false t347 x15_3) = a2) = true := by simpa using c50))
                            (try (have c50b2 : ((rdOf false t347 x15_3) == a2) = true := by simpa using c50))
                            clear c50
                            have H' := Aside0.mk H
                            clear H
                            obtain ⟨Ao52, co52, eo52⟩ := Kd.R_slice HO_13.out
                            subst eo52
                            have p356 : 0 ≤ (x15_3 : Int) := of_decide_eq_true (by first | (with_reducible assumption) | assumption)
                            have q356 : x15_3 < (t347.length : Int) := of_decide_eq_true (by first | (with_reducible assumption) | assumption)
                            obtain ⟨ad356, e356, hx356_0⟩ := Kd.at_bool (Kd.R_reads' HO_13.out).2.2 x15_3 p356 q356
                            cases e356
                            replace p356 := eq_true p356
                            replace q356 := eq_true q356
                            go_wp2
                            go_roundg k3
                            case measure => have := HJ10.out; have := HJ32.out; have := HK3.out; omega
                            case rel => exact ⟨(wrap64 (x15_3 + 1)), (by first | rfl | (simp; done) | (simp [*]; done)), H', ⟨by have := HJ10.out; have := HJ32.out; have := HK3.out; omega⟩, ⟨by (with_reducible repeat (first | apply Kd.R_alloc | apply Kd.R_drewN | apply Kd.R_drew)); exact HO_13.out⟩, ⟨by repeat (first | (with_reducible first | exact HB.out | apply below_alloc | apply pw_below_drewN | apply below_drew1) | exact HB.out)⟩⟩
                        · rw [if_neg c49] at H
                          exact absurd H (by simp)
                      · rw [if_neg c48] at H
                        have c48b0 : decide (x15_3 < (t347.length : Int)) = false := decide_eq_false c48
                        clear c48
                        replace H := Option.bind_eq_some_iff.mp H
                        obtain ⟨t357, A530, H⟩ := H
                        replace H : (some t357) = some r := H
                        have A53 := Aside0.mk A530
                        clear A530
                        obtain rfl := Option.some.inj H
                        obtain ⟨Ao54, co54, eo54⟩ := Kd.R_slice HO_13.out
                        subst eo54
                        go_wp2_with (first | ((with_reducible refine gate_callee (f := 12) rfl ?_); refine goesL_ (some 124) rfl rfl Try.func12 (by kernel_rfl) rfl #[] rfl (by (try simp only [List.map_toArray, List.map_cons, List.map_nil]); first | done | rfl | (simp only [List.length_drop, List.length_take]; rfl)) ?_; (with_reducible refine (barscanlaw01_alive.calls  t357 _ A53.out).mono ?_); rintro e w55 ⟨rfl, hb⟩; refine ⟨_, rfl, ?_⟩; have n0_ := Aside0.mk (Kd.R_below (by (with_reducible repeat (first | apply Kd.R_alloc | apply Kd.R_drewN | apply Kd.R_drew)); exact HO_13.out) hb); have n1_ := Aside0.mk (below_step (by repeat (first | (with_reducible first | exact HB.out | apply below_alloc | apply pw_below_drewN | apply below_drew1) | exact HB.out)) hb); clear HO_13; clear HB; have HO_13 := n0_; have HB := n1_; clear n0_ n1_; (try clear hb); (try clear hb2); (try clear hk); (try clear hi)))
                        go_ret
                        exact ⟨by first | rfl | (simp [errW_none, errW_some] <;> rfl) | (simp [*, errW_none, errW_some] <;> rfl), by repeat (first | (with_reducible first | exact HB.out | apply below_alloc | apply pw_below_drewN | apply below_drew1) | exact HB.out)⟩
          · rw [if_neg c31] at H
            have c31b0 : (t342 == 0) = false := beq_eq_false_iff_ne.mpr c31
            have c31b1 : (t342 != 0) = true := bne_iff_ne.mpr c31
            by_cases c56 : a1 < 1
            · rw [if_pos c56] at H
              have c56b0 : decide (a1 < 1) = true := decide_eq_true c56
              clear c56
              replace H := Option.bind_eq_some_iff.mp H
              obtain ⟨t345, A570, H⟩ := H
              replace H : (some t345) = some r := H
              have A57 := Aside0.mk A570
              clear A570
              obtain rfl := Option.some.inj H
              go_wp2_with (first | ((with_reducible refine gate_callee (f := 18) rfl ?_); refine goesL_ (some 63) rfl rfl Try.func18 (by kernel_rfl) rfl #[.slice A0 l0.length c0, .int .i64 a1, .bool a2] rfl (by (try simp only [List.map_toArray, List.map_cons, List.map_nil]); first | done | rfl | (simp only [List.length_drop, List.length_take]; rfl)) ?_; (with_reducible refine (bits_Words.calls _ _ l0 a1 a2 t341 t342 _ ?side1 ?side2 A30.out).mono ?_); (case side1 => repeat (first | exact (Kd.C_below HR0.out HB.out) | (with_reducible refine Kd.C_alloc ?_ _) | (with_reducible refine Kd.C_drewN ?_ _) | (with_reducible refine Kd.C_drew ?_))); (case side2 => exact HC0.out); rintro e w58 ⟨v343, rfl, ho0, hb⟩; refine ⟨_, rfl, ?_⟩; have n0_ := Aside0.mk (Kd.R_lower ho0 (below_size (by repeat (first | (with_reducible first | exact HB.out | apply below_alloc | apply pw_below_drewN | apply below_drew1) | exact HB.out)))); have n1_ := Aside0.mk (below_step (by repeat (first | (with_reducible first | exact HB.out | apply below_alloc | apply pw_below_drewN | apply below_drew1) | exact HB.out)) hb); clear HB; have HO344 := n0_; have HB := n1_; clear n0_ n1_; (try clear hb); (try clear hb2); (try clear hk); (try clear hi); (try clear ho0)) | (go_at_call 12; (with_reducible refine (barscanlaw01_alive.calls  t345 _ A57.out).mono ?_); rintro e w59 ⟨rfl, hb⟩; have n0_ := Aside0.mk (Kd.R_below (by (with_reducible repeat (first | apply Kd.R_alloc | apply Kd.R_drewN | apply Kd.R_drew)); exact HO344.out) hb); have n1_ := Aside0.mk (below_step (by repeat (first | (with_reducible first | exact HB.out | apply below_alloc | apply pw_below_drewN | apply below_drew1) | exact HB.out)) hb); clear HO344; clear HB; have HO344 := n0_; have HB := n1_; clear n0_ n1_; (try clear hb); (try clear hb2); (try clear hk); (try clear hi)))
              go_ret
              exact ⟨by first | rfl | (simp [errW_none, errW_some] <;> rfl) | (simp [*, errW_none, errW_some] <;> rfl), by repeat (first | (with_reducible first | exact HB.out | apply below_alloc | apply pw_below_drewN | apply below_drew1) | exact HB.out)⟩
            · rw [if_neg c56] at H
              have c56b0 : decide (a1 < 1) = false := decide_eq_false c56
              clear c56
              by_cases c60 : a1 > 62
              · rw [if_pos c60] at H
                have c60b0 : decide (62 < a1) = true := decide_eq_true c60
                clear c60
                replace H := Option.bind_eq_some_iff.mp H
                obtain ⟨t346, A610, H⟩ := H
                replace H : (some t346) = some r := H
                have A61 := Aside0.mk A610
                clear A610
                obtain rfl := Option.some.inj H
                go_wp2_with (first | ((with_reducible refine gate_callee (f := 18) rfl ?_); refine goesL_ (some 63) rfl rfl Try.func18 (by kernel_rfl) rfl #[.slice A0 l0.length c0, .int .i64 a1, .bool a2] rfl (by (try simp only [List.map_toArray, List.map_cons, List.map_nil]); first | done | rfl | (simp only [List.length_drop, List.length_take]; rfl)) ?_; (with_reducible refine (bits_Words.calls _ _ l0 a1 a2 t341 t342 _ ?side1 ?side2 A30.out).mono ?_); (case side1 => repeat (first | exact (Kd.C_below HR0.out HB.out) | (with_reducible refine Kd.C_alloc ?_ _) | (with_reducible refine Kd.C_drewN ?_ _) | (with_reducible refine Kd.C_drew ?_))); (case side2 => exact HC0.out); rintro e w62 ⟨v343, rfl, ho0, hb⟩; refine ⟨_, rfl, ?_⟩; have n0_ := Aside0.mk (Kd.R_lower ho0 (below_size (by repeat (first | (with_reducible first | exact HB.out | apply below_alloc | apply pw_below_drewN | apply below_drew1) | exact HB.out)))); have n1_ := Aside0.mk (below_step (by repeat (first | (with_reducible first | exact HB.out | apply below_alloc | apply pw_below_drewN | apply below_drew1) | exact HB.out)) hb); clear HB; have HO344 := n0_; have HB := n1_; clear n0_ n1_; (try clear hb); (try clear hb2); (try clear hk); (try clear hi); (try clear ho0)) | (go_at_call 12; (with_reducible refine (barscanlaw01_alive.calls  t346 _ A61.out).mono ?_); rintro e w63 ⟨rfl, hb⟩; have n0_ := Aside0.mk (Kd.R_below (by (with_reducible repeat (first | apply Kd.R_alloc | apply Kd.R_drewN | apply Kd.R_drew)); exact HO344.out) hb); have n1_ := Aside0.mk (below_step (by repeat (first | (with_reducible first | exact HB.out | apply below_alloc | apply pw_below_drewN | apply below_drew1) | exact HB.out)) hb); clear HO344; clear HB; have HO344 := n0_; have HB := n1_; clear n0_ n1_; (try clear hb); (try clear hb2); (try clear hk); (try clear hi)))
                go_ret
                exact ⟨by first | rfl | (simp [errW_none, errW_some] <;> rfl) | (simp [*, errW_none, errW_some] <;> rfl), by repeat (first | (with_reducible first | exact HB.out | apply below_alloc | apply pw_below_drewN | apply below_drew1) | exact HB.out)⟩
              · rw [if_neg c60] at H
                have c60b0 : decide (62 < a1) = false := decide_eq_false c60
                clear c60
                obtain rfl := Option.some.inj H
                go_wp2_with (first | ((with_reducible refine gate_callee (f := 18) rfl ?_); refine goesL_ (some 63) rfl rfl Try.func18 (by kernel_rfl) rfl #[.slice A0 l0.length c0, .int .i64 a1, .bool a2] rfl (by (try simp only [List.map_toArray, List.map_cons, List.map_nil]); first | done | rfl | (simp only [List.length_drop, List.length_take]; rfl)) ?_; (with_reducible refine (bits_Words.calls _ _ l0 a1 a2 t341 t342 _ ?side1 ?side2 A30.out).mono ?_); (case side1 => repeat (first | exact (Kd.C_below HR0.out HB.out) | (with_reducible refine Kd.C_alloc ?_ _) | (with_reducible refine Kd.C_drewN ?_ _) | (with_reducible refine Kd.C_drew ?_))); (case side2 => exact HC0.out); rintro e w64 ⟨v343, rfl, ho0, hb⟩; refine ⟨_, rfl, ?_⟩; have n0_ := Aside0.mk (Kd.R_lower ho0 (below_size (by repeat (first | (with_reducible first | exact HB.out | apply below_alloc | apply pw_below_drewN | apply below_drew1) | exact HB.out)))); have n1_ := Aside0.mk (below_step (by repeat (first | (with_reducible first | exact HB.out | apply below_alloc | apply pw_below_drewN | apply below_drew1) | exact HB.out)) hb); clear HB; have HO344 := n0_; have HB := n1_; clear n0_ n1_; (try clear hb); (try clear hb2); (try clear hk); (try clear hi); (try clear ho0)))
                go_ret
                exact ⟨by first | rfl | (simp [errW_none, errW_some] <;> rfl) | (simp [*, errW_none, errW_some] <;> rfl), by repeat (first | (with_reducible first | exact HB.out | apply below_alloc | apply pw_below_drewN | apply below_drew1) | exact HB.out)⟩

end Go.Proofs.Ytochccmhcpeioaa.X
