/- barscanlaw17.alive, printed (by this session's own program). No condition beyond the theorem's own hypotheses. -/
import Derived.Test.YtagmncdbiljacaaXx0
import Derived.Test.YtagmncdbiljacaaXx2
import Derived.Test.YtagmncdbiljacaaYAligns
import Derived.Test.YtagmncdbiljacaaYCodewords
import Derived.Test.YtagmncdbiljacaaYStructure3
import Derived.Test.YtagmncdbiljacaaWC
namespace Go.Proofs.Ytagmncdbiljacaa.X
open Go.RowKit Go.Proofs.YtagmncdbiljacaaW.PrintWords Go.Proofs.YtagmncdbiljacaaW.PrintLast Go.Proofs.YtagmncdbiljacaaW.PrintMore
attribute [local go_sem] max2_int min2_int max_two min_two max_three min_three max_four min_four   -- for this text's walks alone
set_option linter.unusedVariables false
set_option linter.unusedSimpArgs false
theorem eqA69 (d : Nat) (w : World) (x0 y0 : Int) (x1 y1 : Int) (x2 y2 : Int) (x3 y3 : Int) :
    (Op.equalIn (d + 2) 69 (.agg #[.int .i64 x0, .int .i64 x1, .int .i64 x2, .int .i64 x3]) (.agg #[.int .i64 y0, .int .i64 y1, .int .i64 y2, .int .i64 y3])).run Try.prog w = .ok (x0 == y0 && (x1 == y1 && (x2 == y2 && (x3 == y3)))) w := by
  refine eqA_of Try.underlying69 (by kernel_rfl) ?_
  refine eqf_cons (by rfl) (by go_simp; rfl) (by go_simp; rfl) (by go_simp) ?_
  refine eqf_cons (by rfl) (by go_simp; rfl) (by go_simp; rfl) (by go_simp) ?_
  refine eqf_cons (by rfl) (by go_simp; rfl) (by go_simp; rfl) (by go_simp) ?_
  exact eqf_last (by rfl) (by go_simp; rfl) (by go_simp; rfl) (by go_simp)
attribute [local go_sem high] eqA69
/-! ### barscanlaw17_aliveP: function 14 -/
def barscanlaw17_aliveP.f (k : Nat)  : Option (Bool) := (qrversion_Size.f 1).bind fun bt107 => ((qrversion_Aligns.f 7).bind fun bt109 => ((qrversion_Codewords.f 2).bind fun bt113 => ((qrversion_Structure.f 5 3).bind fun bt116 => ((qrversion_Capacity.f 5 3).bind fun bt122 => (if bt107.2 = 0 then (if bt109.2 = 0 then (if bt113.2.2 = 0 then (if bt116.2.2.2.2 = 0 then (if bt122.2 = 0 then (if bt107.1 = 21 then ((barscanref01_Ints.f k bt109.1 (([6, 22, 38] : List Int))).bind fun t127 => (if t127 = true then (if bt113.1 = 44 then (if bt113.2.1 = 7 then (if (bt116.1 == 2 && (bt116.2.1 == 2 && (bt116.2.2.1 == 15 && (bt116.2.2.2.1 == 18)))) = true then (some (bt122.1 == 62)) else (some false)) else (some false)) else (some false)) else (some false))) else (some false)) else (some false)) else (some false)) else (some false)) else (some false)) else (some false))))))
theorem barscanlaw17_aliveP.mono : ∀ k, LeO (barscanlaw17_aliveP.f k ) (barscanlaw17_aliveP.f (k + 1) ) := by
 intro  k
 unfold barscanlaw17_aliveP.f
 repeat' first
   | (with_reducible exact barscanref01_Ints.mono _ _ _)
   | (with_reducible exact LeO.refl _)
   | (with_reducible exact LeO.none _)
   | (with_reducible refine LeO.ite ?_ ?_)
   | (with_reducible refine LeO.bind ?_ (fun _ => ?_))
   | exact barscanref01_Ints.mono _ _ _
   | exact LeO.none _
   | refine LeO.ite ?_ ?_
   | refine LeO.bind ?_ (fun _ => ?_)
set_option maxHeartbeats 8000000 in
set_option maxRecDepth 100000 in
theorem barscanlaw17_aliveP.calls (r : Bool) (w : World) (h : barscanlaw17_aliveP.f 20 = some r) :
  Calls Try.prog 14 #[] w fun e w' => e = .returned (.bool r) ∧ Below w.heap.size w w' := by
 have hu69 := Try.underlying69
 have HB := Aside0.mk (Below.refl w.heap.size w)
 have H : ((qrversion_Size.f 1).bind fun bt107 => ((qrversion_Aligns.f 7).bind fun bt109 => ((qrversion_Codewords.f 2).bind fun bt113 => ((qrversion_Structure.f 5 3).bind fun bt116 => ((qrversion_Capacity.f 5 3).bind fun bt122 => (if bt107.2 = 0 then (if bt109.2 = 0 then (if bt113.2.2 = 0 then (if bt116.2.2.2.2 = 0 then (if bt122.2 = 0 then (if bt107.1 = 21 then ((barscanref01_Ints.f 20 bt109.1 (([6, 22, 38] : List Int))).bind fun t127 => (if t127 = true then (if bt113.1 = 44 then (if bt113.2.1 = 7 then (if (bt116.1 == 2 && (bt116.2.1 == 2 && (bt116.2.2.1 == 15 && (bt116.2.2.2.1 == 18)))) = true then (some (bt122.1 == 62)) else (some false)) else (some false)) else (some false)) else (some false))) else (some false)) else (some false)) else (some false)) else (some false)) else (some false)) else (some false))))))) = some r := h
 clear h
 replace H := Option.bind_eq_some_iff.mp H
 obtain ⟨⟨t107, t108⟩, A10, H⟩ := H
 replace H : ((qrversion_Aligns.f 7).bind fun bt109 => ((qrversion_Codewords.f 2).bind fun bt113 => ((qrversion_Structure.f 5 3).bind fun bt116 => ((qrversion_Capacity.f 5 3).bind fun bt122 => (if t108 = 0 then (if bt109.2 = 0 then (if bt113.2.2 = 0 then (if bt116.2.2.2.2 = 0 then (if bt122.2 = 0 then (if t107 = 21 then ((barscanref01_Ints.f 20 bt109.1 (([6, 22, 38] : List Int))).bind fun t127 => (if t127 = true then (if bt113.1 = 44 then (if bt113.2.1 = 7 then (if (bt116.1 == 2 && (bt116.2.1 == 2 && (bt116.2.2.1 == 15 && (bt116.2.2.2.1 == 18)))) = true then (some (bt122.1 == 62)) else (some false)) else (some false)) else (some false)) else (some false))) else (some false)) else (some false)) else (some false)) else (some false)) else (some false)) else (some false)))))) = some r := H
 have A1 := Aside0.mk A10
 clear A10
 replace H := Option.bind_eq_some_iff.mp H
 obtain ⟨⟨t109, t110⟩, A20, H⟩ := H
 replace H : ((qrversion_Codewords.f 2).bind fun bt113 => ((qrversion_Structure.f 5 3).bind fun bt116 => ((qrversion_Capacity.f 5 3).bind fun bt122 => (if t108 = 0 then (if t110 = 0 then (if bt113.2.2 = 0 then (if bt116.2.2.2.2 = 0 then (if bt122.2 = 0 then (if t107 = 21 then ((barscanref01_Ints.f 20 t109 (([6, 22, 38] : List Int))).bind fun t127 => (if t127 = true then (if bt113.1 = 44 then (if bt113.2.1 = 7 then (if (bt116.1 == 2 && (bt116.2.1 == 2 && (bt116.2.2.1 == 15 && (bt116.2.2.2.1 == 18)))) = true then (some (bt122.1 == 62)) else (some false)) else (some false)) else (some false)) else (some false))) else (some false)) else (some false)) else (some false)) else (some false)) else (some false)) else (some false))))) = some r := H
 have A2 := Aside0.mk A20
 clear A20
 replace H := Option.bind_eq_some_iff.mp H
 obtain ⟨⟨t113, t114, t115⟩, A30, H⟩ := H
 replace H : ((qrversion_Structure.f 5 3).bind fun bt116 => ((qrversion_Capacity.f 5 3).bind fun bt122 => (if t108 = 0 then (if t110 = 0 then (if t115 = 0 then (if bt116.2.2.2.2 = 0 then (if bt122.2 = 0 then (if t107 = 21 then ((barscanref01_Ints.f 20 t109 (([6, 22, 38] : List Int))).bind fun t127 => (if t127 = true then (if t113 = 44 then (if t114 = 7 then (if (bt116.1 == 2 && (bt116.2.1 == 2 && (bt116.2.2.1 == 15 && (bt116.2.2.2.1 == 18)))) = true then (some (bt122.1 == 62)) else (some false)) else (some false)) else (some false)) else (some false))) else (some false)) else (some false)) else (some false)) else (some false)) else (some false)) else (some false)))) = some r := H
 have A3 := Aside0.mk A30
 clear A30
 replace H := Option.bind_eq_some_iff.mp H
 obtain ⟨⟨t116, t117, t118, t119, t120⟩, A40, H⟩ := H
 replace H : ((qrversion_Capacity.f 5 3).bind fun bt122 => (if t108 = 0 then (if t110 = 0 then (if t115 = 0 then (if t120 = 0 then (if bt122.2 = 0 then (if t107 = 21 then ((barscanref01_Ints.f 20 t109 (([6, 22, 38] : List Int))).bind fun t127 => (if t127 = true then (if t113 = 44 then (if t114 = 7 then (if (t116 == 2 && (t117 == 2 && (t118 == 15 && (t119 == 18)))) = true then (some (bt122.1 == 62)) else (some false)) else (some false)) else (some false)) else (some false))) else (some false)) else (some false)) else (some false)) else (some false)) else (some false)) else (some false))) = some r := H
 have A4 := Aside0.mk A40
 clear A40
 replace H := Option.bind_eq_some_iff.mp H
 obtain ⟨⟨t122, t123⟩, A50, H⟩ := H
 replace H : (if t108 = 0 then (if t110 = 0 then (if t115 = 0 then (if t120 = 0 then (if t123 = 0 then (if t107 = 21 then ((barscanref01_Ints.f 20 t109 (([6, 22, 38] : List Int))).bind fun t127 => (if t127 = true then (if t113 = 44 then (if t114 = 7 then (if (t116 == 2 && (t117 == 2 && (t118 == 15 && (t119 == 18)))) = true then (some (t122 == 62)) else (some false)) else (some false)) else (some false)) else (some false))) else (some false)) else (some false)) else (some false)) else (some false)) else (some false)) else (some false)) = some r := H
 have A5 := Aside0.mk A50
 clear A50
 have v1 : t107 = 21 ∧ t108 = 0 := by
   have e : qrversion_Size.f 1 = some (21, 0) := by decide +kernel
   have := e.symm.trans A1.out; simp at this; omega
 have v2 : t109 = [6, 22, 38] ∧ t110 = 0 := by
   have e : qrversion_Aligns.f 7 = some ([6, 22, 38], 0) := by decide +kernel
   have := e.symm.trans A2.out; simp at this; exact ⟨this.1.symm, this.2.symm⟩
 have v3 : t113 = 44 ∧ t114 = 7 ∧ t115 = 0 := by
   have e : qrversion_Codewords.f 2 = some (44, 7, 0) := by decide +kernel
   have := e.symm.trans A3.out; simp at this; omega
 have v4 : t116 = 2 ∧ t117 = 2 ∧ t118 = 15 ∧ t119 = 18 ∧ t120 = 0 := by
   have e : qrversion_Structure.f 5 3 = some (2, 2, 15, 18, 0) := by decide +kernel
   have := e.symm.trans A4.out; simp at this; omega
 have v5 : t123 = 0 := by
   have e : qrversion_Capacity.f 5 3 = some (62, 0) := by decide +kernel
   have := e.symm.trans A5.out; simp at this; omega
 have c6 : t108 = 0 := by first | exact v1.1 | exact v1.2 | exact v2.2 | exact v3.1 | exact v3.2.1 | exact v3.2.2 | exact v4.2.2.2.2 | exact v5
 rw [if_pos c6] at H
 have c6b0 : (t108 == 0) = true := beq_iff_eq.mpr c6
 have c6b1 : (t108 != 0) = false := bne_eq_false_iff_eq.mpr c6
 clear c6
 have c7 : t110 = 0 := by first | exact v1.1 | exact v1.2 | exact v2.2 | exact v3.1 | exact v3.2.1 | exact v3.2.2 | exact v4.2.2.2.2 | exact v5
 rw [if_pos c7] at H
 have c7b0 : (t110 == 0) = true := beq_iff_eq.mpr c7
 have c7b1 : (t110 != 0) = false := bne_eq_false_iff_eq.mpr c7
 clear c7
 have c8 : t115 = 0 := by first | exact v1.1 | exact v1.2 | exact v2.2 | exact v3.1 | exact v3.2.1 | exact v3.2.2 | exact v4.2.2.2.2 | exact v5
 rw [if_pos c8] at H
 have c8b0 : (t115 == 0) = true := beq_iff_eq.mpr c8
 have c8b1 : (t115 != 0) = false := bne_eq_false_iff_eq.mpr c8
 clear c8
 have c9 : t120 = 0 := by first | exact v1.1 | exact v1.2 | exact v2.2 | exact v3.1 | exact v3.2.1 | exact v3.2.2 | exact v4.2.2.2.2 | exact v5
 rw [if_pos c9] at H
 have c9b0 : (t120 == 0) = true := beq_iff_eq.mpr c9
 have c9b1 : (t120 != 0) = false := bne_eq_false_iff_eq.mpr c9
 clear c9
 have c10 : t123 = 0 := by first | exact v1.1 | exact v1.2 | exact v2.2 | exact v3.1 | exact v3.2.1 | exact v3.2.2 | exact v4.2.2.2.2 | exact v5
 rw [if_pos c10] at H
 have c10b0 : (t123 == 0) = true := beq_iff_eq.mpr c10
 have c10b1 : (t123 != 0) = false := bne_eq_false_iff_eq.mpr c10
 clear c10
 have c11 : t107 = 21 := by first | exact v1.1 | exact v1.2 | exact v2.2 | exact v3.1 | exact v3.2.1 | exact v3.2.2 | exact v4.2.2.2.2 | exact v5
 rw [if_pos c11] at H
 have c11b0 : (t107 == 21) = true := beq_iff_eq.mpr c11
 have c11b1 : (t107 != 21) = false := bne_eq_false_iff_eq.mpr c11
 clear c11
 obtain ⟨y124, hy124⟩ : ∃ y_ : List Int, y_ = (([6, 22, 38] : List Int)) := ⟨_, rfl⟩
 replace H : ((barscanref01_Ints.f 20 t109 y124).bind fun t127 => (if t127 = true then (if t113 = 44 then (if t114 = 7 then (if (t116 == 2 && (t117 == 2 && (t118 == 15 && (t119 == 18)))) = true then (some (t122 == 62)) else (some false)) else (some false)) else (some false)) else (some false))) = some r := by first | (rw [hy124]; with_reducible exact H) | (have H2_ := (Option.bind_some _ _).symm.trans H; rw [hy124]; with_reducible exact H2_) | (have H2_ := (Option.bind_some _ _).symm.trans H; with_reducible exact H2_) | with_reducible exact H | (rw [hy124]; exact H) | exact H
 have Ny124 := Aside0.mk hy124
 clear hy124
 replace H := Option.bind_eq_some_iff.mp H
 obtain ⟨t127, A120, H⟩ := H
 replace H : (if t127 = true then (if t113 = 44 then (if t114 = 7 then (if (t116 == 2 && (t117 == 2 && (t118 == 15 && (t119 == 18)))) = true then (some (t122 == 62)) else (some false)) else (some false)) else (some false)) else (some false)) = some r := H
 have A12 := Aside0.mk A120
 clear A120
 have c13 : t127 = true := by
   have a := A12.out
   rw [v2.1, Ny124.out] at a
   have e : barscanref01_Ints.f 20 [6, 22, 38] [6, 22, 38] = some true := by decide +kernel
   rw [e] at a; exact (Option.some.inj a).symm
 subst c13
 have H1 : (if t113 = 44 then (if t114 = 7 then (if (t116 == 2 && (t117 == 2 && (t118 == 15 && (t119 == 18)))) = true then (some (t122 == 62)) else (some false)) else (some false)) else (some false)) = some r := by rw [if_pos rfl] at H; exact H
 clear H
 have H := H1
 clear H1
 have c14 : t113 = 44 := by first | exact v1.1 | exact v1.2 | exact v2.2 | exact v3.1 | exact v3.2.1 | exact v3.2.2 | exact v4.2.2.2.2 | exact v5
 rw [if_pos c14] at H
 have c14b0 : (t113 == 44) = true := beq_iff_eq.mpr c14
 have c14b1 : (t113 != 44) = false := bne_eq_false_iff_eq.mpr c14
 clear c14
 have c15 : t114 = 7 := by first | exact v1.1 | exact v1.2 | exact v2.2 | exact v3.1 | exact v3.2.1 | exact v3.2.2 | exact v4.2.2.2.2 | exact v5
 rw [if_pos c15] at H
 have c15b0 : (t114 == 7) = true := beq_iff_eq.mpr c15
 have c15b1 : (t114 != 7) = false := bne_eq_false_iff_eq.mpr c15
 clear c15
 have c16 : (t116 == 2 && (t117 == 2 && (t118 == 15 && (t119 == 18)))) = true := by obtain ⟨a, b, c, d, _⟩ := v4; rw [a, b, c, d]; rfl
 rw [if_pos c16] at H
 have c16b0 : (t116 == 2 && (t117 == 2 && (t118 == 15 && (t119 == 18)))) = true := c16
 (try (have c16b1 : decide (t116 = 2 && (t117 == 2 && (t118 == 15 && (t119 == 18)))) = true := by simpa using c16))
 (try (have c16b2 : (t116 == 2 && (t117 == 2 && (t118 == 15 && (t119 == 18)))) = true := by simpa using c16))
 clear c16
 obtain rfl := Option.some.inj H
 clear v1 v2 v3 v4 v5
 go_enter Try.func14, Try.ntmps14
 go_wp2_with (first | ((with_reducible refine gate_callee (f := 41) rfl ?_); refine goesL_ (some 13) rfl rfl Try.func41 (by kernel_rfl) rfl #[.int .i64 1] rfl (by (try simp only [List.map_toArray, List.map_cons, List.map_nil]); first | done | rfl | (simp only [List.length_drop, List.length_take]; rfl)) ?_; (with_reducible refine (qrversion_Size.calls 1 t107 t108 _ A1.out).mono ?_); rintro e w' ⟨rfl, ⟨nd, rfl⟩⟩; refine ⟨_, rfl, ?_⟩) | ((with_reducible refine gate_callee (f := 42) rfl ?_); refine goesL_ (some 17) rfl rfl Try.func42 (by kernel_rfl) rfl #[.int .i64 7] rfl (by (try simp only [List.map_toArray, List.map_cons, List.map_nil]); first | done | rfl | (simp only [List.length_drop, List.length_take]; rfl)) ?_; (with_reducible refine (qrversion_Aligns.calls 7 t109 t110 _ A2.out).mono ?_); rintro e w17 ⟨v111, rfl, ho0, hb⟩; refine ⟨_, rfl, ?_⟩; have n0_ := Aside0.mk (Kd.R_lower ho0 (below_size (by repeat (first | (with_reducible first | exact HB.out | apply below_alloc | apply pw_below_drewN | apply below_drew1) | exact HB.out)))); have n1_ := Aside0.mk (below_step (by repeat (first | (with_reducible first | exact HB.out | apply below_alloc | apply pw_below_drewN | apply below_drew1) | exact HB.out)) hb); clear HB; have HO112 := n0_; have HB := n1_; clear n0_ n1_; (try clear hb); (try clear hb2); (try clear hk); (try clear hi); (try clear ho0)) | ((with_reducible refine gate_callee (f := 43) rfl ?_); refine goesL_ (some 21) rfl rfl Try.func43 (by kernel_rfl) rfl #[.int .i64 2] rfl (by (try simp only [List.map_toArray, List.map_cons, List.map_nil]); first | done | rfl | (simp only [List.length_drop, List.length_take]; rfl)) ?_; (with_reducible refine (qrversion_Codewords.calls 2 t113 t114 t115 _ A3.out).mono ?_); rintro e w18 ⟨rfl, hb⟩; refine ⟨_, rfl, ?_⟩; have n0_ := Aside0.mk (Kd.R_below (by (with_reducible repeat (first | apply Kd.R_alloc | apply Kd.R_drewN | apply Kd.R_drew)); exact HO112.out) hb); have n1_ := Aside0.mk (below_step (by repeat (first | (with_reducible first | exact HB.out | apply below_alloc | apply pw_below_drewN | apply below_drew1) | exact HB.out)) hb); clear HO112; clear HB; have HO112 := n0_; have HB := n1_; clear n0_ n1_; (try clear hb); (try clear hb2); (try clear hk); (try clear hi)) | ((with_reducible refine gate_callee (f := 44) rfl ?_); refine goesL_ (some 26) rfl rfl Try.func44 (by kernel_rfl) rfl #[.int .i64 5, .int .i64 3] rfl (by (try simp only [List.map_toArray, List.map_cons, List.map_nil]); first | done | rfl | (simp only [List.length_drop, List.length_take]; rfl)) ?_; (with_reducible refine (qrversion_Structure.calls 5 3 t116 t117 t118 t119 t120 _ A4.out).mono ?_); rintro e w19 ⟨rfl, hb⟩; refine ⟨_, rfl, ?_⟩; have n0_ := Aside0.mk (Kd.R_below (by (with_reducible repeat (first | apply Kd.R_alloc | apply Kd.R_drewN | apply Kd.R_drew)); exact HO112.out) hb); have n1_ := Aside0.mk (below_step (by repeat (first | (with_reducible first | exact HB.out | apply below_alloc | apply pw_below_drewN | apply below_drew1) | exact HB.out)) hb); clear HO112; clear HB; have HO112 := n0_; have HB := n1_; clear n0_ n1_; (try clear hb); (try clear hb2); (try clear hk); (try clear hi)) | ((with_reducible refine gate_dst (N := 8) rfl ?_); (try (refine gate_guard (by rfl) ?_; dsimp only)); refine box_event ?hg (N := 8) ?hd (cs := #[.int .i64 0, .int .i64 0, .int .i64 0, .int .i64 0]) (t := 69) ?hr ?_; (case hd => rfl); (case hg => rfl); (case hr => first | (go_simp; done) | (go_simp; rfl)); intro gb121 hg w20 hbox hb; have n0_ := Aside0.mk (Kd.R_below (by (with_reducible repeat (first | apply Kd.R_alloc | apply Kd.R_drewN | apply Kd.R_drew)); exact HO112.out) hb); have n1_ := Aside0.mk (below_step (by repeat (first | (with_reducible first | exact HB.out | apply below_alloc | apply pw_below_drewN | apply below_drew1) | exact HB.out)) hb); have n2_ := Aside0.mk (hbox); have n3_ := Aside0.mk ((by rw [hg]; exact (below_size (by repeat (first | (with_reducible first | exact HB.out | apply below_alloc | apply pw_below_drewN | apply below_drew1) | exact HB.out))) : w.heap.size ≤ gb121)); have n4_ := Aside0.mk ((by rw [hg]; exact (below_size (by repeat (first | (with_reducible first | exact HB.out | apply below_alloc | apply pw_below_drewN | apply below_drew1) | exact HB.out))) : w.heap.size ≤ gb121)); clear HO112; clear HB; have HO112 := n0_; have HB := n1_; have BK121 := n2_; have GW121 := n3_; have GE121 := n4_; clear n0_ n1_ n2_ n3_ n4_; clear hb hbox hg; have hcz21_0 : w20.cell? ⟨gb121, 0, none⟩ = some (.int .i64 0) := (blk_cell BK121.out 0).trans rfl; have hcz21_1 : w20.cell? ⟨gb121, 1, none⟩ = some (.int .i64 0) := (blk_cell BK121.out 1).trans rfl; have hcz21_2 : w20.cell? ⟨gb121, 2, none⟩ = some (.int .i64 0) := (blk_cell BK121.out 2).trans rfl; have hcz21_3 : w20.cell? ⟨gb121, 3, none⟩ = some (.int .i64 0) := (blk_cell BK121.out 3).trans rfl; have hfz21_0 := blk_frozen BK121.out 0; have hfz21_1 := blk_frozen BK121.out 1; have hfz21_2 := blk_frozen BK121.out 2; have hfz21_3 := blk_frozen BK121.out 3) | ((with_reducible refine gate_callee (f := 40) rfl ?_); refine goesL_ (some 30) rfl rfl Try.func40 (by kernel_rfl) rfl #[.int .i64 5, .int .i64 3] rfl (by (try simp only [List.map_toArray, List.map_cons, List.map_nil]); first | done | rfl | (simp only [List.length_drop, List.length_take]; rfl)) ?_; (with_reducible refine (qrversion_Capacity.calls 5 3 t122 t123 _ A5.out).mono ?_); rintro e w22 ⟨rfl, hb⟩; refine ⟨_, rfl, ?_⟩; have n0_ := Aside0.mk (Kd.R_below (by (with_reducible repeat (first | apply Kd.R_alloc | apply Kd.R_drewN | apply Kd.R_drew)); exact (Kd.R_mono (Kd.R_far (p := ⟨gb121, 3, none⟩) (Kd.R_far (p := ⟨gb121, 2, none⟩) (Kd.R_far (p := ⟨gb121, 1, none⟩) (Kd.R_far (p := ⟨gb121, 0, none⟩) (Kd.R_types HO112.out BK121.out (by decide)) (fun _ hk => hk.2) (.int .i64 t116)) (fun _ hk => hk.2) (.int .i64 t117)) (fun _ hk => hk.2) (.int .i64 t118)) (fun _ hk => hk.2) (.int .i64 t119)) (fun _ h_ => h_.1))) hb); have n1_ := Aside0.mk (blk_below (g := gb121) (o := .cells #[.int .i64 t116, .int .i64 t117, .int .i64 t118, .int .i64 t119] 69 (0, 0)) (by (with_reducible repeat (first | refine blk_drewN ?_ _ | refine blk_drew ?_ | refine blk_alloc ?_ _)); refine blk_put (cs := #[.int .i64 t116, .int .i64 t117, .int .i64 t118, .int .i64 0]) ?_ 3 _ rfl; (with_reducible repeat (first | refine blk_drewN ?_ _ | refine blk_drew ?_ | refine blk_alloc ?_ _)); refine blk_put (cs := #[.int .i64 t116, .int .i64 t117, .int .i64 0, .int .i64 0]) ?_ 2 _ rfl; (with_reducible repeat (first | refine blk_drewN ?_ _ | refine blk_drew ?_ | refine blk_alloc ?_ _)); refine blk_put (cs := #[.int .i64 t116, .int .i64 0, .int .i64 0, .int .i64 0]) ?_ 1 _ rfl; (with_reducible repeat (first | refine blk_drewN ?_ _ | refine blk_drew ?_ | refine blk_alloc ?_ _)); refine blk_put (cs := #[.int .i64 0, .int .i64 0, .int .i64 0, .int .i64 0]) ?_ 0 _ rfl; (with_reducible repeat (first | refine blk_drewN ?_ _ | refine blk_drew ?_ | refine blk_alloc ?_ _)); exact BK121.out) hb); have n2_ := Aside0.mk (below_step (by repeat (first | (with_reducible first | exact HB.out | apply below_alloc | apply pw_below_drewN | apply below_drew1 | refine below_set ?_ GE121.out) | exact HB.out)) hb); clear HO112; clear BK121; clear HB; have HO112 := n0_; have BK121 := n1_; have HB := n2_; clear n0_ n1_ n2_; (try clear hb); (try clear hb2); (try clear hk); (try clear hi)) | ((with_reducible refine gate_dst (N := 55) rfl ?_); (try (refine gate_guard (by rfl) ?_; dsimp only)); refine Kd.R_lit (Kd.int .i64) _ 3 ?hg (N := 55) ?hd (xs := ([6, 22, 38] : List Int)) (inner := [.int .i64 6, .int .i64 22, .int .i64 38]) (ok := fun _ => True) (okp := fun _ => True) ?hr ?hp (fun _ hk => hk) trivial (Below.refl _ _) (Nat.le_refl _) (by simp) ?_; (case hd => rfl); (case hg => rfl); (case hr => first | (go_simp; done) | (go_simp; rfl)); (case hp => exact (Reps.one (show Kd.M (Kd.int .i64) _ _ _ 6 [.int .i64 6] from rfl) (Reps.one (show Kd.M (Kd.int .i64) _ _ _ 22 [.int .i64 22] from rfl) (Reps.one (show Kd.M (Kd.int .i64) _ _ _ 38 [.int .i64 38] from rfl) (Reps.none _ _))))); intro v125 w23 ho24 hb hg_ hnew_; clear hg_ hnew_; (first | rw [← Ny124.out] at ho24 | (simp only [Int.reduceToNat] at ho24; rw [← Ny124.out] at ho24)); have n0_ := Aside0.mk (Kd.R_elder' (by (with_reducible repeat (first | apply Kd.R_alloc | apply Kd.R_drewN | apply Kd.R_drew)); exact HO112.out) (Kd.R_base ho24) hb); have n1_ := Aside0.mk (Kd.R_lower (Kd.R_new' ho24 (Kd.R_lt (by (with_reducible repeat (first | apply Kd.R_alloc | apply Kd.R_drewN | apply Kd.R_drew)); exact HO112.out))) (below_size (by repeat (first | (with_reducible first | exact HB.out | apply below_alloc | apply pw_below_drewN | apply below_drew1 | refine below_set ?_ GE121.out) | exact HB.out)))); have n2_ := Aside0.mk (blk_below (g := gb121) (o := .cells #[.int .i64 t116, .int .i64 t117, .int .i64 t118, .int .i64 t119] 69 (0, 0)) (by (with_reducible repeat (first | refine blk_drewN ?_ _ | refine blk_drew ?_ | refine blk_alloc ?_ _)); exact BK121.out) hb); have n3_ := Aside0.mk (below_step (by repeat (first | (with_reducible first | exact HB.out | apply below_alloc | apply pw_below_drewN | apply below_drew1 | refine below_set ?_ GE121.out) | exact HB.out)) hb); clear HO112; clear BK121; clear HB; have HO112 := n0_; have HO126 := n1_; have BK121 := n2_; have HB := n3_; clear n0_ n1_ n2_ n3_; clear hb ho24; obtain ⟨Ao25, co25, eo25⟩ := Kd.R_slice HO112.out; subst eo25; obtain ⟨Ao26, co26, eo26⟩ := Kd.R_slice HO126.out; subst eo26) | (go_at_call 45; (with_reducible refine (barscanref01_Ints.calls 20 _ _ t109 _ _ y124 true _ ?side1 ?side2 ?side3 ?side4 A12.out).mono ?_); (case side1 => repeat (first | exact (Kd.R_reads' HO112.out).2.2 | (with_reducible refine Kd.C_alloc ?_ _) | (with_reducible refine Kd.C_drewN ?_ _) | (with_reducible refine Kd.C_drew ?_))); (case side2 => exact (Kd.R_reads' HO112.out).2.1); (case side3 => repeat (first | exact (Kd.R_reads' HO126.out).2.2 | (with_reducible refine Kd.C_alloc ?_ _) | (with_reducible refine Kd.C_drewN ?_ _) | (with_reducible refine Kd.C_drew ?_))); (case side4 => exact (Kd.R_reads' HO126.out).2.1); rintro e w' ⟨rfl, ⟨nd, rfl⟩⟩; have hcz27_0 : w23.cell? ⟨gb121, 0, none⟩ = some (.int .i64 t116) := (blk_cell BK121.out 0).trans rfl; have hcz27_1 : w23.cell? ⟨gb121, 1, none⟩ = some (.int .i64 t117) := (blk_cell BK121.out 1).trans rfl; have hcz27_2 : w23.cell? ⟨gb121, 2, none⟩ = some (.int .i64 t118) := (blk_cell BK121.out 2).trans rfl; have hcz27_3 : w23.cell? ⟨gb121, 3, none⟩ = some (.int .i64 t119) := (blk_cell BK121.out 3).trans rfl; have hfz27_0 := blk_frozen BK121.out 0; have hfz27_1 := blk_frozen BK121.out 1; have hfz27_2 := blk_frozen BK121.out 2; have hfz27_3 := blk_frozen BK121.out 3))
 go_ret
 exact ⟨by first | rfl | (simp [errW_none, errW_some] <;> rfl) | (simp [*, errW_none, errW_some] <;> rfl), by repeat (first | (with_reducible first | exact HB.out | apply below_alloc | apply pw_below_drewN | apply below_drew1 | refine below_set ?_ GE121.out) | exact HB.out)⟩
end Go.Proofs.Ytagmncdbiljacaa.X
