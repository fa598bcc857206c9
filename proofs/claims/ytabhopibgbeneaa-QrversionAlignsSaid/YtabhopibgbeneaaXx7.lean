/- Functions of the program as Lean functions, and proofs that their calls come to them (printed for this claim by the session's own program). No condition beyond each theorem's own hypotheses. -/
import Derived.Test.YtabhopibgbeneaaXx0
import Derived.Test.YtabhopibgbeneaaXx2
import Derived.Test.YtabhopibgbeneaaXx5
import Derived.Test.YtabhopibgbeneaaYAligns
namespace Go.Proofs.Ytabhopibgbeneaa.X
open Go.RowKit Go.Proofs.YtabhopibgbeneaaW.PrintWords Go.Proofs.YtabhopibgbeneaaW.PrintLast Go.Proofs.YtabhopibgbeneaaW.PrintMore
attribute [local go_sem] max2_int min2_int max_two min_two max_three min_three max_four min_four   -- for this text's walks alone
set_option linter.unusedVariables false
set_option linter.unusedSimpArgs false

/-! ### barscanlaw17_QrversionAligns: function 6 -/
mutual
def barscanlaw17_QrversionAligns.j0 : Nat → Int → Int → Int → List Int → Int → Bool → Option (Bool)
  | 0, _, _, _, _, _, _ => none
  | k + 1, x0, x3, x4, x5, x6, x29 => if x29 = true then (if x4 = 0 then (if ((x4 == x6) == true) = true then (if (x5.length : Int) = 0 then ((barscanlaw17_alive.f k).bind fun t251 => (some t251)) else (some false)) else (some false)) else (if ((x4 == x6) == (x4 == 14)) = true then (if (x5.length : Int) = 0 then ((barscanlaw17_alive.f k).bind fun t252 => (some t252)) else (some false)) else (some false))) else (if (x5.length : Int) = (wrap64 ((wrap64 (Int.tdiv x0 7)) + 2)) then (if 0 < (x5.length : Int) then (if (rd x5 0) = 6 then (if 0 ≤ (wrap64 ((x5.length : Int) - 1)) then (if (wrap64 ((x5.length : Int) - 1)) < (x5.length : Int) then (barscanlaw17_QrversionAligns.j1 k x5 ((rd x5 (wrap64 ((x5.length : Int) - 1))) != (wrap64 (x3 - 7)))) else (none)) else (none)) else (barscanlaw17_QrversionAligns.j1 k x5 true)) else (none)) else (barscanlaw17_QrversionAligns.j1 k x5 true))
def barscanlaw17_QrversionAligns.j1 : Nat → List Int → Bool → Option (Bool)
  | 0, _, _ => none
  | k + 1, x5, x70 => if x70 = true then (some false) else (barscanlaw17_QrversionAligns.l0 k x5 1)
def barscanlaw17_QrversionAligns.l0 : Nat → List Int → Int → Option (Bool)
  | 0, _, _ => none
  | k + 1, x5, x7 => if x7 < (x5.length : Int) then (if 0 ≤ x7 then (if 0 ≤ (wrap64 (x7 - 1)) then (if (wrap64 (x7 - 1)) < (x5.length : Int) then (if 0 ≤ (wrap64 ((x5.length : Int) - 1)) then (if (wrap64 ((x5.length : Int) - 1)) < (x5.length : Int) then (if 0 ≤ (wrap64 ((x5.length : Int) - 2)) then (if (wrap64 ((x5.length : Int) - 2)) < (x5.length : Int) then (if (Int.tmod (wrap64 ((rd x5 x7) - (rd x5 (wrap64 (x7 - 1))))) 2) = 0 then (if (wrap64 ((rd x5 x7) - (rd x5 (wrap64 (x7 - 1))))) < 12 then (some false) else (if (wrap64 ((rd x5 x7) - (rd x5 (wrap64 (x7 - 1))))) > 28 then (some false) else (if x7 > 1 then (if (wrap64 ((rd x5 x7) - (rd x5 (wrap64 (x7 - 1))))) = (wrap64 ((rd x5 (wrap64 ((x5.length : Int) - 1))) - (rd x5 (wrap64 ((x5.length : Int) - 2))))) then (barscanlaw17_QrversionAligns.l0 k x5 (wrap64 (x7 + 1))) else (some false)) else (barscanlaw17_QrversionAligns.l0 k x5 (wrap64 (x7 + 1)))))) else (some false)) else (none)) else (none)) else (none)) else (none)) else (none)) else (none)) else (none)) else ((barscanlaw17_alive.f k).bind fun t259 => (some t259))
end
def barscanlaw17_QrversionAligns.f (k : Nat) (a0 : Int) : Option (Bool) := (qrversion_Size.f a0).bind fun bt245 => ((qrversion_Aligns.f a0).bind fun bt247 => (if bt245.2 = 0 then (if bt247.2 = 0 then (barscanlaw17_QrversionAligns.j0 k a0 bt245.1 bt245.2 bt247.1 bt247.2 (a0 == 1)) else (barscanlaw17_QrversionAligns.j0 k a0 bt245.1 bt245.2 bt247.1 bt247.2 true)) else (barscanlaw17_QrversionAligns.j0 k a0 bt245.1 bt245.2 bt247.1 bt247.2 true)))
theorem barscanlaw17_QrversionAligns.mono_l : ∀ k, (∀ y0 y1 y2 y3 y4 y5, LeO (barscanlaw17_QrversionAligns.j0 k y0 y1 y2 y3 y4 y5) (barscanlaw17_QrversionAligns.j0 (k + 1) y0 y1 y2 y3 y4 y5)) ∧ (∀ y0 y1, LeO (barscanlaw17_QrversionAligns.j1 k y0 y1) (barscanlaw17_QrversionAligns.j1 (k + 1) y0 y1)) ∧ (∀ y0 y1, LeO (barscanlaw17_QrversionAligns.l0 k y0 y1) (barscanlaw17_QrversionAligns.l0 (k + 1) y0 y1))
  | 0 => ⟨fun _ _ _ _ _ _ r h => by simp [barscanlaw17_QrversionAligns.j0] at h, fun _ _ r h => by simp [barscanlaw17_QrversionAligns.j1] at h, fun _ _ r h => by simp [barscanlaw17_QrversionAligns.l0] at h⟩
  | k + 1 => by
    obtain ⟨ih0, ih1, ih2⟩ := barscanlaw17_QrversionAligns.mono_l k
    refine ⟨?_, ?_, ?_⟩
    · intro y0 y1 y2 y3 y4 y5
      unfold barscanlaw17_QrversionAligns.j0
      repeat' first
      | (with_reducible exact ih0 _ _ _ _ _ _)
      | (with_reducible exact ih1 _ _)
      | (with_reducible exact ih2 _ _)
      | (with_reducible exact barscanlaw17_alive.mono _)
      | (with_reducible exact LeO.refl _)
      | (with_reducible exact LeO.none _)
      | (with_reducible refine LeO.ite ?_ ?_)
      | (with_reducible refine LeO.bind ?_ (fun _ => ?_))
      | exact ih0 _ _ _ _ _ _
      | exact ih1 _ _
      | exact ih2 _ _
      | exact barscanlaw17_alive.mono _
      | exact LeO.none _
      | refine LeO.ite ?_ ?_
      | refine LeO.bind ?_ (fun _ => ?_)
    · intro y0 y1
      unfold barscanlaw17_QrversionAligns.j1
      repeat' first
      | (with_reducible exact ih0 _ _ _ _ _ _)
      | (with_reducible exact ih1 _ _)
      | (with_reducible exact ih2 _ _)
      | (with_reducible exact barscanlaw17_alive.mono _)
      | (with_reducible exact LeO.refl _)
      | (with_reducible exact LeO.none _)
      | (with_reducible refine LeO.ite ?_ ?_)
      | (with_reducible refine LeO.bind ?_ (fun _ => ?_))
      | exact ih0 _ _ _ _ _ _
      | exact ih1 _ _
      | exact ih2 _ _
      | exact barscanlaw17_alive.mono _
      | exact LeO.none _
      | refine LeO.ite ?_ ?_
      | refine LeO.bind ?_ (fun _ => ?_)
    · intro y0 y1
      unfold barscanlaw17_QrversionAligns.l0
      repeat' first
      | (with_reducible exact ih0 _ _ _ _ _ _)
      | (with_reducible exact ih1 _ _)
      | (with_reducible exact ih2 _ _)
      | (with_reducible exact barscanlaw17_alive.mono _)
      | (with_reducible exact LeO.refl _)
      | (with_reducible exact LeO.none _)
      | (with_reducible refine LeO.ite ?_ ?_)
      | (with_reducible refine LeO.bind ?_ (fun _ => ?_))
      | exact ih0 _ _ _ _ _ _
      | exact ih1 _ _
      | exact ih2 _ _
      | exact barscanlaw17_alive.mono _
      | exact LeO.none _
      | refine LeO.ite ?_ ?_
      | refine LeO.bind ?_ (fun _ => ?_)
theorem barscanlaw17_QrversionAligns.mono : ∀ a0 k, LeO (barscanlaw17_QrversionAligns.f k a0) (barscanlaw17_QrversionAligns.f (k + 1) a0) := by
  intro a0 k
  obtain ⟨ih0, ih1, ih2⟩ := barscanlaw17_QrversionAligns.mono_l k
  unfold barscanlaw17_QrversionAligns.f
  repeat' first
      | (with_reducible exact ih0 _ _ _ _ _ _)
      | (with_reducible exact ih1 _ _)
      | (with_reducible exact ih2 _ _)
      | (with_reducible exact barscanlaw17_alive.mono _)
      | (with_reducible exact LeO.refl _)
      | (with_reducible exact LeO.none _)
      | (with_reducible refine LeO.ite ?_ ?_)
      | (with_reducible refine LeO.bind ?_ (fun _ => ?_))
      | exact ih0 _ _ _ _ _ _
      | exact ih1 _ _
      | exact ih2 _ _
      | exact barscanlaw17_alive.mono _
      | exact LeO.none _
      | refine LeO.ite ?_ ?_
      | refine LeO.bind ?_ (fun _ => ?_)
set_option maxHeartbeats 8000000 in
set_option maxRecDepth 100000 in
theorem barscanlaw17_QrversionAligns.calls (k : Nat) (a0 : Int) (r : Bool) (w : World) (h : barscanlaw17_QrversionAligns.f k a0 = some r) :
    Calls Try.prog 6 #[.int .i64 a0] w fun e w' => e = .returned (.bool r) ∧ Below w.heap.size w w' := by
  have HB := Aside0.mk (Below.refl w.heap.size w)
  have H : ((qrversion_Size.f a0).bind fun bt245 => ((qrversion_Aligns.f a0).bind fun bt247 => (if bt245.2 = 0 then (if bt247.2 = 0 then (barscanlaw17_QrversionAligns.j0 k a0 bt245.1 bt245.2 bt247.1 bt247.2 (a0 == 1)) else (barscanlaw17_QrversionAligns.j0 k a0 bt245.1 bt245.2 bt247.1 bt247.2 true)) else (barscanlaw17_QrversionAligns.j0 k a0 bt245.1 bt245.2 bt247.1 bt247.2 true)))) = some r := h
  clear h
  replace H := Option.bind_eq_some_iff.mp H
  obtain ⟨⟨t245, t246⟩, A20, H⟩ := H
  replace H : ((qrversion_Aligns.f a0).bind fun bt247 => (if t246 = 0 then (if bt247.2 = 0 then (barscanlaw17_QrversionAligns.j0 k a0 t245 t246 bt247.1 bt247.2 (a0 == 1)) else (barscanlaw17_QrversionAligns.j0 k a0 t245 t246 bt247.1 bt247.2 true)) else (barscanlaw17_QrversionAligns.j0 k a0 t245 t246 bt247.1 bt247.2 true))) = some r := H
  have A2 := Aside0.mk A20
  clear A20
  replace H := Option.bind_eq_some_iff.mp H
  obtain ⟨⟨t247, t248⟩, A30, H⟩ := H
  replace H : (if t246 = 0 then (if t248 = 0 then (barscanlaw17_QrversionAligns.j0 k a0 t245 t246 t247 t248 (a0 == 1)) else (barscanlaw17_QrversionAligns.j0 k a0 t245 t246 t247 t248 true)) else (barscanlaw17_QrversionAligns.j0 k a0 t245 t246 t247 t248 true)) = some r := H
  have A3 := Aside0.mk A30
  clear A30
  have HC4 := Aside0.mk H
  clear H
  go_enter Try.func6, Try.ntmps6
  go_upto_region 3 with (first | (go_at_call 8; (with_reducible refine (qrversion_Size.calls a0 t245 t246 _ A2.out).mono ?_); rintro e w' ⟨rfl, ⟨nd, rfl⟩⟩; (try first | exact ⟨rfl, _, World.drewN_drewN _ _ _⟩ | exact ⟨rfl, _, Eq.trans (World.drewN_drewN _ _ _) (congrArg (World.drewN _) (Nat.add_assoc _ _ _))⟩)) | (go_at_call 10; (with_reducible refine (qrversion_Aligns.calls a0 t247 t248 _ A3.out).mono ?_); rintro e w5 ⟨v249, rfl, ho0, hb⟩; have n0_ := Aside0.mk (Kd.R_lower ho0 (below_size (by repeat (first | (with_reducible first | exact HB.out | apply below_alloc | apply pw_below_drewN | apply below_drew1) | exact HB.out)))); have n1_ := Aside0.mk (below_step (by repeat (first | (with_reducible first | exact HB.out | apply below_alloc | apply pw_below_drewN | apply below_drew1) | exact HB.out)) hb); clear HB; have HO250 := n0_; have HB := n1_; clear n0_ n1_; (try clear hb); (try clear hb2); (try clear hk); (try clear hi); (try clear ho0)))
  repeat (go_quiet (first | (go_at_call 8; (with_reducible refine (qrversion_Size.calls a0 t245 t246 _ A2.out).mono ?_); rintro e w' ⟨rfl, ⟨nd, rfl⟩⟩; (try first | exact ⟨rfl, _, World.drewN_drewN _ _ _⟩ | exact ⟨rfl, _, Eq.trans (World.drewN_drewN _ _ _) (congrArg (World.drewN _) (Nat.add_assoc _ _ _))⟩)) | (go_at_call 10; (with_reducible refine (qrversion_Aligns.calls a0 t247 t248 _ A3.out).mono ?_); rintro e w5 ⟨v249, rfl, ho0, hb⟩; have n0_ := Aside0.mk (Kd.R_lower ho0 (below_size (by repeat (first | (with_reducible first | exact HB.out | apply below_alloc | apply pw_below_drewN | apply below_drew1) | exact HB.out)))); have n1_ := Aside0.mk (below_step (by repeat (first | (with_reducible first | exact HB.out | apply below_alloc | apply pw_below_drewN | apply below_drew1) | exact HB.out)) hb); clear HB; have HO250 := n0_; have HB := n1_; clear n0_ n1_; (try clear hb); (try clear hb2); (try clear hk); (try clear hi); (try clear ho0))); go_upto_region 3 with (first | (go_at_call 8; (with_reducible refine (qrversion_Size.calls a0 t245 t246 _ A2.out).mono ?_); rintro e w' ⟨rfl, ⟨nd, rfl⟩⟩; (try first | exact ⟨rfl, _, World.drewN_drewN _ _ _⟩ | exact ⟨rfl, _, Eq.trans (World.drewN_drewN _ _ _) (congrArg (World.drewN _) (Nat.add_assoc _ _ _))⟩)) | (go_at_call 10; (with_reducible refine (qrversion_Aligns.calls a0 t247 t248 _ A3.out).mono ?_); rintro e w5 ⟨v249, rfl, ho0, hb⟩; have n0_ := Aside0.mk (Kd.R_lower ho0 (below_size (by repeat (first | (with_reducible first | exact HB.out | apply below_alloc | apply pw_below_drewN | apply below_drew1) | exact HB.out)))); have n1_ := Aside0.mk (below_step (by repeat (first | (with_reducible first | exact HB.out | apply below_alloc | apply pw_below_drewN | apply below_drew1) | exact HB.out)) hb); clear HB; have HO250 := n0_; have HB := n1_; clear n0_ n1_; (try clear hb); (try clear hb2); (try clear hk); (try clear hi); (try clear ho0))))
  (try simp only [Act.put, List.setIfInBounds_toArray, List.set_cons_zero, List.set_cons_succ])
  go_cut [29] (fun v29 wc => ∃ (kq : Nat) (x29_3 : Bool), v29 = .bool x29_3 ∧ Aside0 (barscanlaw17_QrversionAligns.j0 kq a0 t245 t246 t247 t248 x29_3 = some r) ∧ Aside0 (kq ≤ k) ∧ Aside0 (Kd.R (Kd.int .i64) 3 wc w.heap.size (fun _ => True) v249 t247) ∧ Aside0 (Below w.heap.size w wc))
  case first =>
    have H := HC4.out
    clear HC4
    by_cases c6 : t246 = 0
    · rw [if_pos c6] at H
      have c6b0 : (t246 == 0) = true := beq_iff_eq.mpr c6
      have c6b1 : (t246 != 0) = false := bne_eq_false_iff_eq.mpr c6
      clear c6
      (first | rw [c6b0] | (simp only [i64_w, i32_w]; rw [c6b0]) | skip)
      by_cases c7 : t248 = 0
      · rw [if_pos c7] at H
        have c7b0 : (t248 == 0) = true := beq_iff_eq.mpr c7
        have c7b1 : (t248 != 0) = false := bne_eq_false_iff_eq.mpr c7
        clear c7
        have H' := Aside0.mk H
        clear H
        go_wp2
        repeat (go_quiet (fail); try go_wp2)
        go_meet
        case rel => exact ⟨_, ((a0 == 1)), (by first | rfl | (simp; done) | (simp [*]; done)), H', ⟨by first | omega | exact Nat.le_refl _⟩, ⟨by (with_reducible repeat (first | apply Kd.R_alloc | apply Kd.R_drewN | apply Kd.R_drew)); exact HO250.out⟩, ⟨by repeat (first | (with_reducible first | exact HB.out | apply below_alloc | apply pw_below_drewN | apply below_drew1) | exact HB.out)⟩⟩
      · rw [if_neg c7] at H
        have c7b0 : (t248 == 0) = false := beq_eq_false_iff_ne.mpr c7
        have c7b1 : (t248 != 0) = true := bne_iff_ne.mpr c7
        have H' := Aside0.mk H
        clear H
        go_wp2
        repeat (go_quiet (fail); try go_wp2)
        go_meet
        case rel => exact ⟨_, (true), (by first | rfl | (simp; done) | (simp [*]; done)), H', ⟨by first | omega | exact Nat.le_refl _⟩, ⟨by (with_reducible repeat (first | apply Kd.R_alloc | apply Kd.R_drewN | apply Kd.R_drew)); exact HO250.out⟩, ⟨by repeat (first | (with_reducible first | exact HB.out | apply below_alloc | apply pw_below_drewN | apply below_drew1) | exact HB.out)⟩⟩
    · rw [if_neg c6] at H
      have c6b0 : (t246 == 0) = false := beq_eq_false_iff_ne.mpr c6
      have c6b1 : (t246 != 0) = true := bne_iff_ne.mpr c6
      (first | rw [c6b0] | (simp only [i64_w, i32_w]; rw [c6b0]) | skip)
      have H' := Aside0.mk H
      clear H
      go_wp2
      repeat (go_quiet (fail); try go_wp2)
      go_meet
      case rel => exact ⟨_, (true), (by first | rfl | (simp; done) | (simp [*]; done)), H', ⟨by first | omega | exact Nat.le_refl _⟩, ⟨by (with_reducible repeat (first | apply Kd.R_alloc | apply Kd.R_drewN | apply Kd.R_drew)); exact HO250.out⟩, ⟨by repeat (first | (with_reducible first | exact HB.out | apply below_alloc | apply pw_below_drewN | apply below_drew1) | exact HB.out)⟩⟩
  case rest =>
    clear HC4
    try clear p2
    try clear c6
    try clear c6b0
    try clear c6b1
    try clear c7
    try clear c7b0
    try clear c7b1
    obtain ⟨kq, x29_3, rfl, HA, HJ3, HO_5, HB⟩ := hcut
    cases kq with
    | zero => exact absurd HA.out (by simp [barscanlaw17_QrversionAligns.j0])
    | succ kj3 =>
      have H := HA.out
      clear HA
      simp only [barscanlaw17_QrversionAligns.j0] at H
      by_cases c8 : x29_3 = true
      · subst c8
        have H1 : (if t246 = 0 then (if ((t246 == t248) == true) = true then (if (t247.length : Int) = 0 then ((barscanlaw17_alive.f kj3).bind fun t251 => (some t251)) else (some false)) else (some false)) else (if ((t246 == t248) == (t246 == 14)) = true then (if (t247.length : Int) = 0 then ((barscanlaw17_alive.f kj3).bind fun t252 => (some t252)) else (some false)) else (some false))) = some r := by rw [if_pos rfl] at H; exact H
        clear H
        have H := H1
        clear H1
        by_cases c9 : t246 = 0
        · rw [if_pos c9] at H
          have c9b0 : (t246 == 0) = true := beq_iff_eq.mpr c9
          have c9b1 : (t246 != 0) = false := bne_eq_false_iff_eq.mpr c9
          clear c9
          by_cases c10 : ((t246 == t248) == true) = true
          · rw [if_pos c10] at H
            have c10b0 : ((t246 == t248) == true) = true := c10
            (try (have c10b1 : decide ((t246 == t248) = true) = true := by simpa using c10))
            (try (have c10b2 : ((t246 == t248) == true) = true := by simpa using c10))
            clear c10
            by_cases c11 : (t247.length : Int) = 0
            · rw [if_pos c11] at H
              have c11b0 : ((t247.length : Int) == 0) = true := beq_iff_eq.mpr c11
              have c11b1 : ((t247.length : Int) != 0) = false := bne_eq_false_iff_eq.mpr c11
              clear c11
              replace H := Option.bind_eq_some_iff.mp H
              obtain ⟨t251, A120, H⟩ := H
              replace H : (some t251) = some r := H
              have A12 := Aside0.mk A120
              clear A120
              obtain rfl := Option.some.inj H
              obtain ⟨Ao13, co13, eo13⟩ := Kd.R_slice HO_5.out
              subst eo13
              go_wp2_with (first | (go_at_call 15; (with_reducible refine (barscanlaw17_alive.calls kj3  t251 _ A12.out).mono ?_); rintro e w14 ⟨rfl, hb⟩; have n0_ := Aside0.mk (Kd.R_below (by (with_reducible repeat (first | apply Kd.R_alloc | apply Kd.R_drewN | apply Kd.R_drew)); exact HO_5.out) hb); have n1_ := Aside0.mk (below_step (by repeat (first | (with_reducible first | exact HB.out | apply below_alloc | apply pw_below_drewN | apply below_drew1) | exact HB.out)) hb); clear HO_5; clear HB; have HO_5 := n0_; have HB := n1_; clear n0_ n1_; (try clear hb); (try clear hb2); (try clear hk); (try clear hi)))
              repeat (go_quiet (first | (go_at_call 15; (with_reducible refine (barscanlaw17_alive.calls kj3  t251 _ A12.out).mono ?_); rintro e w14 ⟨rfl, hb⟩; have n0_ := Aside0.mk (Kd.R_below (by (with_reducible repeat (first | apply Kd.R_alloc | apply Kd.R_drewN | apply Kd.R_drew)); exact HO_5.out) hb); have n1_ := Aside0.mk (below_step (by repeat (first | (with_reducible first | exact HB.out | apply below_alloc | apply pw_below_drewN | apply below_drew1) | exact HB.out)) hb); clear HO_5; clear HB; have HO_5 := n0_; have HB := n1_; clear n0_ n1_; (try clear hb); (try clear hb2); (try clear hk); (try clear hi))); try go_wp2_with (first | (go_at_call 15; (with_reducible refine (barscanlaw17_alive.calls kj3  t251 _ A12.out).mono ?_); rintro e w14 ⟨rfl, hb⟩; have n0_ := Aside0.mk (Kd.R_below (by (with_reducible repeat (first | apply Kd.R_alloc | apply Kd.R_drewN | apply Kd.R_drew)); exact HO_5.out) hb); have n1_ := Aside0.mk (below_step (by repeat (first | (with_reducible first | exact HB.out | apply below_alloc | apply pw_below_drewN | apply below_drew1) | exact HB.out)) hb); clear HO_5; clear HB; have HO_5 := n0_; have HB := n1_; clear n0_ n1_; (try clear hb); (try clear hb2); (try clear hk); (try clear hi))))
              go_ret
              exact ⟨by first | rfl | (simp [errW_none, errW_some] <;> rfl) | (simp [*, errW_none, errW_some] <;> rfl), by repeat (first | (with_reducible first | exact HB.out | apply below_alloc | apply pw_below_drewN | apply below_drew1) | exact HB.out)⟩
            · rw [if_neg c11] at H
              have c11b0 : ((t247.length : Int) == 0) = false := beq_eq_false_iff_ne.mpr c11
              have c11b1 : ((t247.length : Int) != 0) = true := bne_iff_ne.mpr c11
              have c11b2 : ¬ (t247 = []) := fun h_ => c11 (by rw [h_]; rfl)
              obtain rfl := Option.some.inj H
              obtain ⟨Ao15, co15, eo15⟩ := Kd.R_slice HO_5.out
              subst eo15
              go_wp2
              repeat (go_quiet (fail); try go_wp2)
              go_ret
              exact ⟨by first | rfl | (simp [errW_none, errW_some] <;> rfl) | (simp [*, errW_none, errW_some] <;> rfl), by repeat (first | (with_reducible first | exact HB.out | apply below_alloc | apply pw_below_drewN | apply below_drew1) | exact HB.out)⟩
          · rw [if_neg c10] at H
            have c10b0 : ((t246 == t248) == true) = false := by simpa using c10
            (try (have c10b1 : decide ((t246 == t248) = true) = false := by simpa using c10))
            (try (have c10b2 : ((t246 == t248) == true) = false := by simpa using c10))
            (try (have c10b3 : ¬ ((t246 == t248) = true) := by simpa using c10))
            clear c10
            obtain rfl := Option.some.inj H
            go_wp2
            repeat (go_quiet (fail); try go_wp2)
            go_ret
            exact ⟨by first | rfl | (simp [errW_none, errW_some] <;> rfl) | (simp [*, errW_none, errW_some] <;> rfl), by repeat (first | (with_reducible first | exact HB.out | apply below_alloc | apply pw_below_drewN | apply below_drew1) | exact HB.out)⟩
        · rw [if_neg c9] at H
          have c9b0 : (t246 == 0) = false := beq_eq_false_iff_ne.mpr c9
          have c9b1 : (t246 != 0) = true := bne_iff_ne.mpr c9
          by_cases c16 : ((t246 == t248) == (t246 == 14)) = true
          · rw [if_pos c16] at H
            have c16b0 : ((t246 == t248) == (t246 == 14)) = true := c16
            (try (have c16b1 : decide ((t246 == t248) = (t246 == 14)) = true := by simpa using c16))
            (try (have c16b2 : ((t246 == t248) == (t246 == 14)) = true := by simpa using c16))
            clear c16
            by_cases c17 : (t247.length : Int) = 0
            · rw [if_pos c17] at H
              have c17b0 : ((t247.length : Int) == 0) = true := beq_iff_eq.mpr c17
              have c17b1 : ((t247.length : Int) != 0) = false := bne_eq_false_iff_eq.mpr c17
              clear c17
              replace H := Option.bind_eq_some_iff.mp H
              obtain ⟨t252, A180, H⟩ := H
              replace H : (some t252) = some r := H
              have A18 := Aside0.mk A180
              clear A180
              obtain rfl := Option.some.inj H
              obtain ⟨Ao19, co19, eo19⟩ := Kd.R_slice HO_5.out
              subst eo19
              go_wp2_with (first | (go_at_call 15; (with_reducible refine (barscanlaw17_alive.calls kj3  t252 _ A18.out).mono ?_); rintro e w20 ⟨rfl, hb⟩; have n0_ := Aside0.mk (Kd.R_below (by (with_reducible repeat (first | apply Kd.R_alloc | apply Kd.R_drewN | apply Kd.R_drew)); exact HO_5.out) hb); have n1_ := Aside0.mk (below_step (by repeat (first | (with_reducible first | exact HB.out | apply below_alloc | apply pw_below_drewN | apply below_drew1) | exact HB.out)) hb); clear HO_5; clear HB; have HO_5 := n0_; have HB := n1_; clear n0_ n1_; (try clear hb); (try clear hb2); (try clear hk); (try clear hi)))
              repeat (go_quiet (first | (go_at_call 15; (with_reducible refine (barscanlaw17_alive.calls kj3  t252 _ A18.out).mono ?_); rintro e w20 ⟨rfl, hb⟩; have n0_ := Aside0.mk (Kd.R_below (by (with_reducible repeat (first | apply Kd.R_alloc | apply Kd.R_drewN | apply Kd.R_drew)); exact HO_5.out) hb); have n1_ := Aside0.mk (below_step (by repeat (first | (with_reducible first | exact HB.out | apply below_alloc | apply pw_below_drewN | apply below_drew1) | exact HB.out)) hb); clear HO_5; clear HB; have HO_5 := n0_; have HB := n1_; clear n0_ n1_; (try clear hb); (try clear hb2); (try clear hk); (try clear hi))); try go_wp2_with (first | (go_at_call 15; (with_reducible refine (barscanlaw17_alive.calls kj3  t252 _ A18.out).mono ?_); rintro e w20 ⟨rfl, hb⟩; have n0_ := Aside0.mk (Kd.R_below (by (with_reducible repeat (first | apply Kd.R_alloc | apply Kd.R_drewN | apply Kd.R_drew)); exact HO_5.out) hb); have n1_ := Aside0.mk (below_step (by repeat (first | (with_reducible first | exact HB.out | apply below_alloc | apply pw_below_drewN | apply below_drew1) | exact HB.out)) hb); clear HO_5; clear HB; have HO_5 := n0_; have HB := n1_; clear n0_ n1_; (try clear hb); (try clear hb2); (try clear hk); (try clear hi))))
              go_ret
              exact ⟨by first | rfl | (simp [errW_none, errW_some] <;> rfl) | (simp [*, errW_none, errW_some] <;> rfl), by repeat (first | (with_reducible first | exact HB.out | apply below_alloc | apply pw_below_drewN | apply below_drew1) | exact HB.out)⟩
            · rw [if_neg c17] at H
              have c17b0 : ((t247.length : Int) == 0) = false := beq_eq_false_iff_ne.mpr c17
              have c17b1 : ((t247.length : Int) != 0) = true := bne_iff_ne.mpr c17
              have c17b2 : ¬ (t247 = []) := fun h_ => c17 (by rw [h_]; rfl)
              obtain rfl := Option.some.inj H
              obtain ⟨Ao21, co21, eo21⟩ := Kd.R_slice HO_5.out
              subst eo21
              go_wp2
              repeat (go_quiet (fail); try go_wp2)
              go_ret
              exact ⟨by first | rfl | (simp [errW_none, errW_some] <;> rfl) | (simp [*, errW_none, errW_some] <;> rfl), by repeat (first | (with_reducible first | exact HB.out | apply below_alloc | apply pw_below_drewN | apply below_drew1) | exact HB.out)⟩
          · rw [if_neg c16] at H
            have c16b0 : ((t246 == t248) == (t246 == 14)) = false := by simpa using c16
            (try (have c16b1 : decide ((t246 == t248) = (t246 == 14)) = false := by simpa using c16))
            (try (have c16b2 : ((t246 == t248) == (t246 == 14)) = false := by simpa using c16))
            (try (have c16b3 : ¬ ((t246 == t248) = (t246 == 14)) := by simpa using c16))
            clear c16
            obtain rfl := Option.some.inj H
            go_wp2
            repeat (go_quiet (fail); try go_wp2)
            go_ret
            exact ⟨by first | rfl | (simp [errW_none, errW_some] <;> rfl) | (simp [*, errW_none, errW_some] <;> rfl), by repeat (first | (with_reducible first | exact HB.out | apply below_alloc | apply pw_below_drewN | apply below_drew1) | exact HB.out)⟩
      · replace c8 := Bool.eq_false_iff.mpr c8
        subst c8
        have H1 : (if (t247.length : Int) = (wrap64 ((wrap64 (Int.tdiv a0 7)) + 2)) then (if 0 < (t247.length : Int) then (if (rd t247 0) = 6 then (if 0 ≤ (wrap64 ((t247.length : Int) - 1)) then (if (wrap64 ((t247.length : Int) - 1)) < (t247.length : Int) then (barscanlaw17_QrversionAligns.j1 kj3 t247 ((rd t247 (wrap64 ((t247.length : Int) - 1))) != (wrap64 (t245 - 7)))) else (none)) else (none)) else (barscanlaw17_QrversionAligns.j1 kj3 t247 true)) else (none)) else (barscanlaw17_QrversionAligns.j1 kj3 t247 true)) = some r := by rw [if_neg (show ¬ (false = true) by decide)] at H; exact H
        clear H
        have H := H1
        clear H1
        have HC22 := Aside0.mk H
        clear H
        go_upto_region 5 with (fail)
        repeat (go_quiet (fail); go_upto_region 5 with (fail))
        go_cut [70] (fun v70 wc => ∃ (kq : Nat) (x70_21 : Bool), v70 = .bool x70_21 ∧ Aside0 (barscanlaw17_QrversionAligns.j1 kq t247 x70_21 = some r) ∧ Aside0 (kq ≤ kj3) ∧ Aside0 (Kd.R (Kd.int .i64) 3 wc w.heap.size (fun _ => True) v249 t247) ∧ Aside0 (Below w.heap.size w wc))
        case first =>
          have H := HC22.out
          clear HC22
          by_cases c23 : (t247.length : Int) = (wrap64 ((wrap64 (Int.tdiv a0 7)) + 2))
          · rw [if_pos c23] at H
            have c23b0 : ((t247.length : Int) == (wrap64 ((wrap64 (Int.tdiv a0 7)) + 2))) = true := beq_iff_eq.mpr c23
            have c23b1 : ((t247.length : Int) != (wrap64 ((wrap64 (Int.tdiv a0 7)) + 2))) = false := bne_eq_false_iff_eq.mpr c23
            clear c23
            (first | rw [c23b0] | (simp only [i64_w, i32_w]; rw [c23b0]) | skip)
            by_cases c24 : 0 < (t247.length : Int)
            · rw [if_pos c24] at H
              have c24b0 : decide (0 < (t247.length : Int)) = true := decide_eq_true c24
              have c24b1 : decide (0 < t247.length) = true := decide_eq_true (by omega)
              have c24b2 : 0 < t247.length := by omega
              clear c24
              by_cases c25 : (rd t247 0) = 6
              · rw [if_pos c25] at H
                have c25b0 : ((rd t247 0) == 6) = true := beq_iff_eq.mpr c25
                have c25b1 : ((rd t247 0) != 6) = false := bne_eq_false_iff_eq.mpr c25
                clear c25
                obtain ⟨ji26, hji26⟩ : ∃ j_ : Int, (wrap64 ((t247.length : Int) - 1)) = j_ := ⟨_, rfl⟩
                replace H : (if 0 ≤ (ji26) then (if (ji26) < (t247.length : Int) then (barscanlaw17_QrversionAligns.j1 kj3 t247 ((rd t247 (ji26)) != (wrap64 (t245 - 7)))) else (none)) else (none)) = some r := by first | (rw [hji26] at H; exact H) | (simp only [hji26] at H ⊢; exact H)
                have hji26w : (IntKind.i64.wrap ((t247.length : Int) - 1)) = ji26 := (i64_w _).trans hji26
                by_cases c27 : 0 ≤ (ji26)
                · rw [if_pos c27] at H
                  have c27b0 : decide (0 ≤ (ji26)) = true := decide_eq_true c27
                  clear c27
                  by_cases c28 : (ji26) < (t247.length : Int)
                  · rw [if_pos c28] at H
                    have c28b0 : decide ((ji26) < (t247.length : Int)) = true := decide_eq_true c28
                    clear c28
                    have H' := Aside0.mk H
                    clear H
                    obtain ⟨Ao29, co29, eo29⟩ := Kd.R_slice HO_5.out
                    subst eo29
                    have p253 : 0 ≤ (0 : Int) := (by omega)
                    have q253 : 0 < (t247.length : Int) := of_decide_eq_true (by first | (with_reducible assumption) | assumption)
                    obtain ⟨ad253, e253, hx253_0⟩ := Kd.at_int (Kd.R_reads' HO_5.out).2.2 0 p253 q253
                    cases e253
                    have qi253 : (0 < t247.length) = True := eq_true (by omega)
                    (try rw [show ((0 : Int)).toNat = 0 from rfl] at hx253_0)
                    (try rw [Addr.add_zero'] at hx253_0)
                    replace p253 := eq_true p253
                    replace q253 := eq_true q253
                    have p254 : 0 ≤ ((ji26) : Int) := of_decide_eq_true (by first | (with_reducible assumption) | assumption)
                    have q254 : (ji26) < (t247.length : Int) := of_decide_eq_true (by first | (with_reducible assumption) | assumption)
                    obtain ⟨ad254, e254, hx254_0⟩ := Kd.at_int (Kd.R_reads' HO_5.out).2.2 (ji26) p254 q254
                    obtain rfl : ad253 = ad254 := (by injection e254)
                    replace p254 := eq_true p254
                    replace q254 := eq_true q254
                    go_wp2
                    repeat (go_quiet (fail); try go_wp2)
                    go_meet
                    case rel => exact ⟨_, (((rd t247 (ji26)) != (wrap64 (t245 - 7)))), (by first | rfl | (simp; done) | (simp only [← hji26] <;> (first | rfl | simp)) | (simp [*]; done)), H', ⟨by have := HJ3.out; first | omega | exact Nat.le_refl _⟩, ⟨by (with_reducible repeat (first | apply Kd.R_alloc | apply Kd.R_drewN | apply Kd.R_drew)); exact HO_5.out⟩, ⟨by repeat (first | (with_reducible first | exact HB.out | apply below_alloc | apply pw_below_drewN | apply below_drew1) | exact HB.out)⟩⟩
                  · rw [if_neg c28] at H
                    exact absurd H (by simp)
                · rw [if_neg c27] at H
                  exact absurd H (by simp)
              · rw [if_neg c25] at H
                have c25b0 : ((rd t247 0) == 6) = false := beq_eq_false_iff_ne.mpr c25
                have c25b1 : ((rd t247 0) != 6) = true := bne_iff_ne.mpr c25
                have H' := Aside0.mk H
                clear H
                obtain ⟨Ao30, co30, eo30⟩ := Kd.R_slice HO_5.out
                subst eo30
                have p253 : 0 ≤ (0 : Int) := (by omega)
                have q253 : 0 < (t247.length : Int) := of_decide_eq_true (by first | (with_reducible assumption) | assumption)
                obtain ⟨ad253, e253, hx253_0⟩ := Kd.at_int (Kd.R_reads' HO_5.out).2.2 0 p253 q253
                cases e253
                have qi253 : (0 < t247.length) = True := eq_true (by omega)
                (try rw [show ((0 : Int)).toNat = 0 from rfl] at hx253_0)
                (try rw [Addr.add_zero'] at hx253_0)
                replace p253 := eq_true p253
                replace q253 := eq_true q253
                go_wp2
                repeat (go_quiet (fail); try go_wp2)
                go_meet
                case rel => exact ⟨_, (true), (by first | rfl | (simp; done) | (simp [*]; done)), H', ⟨by have := HJ3.out; first | omega | exact Nat.le_refl _⟩, ⟨by (with_reducible repeat (first | apply Kd.R_alloc | apply Kd.R_drewN | apply Kd.R_drew)); exact HO_5.out⟩, ⟨by repeat (first | (with_reducible first | exact HB.out | apply below_alloc | apply pw_below_drewN | apply below_drew1) | exact HB.out)⟩⟩
            · rw [if_neg c24] at H
              exact absurd H (by simp)
          · rw [if_neg c23] at H
            have c23b0 : ((t247.length : Int) == (wrap64 ((wrap64 (Int.tdiv a0 7)) + 2))) = false := beq_eq_false_iff_ne.mpr c23
            have c23b1 : ((t247.length : Int) != (wrap64 ((wrap64 (Int.tdiv a0 7)) + 2))) = true := bne_iff_ne.mpr c23
            (first | rw [c23b0] | (simp only [i64_w, i32_w]; rw [c23b0]) | skip)
            have H' := Aside0.mk H
            clear H
            obtain ⟨Ao31, co31, eo31⟩ := Kd.R_slice HO_5.out
            subst eo31
            go_wp2
            repeat (go_quiet (fail); try go_wp2)
            go_meet
            case rel => exact ⟨_, (true), (by first | rfl | (simp; done) | (simp [*]; done)), H', ⟨by have := HJ3.out; first | omega | exact Nat.le_refl _⟩, ⟨by (with_reducible repeat (first | apply Kd.R_alloc | apply Kd.R_drewN | apply Kd.R_drew)); exact HO_5.out⟩, ⟨by repeat (first | (with_reducible first | exact HB.out | apply below_alloc | apply pw_below_drewN | apply below_drew1) | exact HB.out)⟩⟩
        case rest =>
          clear HC22
          try clear c1
          try clear c2
          try clear p2
          try clear q2
          try clear hx2
          try clear qi2
          try clear c6
          try clear c6b0
          try clear c6b1
          try clear p6
          try clear c7
          try clear c7b0
          try clear c7b1
          try clear c8
          try clear c9
          try clear c9b0
          try clear c9b1
          try clear c10
          try clear c10b0
          try clear c10b1
          try clear c10b2
          try clear c11
          try clear c11b0
          try clear c11b1
          try clear c11b2
          try clear c16
          try clear c16b0
          try clear c16b1
          try clear c16b2
          try clear c17
          try clear c17b0
          try clear c17b1
          try clear c17b2
          try clear c23
          try clear c23b0
          try clear c23b1
          try clear c24
          try clear c24b0
          try clear c24b1
          try clear c24b2
          try clear c25
          try clear c25b0
          try clear c25b1
          try clear p25
          try clear q25
          try clear hx25
          try clear qi25
          try clear c27
          try clear c27b0
          try clear c28
          try clear c28b0
          try clear hx253_0
          try clear hx254_0
          try clear p2
          try clear p253
          try clear p254
          try clear q253
          try clear q254
          obtain ⟨kq, x70_21, rfl, HA, HJ21, HO_5, HB⟩ := hcut
          cases kq with
          | zero => exact absurd HA.out (by simp [barscanlaw17_QrversionAligns.j1])
          | succ kj21 =>
            have H := HA.out
            clear HA
            simp only [barscanlaw17_QrversionAligns.j1] at H
            by_cases c32 : x70_21 = true
            · subst c32
              have H1 : (some false) = some r := by rw [if_pos rfl] at H; exact H
              clear H
              have H := H1
              clear H1
              obtain rfl := Option.some.inj H
              go_wp2
              repeat (go_quiet (fail); try go_wp2)
              go_ret
              exact ⟨by first | rfl | (simp [errW_none, errW_some] <;> rfl) | (simp [*, errW_none, errW_some] <;> rfl), by repeat (first | (with_reducible first | exact HB.out | apply below_alloc | apply pw_below_drewN | apply below_drew1) | exact HB.out)⟩
            · replace c32 := Bool.eq_false_iff.mpr c32
              subst c32
              have H1 : (barscanlaw17_QrversionAligns.l0 kj21 t247 1) = some r := by rw [if_neg (show ¬ (false = true) by decide)] at H; exact H
              clear H
              have H := H1
              clear H1
              have H' := Aside0.mk H
              clear H
              go_wp2
              repeat (go_quiet (fail); try go_wp2)
              go_loopg [7] kj21 (fun kq v7 w' => ∃ (x7_3 : Int), v7 = .int .i64 x7_3 ∧ Aside0 (barscanlaw17_QrversionAligns.l0 kq t247 x7_3 = some r) ∧ Aside0 (kq ≤ kj21) ∧ Aside0 (Kd.R (Kd.int .i64) 3 w' w.heap.size (fun _ => True) v249 t247) ∧ Aside0 (Below w.heap.size w w'))
              case atStart => exact ⟨(1), (by first | rfl | (simp; done) | (simp [*]; done)), H', ⟨Nat.le_refl _⟩, ⟨by (with_reducible repeat (first | apply Kd.R_alloc | apply Kd.R_drewN | apply Kd.R_drew)); exact HO_5.out⟩, ⟨by repeat (first | (with_reducible first | exact HB.out | apply below_alloc | apply pw_below_drewN | apply below_drew1) | exact HB.out)⟩⟩
              case round =>
                clear H'
                try clear c1
                try clear c2
                try clear p2
                try clear q2
                try clear hx2
                try clear qi2
                try clear c3
                try clear c6
                try clear c6b0
                try clear c6b1
                try clear p6
                try clear c7
                try clear c7b0
                try clear c7b1
                try clear c8
                try clear c9
                try clear c9b0
                try clear c9b1
                try clear c10
                try clear c10b0
                try clear c10b1
                try clear c10b2
                try clear c11
                try clear c11b0
                try clear c11b1
                try clear c11b2
                try clear c16
                try clear c16b0
                try clear c16b1
                try clear c16b2
                try clear c17
                try clear c17b0
                try clear c17b1
                try clear c17b2
                try clear c23
                try clear c23b0
                try clear c23b1
                try clear c24
                try clear c24b0
                try clear c24b1
                try clear c24b2
                try clear c25
                try clear c25b0
                try clear c25b1
                try clear p25
                try clear q25
                try clear hx25
                try clear qi25
                try clear c27
                try clear c27b0
                try clear c28
                try clear c28b0
                try clear c32
                try clear hx253_0
                try clear hx254_0
                try clear p2
                try clear p25
                try clear p253
                try clear p254
                try clear p6
                try clear q2
                try clear q25
                try clear q253
                try clear q254
                obtain ⟨x7_3, rfl, HA, HK3, HO_5, HB⟩ := hrel
                cases gk with
                | zero => exact absurd HA.out (by simp [barscanlaw17_QrversionAligns.l0])
                | succ k3 =>
                  have H := HA.out
                  clear HA
                  simp only [barscanlaw17_QrversionAligns.l0] at H
                  by_cases c33 : x7_3 < (t247.length : Int)
                  · rw [if_pos c33] at H
                    have c33b0 : decide (x7_3 < (t247.length : Int)) = true := decide_eq_true c33
                    clear c33
                    by_cases c34 : 0 ≤ x7_3
                    · rw [if_pos c34] at H
                      have c34b0 : decide (0 ≤ x7_3) = true := decide_eq_true c34
                      clear c34
                      obtain ⟨ji35, hji35⟩ : ∃ j_ : Int, (wrap64 (x7_3 - 1)) = j_ := ⟨_, rfl⟩
                      replace H : (if 0 ≤ (ji35) then (if (ji35) < (t247.length : Int) then (if 0 ≤ (wrap64 ((t247.length : Int) - 1)) then (if (wrap64 ((t247.length : Int) - 1)) < (t247.length : Int) then (if 0 ≤ (wrap64 ((t247.length : Int) - 2)) then (if (wrap64 ((t247.length : Int) - 2)) < (t247.length : Int) then (if (Int.tmod (wrap64 ((rd t247 x7_3) - (rd t247 (ji35)))) 2) = 0 then (if (wrap64 ((rd t247 x7_3) - (rd t247 (ji35)))) < 12 then (some false) else (if (wrap64 ((rd t247 x7_3) - (rd t247 (ji35)))) > 28 then (some false) else (if x7_3 > 1 then (if (wrap64 ((rd t247 x7_3) - (rd t247 (ji35)))) = (wrap64 ((rd t247 (wrap64 ((t247.length : Int) - 1))) - (rd t247 (wrap64 ((t247.length : Int) - 2))))) then (barscanlaw17_QrversionAligns.l0 k3 t247 (wrap64 (x7_3 + 1))) else (some false)) else (barscanlaw17_QrversionAligns.l0 k3 t247 (wrap64 (x7_3 + 1)))))) else (some false)) else (none)) else (none)) else (none)) else (none)) else (none)) else (none)) = some r := by first | (rw [hji35] at H; exact H) | (simp only [hji35] at H ⊢; exact H)
                      have hji35w : (IntKind.i64.wrap (x7_3 - 1)) = ji35 := (i64_w _).trans hji35
                      by_cases c36 : 0 ≤ (ji35)
                      · rw [if_pos c36] at H
                        have c36b0 : decide (0 ≤ (ji35)) = true := decide_eq_true c36
                        clear c36
                        by_cases c37 : (ji35) < (t247.length : Int)
                        · rw [if_pos c37] at H
                          have c37b0 : decide ((ji35) < (t247.length : Int)) = true := decide_eq_true c37
                          clear c37
                          obtain ⟨ji38, hji38⟩ : ∃ j_ : Int, (wrap64 ((t247.length : Int) - 1)) = j_ := ⟨_, rfl⟩
                          replace H : (if 0 ≤ (ji38) then (if (ji38) < (t247.length : Int) then (if 0 ≤ (wrap64 ((t247.length : Int) - 2)) then (if (wrap64 ((t247.length : Int) - 2)) < (t247.length : Int) then (if (Int.tmod (wrap64 ((rd t247 x7_3) - (rd t247 (ji35)))) 2) = 0 then (if (wrap64 ((rd t247 x7_3) - (rd t247 (ji35)))) < 12 then (some false) else (if (wrap64 ((rd t247 x7_3) - (rd t247 (ji35)))) > 28 then (some false) else (if x7_3 > 1 then (if (wrap64 ((rd t247 x7_3) - (rd t247 (ji35)))) = (wrap64 ((rd t247 (ji38)) - (rd t247 (wrap64 ((t247.length : Int) - 2))))) then (barscanlaw17_QrversionAligns.l0 k3 t247 (wrap64 (x7_3 + 1))) else (some false)) else (barscanlaw17_QrversionAligns.l0 k3 t247 (wrap64 (x7_3 + 1)))))) else (some false)) else (none)) else (none)) else (none)) else (none)) = some r := by first | (rw [hji38] at H; exact H) | (simp only [hji38] at H ⊢; exact H)
                          have hji38w : (IntKind.i64.wrap ((t247.length : Int) - 1)) = ji38 := (i64_w _).trans hji38
                          by_cases c39 : 0 ≤ (ji38)
                          · rw [if_pos c39] at H
                            have c39b0 : decide (0 ≤ (ji38)) = true := decide_eq_true c39
                            clear c39
                            by_cases c40 : (ji38) < (t247.length : Int)
                            · rw [if_pos c40] at H
                              have c40b0 : decide ((ji38) < (t247.length : Int)) = true := decide_eq_true c40
                              clear c40
                              obtain ⟨ji41, hji41⟩ : ∃ j_ : Int, (wrap64 ((t247.length : Int) - 2)) = j_ := ⟨_, rfl⟩
                              replace H : (if 0 ≤ (ji41) then (if (ji41) < (t247.length : Int) then (if (Int.tmod (wrap64 ((rd t247 x7_3) - (rd t247 (ji35)))) 2) = 0 then (if (wrap64 ((rd t247 x7_3) - (rd t247 (ji35)))) < 12 then (some false) else (if (wrap64 ((rd t247 x7_3) - (rd t247 (ji35)))) > 28 then (some false) else (if x7_3 > 1 then (if (wrap64 ((rd t247 x7_3) - (rd t247 (ji35)))) = (wrap64 ((rd t247 (ji38)) - (rd t247 (ji41)))) then (barscanlaw17_QrversionAligns.l0 k3 t247 (wrap64 (x7_3 + 1))) else (some false)) else (barscanlaw17_QrversionAligns.l0 k3 t247 (wrap64 (x7_3 + 1)))))) else (some false)) else (none)) else (none)) = some r := by first | (rw [hji41] at H; exact H) | (simp only [hji41] at H ⊢; exact H)
                              have hji41w : (IntKind.i64.wrap ((t247.length : Int) - 2)) = ji41 := (i64_w _).trans hji41
                              by_cases c42 : 0 ≤ (ji41)
                              · rw [if_pos c42] at H
                                have c42b0 : decide (0 ≤ (ji41)) = true := decide_eq_true c42
                                clear c42
                                by_cases c43 : (ji41) < (t247.length : Int)
                                · rw [if_pos c43] at H
                                  have c43b0 : decide ((ji41) < (t247.length : Int)) = true := decide_eq_true c43
                                  clear c43
                                  by_cases c44 : (Int.tmod (wrap64 ((rd t247 x7_3) - (rd t247 (ji35)))) 2) = 0
                                  · rw [if_pos c44] at H
                                    have c44b0 : ((Int.tmod (wrap64 ((rd t247 x7_3) - (rd t247 (ji35)))) 2) == 0) = true := beq_iff_eq.mpr c44
                                    have c44b1 : ((Int.tmod (wrap64 ((rd t247 x7_3) - (rd t247 (ji35)))) 2) != 0) = false := bne_eq_false_iff_eq.mpr c44
                                    clear c44
                                    by_cases c45 : (wrap64 ((rd t247 x7_3) - (rd t247 (ji35)))) < 12
                                    · rw [if_pos c45] at H
                                      have c45b0 : decide ((wrap64 ((rd t247 x7_3) - (rd t247 (ji35)))) < 12) = true := decide_eq_true c45
                                      clear c45
                                      obtain rfl := Option.some.inj H
                                      obtain ⟨Ao46, co46, eo46⟩ := Kd.R_slice HO_5.out
                                      subst eo46
                                      have p255 : 0 ≤ (x7_3 : Int) := of_decide_eq_true (by first | (with_reducible assumption) | assumption)
                                      have q255 : x7_3 < (t247.length : Int) := of_decide_eq_true (by first | (with_reducible assumption) | assumption)
                                      obtain ⟨ad255, e255, hx255_0⟩ := Kd.at_int (Kd.R_reads' HO_5.out).2.2 x7_3 p255 q255
                                      cases e255
                                      replace p255 := eq_true p255
                                      replace q255 := eq_true q255
                                      have p256 : 0 ≤ ((ji35) : Int) := of_decide_eq_true (by first | (with_reducible assumption) | assumption)
                                      have q256 : (ji35) < (t247.length : Int) := of_decide_eq_true (by first | (with_reducible assumption) | assumption)
                                      obtain ⟨ad256, e256, hx256_0⟩ := Kd.at_int (Kd.R_reads' HO_5.out).2.2 (ji35) p256 q256
                                      obtain rfl : ad255 = ad256 := (by injection e256)
                                      replace p256 := eq_true p256
                                      replace q256 := eq_true q256
                                      have p257 : 0 ≤ ((ji38) : Int) := of_decide_eq_true (by first | (with_reducible assumption) | assumption)
                                      have q257 : (ji38) < (t247.length : Int) := of_decide_eq_true (by first | (with_reducible assumption) | assumption)
                                      obtain ⟨ad257, e257, hx257_0⟩ := Kd.at_int (Kd.R_reads' HO_5.out).2.2 (ji38) p257 q257
                                      obtain rfl : ad255 = ad257 := (by injection e257)
                                      replace p257 := eq_true p257
                                      replace q257 := eq_true q257
                                      have p258 : 0 ≤ ((ji41) : Int) := of_decide_eq_true (by first | (with_reducible assumption) | assumption)
                                      have q258 : (ji41) < (t247.length : Int) := of_decide_eq_true (by first | (with_reducible assumption) | assumption)
                                      obtain ⟨ad258, e258, hx258_0⟩ := Kd.at_int (Kd.R_reads' HO_5.out).2.2 (ji41) p258 q258
                                      obtain rfl : ad255 = ad258 := (by injection e258)
                                      replace p258 := eq_true p258
                                      replace q258 := eq_true q258
                                      go_wp2
                                      repeat (go_quiet (fail); try go_wp2)
                                      go_ret
                                      exact ⟨by first | rfl | (simp [errW_none, errW_some] <;> rfl) | (simp only [← hji35, ← hji38, ← hji41]; first | rfl | (simp [errW_none, errW_some] <;> rfl)) | (simp [*, errW_none, errW_some] <;> rfl), by repeat (first | (with_reducible first | exact HB.out | apply below_alloc | apply pw_below_drewN | apply below_drew1) | exact HB.out)⟩
                                    · rw [if_neg c45] at H
                                      have c45b0 : decide ((wrap64 ((rd t247 x7_3) - (rd t247 (ji35)))) < 12) = false := decide_eq_false c45
                                      clear c45
                                      by_cases c47 : (wrap64 ((rd t247 x7_3) - (rd t247 (ji35)))) > 28
                                      · rw [if_pos c47] at H
                                        have c47b0 : decide (28 < (wrap64 ((rd t247 x7_3) - (rd t247 (ji35))))) = true := decide_eq_true c47
                                        clear c47
                                        obtain rfl := Option.some.inj H
                                        obtain ⟨Ao48, co48, eo48⟩ := Kd.R_slice HO_5.out
                                        subst eo48
                                        have p255 : 0 ≤ (x7_3 : Int) := of_decide_eq_true (by first | (with_reducible assumption) | assumption)
                                        have q255 : x7_3 < (t247.length : Int) := of_decide_eq_true (by first | (with_reducible assumption) | assumption)
                                        obtain ⟨ad255, e255, hx255_0⟩ := Kd.at_int (Kd.R_reads' HO_5.out).2.2 x7_3 p255 q255
                                        cases e255
                                        replace p255 := eq_true p255
                                        replace q255 := eq_true q255
                                        have p256 : 0 ≤ ((ji35) : Int) := of_decide_eq_true (by first | (with_reducible assumption) | assumption)
                                        have q256 : (ji35) < (t247.length : Int) := of_decide_eq_true (by first | (with_reducible assumption) | assumption)
                                        obtain ⟨ad256, e256, hx256_0⟩ := Kd.at_int (Kd.R_reads' HO_5.out).2.2 (ji35) p256 q256
                                        obtain rfl : ad255 = ad256 := (by injection e256)
                                        replace p256 := eq_true p256
                                        replace q256 := eq_true q256
                                        have p257 : 0 ≤ ((ji38) : Int) := of_decide_eq_true (by first | (with_reducible assumption) | assumption)
                                        have q257 : (ji38) < (t247.length : Int) := of_decide_eq_true (by first | (with_reducible assumption) | assumption)
                                        obtain ⟨ad257, e257, hx257_0⟩ := Kd.at_int (Kd.R_reads' HO_5.out).2.2 (ji38) p257 q257
                                        obtain rfl : ad255 = ad257 := (by injection e257)
                                        replace p257 := eq_true p257
                                        replace q257 := eq_true q257
                                        have p258 : 0 ≤ ((ji41) : Int) := of_decide_eq_true (by first | (with_reducible assumption) | assumption)
                                        have q258 : (ji41) < (t247.length : Int) := of_decide_eq_true (by first | (with_reducible assumption) | assumption)
                                        obtain ⟨ad258, e258, hx258_0⟩ := Kd.at_int (Kd.R_reads' HO_5.out).2.2 (ji41) p258 q258
                                        obtain rfl : ad255 = ad258 := (by injection e258)
                                        replace p258 := eq_true p258
                                        replace q258 := eq_true q258
                                        go_wp2
                                        repeat (go_quiet (fail); try go_wp2)
                                        go_ret
                                        exact ⟨by first | rfl | (simp [errW_none, errW_some] <;> rfl) | (simp only [← hji35, ← hji38, ← hji41]; first | rfl | (simp [errW_none, errW_some] <;> rfl)) | (simp [*, errW_none, errW_some] <;> rfl), by repeat (first | (with_reducible first | exact HB.out | apply below_alloc | apply pw_below_drewN | apply below_drew1) | exact HB.out)⟩
                                      · rw [if_neg c47] at H
                                        have c47b0 : decide (28 < (wrap64 ((rd t247 x7_3) - (rd t247 (ji35))))) = false := decide_eq_false c47
                                        clear c47
                                        by_cases c49 : x7_3 > 1
                                        · rw [if_pos c49] at H
                                          have c49b0 : decide (1 < x7_3) = true := decide_eq_true c49
                                          clear c49
                                          by_cases c50 : (wrap64 ((rd t247 x7_3) - (rd t247 (ji35)))) = (wrap64 ((rd t247 (ji38)) - (rd t247 (ji41))))
                                          · rw [if_pos c50] at H
                                            have c50b0 : ((wrap64 ((rd t247 x7_3) - (rd t247 (ji35)))) == (wrap64 ((rd t247 (ji38)) - (rd t247 (ji41))))) = true := beq_iff_eq.mpr c50
                                            have c50b1 : ((wrap64 ((rd t247 x7_3) - (rd t247 (ji35)))) != (wrap64 ((rd t247 (ji38)) - (rd t247 (ji41))))) = false := bne_eq_false_iff_eq.mpr c50
                                            clear c50
                                            have H' := Aside0.mk H
                                            clear H
                                            obtain ⟨Ao51, co51, eo51⟩ := Kd.R_slice HO_5.out
                                            subst eo51
                                            have p255 : 0 ≤ (x7_3 : Int) := of_decide_eq_true (by first | (with_reducible assumption) | assumption)
                                            have q255 : x7_3 < (t247.length : Int) := of_decide_eq_true (by first | (with_reducible assumption) | assumption)
                                            obtain ⟨ad255, e255, hx255_0⟩ := Kd.at_int (Kd.R_reads' HO_5.out).2.2 x7_3 p255 q255
                                            cases e255
                                            replace p255 := eq_true p255
                                            replace q255 := eq_true q255
                                            have p256 : 0 ≤ ((ji35) : Int) := of_decide_eq_true (by first | (with_reducible assumption) | assumption)
                                            have q256 : (ji35) < (t247.length : Int) := of_decide_eq_true (by first | (with_reducible assumption) | assumption)
                                            obtain ⟨ad256, e256, hx256_0⟩ := Kd.at_int (Kd.R_reads' HO_5.out).2.2 (ji35) p256 q256
                                            obtain rfl : ad255 = ad256 := (by injection e256)
                                            replace p256 := eq_true p256
                                            replace q256 := eq_true q256
                                            have p257 : 0 ≤ ((ji38) : Int) := of_decide_eq_true (by first | (with_reducible assumption) | assumption)
                                            have q257 : (ji38) < (t247.length : Int) := of_decide_eq_true (by first | (with_reducible assumption) | assumption)
                                            obtain ⟨ad257, e257, hx257_0⟩ := Kd.at_int (Kd.R_reads' HO_5.out).2.2 (ji38) p257 q257
                                            obtain rfl : ad255 = ad257 := (by injection e257)
                                            replace p257 := eq_true p257
                                            replace q257 := eq_true q257
                                            have p258 : 0 ≤ ((ji41) : Int) := of_decide_eq_true (by first | (with_reducible assumption) | assumption)
                                            have q258 : (ji41) < (t247.length : Int) := of_decide_eq_true (by first | (with_reducible assumption) | assumption)
                                            obtain ⟨ad258, e258, hx258_0⟩ := Kd.at_int (Kd.R_reads' HO_5.out).2.2 (ji41) p258 q258
                                            obtain rfl : ad255 = ad258 := (by injection e258)
                                            replace p258 := eq_true p258
                                            replace q258 := eq_true q258
                                            go_wp2
                                            repeat (go_quiet (fail); try go_wp2)
                                            go_roundg k3
                                            case measure => have := HJ3.out; have := HJ21.out; have := HK3.out; omega
                                            case rel => exact ⟨(wrap64 (x7_3 + 1)), (by first | rfl | (simp; done) | (simp [*]; done)), H', ⟨by have := HJ3.out; have := HJ21.out; have := HK3.out; omega⟩, ⟨by (with_reducible repeat (first | apply Kd.R_alloc | apply Kd.R_drewN | apply Kd.R_drew)); exact HO_5.out⟩, ⟨by repeat (first | (with_reducible first | exact HB.out | apply below_alloc | apply pw_below_drewN | apply below_drew1) | exact HB.out)⟩⟩
                                          · rw [if_neg c50] at H
                                            have c50b0 : ((wrap64 ((rd t247 x7_3) - (rd t247 (ji35)))) == (wrap64 ((rd t247 (ji38)) - (rd t247 (ji41))))) = false := beq_eq_false_iff_ne.mpr c50
                                            have c50b1 : ((wrap64 ((rd t247 x7_3) - (rd t247 (ji35)))) != (wrap64 ((rd t247 (ji38)) - (rd t247 (ji41))))) = true := bne_iff_ne.mpr c50
                                            obtain rfl := Option.some.inj H
                                            obtain ⟨Ao52, co52, eo52⟩ := Kd.R_slice HO_5.out
                                            subst eo52
                                            have p255 : 0 ≤ (x7_3 : Int) := of_decide_eq_true (by first | (with_reducible assumption) | assumption)
                                            have q255 : x7_3 < (t247.length : Int) := of_decide_eq_true (by first | (with_reducible assumption) | assumption)
                                            obtain ⟨ad255, e255, hx255_0⟩ := Kd.at_int (Kd.R_reads' HO_5.out).2.2 x7_3 p255 q255
                                            cases e255
                                            replace p255 := eq_true p255
                                            replace q255 := eq_true q255
                                            have p256 : 0 ≤ ((ji35) : Int) := of_decide_eq_true (by first | (with_reducible assumption) | assumption)
                                            have q256 : (ji35) < (t247.length : Int) := of_decide_eq_true (by first | (with_reducible assumption) | assumption)
                                            obtain ⟨ad256, e256, hx256_0⟩ := Kd.at_int (Kd.R_reads' HO_5.out).2.2 (ji35) p256 q256
                                            obtain rfl : ad255 = ad256 := (by injection e256)
                                            replace p256 := eq_true p256
                                            replace q256 := eq_true q256
                                            have p257 : 0 ≤ ((ji38) : Int) := of_decide_eq_true (by first | (with_reducible assumption) | assumption)
                                            have q257 : (ji38) < (t247.length : Int) := of_decide_eq_true (by first | (with_reducible assumption) | assumption)
                                            obtain ⟨ad257, e257, hx257_0⟩ := Kd.at_int (Kd.R_reads' HO_5.out).2.2 (ji38) p257 q257
                                            obtain rfl : ad255 = ad257 := (by injection e257)
                                            replace p257 := eq_true p257
                                            replace q257 := eq_true q257
                                            have p258 : 0 ≤ ((ji41) : Int) := of_decide_eq_true (by first | (with_reducible assumption) | assumption)
                                            have q258 : (ji41) < (t247.length : Int) := of_decide_eq_true (by first | (with_reducible assumption) | assumption)
                                            obtain ⟨ad258, e258, hx258_0⟩ := Kd.at_int (Kd.R_reads' HO_5.out).2.2 (ji41) p258 q258
                                            obtain rfl : ad255 = ad258 := (by injection e258)
                                            replace p258 := eq_true p258
                                            replace q258 := eq_true q258
                                            go_wp2
                                            repeat (go_quiet (fail); try go_wp2)
                                            go_ret
                                            exact ⟨by first | rfl | (simp [errW_none, errW_some] <;> rfl) | (simp only [← hji35, ← hji38, ← hji41]; first | rfl | (simp [errW_none, errW_some] <;> rfl)) | (simp [*, errW_none, errW_some] <;> rfl), by repeat (first | (with_reducible first | exact HB.out | apply below_alloc | apply pw_below_drewN | apply below_drew1) | exact HB.out)⟩
                                        · rw [if_neg c49] at H
                                          have c49b0 : decide (1 < x7_3) = false := decide_eq_false c49
                                          clear c49
                                          have H' := Aside0.mk H
                                          clear H
                                          obtain ⟨Ao53, co53, eo53⟩ := Kd.R_slice HO_5.out
                                          subst eo53
                                          have p255 : 0 ≤ (x7_3 : Int) := of_decide_eq_true (by first | (with_reducible assumption) | assumption)
                                          have q255 : x7_3 < (t247.length : Int) := of_decide_eq_true (by first | (with_reducible assumption) | assumption)
                                          obtain ⟨ad255, e255, hx255_0⟩ := Kd.at_int (Kd.R_reads' HO_5.out).2.2 x7_3 p255 q255
                                          cases e255
                                          replace p255 := eq_true p255
                                          replace q255 := eq_true q255
                                          have p256 : 0 ≤ ((ji35) : Int) := of_decide_eq_true (by first | (with_reducible assumption) | assumption)
                                          have q256 : (ji35) < (t247.length : Int) := of_decide_eq_true (by first | (with_reducible assumption) | assumption)
                                          obtain ⟨ad256, e256, hx256_0⟩ := Kd.at_int (Kd.R_reads' HO_5.out).2.2 (ji35) p256 q256
                                          obtain rfl : ad255 = ad256 := (by injection e256)
                                          replace p256 := eq_true p256
                                          replace q256 := eq_true q256
                                          have p257 : 0 ≤ ((ji38) : Int) := of_decide_eq_true (by first | (with_reducible assumption) | assumption)
                                          have q257 : (ji38) < (t247.length : Int) := of_decide_eq_true (by first | (with_reducible assumption) | assumption)
                                          obtain ⟨ad257, e257, hx257_0⟩ := Kd.at_int (Kd.R_reads' HO_5.out).2.2 (ji38) p257 q257
                                          obtain rfl : ad255 = ad257 := (by injection e257)
                                          replace p257 := eq_true p257
                                          replace q257 := eq_true q257
                                          have p258 : 0 ≤ ((ji41) : Int) := of_decide_eq_true (by first | (with_reducible assumption) | assumption)
                                          have q258 : (ji41) < (t247.length : Int) := of_decide_eq_true (by first | (with_reducible assumption) | assumption)
                                          obtain ⟨ad258, e258, hx258_0⟩ := Kd.at_int (Kd.R_reads' HO_5.out).2.2 (ji41) p258 q258
                                          obtain rfl : ad255 = ad258 := (by injection e258)
                                          replace p258 := eq_true p258
                                          replace q258 := eq_true q258
                                          go_wp2
                                          repeat (go_quiet (fail); try go_wp2)
                                          go_roundg k3
                                          case measure => have := HJ3.out; have := HJ21.out; have := HK3.out; omega
                                          case rel => exact ⟨(wrap64 (x7_3 + 1)), (by first | rfl | (simp; done) | (simp [*]; done)), H', ⟨by have := HJ3.out; have := HJ21.out; have := HK3.out; omega⟩, ⟨by (with_reducible repeat (first | apply Kd.R_alloc | apply Kd.R_drewN | apply Kd.R_drew)); exact HO_5.out⟩, ⟨by repeat (first | (with_reducible first | exact HB.out | apply below_alloc | apply pw_below_drewN | apply below_drew1) | exact HB.out)⟩⟩
                                  · rw [if_neg c44] at H
                                    have c44b0 : ((Int.tmod (wrap64 ((rd t247 x7_3) - (rd t247 (ji35)))) 2) == 0) = false := beq_eq_false_iff_ne.mpr c44
                                    have c44b1 : ((Int.tmod (wrap64 ((rd t247 x7_3) - (rd t247 (ji35)))) 2) != 0) = true := bne_iff_ne.mpr c44
                                    obtain rfl := Option.some.inj H
                                    obtain ⟨Ao54, co54, eo54⟩ := Kd.R_slice HO_5.out
                                    subst eo54
                                    have p255 : 0 ≤ (x7_3 : Int) := of_decide_eq_true (by first | (with_reducible assumption) | assumption)
                                    have q255 : x7_3 < (t247.length : Int) := of_decide_eq_true (by first | (with_reducible assumption) | assumption)
                                    obtain ⟨ad255, e255, hx255_0⟩ := Kd.at_int (Kd.R_reads' HO_5.out).2.2 x7_3 p255 q255
                                    cases e255
                                    replace p255 := eq_true p255
                                    replace q255 := eq_true q255
                                    have p256 : 0 ≤ ((ji35) : Int) := of_decide_eq_true (by first | (with_reducible assumption) | assumption)
                                    have q256 : (ji35) < (t247.length : Int) := of_decide_eq_true (by first | (with_reducible assumption) | assumption)
                                    obtain ⟨ad256, e256, hx256_0⟩ := Kd.at_int (Kd.R_reads' HO_5.out).2.2 (ji35) p256 q256
                                    obtain rfl : ad255 = ad256 := (by injection e256)
                                    replace p256 := eq_true p256
                                    replace q256 := eq_true q256
                                    have p257 : 0 ≤ ((ji38) : Int) := of_decide_eq_true (by first | (with_reducible assumption) | assumption)
                                    have q257 : (ji38) < (t247.length : Int) := of_decide_eq_true (by first | (with_reducible assumption) | assumption)
                                    obtain ⟨ad257, e257, hx257_0⟩ := Kd.at_int (Kd.R_reads' HO_5.out).2.2 (ji38) p257 q257
                                    obtain rfl : ad255 = ad257 := (by injection e257)
                                    replace p257 := eq_true p257
                                    replace q257 := eq_true q257
                                    have p258 : 0 ≤ ((ji41) : Int) := of_decide_eq_true (by first | (with_reducible assumption) | assumption)
                                    have q258 : (ji41) < (t247.length : Int) := of_decide_eq_true (by first | (with_reducible assumption) | assumption)
                                    obtain ⟨ad258, e258, hx258_0⟩ := Kd.at_int (Kd.R_reads' HO_5.out).2.2 (ji41) p258 q258
                                    obtain rfl : ad255 = ad258 := (by injection e258)
                                    replace p258 := eq_true p258
                                    replace q258 := eq_true q258
                                    go_wp2
                                    repeat (go_quiet (fail); try go_wp2)
                                    go_ret
                                    exact ⟨by first | rfl | (simp [errW_none, errW_some] <;> rfl) | (simp only [← hji35, ← hji38, ← hji41]; first | rfl | (simp [errW_none, errW_some] <;> rfl)) | (simp [*, errW_none, errW_some] <;> rfl), by repeat (first | (with_reducible first | exact HB.out | apply below_alloc | apply pw_below_drewN | apply below_drew1) | exact HB.out)⟩
                                · rw [if_neg c43] at H
                                  exact absurd H (by simp)
                              · rw [if_neg c42] at H
                                exact absurd H (by simp)
                            · rw [if_neg c40] at H
                              exact absurd H (by simp)
                          · rw [if_neg c39] at H
                            exact absurd H (by simp)
                        · rw [if_neg c37] at H
                          exact absurd H (by simp)
                      · rw [if_neg c36] at H
                        exact absurd H (by simp)
                    · rw [if_neg c34] at H
                      exact absurd H (by simp)
                  · rw [if_neg c33] at H
                    have c33b0 : decide (x7_3 < (t247.length : Int)) = false := decide_eq_false c33
                    clear c33
                    replace H := Option.bind_eq_some_iff.mp H
                    obtain ⟨t259, A550, H⟩ := H
                    replace H : (some t259) = some r := H
                    have A55 := Aside0.mk A550
                    clear A550
                    obtain rfl := Option.some.inj H
                    obtain ⟨Ao56, co56, eo56⟩ := Kd.R_slice HO_5.out
                    subst eo56
                    go_wp2_with (first | (go_at_call 15; (with_reducible refine (barscanlaw17_alive.calls k3  t259 _ A55.out).mono ?_); rintro e w57 ⟨rfl, hb⟩; have n0_ := Aside0.mk (Kd.R_below (by (with_reducible repeat (first | apply Kd.R_alloc | apply Kd.R_drewN | apply Kd.R_drew)); exact HO_5.out) hb); have n1_ := Aside0.mk (below_step (by repeat (first | (with_reducible first | exact HB.out | apply below_alloc | apply pw_below_drewN | apply below_drew1) | exact HB.out)) hb); clear HO_5; clear HB; have HO_5 := n0_; have HB := n1_; clear n0_ n1_; (try clear hb); (try clear hb2); (try clear hk); (try clear hi)))
                    repeat (go_quiet (first | (go_at_call 15; (with_reducible refine (barscanlaw17_alive.calls k3  t259 _ A55.out).mono ?_); rintro e w57 ⟨rfl, hb⟩; have n0_ := Aside0.mk (Kd.R_below (by (with_reducible repeat (first | apply Kd.R_alloc | apply Kd.R_drewN | apply Kd.R_drew)); exact HO_5.out) hb); have n1_ := Aside0.mk (below_step (by repeat (first | (with_reducible first | exact HB.out | apply below_alloc | apply pw_below_drewN | apply below_drew1) | exact HB.out)) hb); clear HO_5; clear HB; have HO_5 := n0_; have HB := n1_; clear n0_ n1_; (try clear hb); (try clear hb2); (try clear hk); (try clear hi))); try go_wp2_with (first | (go_at_call 15; (with_reducible refine (barscanlaw17_alive.calls k3  t259 _ A55.out).mono ?_); rintro e w57 ⟨rfl, hb⟩; have n0_ := Aside0.mk (Kd.R_below (by (with_reducible repeat (first | apply Kd.R_alloc | apply Kd.R_drewN | apply Kd.R_drew)); exact HO_5.out) hb); have n1_ := Aside0.mk (below_step (by repeat (first | (with_reducible first | exact HB.out | apply below_alloc | apply pw_below_drewN | apply below_drew1) | exact HB.out)) hb); clear HO_5; clear HB; have HO_5 := n0_; have HB := n1_; clear n0_ n1_; (try clear hb); (try clear hb2); (try clear hk); (try clear hi))))
                    go_ret
                    exact ⟨by first | rfl | (simp [errW_none, errW_some] <;> rfl) | (simp [*, errW_none, errW_some] <;> rfl), by repeat (first | (with_reducible first | exact HB.out | apply below_alloc | apply pw_below_drewN | apply below_drew1) | exact HB.out)⟩

/-- THE ONE PURE STATEMENT of barscanlaw17_QrversionAligns: yours. -/
def barscanlaw17_QrversionAligns.Pure : Prop := ∀ (a0 : Int), (Lit.int .i64 a0).wf = true → ∃ k, barscanlaw17_QrversionAligns.f k a0 = some true
theorem barscanlaw17_QrversionAligns.walk (P : barscanlaw17_QrversionAligns.Pure) (a0 : Int) (w : World) (w0 : (Lit.int .i64 a0).wf = true) :
    Calls Try.prog 6 #[.int .i64 a0] w fun e w' => e = .returned (.bool true) ∧ Below w.heap.size w w' := by
  obtain ⟨k, h⟩ := P a0 w0
  refine (barscanlaw17_QrversionAligns.calls k a0 true w h).mono ?_
  rintro e w' ⟨rfl, hd⟩
  exact ⟨rfl, hd⟩

end Go.Proofs.Ytabhopibgbeneaa.X
