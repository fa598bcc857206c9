/- qrdata.Header: the bits of a header, or the error. No condition. -/
import Derived.Test.YtjhhckkmogekkaaYWriterB
namespace Go.Proofs.Ytjhhckkmogekkaa.X
open Go.RowKit Go.Proofs.YtjhhckkmogekkaaW.PrintWords Go.Proofs.YtjhhckkmogekkaaW.PrintLast Go.Proofs.YtjhhckkmogekkaaW.PrintMore
set_option linter.unusedVariables false
set_option linter.unusedSimpArgs false

theorem eqAp (d : Nat) (w : World) (x0 y0 : Int) (x1 y1 : Int) (x2 y2 : Int) :
    (Op.equalIn (d + 2) 25 (.agg #[.int .i64 x0, .int .i64 x1, .int .i64 x2]) (.agg #[.int .i64 y0, .int .i64 y1, .int .i64 y2])).run Try.prog w = .ok (x0 == y0 && (x1 == y1 && (x2 == y2))) w := by
  refine eqA_of Try.underlying25 (by kernel_rfl) ?_
  refine eqf_cons (by rfl) (by go_simp; rfl) (by go_simp; rfl) (by go_simp) ?_
  refine eqf_cons (by rfl) (by go_simp; rfl) (by go_simp; rfl) (by go_simp) ?_
  exact eqf_last (by rfl) (by go_simp; rfl) (by go_simp; rfl) (by go_simp)
theorem wrap64_small (x : Int) (h0 : -9223372036854775808 ≤ x) (h1 : x ≤ 9223372036854775807) : wrap64 x = x := by unfold wrap64; omega
def headBits (i t p : Int) : List Bool := low 3 4 ++ low i 4 ++ low (t - 1) 4 ++ low p 8
theorem headBits_length (i t p : Int) : (headBits i t p).length = 20 := by simp [headBits, low_length]
def headR (i t p : Int) : List Bool × Int := if i = 0 ∧ t = 0 ∧ p = 0 then ([], 0) else if t < 2 ∨ 16 < t ∨ i < 0 ∨ t ≤ i ∨ p < 0 ∨ 255 < p then ([], 3) else (headBits i t p, 0)
def qrdata_Header.f (a0 a1 a2 : Int) : Option (List Bool × Int) := some (headR a0 a1 a2)
attribute [local go_sem high] eqAp
set_option maxHeartbeats 2000000 in
set_option maxRecDepth 100000 in
theorem header_zero (i t p : Int) (hz : (i == 0 && (t == 0 && (p == 0))) = true) (w : World) :
    Calls Try.prog 15 #[.agg #[.int .i64 i, .int .i64 t, .int .i64 p]] w fun e w' => ∃ v0_ : Value, e = .returned (.tuple #[v0_, .int .i64 0]) ∧ Kd.R Kd.bool 4 w' w.heap.size (fun _ => True) v0_ [] ∧ Below w.heap.size w w' := by
  go_enter Try.func15, Try.ntmps15
  go_wp2
  go_ret2
  exact ⟨_, rfl, Kd.R_nil _ _ _ _ _, by repeat (first | exact Below.refl _ _ | apply below_alloc | apply pw_below_drewN | apply below_drew)⟩
set_option maxHeartbeats 2000000 in
set_option maxRecDepth 100000 in
theorem header_bad0 (i t p : Int) (hz : (i == 0 && (t == 0 && (p == 0))) = false) (d0 : decide (t < 2) = true) (w : World) :
    Calls Try.prog 15 #[.agg #[.int .i64 i, .int .i64 t, .int .i64 p]] w fun e w' => ∃ v0_ : Value, e = .returned (.tuple #[v0_, .int .i64 3]) ∧ Kd.R Kd.bool 4 w' w.heap.size (fun _ => True) v0_ [] ∧ Below w.heap.size w w' := by
  go_enter Try.func15, Try.ntmps15
  go_wp2
  go_ret2
  exact ⟨_, rfl, Kd.R_nil _ _ _ _ _, by repeat (first | exact Below.refl _ _ | apply below_alloc | apply pw_below_drewN | apply below_drew)⟩
set_option maxHeartbeats 2000000 in
set_option maxRecDepth 100000 in
theorem header_bad1 (i t p : Int) (hz : (i == 0 && (t == 0 && (p == 0))) = false) (d0 : decide (t < 2) = false) (d1 : decide (16 < t) = true) (w : World) :
    Calls Try.prog 15 #[.agg #[.int .i64 i, .int .i64 t, .int .i64 p]] w fun e w' => ∃ v0_ : Value, e = .returned (.tuple #[v0_, .int .i64 3]) ∧ Kd.R Kd.bool 4 w' w.heap.size (fun _ => True) v0_ [] ∧ Below w.heap.size w w' := by
  go_enter Try.func15, Try.ntmps15
  go_wp2
  go_ret2
  exact ⟨_, rfl, Kd.R_nil _ _ _ _ _, by repeat (first | exact Below.refl _ _ | apply below_alloc | apply pw_below_drewN | apply below_drew)⟩
set_option maxHeartbeats 2000000 in
set_option maxRecDepth 100000 in
theorem header_bad2 (i t p : Int) (hz : (i == 0 && (t == 0 && (p == 0))) = false) (d0 : decide (t < 2) = false) (d1 : decide (16 < t) = false) (d2 : decide (i < 0) = true) (w : World) :
    Calls Try.prog 15 #[.agg #[.int .i64 i, .int .i64 t, .int .i64 p]] w fun e w' => ∃ v0_ : Value, e = .returned (.tuple #[v0_, .int .i64 3]) ∧ Kd.R Kd.bool 4 w' w.heap.size (fun _ => True) v0_ [] ∧ Below w.heap.size w w' := by
  go_enter Try.func15, Try.ntmps15
  go_wp2
  go_ret2
  exact ⟨_, rfl, Kd.R_nil _ _ _ _ _, by repeat (first | exact Below.refl _ _ | apply below_alloc | apply pw_below_drewN | apply below_drew)⟩
set_option maxHeartbeats 2000000 in
set_option maxRecDepth 100000 in
theorem header_bad3 (i t p : Int) (hz : (i == 0 && (t == 0 && (p == 0))) = false) (d0 : decide (t < 2) = false) (d1 : decide (16 < t) = false) (d2 : decide (i < 0) = false) (d3 : decide (t ≤ i) = true) (w : World) :
    Calls Try.prog 15 #[.agg #[.int .i64 i, .int .i64 t, .int .i64 p]] w fun e w' => ∃ v0_ : Value, e = .returned (.tuple #[v0_, .int .i64 3]) ∧ Kd.R Kd.bool 4 w' w.heap.size (fun _ => True) v0_ [] ∧ Below w.heap.size w w' := by
  go_enter Try.func15, Try.ntmps15
  go_wp2
  go_ret2
  exact ⟨_, rfl, Kd.R_nil _ _ _ _ _, by repeat (first | exact Below.refl _ _ | apply below_alloc | apply pw_below_drewN | apply below_drew)⟩
set_option maxHeartbeats 2000000 in
set_option maxRecDepth 100000 in
theorem header_bad4 (i t p : Int) (hz : (i == 0 && (t == 0 && (p == 0))) = false) (d0 : decide (t < 2) = false) (d1 : decide (16 < t) = false) (d2 : decide (i < 0) = false) (d3 : decide (t ≤ i) = false) (d4 : decide (p < 0) = true) (w : World) :
    Calls Try.prog 15 #[.agg #[.int .i64 i, .int .i64 t, .int .i64 p]] w fun e w' => ∃ v0_ : Value, e = .returned (.tuple #[v0_, .int .i64 3]) ∧ Kd.R Kd.bool 4 w' w.heap.size (fun _ => True) v0_ [] ∧ Below w.heap.size w w' := by
  go_enter Try.func15, Try.ntmps15
  go_wp2
  go_ret2
  exact ⟨_, rfl, Kd.R_nil _ _ _ _ _, by repeat (first | exact Below.refl _ _ | apply below_alloc | apply pw_below_drewN | apply below_drew)⟩
set_option maxHeartbeats 2000000 in
set_option maxRecDepth 100000 in
theorem header_bad5 (i t p : Int) (hz : (i == 0 && (t == 0 && (p == 0))) = false) (d0 : decide (t < 2) = false) (d1 : decide (16 < t) = false) (d2 : decide (i < 0) = false) (d3 : decide (t ≤ i) = false) (d4 : decide (p < 0) = false) (d5 : decide (255 < p) = true) (w : World) :
    Calls Try.prog 15 #[.agg #[.int .i64 i, .int .i64 t, .int .i64 p]] w fun e w' => ∃ v0_ : Value, e = .returned (.tuple #[v0_, .int .i64 3]) ∧ Kd.R Kd.bool 4 w' w.heap.size (fun _ => True) v0_ [] ∧ Below w.heap.size w w' := by
  go_enter Try.func15, Try.ntmps15
  go_wp2
  go_ret2
  exact ⟨_, rfl, Kd.R_nil _ _ _ _ _, by repeat (first | exact Below.refl _ _ | apply below_alloc | apply pw_below_drewN | apply below_drew)⟩
set_option maxHeartbeats 2000000 in
set_option maxRecDepth 100000 in
theorem header_good (i t p : Int) (hz : (i == 0 && (t == 0 && (p == 0))) = false) (d0 : decide (t < 2) = false) (d1 : decide (16 < t) = false) (d2 : decide (i < 0) = false) (d3 : decide (t ≤ i) = false) (d4 : decide (p < 0) = false) (d5 : decide (255 < p) = false) (w : World) :
    Calls Try.prog 15 #[.agg #[.int .i64 i, .int .i64 t, .int .i64 p]] w fun e w' => ∃ v0_ : Value, e = .returned (.tuple #[v0_, .int .i64 0]) ∧ Kd.R Kd.bool 4 w' w.heap.size (fun _ => True) v0_ (headBits i t p) ∧ Below w.heap.size w w' := by
  have hw : wrap64 (t - 1) = t - 1 := by
    have h0 := of_decide_eq_false d0
    have h1 := of_decide_eq_false d1
    exact wrap64_small _ (by omega) (by omega)
  have HW := Aside0.mk hw
  clear hw
  go_enter Try.func15, Try.ntmps15
  go_wp2_with fail
  have hB0 : Below w.heap.size w ((w.alloc (.cells #[.int .i64 i, .int .i64 t, .int .i64 p] 25)).alloc (.cells #[.slice none 0 0] 67)) := below_alloc (below_alloc (Below.refl _ _) _) _
  have hg0 : ((w.alloc (.cells #[.int .i64 i, .int .i64 t, .int .i64 p] 25)).alloc (.cells #[.slice none 0 0] 67)).heap[w.heap.size + 1]? = some (.cells #[.slice none 0 0] 67 (0, 0)) := by
    have h := World.alloc_heap_new (w.alloc (.cells #[.int .i64 i, .int .i64 t, .int .i64 p] 25)) (.cells #[.slice none 0 0] 67)
    rw [World.size_alloc] at h
    exact h
  generalize (w.alloc (.cells #[.int .i64 i, .int .i64 t, .int .i64 p] 25)).alloc (.cells #[.slice none 0 0] 67) = w1 at *
  have hwr : IsWr w1 w.heap.size (w.heap.size + 1) [] := ⟨_, hg0, by omega, Kd.R_nil _ _ _ _ _⟩
  have HB := Aside0.mk hB0
  clear hB0 hg0
  refine (whead_calls w1 w.heap.size (w.heap.size + 1) [] i t p hwr (by simp) HW.out).mono ?_
  rintro e w2 ⟨rfl, h2, k2⟩
  clear hwr
  obtain ⟨v, hc, hN, hR⟩ := h2
  obtain ⟨A, c, rfl⟩ := Kd.R_slice hR
  have hc0 : w2.cell? ⟨w.heap.size + 1, 0, none⟩ = some (.slice A ([] ++ low 3 4 ++ low i 4 ++ low (t - 1) 4 ++ low p 8).length c) := by simp [World.cell?, hc]
  rw [List.nil_append] at hR hc0
  have HR := Aside0.mk hR
  have HN := Aside0.mk hN
  have HK := Aside0.mk k2
  have hl : (low 3 4 ++ low i 4 ++ low (t - 1) 4 ++ low p 8).length = 20 := headBits_length i t p
  rw [hl] at hc0
  clear hR hN k2 hc hl
  go_wp2_with fail
  go_ret2
  refine ⟨_, rfl, ?_, (HB.out).trans (HK.out.1.mono (by omega))⟩
  have h := Kd.R_mono HR.out (fun _ _ => trivial)
  have hl : (low 3 4 ++ low i 4 ++ low (t - 1) 4 ++ low p 8).length = 20 := headBits_length i t p
  rw [hl] at h
  exact h
theorem qrdata_Header.calls (a0 a1 a2 : Int) (r1 : List Bool) (r2 : Int) (w : World) (h : qrdata_Header.f a0 a1 a2 = some (r1, r2)) :
    Calls Try.prog 15 #[.agg #[.int .i64 a0, .int .i64 a1, .int .i64 a2]] w fun e w' => ∃ v0_ : Value, e = .returned (.tuple #[v0_, .int .i64 r2]) ∧ Kd.R Kd.bool 4 w' w.heap.size (fun _ => True) v0_ r1 ∧ Below w.heap.size w w' := by
  have h : headR a0 a1 a2 = (r1, r2) := Option.some.inj h
  unfold headR at h
  by_cases hz : a0 = 0 ∧ a1 = 0 ∧ a2 = 0
  · rw [if_pos hz] at h
    obtain ⟨rfl, rfl⟩ := Prod.mk.inj h
    exact header_zero a0 a1 a2 (by simp [hz.1, hz.2.1, hz.2.2]) w
  rw [if_neg hz] at h
  have hz : (a0 == 0 && (a1 == 0 && (a2 == 0))) = false := by
    cases hx : (a0 == 0 && (a1 == 0 && (a2 == 0))) with
    | false => rfl
    | true => simp at hx; exact absurd ⟨hx.1, hx.2.1, hx.2.2⟩ hz
  by_cases hb : a1 < 2 ∨ 16 < a1 ∨ a0 < 0 ∨ a1 ≤ a0 ∨ a2 < 0 ∨ 255 < a2
  · rw [if_pos hb] at h
    obtain ⟨rfl, rfl⟩ := Prod.mk.inj h
    by_cases b0 : a1 < 2
    · exact header_bad0 a0 a1 a2 hz (decide_eq_true b0) w
    by_cases b1 : 16 < a1
    · exact header_bad1 a0 a1 a2 hz (decide_eq_false b0) (decide_eq_true b1) w
    by_cases b2 : a0 < 0
    · exact header_bad2 a0 a1 a2 hz (decide_eq_false b0) (decide_eq_false b1) (decide_eq_true b2) w
    by_cases b3 : a1 ≤ a0
    · exact header_bad3 a0 a1 a2 hz (decide_eq_false b0) (decide_eq_false b1) (decide_eq_false b2) (decide_eq_true b3) w
    by_cases b4 : a2 < 0
    · exact header_bad4 a0 a1 a2 hz (decide_eq_false b0) (decide_eq_false b1) (decide_eq_false b2) (decide_eq_false b3) (decide_eq_true b4) w
    · exact header_bad5 a0 a1 a2 hz (decide_eq_false b0) (decide_eq_false b1) (decide_eq_false b2) (decide_eq_false b3) (decide_eq_false b4) (decide_eq_true (by omega)) w
  · rw [if_neg hb] at h
    obtain ⟨rfl, rfl⟩ := Prod.mk.inj h
    exact header_good a0 a1 a2 hz (decide_eq_false (by omega)) (decide_eq_false (by omega)) (decide_eq_false (by omega)) (decide_eq_false (by omega)) (decide_eq_false (by omega)) (decide_eq_false (by omega)) w
end Go.Proofs.Ytjhhckkmogekkaa.X
