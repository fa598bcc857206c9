/- The reference's Decode, in plain Lean. No condition. -/
import Derived.Test.YtagmncdbiljacaaYMTrip
import Derived.Test.YtagmncdbiljacaaYMRefBits
import Derived.Test.YtagmncdbiljacaaYRefT
import Derived.Test.YtagmncdbiljacaaXx31
namespace Go.Proofs.Ytagmncdbiljacaa.X
open Go.RowKit Go.Proofs.YtagmncdbiljacaaW.PrintWords Go.Proofs.YtagmncdbiljacaaW.PrintLast Go.Proofs.YtagmncdbiljacaaW.PrintMore
set_option linter.unusedVariables false
set_option linter.unusedSimpArgs false

theorem dig_is (v q : Int) (h0 : 0 ≤ v) (h1 : v ≤ 1000000000) (hq : q = 1 ∨ q = 10 ∨ q = 100) : (wrap64 (48 + (Int.tmod (wrap64 (Int.tdiv v q)) 10))) % 256 = chOf (v / q % 10) := by
  have d0 : 0 ≤ v / q ∧ v / q ≤ v := by rcases hq with rfl | rfl | rfl <;> omega
  have m0 : 0 ≤ v / q % 10 ∧ v / q % 10 ≤ 9 := by omega
  rw [Int.tdiv_eq_ediv_of_nonneg h0, wrap64_id (v / q) (by omega) (by omega), Int.tmod_eq_emod_of_nonneg d0.1, wrap64_id _ (by omega) (by omega), digit_ch m0.1 m0.2]
  omega
theorem digits_ev (v : Int) (h0 : 0 ≤ v) (h1 : v ≤ 1000000000) (k : Int) (hk : k = 1 ∨ k = 2 ∨ k = 3) :
    Ev (fun n => barscanref16_digits.f n v k) (if k = 1 then [chOf (v % 10)] else if k = 2 then [chOf (v / 10 % 10), chOf (v % 10)] else [chOf (v / 10 / 10 % 10), chOf (v / 10 % 10), chOf (v % 10)]) := by
  have e1 := dig_is v 1 h0 h1 (.inl rfl)
  have e2 := dig_is v 10 h0 h1 (.inr (.inl rfl))
  have e3 := dig_is v 100 h0 h1 (.inr (.inr rfl))
  rw [Int.ediv_one] at e1
  have e4 : v / 100 % 10 = v / 10 / 10 % 10 := by omega
  have t1 : wrap64 (Int.tdiv 1 10) = 0 := by decide +kernel
  have t2 : wrap64 (Int.tdiv 10 10) = 1 := by decide +kernel
  have t3 : wrap64 (Int.tdiv 100 10) = 10 := by decide +kernel
  rw [e4] at e3
  unfold barscanref16_digits.f
  have fin : ∀ (k : Int) (l : List Int) (q i : Int), ¬ (i < k) → Ev (fun n => barscanref16_digits.l1 n v k l q i) l := by
    intro k l q i h
    refine Ev.step (fun k => by rw [barscanref16_digits.l1]) ?_
    exact ev_else h (Ev.now _)
  have one : ∀ (k : Int) (l : List Int) (i : Int) (r : List Int), l.length ≤ 10 → i < k → Ev (fun n => barscanref16_digits.l1 n v k (l ++ [chOf (v % 10)]) 1 (wrap64 (i + 1))) r → Ev (fun n => barscanref16_digits.l1 n v k l 1 i) r := by
    intro k l i r hl h hr
    refine Ev.step (fun k => by rw [barscanref16_digits.l1]) ?_
    rw [e1, t1]
    refine ev_if h (ev_else (by decide) (ev_if (by omega) (ev_some ?_)))
    exact ev_if rfl hr
  have ten : ∀ (k : Int) (l : List Int) (i : Int) (r : List Int), l.length ≤ 10 → i < k → Ev (fun n => barscanref16_digits.l1 n v k (l ++ [chOf (v / 10 % 10)]) 1 (wrap64 (i + 1))) r → Ev (fun n => barscanref16_digits.l1 n v k l 10 i) r := by
    intro k l i r hl h hr
    refine Ev.step (fun k => by rw [barscanref16_digits.l1]) ?_
    rw [e2, t2]
    refine ev_if h (ev_else (by decide) (ev_if (by omega) (ev_some ?_)))
    exact ev_else (by decide) hr
  have hun : ∀ (k : Int) (l : List Int) (i : Int) (r : List Int), l.length ≤ 10 → i < k → Ev (fun n => barscanref16_digits.l1 n v k (l ++ [chOf (v / 10 / 10 % 10)]) 10 (wrap64 (i + 1))) r → Ev (fun n => barscanref16_digits.l1 n v k l 100 i) r := by
    intro k l i r hl h hr
    refine Ev.step (fun k => by rw [barscanref16_digits.l1]) ?_
    rw [e3, t3]
    refine ev_if h (ev_else (by decide) (ev_if (by omega) (ev_some ?_)))
    exact ev_else (by decide) hr
  have grow : ∀ (k q q2 i i2 : Int) (r : List Int), i < k → wrap64 (10 * q) = q2 → wrap64 (i + 1) = i2 → Ev (fun n => barscanref16_digits.l0 n v k q2 i2) r → Ev (fun n => barscanref16_digits.l0 n v k q i) r := by
    intro k q q2 i i2 r h a b hr
    refine Ev.step (fun k => by rw [barscanref16_digits.l0]) ?_
    rw [a, b]
    exact ev_if h hr
  have go : ∀ (k q i : Int) (r : List Int), ¬ (i < k) → Ev (fun n => barscanref16_digits.l1 n v k [] q 0) r → Ev (fun n => barscanref16_digits.l0 n v k q i) r := by
    intro k q i r h hr
    refine Ev.step (fun k => by rw [barscanref16_digits.l0]) ?_
    exact ev_else h hr
  clear e1 e2 e3 e4 t1 t2 t3
  have one1 : ∀ i : Int, i = 0 ∨ i = 1 ∨ i = 2 → wrap64 (i + 1) = i + 1 := fun i hi => w_is rfl (by omega) (by omega)
  have u0 : wrap64 (0 + 1) = 1 := by decide +kernel
  have u1 : wrap64 (1 + 1) = 2 := by decide +kernel
  have u2 : wrap64 (2 + 1) = 3 := by decide +kernel
  rcases hk with rfl | rfl | rfl
  · exact go 1 1 1 _ (by decide) (one 1 [] 0 _ (by simp) (by decide) (fin _ _ _ _ (by decide +kernel)))
  · exact grow 2 1 10 1 2 _ (by decide) (by decide +kernel) (by decide +kernel) (go 2 10 2 _ (by decide) (ten 2 [] 0 _ (by simp) (by decide) (by rw [u0]; exact one 2 [chOf (v / 10 % 10)] 1 _ (by simp) (by decide) (fin _ _ _ _ (by decide +kernel)))))
  · exact grow 3 1 10 1 2 _ (by decide) (by decide +kernel) (by decide +kernel) (grow 3 10 100 2 3 _ (by decide) (by decide +kernel) (by decide +kernel) (go 3 100 3 _ (by decide) (hun 3 [] 0 _ (by simp) (by decide) (by rw [u0]; exact ten 3 [chOf (v / 10 / 10 % 10)] 1 _ (by simp) (by decide) (by rw [u1]; exact one 3 [chOf (v / 10 / 10 % 10), chOf (v / 10 % 10)] 2 _ (by simp) (by decide) (fin _ _ _ _ (by decide +kernel)))))))
theorem refUngroup_ev (m : Int) (hm : m = 1 ∨ m = 2 ∨ m = 4) (v : Int) (h0 : 0 ≤ v) (h1 : v ≤ 1000000000) (k : Nat) (k1 : 1 ≤ k) (k2 : k ≤ szOf m) : Ev (fun n => barscanref16_ungroup.f n m v (k : Int)) (unGrp m v k) := by
  unfold barscanref16_ungroup.f
  rcases hm with rfl | rfl | rfl
  · have k2 : k ≤ 3 := k2
    refine ev_else (by decide) (ev_if rfl ?_)
    refine Ev.bind (digits_ev v h0 h1 k (by omega)) ?_
    unfold unGrp
    simp only [if_neg (show ¬ (1 : Int) = 4 by decide), if_true]
    have : k = 1 ∨ k = 2 ∨ k = 3 := by omega
    rcases this with rfl | rfl | rfl
    · have hd : decide (v < 10) = (v / 10 == 0) := by
        by_cases e : v < 10
        · rw [decide_eq_true e, show v / 10 = 0 by omega]; rfl
        · rw [decide_eq_false e]; symm; rw [beq_eq_false_iff_ne]; omega
      refine ev_else (by decide) (ev_else (by decide) (ev_if rfl ?_))
      refine ev_val ?_
      rw [hd]; rfl
    · refine ev_else (by decide) (ev_if rfl ?_)
      refine ev_cond (fun e => ev_val ?_) (fun e => ?_)
      · have : v / 10 / 10 = 0 := by omega
        rw [this]; rfl
      · have hd : (v / 10 / 10 == 0) = false := by rw [beq_eq_false_iff_ne]; omega
        refine ev_else (by decide) (ev_val ?_)
        rw [hd]; rfl
    · refine ev_if rfl ?_
      refine ev_cond (fun e => ev_val ?_) (fun e => ?_)
      · have : v / 10 / 10 / 10 = 0 := by omega
        rw [this]; rfl
      · have hd : (v / 10 / 10 / 10 == 0) = false := by rw [beq_eq_false_iff_ne]; omega
        refine ev_else (by decide) (ev_else (by decide) (ev_val ?_))
        rw [hd]; rfl
  · have k2 : k ≤ 2 := k2
    refine ev_else (by decide) (ev_else (by decide) ?_)
    have t1 : Int.tmod v 45 = v % 45 := Int.tmod_eq_emod_of_nonneg h0
    have t2 : wrap64 (Int.tdiv v 45) = v / 45 := by rw [Int.tdiv_eq_ediv_of_nonneg h0]; exact wrap64_id _ (by omega) (by omega)
    have t3 : Int.tmod (v / 45) 45 = v / 45 % 45 := Int.tmod_eq_emod_of_nonneg (by omega)
    rw [t2, t1, t3]
    clear t1 t2 t3
    unfold unGrp
    simp only [if_neg (show ¬ (2 : Int) = 4 by decide), if_neg (show ¬ (2 : Int) = 1 by decide)]
    have : k = 1 ∨ k = 2 := by omega
    rcases this with rfl | rfl
    · have hd : decide (v < 45) = (v / 45 == 0) := by
        by_cases e : v < 45
        · rw [decide_eq_true e, show v / 45 = 0 by omega]; rfl
        · rw [decide_eq_false e]; symm; rw [beq_eq_false_iff_ne]; omega
      refine ev_if rfl (ev_if (by omega) (ev_if (by omega) (ev_val ?_)))
      rw [hd]; rfl
    · have hd : decide (v < 2025) = (v / 45 / 45 == 0) := by
        by_cases e : v < 2025
        · rw [decide_eq_true e, show v / 45 / 45 = 0 by omega]; rfl
        · rw [decide_eq_false e]; symm; rw [beq_eq_false_iff_ne]; omega
      refine ev_else (by decide) (ev_if (by omega) (ev_if (by omega) (ev_if (by omega) (ev_if (by omega) (ev_val ?_)))))
      rw [hd]; rfl
  · refine ev_if rfl (ev_val ?_)
    unfold unGrp
    rw [if_pos rfl]
theorem unGrp_len (m v : Int) (k : Nat) : (unGrp m v k).1.length ≤ 3 := by
  unfold unGrp
  split
  · simp
  · dsimp only
    split
    · simp
    · split <;> simp

/-- What the reading of a segment's data comes to, by the place in the bits. -/
def segAt (b : List Bool) (o : Option (List Int × List Bool)) : List Int × Int × Int := match o with
  | none => ([], 0, 9)
  | some x => (x.1, ((b.length - x.2.length : Nat) : Int), 0)
theorem gval_24 {b : List Bool} (h : b.length ≤ 24) : 0 ≤ gval b ∧ gval b ≤ 1000000000 := by
  have h1 := gval_bound b
  have h2 : (2 : Nat) ^ b.length ≤ 2 ^ 24 := Nat.pow_le_pow_right (by omega) h
  have h3 : ((2 ^ b.length : Nat) : Int) = (2 : Int) ^ b.length := by simp
  have h4 : (2 : Nat) ^ 24 = 16777216 := rfl
  omega
theorem refSeg_loop (b : List Bool) (hbl : b.length ≤ 1048576) (m : Int) (hm : m = 1 ∨ m = 2 ∨ m = 4) (n : Nat) (hn : n ≤ 1000000) : ∀ (f q at_ : Nat) (acc : List Int), acc.length + q = n → at_ ≤ b.length → dbOf m q ≤ ((b.length - at_ : Nat) : Int) → q < f →
    Ev (fun k => barscanref16_segment.l0 k b (at_ : Int) m (n : Int) (szOf m : Int) acc) (segAt b (rdD m f q (b.drop at_) acc)) := by
  intro f
  induction f with
  | zero => intro q at_ acc h1 h2 h3 h4; omega
  | succ f ih =>
    intro q at_ acc h1 h2 h3 h4
    unfold rdD
    by_cases e : q = 0
    · rw [if_pos e]
      refine Ev.step (fun k => by rw [barscanref16_segment.l0]) ?_
      refine ev_else (by omega) (ev_val ?_)
      unfold segAt
      simp only [List.length_drop]
      rw [show b.length - (b.length - at_) = at_ by omega]
    rw [if_neg e]
    have hs := szOf_range m
    have hsp := dbOf_split m q (by omega)
    generalize hk : min q (szOf m) = k at *
    have hr := dbOf_range m k (by omega)
    have hr2 := dbOf_range m ((q - k : Nat) : Int) (by omega)
    obtain ⟨w, hw⟩ : ∃ w : Nat, dbOf m k = w := ⟨(dbOf m k).toNat, by omega⟩
    have hmn : mn (szOf m : Int) (wrap64 ((n : Int) - (acc.length : Int))) = (k : Int) := by
      rw [show wrap64 ((n : Int) - (acc.length : Int)) = (q : Int) from w_is (by omega) (by omega) (by omega)]
      unfold mn
      split <;> omega
    refine Ev.step (fun k => by rw [barscanref16_segment.l0]) ?_
    rw [hmn]
    refine ev_if (by omega) (ev_is (refData_is m k (by omega) (by omega)) ?_)
    rw [hw]
    have ht : takeR b (at_ : Int) (w : Int) = (gval ((b.drop at_).take w), 0) := by
      unfold takeR
      rw [if_neg (by omega), if_neg (by omega), Int.toNat_natCast, Int.toNat_natCast]
    have htake := refTake_ev b (at_ : Int) (w : Int) hbl
    rw [ht] at htake
    refine Ev.bind htake ?_
    dsimp only
    rw [hw, Int.toNat_natCast]
    have hg := gval_24 (b := (b.drop at_).take w) (by rw [List.length_take]; omega)
    refine Ev.bind (refUngroup_ev m hm _ hg.1 hg.2 k (by omega) (by omega)) ?_
    refine ev_cond (fun e1 => ?_) (fun e1 => ?_)
    · rw [if_pos e1]
      have hul := unGrp_length m (gval ((b.drop at_).take w)) k (by omega) (by omega)
      rw [show wrap64 ((at_ : Int) + (w : Int)) = ((at_ + w : Nat) : Int) from w_is (by omega) (by omega) (by omega)]
      refine ev_if (by omega) ?_
      have := ih (q - k) (at_ + w) (acc ++ (unGrp m (gval ((b.drop at_).take w)) k).1) (by rw [List.length_append]; omega) (by omega) (by omega) (by omega)
      rw [List.drop_drop]
      exact this
    · rw [if_neg e1]
      exact Ev.now _
theorem refSegment_ev (b : List Bool) (hbl : b.length ≤ 1048576) (m : Int) (hm : m = 1 ∨ m = 2 ∨ m = 4) (n : Nat) (hn : n ≤ 1000000) (at_ : Nat) (ha : at_ ≤ b.length) :
    Ev (fun k => barscanref16_segment.f k b (at_ : Int) m (n : Int)) (if ((b.length - at_ : Nat) : Int) < dbOf m n then ([], 0, 10) else segAt b (rdD m (n + 1) n (b.drop at_) [])) := by
  unfold barscanref16_segment.f
  have hr := dbOf_range m n (by omega)
  refine ev_is (refData_is m n (by omega) (by omega)) ?_
  rw [show wrap64 ((b.length : Int) - (at_ : Int)) = ((b.length - at_ : Nat) : Int) from w_is (by omega) (by omega) (by omega)]
  refine ev_cond (fun e => ?_) (fun e => ?_)
  · rw [if_pos (by omega)]; exact Ev.now _
  rw [if_neg (by omega)]
  have key := refSeg_loop b hbl m hm n hn (n + 1) n at_ [] (by simp) ha (by omega) (by omega)
  have three : szOf 1 = 3 := rfl
  have two : szOf 2 = 2 := rfl
  have one : szOf 4 = 1 := rfl
  rcases hm with rfl | rfl | rfl
  · rw [three] at key
    refine ev_if rfl (Ev.step (fun k => by rw [barscanref16_segment.j0]) (ev_else (by decide) (Ev.step (fun k => by rw [barscanref16_segment.j1]; rfl) key)))
  · rw [two] at key
    refine ev_else (by decide) (Ev.step (fun k => by rw [barscanref16_segment.j0]) (ev_if rfl (Ev.step (fun k => by rw [barscanref16_segment.j1]; rfl) key)))
  · rw [one] at key
    refine ev_else (by decide) (Ev.step (fun k => by rw [barscanref16_segment.j0]) (ev_else (by decide) (Ev.step (fun k => by rw [barscanref16_segment.j1]; rfl) key)))

theorem gval_zero_iff (b : List Bool) : gval b = 0 ↔ b.any id = false := by
  induction b with
  | nil => simp [gval]
  | cons x b ih =>
    have h := gval_bound b
    have hp : (0 : Int) < 2 ^ b.length := Int.pow_pos (by decide)
    rw [gval_cons, List.any_cons]
    cases x
    · simp only [Bool.false_eq_true, if_false, Int.zero_add, id, Bool.false_or]
      exact ih
    · simp only [if_true, id, Bool.true_or]
      constructor
      · intro h; omega
      · intro h; simp at h
theorem rdD_tail (m : Int) : ∀ (f n : Nat) (l : List Bool) (acc : List Int) (x : List Int × List Bool), rdD m f n l acc = some x → ∃ j, x.2 = l.drop j
  | 0, n, l, acc, x, h => by simp [rdD] at h
  | f + 1, n, l, acc, x, h => by
    unfold rdD at h
    split at h
    · obtain rfl := Option.some.inj h; exact ⟨0, rfl⟩
    · dsimp only at h
      split at h
      · obtain ⟨j, hj⟩ := rdD_tail m f _ _ _ x h
        exact ⟨_, by rw [hj, List.drop_drop]⟩
      · cases h
theorem refDec_tail (b : List Bool) (hbl : b.length ≤ 1048576) (out : List S33) : ∀ (d at_ : Nat), at_ + d = b.length → Ev (fun k => barscanref16_Decode.l1 k b out (at_ : Int)) (if gval (b.drop at_) = 0 then (out, 0) else ([], 22)) := by
  intro d
  induction d with
  | zero =>
    intro at_ h
    rw [List.drop_of_length_le (by omega), if_pos (show gval [] = 0 from rfl)]
    refine Ev.step (fun k => by rw [barscanref16_Decode.l1]) ?_
    exact ev_else (by omega) (Ev.now _)
  | succ d ih =>
    intro at_ h
    have hlt : at_ < b.length := by omega
    have hrd : rdOf false b (at_ : Int) = b[at_] := by simp [rdOf, List.getElem?_eq_getElem hlt]
    refine Ev.step (fun k => by rw [barscanref16_Decode.l1]) ?_
    rw [hrd]
    refine ev_if (by omega) (ev_if (by omega) ?_)
    have hz := gval_zero_iff (b.drop at_)
    rw [List.drop_eq_getElem_cons hlt, List.any_cons] at hz
    rw [List.drop_eq_getElem_cons hlt]
    refine ev_cond (fun e => ?_) (fun e => ?_)
    · rw [if_neg (fun h => by have := hz.mp h; rw [e] at this; simp at this)]
      exact Ev.now _
    · have ih := ih (at_ + 1) (by omega)
      have hz2 := gval_zero_iff (b.drop (at_ + 1))
      have he : b[at_] = false := by simpa using e
      rw [show wrap64 ((at_ : Int) + 1) = ((at_ + 1 : Nat) : Int) from w_is (by omega) (by omega) (by omega)]
      have hc : (gval (b[at_] :: b.drop (at_ + 1)) = 0) ↔ (gval (b.drop (at_ + 1)) = 0) := by
        rw [hz, hz2, he]; simp
      by_cases h2 : gval (b.drop (at_ + 1)) = 0
      · rw [if_pos h2] at ih
        rw [if_pos (hc.mpr h2)]
        exact ih
      · rw [if_neg h2] at ih
        rw [if_neg (fun h => h2 (hc.mp h))]
        exact ih
theorem refDec_loop (b : List Bool) (hbl : b.length ≤ 1048576) (c : Int) (hc : 0 ≤ c ∧ c ≤ 2) : ∀ (f at_ : Nat) (out : List S33), at_ ≤ b.length → b.length - at_ < f → out.length ≤ 4096 → Ev (fun k => barscanref16_Decode.l0 k b c out (at_ : Int)) (decD c f (b.drop at_) out) := by
  intro f
  induction f with
  | zero => intro at_ out h1 h2; omega
  | succ f ih =>
    intro at_ out h1 h2 h3
    have hdl : (b.drop at_).length = b.length - at_ := List.length_drop
    refine Ev.step (fun k => by rw [barscanref16_Decode.l0]) ?_
    rw [show wrap64 ((b.length : Int) - (at_ : Int)) = ((b.length - at_ : Nat) : Int) from w_is (by omega) (by omega) (by omega)]
    unfold decD
    rw [hdl]
    refine ev_cond (fun e => ?_) (fun e => ?_)
    · rw [if_neg (by omega)]
      have ht : takeR b (at_ : Int) 4 = (gval ((b.drop at_).take 4), 0) := by
        unfold takeR
        rw [if_neg (by omega), if_neg (by omega), Int.toNat_natCast]
        rfl
      have htake := refTake_ev b (at_ : Int) 4 hbl
      rw [ht] at htake
      refine Ev.bind htake ?_
      have hg := gval_24 (b := (b.drop at_).take 4) (by rw [List.length_take]; omega)
      generalize hv : gval ((b.drop at_).take 4) = v at *
      refine ev_cond (fun e1 => ?_) (fun e1 => ?_)
      · rw [if_pos e1]; exact Ev.now _
      rw [if_neg e1]
      refine ev_is (known_is v) ?_
      have hk := cbOf_known v c
      by_cases e2 : v = 1 ∨ v = 2 ∨ v = 4
      · have hcb := cb_mode hc e2
        refine ev_if (decide_eq_true e2) ?_
        rw [if_neg (by omega)]
        refine ev_cond (fun e3 => ?_) (fun e3 => ?_)
        · rw [if_pos (by omega)]; exact Ev.now _
        rw [if_neg (by omega)]
        obtain ⟨q, hq⟩ : ∃ q : Nat, cbOf v c = q := ⟨(cbOf v c).toNat, by omega⟩
        have hcount := refCount_ev v c
        rw [if_neg (by omega), hq] at hcount
        refine Ev.bind hcount ?_
        rw [show wrap64 ((at_ : Int) + 4) = ((at_ + 4 : Nat) : Int) from w_is (by omega) (by omega) (by omega)]
        have htake2 := refTake_ev b ((at_ + 4 : Nat) : Int) (q : Int) hbl
        refine Ev.bind htake2 ?_
        unfold segD
        rw [List.drop_drop, hq, Int.toNat_natCast, List.drop_drop]
        have hd4 : (b.drop (at_ + 4)).length = b.length - (at_ + 4) := List.length_drop
        rw [hd4]
        by_cases e4 : ((b.length - (at_ + 4) : Nat) : Int) < (q : Int)
        · rw [if_pos e4]
          have ht2 : takeR b ((at_ + 4 : Nat) : Int) (q : Int) = (0, 10) := by
            unfold takeR
            rw [if_neg (by omega), if_pos (by omega)]
          rw [ht2]
          exact ev_else (by decide) (Ev.now _)
        rw [if_neg e4]
        have ht2 : takeR b ((at_ + 4 : Nat) : Int) (q : Int) = (gval ((b.drop (at_ + 4)).take q), 0) := by
          unfold takeR
          rw [if_neg (by omega), if_neg (by omega), Int.toNat_natCast, Int.toNat_natCast]
        rw [ht2]
        have hb2 := gval_bound ((b.drop (at_ + 4)).take q)
        have hl2 : ((b.drop (at_ + 4)).take q).length ≤ 16 := by rw [List.length_take]; omega
        have hp2 : (2 : Nat) ^ ((b.drop (at_ + 4)).take q).length ≤ 2 ^ 16 := Nat.pow_le_pow_right (by omega) hl2
        have hp3 : ((2 ^ ((b.drop (at_ + 4)).take q).length : Nat) : Int) = (2 : Int) ^ ((b.drop (at_ + 4)).take q).length := by simp
        have e16 : (2 : Nat) ^ 16 = 65536 := rfl
        obtain ⟨n, hn, hn2⟩ : ∃ n : Nat, gval ((b.drop (at_ + 4)).take q) = n ∧ n ≤ 65536 := ⟨(gval ((b.drop (at_ + 4)).take q)).toNat, by omega, by omega⟩
        clear hb2 hp2 hp3
        rw [hn, Int.toNat_natCast]
        refine ev_if rfl ?_
        rw [show wrap64 (((at_ + 4 : Nat) : Int) + (q : Int)) = ((at_ + 4 + q : Nat) : Int) from w_is (by omega) (by omega) (by omega)]
        refine Ev.bind (refSegment_ev b hbl v e2 n (by omega) (at_ + 4 + q) (by omega)) ?_
        have hd5 : (b.drop (at_ + 4 + q)).length = b.length - (at_ + 4 + q) := List.length_drop
        rw [hd5]
        by_cases e5 : ((b.length - (at_ + 4 + q) : Nat) : Int) < dbOf v n
        · rw [if_pos e5, if_pos e5]
          exact ev_else (by decide) (Ev.now _)
        rw [if_neg e5, if_neg e5]
        cases hx : rdD v (n + 1) n (b.drop (at_ + 4 + q)) [] with
        | none => exact ev_else (show ¬ ((9 : Int) = 0) by decide) (Ev.now _)
        | some x =>
          obtain ⟨j, hj⟩ := rdD_tail v _ _ _ _ _ hx
          have hxl : x.2.length = b.length - (at_ + 4 + q + j) := by rw [hj, List.drop_drop, List.length_drop]
          have hxd : x.2 = b.drop (b.length - x.2.length) := by
            rcases Nat.lt_or_ge (at_ + 4 + q + j) b.length with h | h
            · rw [hxl, show b.length - (b.length - (at_ + 4 + q + j)) = at_ + 4 + q + j by omega, hj, List.drop_drop]
            · rw [hxl, show b.length - (at_ + 4 + q + j) = 0 by omega, Nat.sub_zero, hj, List.drop_drop, List.drop_of_length_le h, List.drop_of_length_le (Nat.le_refl _)]
          refine ev_if rfl (ev_if (by omega) ?_)
          have := ih (b.length - x.2.length) (out ++ [⟨v, x.1⟩]) (by omega) (by omega) (by rw [List.length_append]; simp only [List.length_cons, List.length_nil]; omega)
          rw [← hxd] at this
          exact this
      · refine ev_else (by simp [e2]) ?_
        rw [if_pos (hk.mpr fun h => e2 h.1)]
        exact Ev.now _
    · rw [if_pos (by omega)]
      exact refDec_tail b hbl out (b.length - at_) at_ (by omega)
theorem refDecode_ev (b : List Bool) (hbl : b.length ≤ 1048576) (c : Int) : Ev (fun k => barscanref16_Decode.f k b c) (decR b c) := by
  unfold barscanref16_Decode.f decR
  have bad : c < 0 ∨ 2 < c → ∀ x, x = true → Ev (fun k => barscanref16_Decode.j0 k b c x) (if c < 0 ∨ 2 < c then ([], 1) else if 1048576 < b.length then ([], 4) else decD c (b.length + 1) b []) := by
    intro h x hx
    rw [if_pos h]
    refine Ev.step (fun k => by rw [barscanref16_Decode.j0]) ?_
    exact ev_if hx (Ev.now _)
  refine ev_cond (fun e => bad (.inl e) _ rfl) (fun e => ?_)
  by_cases e2 : 2 < c
  · exact bad (.inr e2) _ (by simpa using e2)
  rw [if_neg (by omega), if_neg (by omega)]
  refine Ev.step (fun k => by rw [barscanref16_Decode.j0]) ?_
  refine ev_else (by simpa using e2) (ev_else (by omega) ?_)
  exact refDec_loop b hbl c (by omega) (b.length + 1) 0 [] (by omega) (by omega) (by simp)
end Go.Proofs.Ytagmncdbiljacaa.X
