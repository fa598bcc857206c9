/- modes.Best comes to the plain function. No condition. -/
import Derived.Test.YtagmncdbiljacaaYMDp
namespace Go.Proofs.Ytagmncdbiljacaa.X
open Go.RowKit Go.Proofs.YtagmncdbiljacaaW.PrintWords Go.Proofs.YtagmncdbiljacaaW.PrintLast Go.Proofs.YtagmncdbiljacaaW.PrintMore
set_option linter.unusedVariables false
set_option linter.unusedSimpArgs false

theorem countBits_ev (m c : Int) : Ev (fun k => modes_countBits.f k m c) (cbOf m c) := ⟨1, fun k hk => by obtain ⟨j, rfl⟩ : ∃ j, k = j + 1 := ⟨k - 1, by omega⟩; exact countBits_is j m c⟩
theorem shl_cb (n : Nat) (h : n ≤ 16) : wrap64 ((shl .i64 1 (n : Int)) - 1) = 2 ^ n - 1 := by
  have : ∀ n : Fin 17, wrap64 ((shl .i64 1 ((n.val : Nat) : Int)) - 1) = 2 ^ n.val - 1 := by decide +kernel
  exact this ⟨n, by omega⟩
theorem w_is {a b : Int} (h : a = b) (h0 : -1000000000000 ≤ b) (h1 : b ≤ 1000000000000) : wrap64 a = b := by
  subst h
  exact wrap64_id _ (by omega) (by omega)
theorem rdT_mid (Z R : List S93) (b : S93) : rd_T93 (Z ++ b :: R) (Z.length : Int) = b := by
  simp [rd_T93, List.getD_eq_getElem?_getD]
theorem rdT_far (Z R : List S93) (b : S93) (k : Nat) (hk : 1 ≤ k) : rd_T93 (Z ++ b :: R) ((Z.length : Int) + k) = R.getD (k - 1) z93 := by
  obtain ⟨k, rfl⟩ : ∃ j, k = j + 1 := ⟨k - 1, by omega⟩
  have e : ((Z.length : Int) + ((k + 1 : Nat) : Int)).toNat = Z.length + (k + 1) := by omega
  unfold rd_T93
  rw [e, List.getD_eq_getElem?_getD, List.getElem?_append_right (by omega), show Z.length + (k + 1) - Z.length = k + 1 by omega, List.getElem?_cons_succ, List.getD_eq_getElem?_getD]
  rfl
theorem set_mid (Z R : List S93) (b c : S93) : (Z ++ b :: R).set ((Z.length : Int)).toNat c = Z ++ c :: R := by
  rw [show ((Z.length : Int)).toNat = Z.length by omega, List.set_append_right _ _ (by omega)]
  simp
section
variable {cls : Int} (hc : 0 ≤ cls ∧ cls ≤ 2) (p : List Int) (hp : p.length ≤ 4096) (Z R : List S93) (hR : ∀ i, 0 ≤ (R.getD i z93).f0 ∧ (R.getD i z93).f0 ≤ 1000000 ∧ 0 ≤ (R.getD i z93).f1 ∧ (R.getD i z93).f1 ≤ 1000000) (hZR : Z.length + 1 + R.length = p.length + 1)
include hc hp hR hZR
set_option maxHeartbeats 1000000 in
theorem inner_ev (m : Int) (hm : m = 1 ∨ m = 2 ∨ m = 4) (idx : Int) (r : List S33 × Int × Int) : ∀ (d k : Nat) (b : S93), 1 ≤ k → k + d = kmax cls m (p.drop Z.length) + 1 →
    Ev (fun f => modes_Best.l1 f p cls p.length (Z ++ goP cls m R d k b :: R) Z.length [1, 2, 4] 3 (wrap64 (idx + 1))) r →
    Ev (fun f => modes_Best.l2 f p cls p.length (Z ++ b :: R) Z.length m (mn ((p.length : Int) - Z.length) (2 ^ (cbOf m cls).toNat - 1)) k [1, 2, 4] 3 idx) r := by
  have hcb := cb_mode hc hm
  have hpw : ((2 : Int) ^ (cbOf m cls).toNat) = ((2 ^ (cbOf m cls).toNat : Nat) : Int) := by simp
  have hp1 := Nat.pow_le_pow_right (n := 2) (by omega) (show (cbOf m cls).toNat ≤ 16 by omega)
  have hp2 := Nat.pow_le_pow_right (n := 2) (by omega) (show 8 ≤ (cbOf m cls).toNat by omega)
  have hlen : (p.drop Z.length).length = p.length - Z.length := List.length_drop
  have hfl := fitRun_le m (p.drop Z.length)
  have hrd : ∀ j : Nat, rd p (((Z.length + j : Nat) : Int)) = (p.drop Z.length).getD j 0 := by
    intro j
    unfold rd
    rw [show (((Z.length + j : Nat) : Int)).toNat = Z.length + j by omega]
    simp [List.getD_eq_getElem?_getD, List.getElem?_drop]
  have hmn : mn ((p.length : Int) - Z.length) (2 ^ (cbOf m cls).toNat - 1) = ((min (p.length - Z.length) (2 ^ (cbOf m cls).toNat - 1) : Nat) : Int) := by
    rw [hpw]; unfold mn; split <;> omega
  rw [hmn]
  have hkm : kmax cls m (p.drop Z.length) = min (fitRun m (p.drop Z.length)) (2 ^ (cbOf m cls).toNat - 1) := rfl
  clear hmn hpw
  have hp3 : 2 ^ (cbOf m cls).toNat ≤ 65536 := hp1
  have hp4 : 256 ≤ 2 ^ (cbOf m cls).toNat := hp2
  clear hp1 hp2
  generalize 2 ^ (cbOf m cls).toNat = M at hkm hp3 hp4 ⊢
  obtain ⟨mo, hmo⟩ : ∃ mo, mo = min (p.length - Z.length) (M - 1) := ⟨_, rfl⟩
  obtain ⟨K, hKd⟩ : ∃ K, K = kmax cls m (p.drop Z.length) := ⟨_, rfl⟩
  rw [← hmo, ← hKd]
  rw [← hKd] at hkm
  have a1 : mo ≤ p.length - Z.length := by omega
  have a2 : K ≤ mo := by omega
  have a3 : K < mo → K = fitRun m (p.drop Z.length) := by omega
  have a4 : K ≤ fitRun m (p.drop Z.length) := by omega
  have a5 : fitRun m (p.drop Z.length) ≤ p.length - Z.length := by omega
  clear hkm hmo hp3 hp4 hm hKd hfl
  intro d
  induction d with
  | zero =>
    intro k b h1 hk h
    have hj : Ev (fun f => modes_Best.j4 f p cls p.length (Z ++ b :: R) Z.length m (mo : Int) k [1, 2, 4] 3 idx false) r := by
      refine Ev.step (fun k => by rw [modes_Best.j4]) ?_
      exact ev_else (by simp) h
    clear h
    refine Ev.step (fun k => by rw [modes_Best.l2]) ?_
    by_cases e : k ≤ mo
    · have e' : (k : Int) ≤ (mo : Int) := by omega
      refine ev_if e' ?_
      have b1 : (0 : Int) ≤ ((Z.length + (k - 1) : Nat) : Int) := by omega
      have b2 : ((Z.length + (k - 1) : Nat) : Int) < (p.length : Int) := by omega
      have b3 : k - 1 = fitRun m (p.drop Z.length) := by omega
      have b4 : fitRun m (p.drop Z.length) < (p.drop Z.length).length := by omega
      have z1 : -1000000000000 ≤ (Z.length : Int) + k := by omega
      have z2 : (Z.length : Int) + k ≤ 1000000000000 := by omega
      have z3 : (Z.length : Int) + k - 1 = ((Z.length + (k - 1) : Nat) : Int) := by omega
      have z4 : -1000000000000 ≤ ((Z.length + (k - 1) : Nat) : Int) := by omega
      have z5 : ((Z.length + (k - 1) : Nat) : Int) ≤ 1000000000000 := by omega
      have w1 : wrap64 (wrap64 ((Z.length : Int) + k) - 1) = ((Z.length + (k - 1) : Nat) : Int) := by
        rw [w_is rfl z1 z2]; exact w_is z3 z4 z5
      rw [w1]
      refine ev_if b1 (ev_if b2 ?_)
      rw [hrd, b3]
      refine ev_is ((fits_is _ _).trans (congrArg some (fitRun_at m _ b4))) hj
    · have e' : ¬ (k : Int) ≤ (mo : Int) := by omega
      exact ev_else e' hj
  | succ d ih =>
    intro k b h1 hk h
    have ihk := ih (k + 1) (stepP b (cand cls m R k)) (by omega) (by omega) h
    clear ih h
    refine Ev.step (fun k => by rw [modes_Best.l2]) ?_
    have e' : (k : Int) ≤ (mo : Int) := by omega
    refine ev_if e' ?_
    have b1 : (0 : Int) ≤ ((Z.length + (k - 1) : Nat) : Int) := by omega
    have b2 : ((Z.length + (k - 1) : Nat) : Int) < (p.length : Int) := by omega
    have b3 : k - 1 < fitRun m (p.drop Z.length) := by omega
    have hll : (Z ++ b :: R).length = p.length + 1 := by simp; omega
    have b4 : (0 : Int) ≤ (Z.length : Int) + k := by omega
    have b5 : (Z.length : Int) + k < (((Z ++ b :: R).length : Nat) : Int) := by rw [hll]; omega
    have b6 : (0 : Int) ≤ (Z.length : Int) := by omega
    have b7 : (Z.length : Int) < (((Z ++ b :: R).length : Nat) : Int) := by rw [hll]; omega
    have b8 : (0 : Int) ≤ (k : Int) := by omega
    have b9 : (k : Int) ≤ 5000 := by omega
    have b10 : (k : Int) ≤ 1000000000000000000 := by omega
    have z1 : -1000000000000 ≤ (Z.length : Int) + k := by omega
    have z2 : (Z.length : Int) + k ≤ 1000000000000 := by omega
    have z3 : (Z.length : Int) + k - 1 = ((Z.length + (k - 1) : Nat) : Int) := by omega
    have z4 : -1000000000000 ≤ ((Z.length + (k - 1) : Nat) : Int) := by omega
    have z5 : ((Z.length + (k - 1) : Nat) : Int) ≤ 1000000000000 := by omega
    have wk : wrap64 ((k : Int) + 1) = ((k + 1 : Nat) : Int) := w_is (by omega) (by omega) (by omega)
    have wc : (⟨wrap64 (wrap64 (wrap64 (4 + cbOf m cls) + dbOf m k) + (R.getD (k - 1) z93).f0), wrap64 (1 + (R.getD (k - 1) z93).f1), k, m⟩ : S93) = cand cls m R k := by
      have hRk := hR (k - 1)
      have hdb := dbOf_range m k b8
      clear ihk hR hZR hrd wk z1 z2 z3 z4 z5 b1 b2 b3 b4 b5 b6 b7
      have y1 : 4 + cbOf m cls ≤ 1000000000000 := by omega
      have y2 : 4 + cbOf m cls + dbOf m k ≤ 1000000000000 := by omega
      have y3 : 4 + cbOf m cls + dbOf m k + (R.getD (k - 1) z93).f0 ≤ 1000000000000 := by omega
      have y4 : 1 + (R.getD (k - 1) z93).f1 ≤ 1000000000000 := by omega
      have x1 : -1000000000000 ≤ 4 + cbOf m cls := by omega
      have x2 : -1000000000000 ≤ 4 + cbOf m cls + dbOf m k := by omega
      have x3 : -1000000000000 ≤ 4 + cbOf m cls + dbOf m k + (R.getD (k - 1) z93).f0 := by omega
      have x4 : -1000000000000 ≤ 1 + (R.getD (k - 1) z93).f1 := by omega
      unfold cand
      rw [w_is rfl x1 y1, w_is rfl x2 y2, w_is rfl x3 y3, w_is rfl x4 y4]
    have w0 : wrap64 ((Z.length : Int) + k) = (Z.length : Int) + k := w_is rfl z1 z2
    have w1 : wrap64 (wrap64 ((Z.length : Int) + k) - 1) = ((Z.length + (k - 1) : Nat) : Int) := by
      rw [w0]; exact w_is z3 z4 z5
    rw [w1]
    refine ev_if b1 (ev_if b2 ?_)
    rw [hrd]
    refine ev_is ((fits_is _ _).trans (congrArg some (fitRun_lt m _ (k - 1) b3))) ?_
    refine Ev.step (fun k => by rw [modes_Best.j4]) ?_
    refine ev_if rfl ?_
    rw [w0]
    refine ev_if b4 (ev_if b5 ?_)
    refine Ev.bind (countBits_ev m cls) ?_
    refine ev_is (dataBits_is m k b8 b10) ?_
    refine ev_if b6 (ev_if b7 ?_)
    rw [rdT_mid, rdT_far _ _ _ _ h1]
    rw [wc, wk]
    have hb := better_is (cand cls m R k) b
    rw [← wc] at hb
    refine ev_is hb ?_
    rw [wc]
    unfold stepP at ihk
    refine ev_cond (fun e => ?_) (fun e => ?_)
    · rw [if_pos e] at ihk
      rw [set_mid]
      exact ihk
    · rw [if_neg e] at ihk
      exact ihk
theorem modes_ev (idx : Nat) (m : Int) (hm : m = 1 ∨ m = 2 ∨ m = 4) (hi : ([1, 2, 4] : List Int)[idx]? = some m) (b : S93) (r : List S33 × Int × Int)
    (h : Ev (fun f => modes_Best.l1 f p cls p.length (Z ++ inP cls m (p.drop Z.length) R b :: R) Z.length [1, 2, 4] 3 ((idx + 1 : Nat) : Int)) r) :
    Ev (fun f => modes_Best.l1 f p cls p.length (Z ++ b :: R) Z.length [1, 2, 4] 3 (idx : Int)) r := by
  have hlt : idx < 3 := by
    have := (List.getElem?_eq_some_iff.mp hi).1
    simpa using this
  have hcb := cb_mode hc hm
  have hrdm : rd [1, 2, 4] (idx : Int) = m := by
    simp [rd, List.getD_eq_getElem?_getD, hi]
  refine Ev.step (fun k => by rw [modes_Best.l1]) ?_
  refine ev_if (by omega) (ev_if (by omega) (ev_if (by simp; omega) ?_))
  rw [hrdm]
  refine Ev.bind (countBits_ev m cls) ?_
  refine ev_if (by omega) ?_
  have w1 : wrap64 ((p.length : Int) - Z.length) = (p.length : Int) - Z.length := wrap64_id _ (by omega) (by omega)
  have w2 : wrap64 ((shl .i64 1 (cbOf m cls)) - 1) = 2 ^ (cbOf m cls).toNat - 1 := by
    have := shl_cb (cbOf m cls).toNat (by omega)
    rwa [show (((cbOf m cls).toNat : Nat) : Int) = cbOf m cls by omega] at this
  show Ev (fun k => modes_Best.l2 k p cls p.length (Z ++ b :: R) Z.length m (mn (wrap64 ((p.length : Int) - Z.length)) (wrap64 ((shl .i64 1 (cbOf m cls)) - 1))) 1 [1, 2, 4] 3 idx) r
  rw [w1, w2]
  refine inner_ev hc p hp Z R hR hZR m hm idx r (kmax cls m (p.drop Z.length)) 1 b (Nat.le_refl 1) (Nat.add_comm _ _) ?_
  clear w1 w2
  rw [show wrap64 ((idx : Int) + 1) = ((idx + 1 : Nat) : Int) from w_is (by omega) (by omega) (by omega)]
  exact h
end
theorem table_ev {cls : Int} (hc : 0 ≤ cls ∧ cls ≤ 2) (p : List Int) (hp : p.length ≤ 4096) (r : List S33 × Int × Int)
    (h : Ev (fun f => modes_Best.l3 f p.length (tab cls p) p [] 0) r) :
    ∀ j : Nat, j ≤ p.length → Ev (fun f => modes_Best.l0 f p cls p.length (List.replicate j z93 ++ tab cls (p.drop j)) ((j : Int) - 1)) r := by
  intro j
  induction j with
  | zero =>
    intro _
    refine Ev.step (fun k => by rw [modes_Best.l0]) ?_
    refine ev_else (by omega) ?_
    refine ev_is (a := p) (by unfold slices_Clone_byte_byte.f; rw [if_pos (by omega)]) ?_
    simpa using h
  | succ j ih =>
    intro hj
    have ih := ih (by omega)
    have hl := tab_length cls (p.drop (j + 1))
    rw [List.length_drop] at hl
    have hlen : (List.replicate (j + 1) z93 ++ tab cls (p.drop (j + 1))).length = p.length + 1 := by
      rw [List.length_append, List.length_replicate, hl]; omega
    refine Ev.step (fun k => by rw [modes_Best.l0]) ?_
    rw [show (((j + 1 : Nat) : Int) - 1) = (j : Int) by omega]
    refine ev_if (by omega) (ev_if (by omega) (ev_if (by rw [hlen]; omega) ?_))
    refine ev_some ?_
    have e1 : (List.replicate (j + 1) z93 ++ tab cls (p.drop (j + 1))).set ((j : Int)).toNat ⟨1099511627776, 0, 0, 0⟩ = List.replicate j z93 ++ farP :: tab cls (p.drop (j + 1)) := by
      have := set_mid (List.replicate j z93) (tab cls (p.drop (j + 1))) z93 farP
      rw [List.length_replicate] at this
      rw [List.replicate_succ', List.append_assoc]
      exact this
    rw [e1]
    have hd : p.drop j = p[j]'(by omega) :: p.drop (j + 1) := by rw [List.getElem_cons_drop]
    have hr := tab_range hc (p.drop (j + 1)) (by rw [List.length_drop]; omega)
    rw [List.length_drop] at hr
    have hR : ∀ i, 0 ≤ ((tab cls (p.drop (j + 1))).getD i z93).f0 ∧ ((tab cls (p.drop (j + 1))).getD i z93).f0 ≤ 1000000 ∧ 0 ≤ ((tab cls (p.drop (j + 1))).getD i z93).f1 ∧ ((tab cls (p.drop (j + 1))).getD i z93).f1 ≤ 1000000 := fun i => by have := hr i; omega
    have hZR : (List.replicate j z93).length + 1 + (tab cls (p.drop (j + 1))).length = p.length + 1 := by rw [List.length_replicate, hl]; omega
    have M := fun idx m hm hi b => modes_ev hc p hp (List.replicate j z93) (tab cls (p.drop (j + 1))) hR hZR idx m hm hi b r
    rw [List.length_replicate] at M
    refine M 0 1 (.inl rfl) rfl farP ?_
    refine M 1 2 (.inr (.inl rfl)) rfl _ ?_
    refine M 2 4 (.inr (.inr rfl)) rfl _ ?_
    refine Ev.step (fun k => by rw [modes_Best.l1]) ?_
    refine ev_else (by decide) ?_
    rw [show wrap64 ((j : Int) - 1) = (j : Int) - 1 from wrap64_id _ (by omega) (by omega)]
    have e2 : inP cls 4 (p.drop j) (tab cls (p.drop (j + 1))) (inP cls 2 (p.drop j) (tab cls (p.drop (j + 1))) (inP cls 1 (p.drop j) (tab cls (p.drop (j + 1))) farP)) :: tab cls (p.drop (j + 1)) = tab cls (p.drop j) := by
      rw [hd]; rfl
    rw [e2]
    exact ih
theorem best_props {cls : Int} (hc : 0 ≤ cls ∧ cls ≤ 2) (s : List Int) (h0 : 0 < s.length) (hs : s.length ≤ 4096) :
    (∃ m k, (m = 1 ∨ m = 2 ∨ m = 4) ∧ 1 ≤ k ∧ k ≤ kmax cls m s ∧ k ≤ s.length ∧ best cls s = ⟨4 + cbOf m cls + dbOf m k + (best cls (s.drop k)).f0, 1 + (best cls (s.drop k)).f1, k, m⟩)
    ∧ ∀ m k, (m = 1 ∨ m = 2 ∨ m = 4) → 1 ≤ k → k ≤ kmax cls m s → bet ⟨4 + cbOf m cls + dbOf m k + (best cls (s.drop k)).f0, 1 + (best cls (s.drop k)).f1, k, m⟩ (best cls s) = false := by
  cases s with
  | nil => simp at h0
  | cons x s =>
    have hr := tab_range hc s (by simp at hs; omega)
    simp only [List.length_cons] at hs
    have hb : best cls (x :: s) = pick cls (x :: s) (tab cls s) := rfl
    have hcd : ∀ m k, 1 ≤ k → k ≤ kmax cls m (x :: s) → cand cls m (tab cls s) k = ⟨4 + cbOf m cls + dbOf m k + (best cls ((x :: s).drop k)).f0, 1 + (best cls ((x :: s).drop k)).f1, k, m⟩ := by
      intro m k k1 k2
      have hk := kmax_le cls m (x :: s)
      simp only [List.length_cons] at hk
      obtain ⟨k, rfl⟩ : ∃ j, k = j + 1 := ⟨k - 1, by omega⟩
      unfold cand
      rw [show k + 1 - 1 = k by omega, tab_at cls s k (by omega), List.drop_succ_cons]
    obtain ⟨⟨m, k, hm, k1, k2, he⟩, hall⟩ := pick_props hc x s (by omega) (tab cls s) (fun i => by have := hr i; omega)
    rw [hb]
    refine ⟨⟨m, k, hm, k1, k2, Nat.le_trans k2 (kmax_le cls m (x :: s)), ?_⟩, fun m k hm k1 k2 => ?_⟩
    · rw [he, hcd m k k1 k2]
    · rw [← hcd m k k1 k2]; exact hall m k hm k1 k2
theorem cut_ev {cls : Int} (hc : 0 ≤ cls ∧ cls ≤ 2) (p : List Int) (hp : p.length ≤ 4096) : ∀ (f at_ : Nat) (out : List S33), at_ ≤ p.length → p.length - at_ ≤ f → out.length + f ≤ 10000 →
    Ev (fun k => modes_Best.l3 k p.length (tab cls p) p out at_) (out ++ cutD cls f (p.drop at_), (best cls p).f0, 0) := by
  intro f
  have hend : ∀ (at_ : Nat) (out : List S33), at_ = p.length → Ev (fun k => modes_Best.l3 k p.length (tab cls p) p out at_) (out, (best cls p).f0, 0) := by
    intro at_ out e
    refine Ev.step (fun k => by rw [modes_Best.l3]) ?_
    refine ev_else (by omega) (ev_if (by rw [tab_length]; omega) ?_)
    exact Ev.now _
  induction f with
  | zero =>
    intro at_ out h1 h2 h3
    have := hend at_ out (by omega)
    simpa [cutD] using this
  | succ f ih =>
    intro at_ out h1 h2 h3
    by_cases e : at_ = p.length
    · have := hend at_ out e
      have hz : (p.drop at_).length = 0 := by rw [List.length_drop]; omega
      simp only [cutD, hz, if_true, List.append_nil]
      exact this
    · have hl : (p.drop at_).length = p.length - at_ := List.length_drop
      obtain ⟨⟨m, k, hm, k1, k2, k3, hb⟩, _⟩ := best_props hc (p.drop at_) (by omega) (by omega)
      have hrd : rd_T93 (tab cls p) (at_ : Int) = best cls (p.drop at_) := by
        unfold rd_T93
        rw [show ((at_ : Int)).toNat = at_ by omega, tab_at cls p at_ h1]
      have h2f : (best cls (p.drop at_)).f2 = (k : Int) := by rw [hb]
      refine Ev.step (fun k => by rw [modes_Best.l3]) ?_
      refine ev_if (by omega) (ev_if (by omega) (ev_if (by rw [tab_length]; omega) ?_))
      rw [hrd, h2f]
      rw [show wrap64 ((at_ : Int) + k) = ((at_ + k : Nat) : Int) from w_is (by omega) (by omega) (by omega)]
      refine ev_if (by omega) (ev_if (by omega) (ev_if (by omega) ?_))
      have ih' := ih (at_ + k) (out ++ [⟨(best cls (p.drop at_)).f3, (p.drop at_).take k⟩]) (by omega) (by omega) (by simp; omega)
      have hz : ¬ (p.drop at_).length = 0 := by omega
      simp only [cutD, if_neg hz, h2f]
      rw [show ((k : Int)).toNat = k by omega, List.drop_drop]
      rw [List.append_assoc] at ih'
      have et : (p.take (((at_ + k : Nat) : Int)).toNat).drop ((at_ : Int)).toNat = (p.drop at_).take k := by
        rw [show (((at_ + k : Nat) : Int)).toNat = at_ + k by omega, show ((at_ : Int)).toNat = at_ by omega, List.drop_take]
        congr 1; omega
      rw [et]
      exact ih'
theorem best_ev (p : List Int) (cls : Int) : Ev (fun k => modes_Best.f k p cls) (bestR p cls) := by
  unfold modes_Best.f bestR
  have bad : cls < 0 ∨ 2 < cls → ∀ b, b = true → Ev (fun k => modes_Best.j0 k p cls b) (if cls < 0 ∨ 2 < cls then ([], 0, 1) else if 4096 < p.length then ([], 0, 4) else (cutD cls p.length p, (best cls p).f0, 0)) := by
    intro h b hb
    rw [if_pos h]
    refine Ev.step (fun k => by rw [modes_Best.j0]) ?_
    exact ev_if hb (Ev.now _)
  refine ev_cond (fun e => bad (.inl e) _ rfl) (fun e => ?_)
  by_cases e2 : 2 < cls
  · exact bad (.inr e2) _ (by simpa using e2)
  · rw [if_neg (by omega)]
    refine Ev.step (fun k => by rw [modes_Best.j0]) ?_
    refine ev_else (by simpa using e2) ?_
    refine ev_cond (fun e3 => ?_) (fun e3 => ?_)
    · rw [if_pos (by omega)]; exact Ev.now _
    · rw [if_neg (by omega)]
      rw [show wrap64 ((p.length : Int) + 1) = ((p.length + 1 : Nat) : Int) from w_is (by omega) (by omega) (by omega), show wrap64 ((p.length : Int) - 1) = (p.length : Int) - 1 from wrap64_id _ (by omega) (by omega)]
      refine ev_if (by omega) (ev_if (by omega) ?_)
      have hc : 0 ≤ cls ∧ cls ≤ 2 := by omega
      have h3 := cut_ev hc p (by omega) p.length 0 [] (by omega) (by omega) (by simp; omega)
      have h0 := table_ev hc p (by omega) _ h3 p.length (Nat.le_refl _)
      rw [show (((p.length + 1 : Nat) : Int)).toNat = p.length + 1 by omega, List.replicate_succ']
      simpa [tab] using h0
end Go.Proofs.Ytagmncdbiljacaa.X
