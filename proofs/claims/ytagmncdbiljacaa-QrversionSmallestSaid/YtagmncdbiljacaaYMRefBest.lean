/- The reference's Best comes to what the program's comes to. No condition. -/
import Derived.Test.YtagmncdbiljacaaYMOpt
import Derived.Test.YtagmncdbiljacaaXx13
namespace Go.Proofs.Ytagmncdbiljacaa.X
open Go.RowKit Go.Proofs.YtagmncdbiljacaaW.PrintWords Go.Proofs.YtagmncdbiljacaaW.PrintLast Go.Proofs.YtagmncdbiljacaaW.PrintMore
set_option linter.unusedVariables false
set_option linter.unusedSimpArgs false

/-- A plan as a choice. -/
def chc (p : S93) : S99 := ⟨p.f0, p.f1, p.f2, p.f3⟩
/-- The best choice so far; no choice has the length 0, where the plans begin with one that is far. -/
def relP (q : Int × Int × Int × Int) (b : S93) : Prop := (q.2.2.1 = 0 ∧ b = farP) ∨ (q.2.2.1 ≠ 0 ∧ b = ⟨q.1, q.2.1, q.2.2.1, q.2.2.2⟩)
theorem rbetter_is (a0 a1 a2 a3 b0 b1 b2 b3 : Int) : barscanref16_better.f a0 a1 a2 a3 b0 b1 b2 b3 = some (bet ⟨a0, a1, a2, a3⟩ ⟨b0, b1, b2, b3⟩) := by
  unfold barscanref16_better.f bet
  repeat' split
  all_goals rfl
theorem relP_step {cls m : Int} {R : List S93} {k : Nat} (k1 : 1 ≤ k) (hk : k ≤ 5000) (hR : (R.getD (k - 1) z93).f0 ≤ 1000000) {q : Int × Int × Int × Int} {b : S93} (h : relP q b) :
    (q.2.2.1 = 0 → stepP b (cand cls m R k) = cand cls m R k) ∧ (q.2.2.1 ≠ 0 → b = ⟨q.1, q.2.1, q.2.2.1, q.2.2.2⟩) ∧ relP ((cand cls m R k).f0, (cand cls m R k).f1, (cand cls m R k).f2, (cand cls m R k).f3) (cand cls m R k) := by
  refine ⟨fun e => ?_, fun e => ?_, .inr ⟨?_, rfl⟩⟩
  · rcases h with ⟨_, rfl⟩ | ⟨h, _⟩
    · unfold stepP
      rw [if_pos (cand_far cls m R k hk hR)]
    · exact absurd e h
  · rcases h with ⟨h, _⟩ | ⟨_, h⟩
    · exact absurd h e
    · exact h
  · show ((k : Nat) : Int) ≠ 0
    omega
theorem rdC_far (j : Nat) (R : List S93) (k : Nat) (hk : 1 ≤ k) : rd_T99 (List.replicate j z99 ++ z99 :: R.map chc) ((j : Int) + k) = chc (R.getD (k - 1) z93) := by
  obtain ⟨k, rfl⟩ : ∃ j, k = j + 1 := ⟨k - 1, by omega⟩
  unfold rd_T99
  rw [show ((j : Int) + ((k + 1 : Nat) : Int)).toNat = j + (k + 1) by omega, List.getD_eq_getElem?_getD, List.getElem?_append_right (by rw [List.length_replicate]; omega), List.length_replicate, show j + (k + 1) - j = k + 1 by omega, List.getElem?_cons_succ, List.getElem?_map, List.getD_eq_getElem?_getD]
  cases hx : R[k]? with
  | none => simp [hx]; rfl
  | some x => simp [hx]
section
variable {cls : Int} (hc : 0 ≤ cls ∧ cls ≤ 2) (p : List Int) (hp : p.length ≤ 4096) (hb : ∀ x ∈ p, 0 ≤ x ∧ x < 256) (j : Nat) (R : List S93) (hR : ∀ i, 0 ≤ (R.getD i z93).f0 ∧ (R.getD i z93).f0 ≤ 1000000 ∧ 0 ≤ (R.getD i z93).f1 ∧ (R.getD i z93).f1 ≤ 1000000) (hZR : j + 1 + R.length = p.length + 1)
include hc hp hR hZR hb
set_option maxHeartbeats 1000000 in
theorem rinner_ev (m : Int) (hm : m = 1 ∨ m = 2 ∨ m = 4) (idx : Int) (r : Int × Int × Int × Int) : ∀ (d k : Nat) (q : Int × Int × Int × Int) (b : S93), relP q b → 1 ≤ k → k + d = kmax cls m (p.drop j) + 1 →
    (∀ q', relP q' (goP cls m R d k b) → Ev (fun f => barscanref16_first.l0 f p (j : Int) cls (List.replicate j z99 ++ z99 :: R.map chc) [1, 2, 4] (wrap64 (idx + 1)) q'.1 q'.2.1 q'.2.2.1 q'.2.2.2) r) →
    Ev (fun f => barscanref16_first.l1 f p (j : Int) cls (List.replicate j z99 ++ z99 :: R.map chc) [1, 2, 4] idx m (k : Int) q.1 q.2.1 q.2.2.1 q.2.2.2) r := by
  have hcb := cb_mode hc hm
  have hpw : ((2 : Int) ^ (cbOf m cls).toNat) = ((2 ^ (cbOf m cls).toNat : Nat) : Int) := by simp
  have hp1 := Nat.pow_le_pow_right (n := 2) (by omega) (show (cbOf m cls).toNat ≤ 16 by omega)
  have hp2 := Nat.pow_le_pow_right (n := 2) (by omega) (show 8 ≤ (cbOf m cls).toNat by omega)
  have hlen : (p.drop j).length = p.length - j := List.length_drop
  have hfl := fitRun_le m (p.drop j)
  have hrd : ∀ i : Nat, rd p (((j + i : Nat) : Int)) = (p.drop j).getD i 0 := by
    intro i
    unfold rd
    rw [show (((j + i : Nat) : Int)).toNat = j + i by omega]
    simp [List.getD_eq_getElem?_getD, List.getElem?_drop]
  have hbd : ∀ i : Nat, i < (p.drop j).length → 0 ≤ (p.drop j).getD i 0 ∧ (p.drop j).getD i 0 < 256 := by
    intro i hi
    have : (p.drop j).getD i 0 = (p.drop j)[i] := by simp [List.getD_eq_getElem?_getD, List.getElem?_eq_getElem hi]
    rw [this]
    exact hb _ (List.mem_of_mem_drop (List.getElem_mem hi))
  have hmost := refMost_ev m cls (show cbOf m cls ≠ 0 by omega)
  rw [hpw] at hmost
  have hkm : kmax cls m (p.drop j) = min (fitRun m (p.drop j)) (2 ^ (cbOf m cls).toNat - 1) := rfl
  clear hpw
  have hp3 : 2 ^ (cbOf m cls).toNat ≤ 65536 := hp1
  have hp4 : 256 ≤ 2 ^ (cbOf m cls).toNat := hp2
  clear hp1 hp2
  generalize 2 ^ (cbOf m cls).toNat = M at hkm hp3 hp4 hmost
  have hmost : Ev (fun k => barscanref16_most.f k m cls) (((M - 1 : Nat) : Int)) := by
    rw [show (((M - 1 : Nat) : Int)) = (M : Int) - 1 by omega]; exact hmost
  obtain ⟨K, hKd⟩ : ∃ K, K = kmax cls m (p.drop j) := ⟨_, rfl⟩
  rw [← hKd]
  rw [← hKd] at hkm
  have a2 : K ≤ M - 1 := by omega
  have a3 : K < M - 1 → K = fitRun m (p.drop j) := by omega
  have a4 : K ≤ fitRun m (p.drop j) := by omega
  have a5 : fitRun m (p.drop j) ≤ p.length - j := by omega
  clear hkm hp3 hp4 hKd hfl
  intro d
  induction d with
  | zero =>
    intro k q b hq h1 hk h
    have h := h q hq
    have hj : Ev (fun f => barscanref16_first.j2 f p (j : Int) cls (List.replicate j z99 ++ z99 :: R.map chc) [1, 2, 4] idx m (k : Int) false q.1 q.2.1 q.2.2.1 q.2.2.2) r := by
      refine Ev.step (fun k => by rw [barscanref16_first.j2]) ?_
      exact ev_else (by simp) h
    clear h
    have z1 : -1000000000000 ≤ (j : Int) + k := by omega
    have z2 : (j : Int) + k ≤ 1000000000000 := by omega
    refine Ev.step (fun k => by rw [barscanref16_first.l1]) ?_
    by_cases e : (j : Int) + k ≤ (p.length : Int)
    · have z3 : (j : Int) + k - 1 = ((j + (k - 1) : Nat) : Int) := by omega
      have z4 : -1000000000000 ≤ ((j + (k - 1) : Nat) : Int) := by omega
      have z5 : ((j + (k - 1) : Nat) : Int) ≤ 1000000000000 := by omega
      have b1 : (0 : Int) ≤ ((j + (k - 1) : Nat) : Int) := by omega
      have b2 : ((j + (k - 1) : Nat) : Int) < (p.length : Int) := by omega
      by_cases e2 : (k : Int) ≤ ((M - 1 : Nat) : Int)
      · have b3 : k - 1 = fitRun m (p.drop j) := by omega
        have b4 : fitRun m (p.drop j) < (p.drop j).length := by omega
        have hf := refFits_ev m ((p.drop j).getD (fitRun m (p.drop j)) 0) (hbd _ b4).1 (hbd _ b4).2
        rw [fitRun_at m _ b4] at hf
        have w0 : wrap64 ((j : Int) + k) = (j : Int) + k := w_is rfl z1 z2
        have w1 : wrap64 ((j : Int) + k - 1) = ((j + (k - 1) : Nat) : Int) := w_is z3 z4 z5
        rw [w0, w1, hrd, b3]
        rw [← b3]
        rw [← b3] at hf
        refine ev_if e (Ev.bind hmost (ev_if e2 (ev_if b1 (ev_if b2 (Ev.bind hf hj)))))
      · have w0 : wrap64 ((j : Int) + k) = (j : Int) + k := w_is rfl z1 z2
        rw [w0]
        exact ev_if e (Ev.bind hmost (ev_else e2 hj))
    · have w0 : wrap64 ((j : Int) + k) = (j : Int) + k := w_is rfl z1 z2
      rw [w0]
      exact ev_else e hj
  | succ d ih =>
    intro k q b hq h1 hk h
    have b8 : (0 : Int) ≤ (k : Int) := by omega
    have b9 : k ≤ 5000 := by omega
    have b10 : (k : Int) ≤ 1000000000 := by omega
    have hRk := hR (k - 1)
    have hst := relP_step (cls := cls) (m := m) (R := R) h1 b9 hRk.2.1 hq
    have ihk := fun q' hq' => ih (k + 1) q' (stepP b (cand cls m R k)) hq' (by omega) (by omega) h
    clear ih h
    have z1 : -1000000000000 ≤ (j : Int) + k := by omega
    have z2 : (j : Int) + k ≤ 1000000000000 := by omega
    have z3 : (j : Int) + k - 1 = ((j + (k - 1) : Nat) : Int) := by omega
    have z4 : -1000000000000 ≤ ((j + (k - 1) : Nat) : Int) := by omega
    have z5 : ((j + (k - 1) : Nat) : Int) ≤ 1000000000000 := by omega
    have e : (j : Int) + k ≤ (p.length : Int) := by omega
    have e2 : (k : Int) ≤ ((M - 1 : Nat) : Int) := by omega
    have b1 : (0 : Int) ≤ ((j + (k - 1) : Nat) : Int) := by omega
    have b2 : ((j + (k - 1) : Nat) : Int) < (p.length : Int) := by omega
    have b3 : k - 1 < fitRun m (p.drop j) := by omega
    have b4 : k - 1 < (p.drop j).length := by omega
    have b5 : (0 : Int) ≤ (j : Int) + k := by omega
    have hll : (List.replicate j z99 ++ z99 :: R.map chc).length = p.length + 1 := by simp; omega
    have b6 : (j : Int) + k < (((List.replicate j z99 ++ z99 :: R.map chc).length : Nat) : Int) := by rw [hll]; omega
    have hf := refFits_ev m ((p.drop j).getD (k - 1) 0) (hbd _ b4).1 (hbd _ b4).2
    rw [fitRun_lt m _ (k - 1) b3] at hf
    have hsz := refSize_ev m cls (k : Int) (by omega) b8 b10
    have wk : wrap64 ((k : Int) + 1) = ((k + 1 : Nat) : Int) := w_is (by omega) (by omega) (by omega)
    have w0 : wrap64 ((j : Int) + k) = (j : Int) + k := w_is rfl z1 z2
    have w1 : wrap64 ((j : Int) + k - 1) = ((j + (k - 1) : Nat) : Int) := w_is z3 z4 z5
    have c0 : wrap64 (4 + cbOf m cls + dbOf m (k : Int) + (chc (R.getD (k - 1) z93)).f0) = (cand cls m R k).f0 := by
      have hdb := dbOf_range m (k : Int) b8
      clear ihk hR hZR hrd wk w0 w1 z1 z2 z3 z4 z5 b1 b2 b3 b4 b5 b6 hst hq hbd hf hsz hmost hll a2 a3 a4 a5 hb
      refine w_is rfl ?_ ?_
      · show _ ≤ 4 + cbOf m cls + dbOf m (k : Int) + (R.getD (k - 1) z93).f0
        omega
      · show 4 + cbOf m cls + dbOf m (k : Int) + (R.getD (k - 1) z93).f0 ≤ _
        omega
    have c1 : wrap64 (1 + (chc (R.getD (k - 1) z93)).f1) = (cand cls m R k).f1 := by
      clear ihk hR hZR hrd wk w0 w1 z1 z2 z3 z4 z5 b1 b2 b3 b4 b5 b6 hst hq hbd hf hsz hmost hll a2 a3 a4 a5 hb c0
      refine w_is rfl ?_ ?_
      · show _ ≤ 1 + (R.getD (k - 1) z93).f1
        omega
      · show 1 + (R.getD (k - 1) z93).f1 ≤ _
        omega
    refine Ev.step (fun k => by rw [barscanref16_first.l1]) ?_
    rw [w0, w1, hrd]
    refine ev_if e (Ev.bind hmost (ev_if e2 (ev_if b1 (ev_if b2 (Ev.bind hf ?_)))))
    refine Ev.step (fun k => by rw [barscanref16_first.j2]) ?_
    rw [w0]
    refine ev_if rfl (Ev.bind hsz (ev_if b5 (ev_if b6 ?_)))
    rw [rdC_far j R k h1, c0, c1, wk]
    refine ev_cond (fun e3 => ?_) (fun e3 => ?_)
    · have := ihk ((cand cls m R k).f0, (cand cls m R k).f1, (cand cls m R k).f2, (cand cls m R k).f3) (by rw [hst.1 e3]; exact hst.2.2)
      exact this
    · refine ev_is (rbetter_is _ _ _ _ _ _ _ _) ?_
      have hbq := hst.2.1 e3
      have hcd : (⟨(cand cls m R k).f0, (cand cls m R k).f1, (k : Int), m⟩ : S93) = cand cls m R k := rfl
      rw [hcd, ← hbq]
      refine ev_cond (fun e4 => ?_) (fun e4 => ?_)
      · have := ihk ((cand cls m R k).f0, (cand cls m R k).f1, (cand cls m R k).f2, (cand cls m R k).f3) (by unfold stepP; rw [if_pos e4]; exact hst.2.2)
        exact this
      · have := ihk q (by unfold stepP; rw [if_neg e4]; exact hq)
        exact this
theorem rmodes_ev (idx : Nat) (m : Int) (hm : m = 1 ∨ m = 2 ∨ m = 4) (hi : ([1, 2, 4] : List Int)[idx]? = some m) (q : Int × Int × Int × Int) (b : S93) (hq : relP q b) (r : Int × Int × Int × Int)
    (h : ∀ q', relP q' (inP cls m (p.drop j) R b) → Ev (fun f => barscanref16_first.l0 f p (j : Int) cls (List.replicate j z99 ++ z99 :: R.map chc) [1, 2, 4] ((idx + 1 : Nat) : Int) q'.1 q'.2.1 q'.2.2.1 q'.2.2.2) r) :
    Ev (fun f => barscanref16_first.l0 f p (j : Int) cls (List.replicate j z99 ++ z99 :: R.map chc) [1, 2, 4] (idx : Int) q.1 q.2.1 q.2.2.1 q.2.2.2) r := by
  have hlt : idx < 3 := by
    have := (List.getElem?_eq_some_iff.mp hi).1
    simpa using this
  have hrdm : rd [1, 2, 4] (idx : Int) = m := by
    simp [rd, List.getD_eq_getElem?_getD, hi]
  refine Ev.step (fun k => by rw [barscanref16_first.l0]) ?_
  rw [hrdm]
  refine ev_if (by simp; omega) (ev_if (by omega) ?_)
  refine rinner_ev hc p hp hb j R hR hZR m hm idx r (kmax cls m (p.drop j)) 1 q b hq (Nat.le_refl 1) (Nat.add_comm _ _) (fun q' hq' => ?_)
  rw [show wrap64 ((idx : Int) + 1) = ((idx + 1 : Nat) : Int) from w_is (by omega) (by omega) (by omega)]
  exact h q' hq'
theorem first_ev (x : Int) (s : List Int) (hd : p.drop j = x :: s) : Ev (fun f => barscanref16_first.f f p (j : Int) cls (List.replicate j z99 ++ z99 :: R.map chc)) ((pick cls (x :: s) R).f0, (pick cls (x :: s) R).f1, (pick cls (x :: s) R).f2, (pick cls (x :: s) R).f3) := by
  unfold barscanref16_first.f
  have M := fun idx m hm hi q b hq => rmodes_ev hc p hp hb j R hR hZR idx m hm hi q b hq ((pick cls (x :: s) R).f0, (pick cls (x :: s) R).f1, (pick cls (x :: s) R).f2, (pick cls (x :: s) R).f3)
  refine M 0 1 (.inl rfl) rfl (0, 0, 0, 0) farP (.inl ⟨rfl, rfl⟩) (fun q1 h1 => ?_)
  refine M 1 2 (.inr (.inl rfl)) rfl q1 _ h1 (fun q2 h2 => ?_)
  refine M 2 4 (.inr (.inr rfl)) rfl q2 _ h2 (fun q3 h3 => ?_)
  refine Ev.step (fun k => by rw [barscanref16_first.l0]) ?_
  refine ev_else (by decide) (ev_val ?_)
  have hpk : inP cls 4 (p.drop j) R (inP cls 2 (p.drop j) R (inP cls 1 (p.drop j) R farP)) = pick cls (x :: s) R := by rw [hd]; rfl
  rw [hpk] at h3
  have hl : (p.drop j).length = p.length - j := List.length_drop
  have hl2 : p.length - j = s.length + 1 := by rw [← hl, hd]; rfl
  obtain ⟨⟨m, k, hm, k1, k2, he⟩, _⟩ := pick_props hc x s (by omega) R (fun i => (hR i).2.1)
  rcases h3 with ⟨_, h3⟩ | ⟨_, h3⟩
  · exfalso
    rw [he] at h3
    have h4 : (cand cls m R k).f2 = farP.f2 := by rw [h3]
    have h5 : ((k : Nat) : Int) = 0 := h4
    omega
  · rw [h3]
end
theorem rcut_ev {cls : Int} (hc : 0 ≤ cls ∧ cls ≤ 2) (p : List Int) (hp : p.length ≤ 4096) : ∀ (f at_ : Nat) (out : List S33), at_ ≤ p.length → p.length - at_ ≤ f → out.length + f ≤ 10000 →
    Ev (fun k => barscanref16_Best.l2 k p ((tab cls p).map chc) out (at_ : Int)) (out ++ cutD cls f (p.drop at_), (best cls p).f0, 0) := by
  intro f
  have hrd : ∀ at_ : Nat, at_ ≤ p.length → rd_T99 ((tab cls p).map chc) (at_ : Int) = chc (best cls (p.drop at_)) := by
    intro at_ h
    have ht := tab_at cls p at_ h
    have hl := tab_length cls p
    unfold rd_T99
    rw [show ((at_ : Int)).toNat = at_ by omega, ← ht, List.getD_eq_getElem?_getD, List.getD_eq_getElem?_getD, List.getElem?_map, List.getElem?_eq_getElem (by omega)]
    rfl
  have hend : ∀ (at_ : Nat) (out : List S33), at_ = p.length → Ev (fun k => barscanref16_Best.l2 k p ((tab cls p).map chc) out (at_ : Int)) (out, (best cls p).f0, 0) := by
    intro at_ out e
    refine Ev.step (fun k => by rw [barscanref16_Best.l2]) ?_
    refine ev_else (by omega) (ev_if (by rw [List.length_map, tab_length]; omega) (ev_val ?_))
    have := hrd 0 (by omega)
    rw [List.drop_zero] at this
    show (out, (rd_T99 ((tab cls p).map chc) ((0 : Nat) : Int)).f0, (0 : Int)) = _
    rw [this]
    rfl
  induction f with
  | zero =>
    intro at_ out h1 h2 h3
    have := hend at_ out (by omega)
    simpa [cutD] using this
  | succ f ih =>
    intro at_ out h1 h2 h3
    by_cases e : at_ = p.length
    · have := hend at_ out e
      have hz : (p.drop at_).length = 0 := by rw [List.length_drop]; omega
      simp only [cutD, hz, if_true, List.append_nil]
      exact this
    · have hl : (p.drop at_).length = p.length - at_ := List.length_drop
      obtain ⟨⟨m, k, hm, k1, k2, k3, hb⟩, _⟩ := best_props hc (p.drop at_) (by omega) (by omega)
      have h2f : (chc (best cls (p.drop at_))).f2 = (k : Int) := by rw [hb]; rfl
      have h2f' : (best cls (p.drop at_)).f2 = (k : Int) := h2f
      refine Ev.step (fun k => by rw [barscanref16_Best.l2]) ?_
      rw [hrd at_ h1, h2f]
      rw [show wrap64 ((at_ : Int) + k) = ((at_ + k : Nat) : Int) from w_is (by omega) (by omega) (by omega)]
      have et : (p.take (((at_ + k : Nat) : Int)).toNat).drop ((at_ : Int)).toNat = (p.drop at_).take k := by
        rw [show (((at_ + k : Nat) : Int)).toNat = at_ + k by omega, show ((at_ : Int)).toNat = at_ by omega, List.drop_take]
        congr 1; omega
      rw [et]
      refine ev_if (by omega) (ev_if (by omega) (ev_if (by rw [List.length_map, tab_length]; omega) (ev_if (by omega) (ev_if (by omega) (ev_if (by simp only [List.length_nil, List.length_take]; omega) (ev_if (by omega) ?_))))))
      have ih' := ih (at_ + k) (out ++ [⟨(best cls (p.drop at_)).f3, (p.drop at_).take k⟩]) (by omega) (by omega) (by simp; omega)
      have hz : ¬ (p.drop at_).length = 0 := by omega
      simp only [cutD, if_neg hz, h2f']
      rw [show ((k : Int)).toNat = k by omega, List.drop_drop]
      rw [List.append_assoc] at ih'
      rw [List.nil_append]
      exact ih'
theorem refBest_ev (p : List Int) (cls : Int) (hb : ∀ x ∈ p, 0 ≤ x ∧ x < 256) : Ev (fun k => barscanref16_Best.f k p cls) (bestR p cls) := by
  unfold barscanref16_Best.f bestR
  have bad : cls < 0 ∨ 2 < cls → ∀ b, b = true → Ev (fun k => barscanref16_Best.j0 k p cls b) (if cls < 0 ∨ 2 < cls then ([], 0, 1) else if 4096 < p.length then ([], 0, 4) else (cutD cls p.length p, (best cls p).f0, 0)) := by
    intro h b hb
    rw [if_pos h]
    refine Ev.step (fun k => by rw [barscanref16_Best.j0]) ?_
    exact ev_if hb (Ev.now _)
  refine ev_cond (fun e => bad (.inl e) _ rfl) (fun e => ?_)
  by_cases e2 : 2 < cls
  · exact bad (.inr e2) _ (by simpa using e2)
  rw [if_neg (by omega)]
  refine Ev.step (fun k => by rw [barscanref16_Best.j0]) ?_
  refine ev_else (by simpa using e2) ?_
  refine ev_cond (fun e3 => ?_) (fun e3 => ?_)
  · rw [if_pos (by omega)]; exact Ev.now _
  rw [if_neg (by omega)]
  have hc : 0 ≤ cls ∧ cls ≤ 2 := by omega
  have hp : p.length ≤ 4096 := by omega
  clear bad
  have h3 := rcut_ev hc p hp p.length 0 [] (by omega) (by omega) (by simp; omega)
  rw [List.nil_append, List.drop_zero] at h3
  have table : ∀ j : Nat, j ≤ p.length → Ev (fun f => barscanref16_Best.l1 f p cls (List.replicate j z99 ++ (tab cls (p.drop j)).map chc) ((j : Int) - 1)) (cutD cls p.length p, (best cls p).f0, 0) := by
    intro j
    induction j with
    | zero =>
      intro _
      refine Ev.step (fun k => by rw [barscanref16_Best.l1]) ?_
      refine ev_else (by omega) ?_
      rw [List.replicate_zero, List.nil_append, List.drop_zero]
      exact h3
    | succ j ih =>
      intro hj
      have ih := ih (by omega)
      have hl := tab_length cls (p.drop (j + 1))
      rw [List.length_drop] at hl
      have hd : p.drop j = p[j]'(by omega) :: p.drop (j + 1) := by rw [List.getElem_cons_drop]
      have hr := tab_range hc (p.drop (j + 1)) (by rw [List.length_drop]; omega)
      rw [List.length_drop] at hr
      have hR : ∀ i, 0 ≤ ((tab cls (p.drop (j + 1))).getD i z93).f0 ∧ ((tab cls (p.drop (j + 1))).getD i z93).f0 ≤ 1000000 ∧ 0 ≤ ((tab cls (p.drop (j + 1))).getD i z93).f1 ∧ ((tab cls (p.drop (j + 1))).getD i z93).f1 ≤ 1000000 := fun i => by have := hr i; omega
      have hf := first_ev hc p hp hb j (tab cls (p.drop (j + 1))) hR (by omega) p[j] (p.drop (j + 1)) hd
      have el : List.replicate (j + 1) z99 ++ (tab cls (p.drop (j + 1))).map chc = List.replicate j z99 ++ z99 :: (tab cls (p.drop (j + 1))).map chc := by
        rw [List.replicate_succ', List.append_assoc]; rfl
      rw [el]
      refine Ev.step (fun k => by rw [barscanref16_Best.l1]) ?_
      rw [show (((j + 1 : Nat) : Int) - 1) = (j : Int) by omega]
      refine ev_if (by omega) (Ev.bind hf (ev_if (by omega) (ev_if (by rw [List.length_append, List.length_replicate, List.length_cons, List.length_map, hl]; omega) ?_)))
      rw [show wrap64 ((j : Int) - 1) = (j : Int) - 1 from wrap64_id _ (by omega) (by omega)]
      have es : (List.replicate j z99 ++ z99 :: (tab cls (p.drop (j + 1))).map chc).set ((j : Int)).toNat (chc (pick cls (p[j] :: p.drop (j + 1)) (tab cls (p.drop (j + 1))))) = List.replicate j z99 ++ (tab cls (p.drop j)).map chc := by
        rw [show ((j : Int)).toNat = j by omega, List.set_append_right _ _ (by rw [List.length_replicate]; omega), List.length_replicate, hd]
        simp [tab]
      rw [← es] at ih
      exact ih
  have grow : ∀ (d i : Nat), i + d = p.length + 1 → Ev (fun f => barscanref16_Best.l0 f p cls (List.replicate i z99) (i : Int)) (cutD cls p.length p, (best cls p).f0, 0) := by
    intro d
    induction d with
    | zero =>
      intro i hi
      obtain rfl : i = p.length + 1 := by omega
      refine Ev.step (fun k => by rw [barscanref16_Best.l0]) ?_
      refine ev_else (by omega) ?_
      have h := table p.length (Nat.le_refl _)
      rw [List.drop_of_length_le (Nat.le_refl _)] at h
      have el : List.replicate p.length z99 ++ (tab cls []).map chc = List.replicate (p.length + 1) z99 := by
        rw [List.replicate_succ']; rfl
      rw [el] at h
      rw [show wrap64 ((p.length : Int) - 1) = (p.length : Int) - 1 from wrap64_id _ (by omega) (by omega)]
      exact h
    | succ d ih =>
      intro i hi
      have ih := ih (i + 1) (by omega)
      rw [List.replicate_succ'] at ih
      refine Ev.step (fun k => by rw [barscanref16_Best.l0]) ?_
      refine ev_if (by omega) (ev_if (by rw [List.length_replicate]; omega) ?_)
      rw [show wrap64 ((i : Int) + 1) = ((i + 1 : Nat) : Int) from w_is (by omega) (by omega) (by omega)]
      exact ih
  exact grow (p.length + 1) 0 (by omega)
end Go.Proofs.Ytagmncdbiljacaa.X
