/- The pure law of QrdataContents. No condition. -/
import Derived.Test.YtjhhckkmogekkaaXx41
import Derived.Test.YtjhhckkmogekkaaYQPadRef
namespace Go.Proofs.Ytjhhckkmogekkaa.Pure
open Go.RowKit Go.Proofs.Ytjhhckkmogekkaa.X Go.Proofs.YtjhhckkmogekkaaW.PrintWords Go.Proofs.YtjhhckkmogekkaaW.PrintLast Go.Proofs.YtjhhckkmogekkaaW.PrintMore
set_option linter.unusedVariables false
set_option linter.unusedSimpArgs false

theorem bit_gval : ∀ (b : List Bool) (t : Nat) (h : t < b.length), bitOf (gval b) (b.length - 1 - t) = b[t]
  | [], t, h => by simp at h
  | x :: b, 0, _ => by
    have hb := gval_bound b
    have hp : (0 : Int) < 2 ^ b.length := Int.pow_pos (by decide)
    unfold bitOf
    rw [gval_cons, List.length_cons, show b.length + 1 - 1 - 0 = b.length by omega]
    cases x
    · simp only [Bool.false_eq_true, if_false, Int.zero_add, List.getElem_cons_zero]
      rw [Int.ediv_eq_zero_of_lt hb.1 hb.2]
      rfl
    · simp only [if_true, List.getElem_cons_zero]
      have : ((2 : Int) ^ b.length + gval b) / 2 ^ b.length = 1 := by
        rw [Int.add_ediv_of_dvd_left (Int.dvd_refl _), Int.ediv_self (by omega), Int.ediv_eq_zero_of_lt hb.1 hb.2]
        rfl
      rw [this]
      rfl
  | x :: b, t + 1, h => by
    have ht : t < b.length := by simpa using h
    have ih := bit_gval b t ht
    rw [List.getElem_cons_succ, ← ih, List.length_cons, show b.length + 1 - 1 - (t + 1) = b.length - 1 - t by omega]
    unfold bitOf
    rw [gval_cons]
    cases x
    · simp
    · simp only [if_true]
      generalize hk : b.length - 1 - t = k
      have hpk : (0 : Int) < 2 ^ k := Int.pow_pos (by decide)
      have hs : (2 : Int) ^ b.length = 2 ^ k * (2 * 2 ^ (b.length - 1 - k)) := by
        rw [show b.length = k + (1 + (b.length - 1 - k)) by omega, Int.pow_add, Int.pow_add]
        congr 2
        rw [show k + (1 + (b.length - 1 - k)) - 1 - k = b.length - 1 - k by omega]
      rw [hs, Int.add_comm, Int.add_mul_ediv_left _ _ (by omega), Int.add_mul_emod_self_left]
theorem rdN (l : List Int) (i : Nat) (h : i < l.length) : rd l (i : Int) = l[i] := by simp [rd, List.getElem?_eq_getElem h]
theorem bit_is18 (l : List Bool) (n : Int) (hn0 : 0 ≤ n) (hn1 : n ≤ 4096) (hl : (l.length : Int) ≤ 8 * n) (i : Nat) (hi : i < (padBits l n).length) : barscanlaw18_bit.f (padW l n) (i : Int) = some ((padBits l n)[i]) := by
  have hpl := padWords_length l n hl
  have hlen := padW_length l n hl
  have hbl := padBits_length l n
  have hM : padM l n ≤ 4 ∧ padM l n ≤ 8 * n.toNat - l.length := by unfold padM; omega
  have hq : (padBits l n).length = 8 * ((padBits l n).length / 8) := by
    rw [hbl]
    unfold padQ
    omega
  rw [words_length] at hpl
  have hle : (padBits l n).length ≤ 40000 := by rw [hbl]; unfold padQ; omega
  have hw : (padW l n)[i / 8]? = some (gval (gchunk 8 (padBits l n) (i / 8 * 8))) := by
    have hcl : (gchunk 8 (padBits l n) (i / 8 * 8)).length = 8 := by unfold gchunk; rw [List.length_take, List.length_drop]; omega
    have hgn : gnum 8 false (gchunk 8 (padBits l n) (i / 8 * 8)) = gval (gchunk 8 (padBits l n) (i / 8 * 8)) := by
      unfold gnum
      rw [hcl]
      simp
    unfold padW
    rw [List.getElem?_append_left (by rw [words_length]; omega)]
    unfold words
    rw [List.getElem?_map, List.getElem?_range (by omega)]
    simp [hgn]
  have hcl : (gchunk 8 (padBits l n) (i / 8 * 8)).length = 8 := by unfold gchunk; rw [List.length_take, List.length_drop]; omega
  have hrd : rd (padW l n) ((i / 8 : Nat) : Int) = gval (gchunk 8 (padBits l n) (i / 8 * 8)) := by
    unfold rd
    rw [Int.toNat_natCast]
    simp [List.getD_eq_getElem?_getD, hw]
  have hbit := bit_gval (gchunk 8 (padBits l n) (i / 8 * 8)) (i % 8) (by omega)
  have hch : (gchunk 8 (padBits l n) (i / 8 * 8))[i % 8]'(by omega) = (padBits l n)[i] := by
    unfold gchunk
    rw [List.getElem_take, List.getElem_drop]
    congr 1
    omega
  rw [hch] at hbit
  rw [hcl, show 8 - 1 - i % 8 = 7 - i % 8 by omega] at hbit
  have e1 : wrap64 (Int.tdiv (i : Int) 8) = ((i / 8 : Nat) : Int) := by
    rw [Int.tdiv_eq_ediv_of_nonneg (by omega)]
    exact w_is (by omega) (by omega) (by omega)
  have e2 : IntKind.u64.wrap (wrap64 (7 - Int.tmod (i : Int) 8)) = ((7 - i % 8 : Nat) : Int) := by
    rw [Int.tmod_eq_emod_of_nonneg (by omega)]
    rw [show wrap64 (7 - (i : Int) % 8) = ((7 - i % 8 : Nat) : Int) from w_is (by omega) (by omega) (by omega)]
    exact u64w (by omega)
  have hb2 : 7 - i % 8 ≤ 64 := by omega
  have hlt : ((i / 8 : Nat) : Int) < ((padW l n).length : Int) := by omega
  unfold barscanlaw18_bit.f
  rw [e1, e2, hrd, bit_is _ _ hb2]
  clear e1 e2
  rw [if_pos (by omega), if_pos hlt, if_pos (by omega)]
  congr 1
theorem QrdataContents (l0 : List Bool) (a1 : Int) (h0 : l0.length ≤ maxLen) (h1 : ∀ y ∈ l0, True) (h2 : (Lit.int .i64 a1).wf = true) : ∃ k, X.barscanlaw18_QrdataContents.f k l0 a1 = some true := by
  clear h0 h1 h2
  refine Ev.rounds ?_
  unfold X.barscanlaw18_QrdataContents.f
  refine ev_is (a := padR l0 a1) rfl ?_
  by_cases b0 : a1 < 0 ∨ 4096 < a1
  · have hr : padR l0 a1 = ([], 3) := by unfold padR; rw [if_pos b0]
    rw [hr]
    refine ev_else (by decide) (ev_if rfl (ev_if rfl ?_))
    refine ev_cond (fun _ => ev_some (Ev.now _)) (fun e => ev_if (by omega) (ev_some (Ev.now _)))
  have hw8 : wrap64 (8 * a1) = 8 * a1 := w_is rfl (by omega) (by omega)
  rw [hw8]
  clear hw8
  by_cases b1 : 8 * a1 < l0.length
  · have hr : padR l0 a1 = ([], 16) := by unfold padR; rw [if_neg b0, if_pos b1]
    rw [hr]
    exact ev_else (by decide) (ev_if rfl (ev_else (by decide) (ev_if rfl (ev_if (by omega) (ev_if (by omega) (ev_if (by omega) (ev_some (Ev.now _))))))))
  have hl : (l0.length : Int) ≤ 8 * a1 := by omega
  have hr : padR l0 a1 = (padW l0 a1, 0) := by unfold padR; rw [if_neg b0, if_neg b1]
  have hlen := padW_length l0 a1 hl
  have hpl := padWords_length l0 a1 hl
  have hbl := padBits_length l0 a1
  have hM : padM l0 a1 = min 4 (8 * a1.toNat - l0.length) := rfl
  have hq : (padBits l0 a1).length = 8 * ((padBits l0 a1).length / 8) := by
    rw [hbl]
    unfold padQ
    omega
  have hwl := words_length (padBits l0 a1)
  have hQ : padQ (l0.length + padM l0 a1) = (8 - (l0.length + padM l0 a1) % 8) % 8 := rfl
  have hzero : ∀ i (h : i < (padBits l0 a1).length), l0.length ≤ i → (padBits l0 a1)[i] = false := by
    intro i h hi
    have h2 : (padBits l0 a1)[i]? = some false := by
      unfold padBits
      rw [low_zero, low_zero, List.append_assoc, List.getElem?_append_right hi, ← List.replicate_append_replicate.symm]
      rw [List.getElem?_replicate, if_pos]
      rw [hbl] at h
      rw [List.length_append, List.length_replicate] at *
      omega
    rw [List.getElem?_eq_getElem h] at h2
    exact Option.some.inj h2
  have hfirst : ∀ i (h : i < l0.length), ∃ h2 : i < (padBits l0 a1).length, (padBits l0 a1)[i] = l0[i] := by
    intro i h
    refine ⟨by omega, ?_⟩
    have h2 : (padBits l0 a1)[i]? = some l0[i] := by
      unfold padBits
      rw [List.append_assoc, List.getElem?_append_left h, List.getElem?_eq_getElem h]
    rw [List.getElem?_eq_getElem (by omega)] at h2
    exact Option.some.inj h2
  have htail : ∀ j, j < a1.toNat - (words 8 false (padBits l0 a1)).length → rd (padW l0 a1) (((words 8 false (padBits l0 a1)).length + j : Nat) : Int) = altW j := by
    intro j hj
    have : (padW l0 a1)[(words 8 false (padBits l0 a1)).length + j]? = some (altW j) := by
      unfold padW
      rw [List.getElem?_append_right (by omega), Nat.add_sub_cancel_left, List.getElem?_map, List.getElem?_range hj]
      rfl
    unfold rd
    rw [Int.toNat_natCast]
    simp [List.getD_eq_getElem?_getD, this]
  have hbit := bit_is18 l0 a1 (by omega) (by omega) hl
  rw [hr]
  generalize padW l0 a1 = W at *
  have hWl := hwl
  generalize (words 8 false (padBits l0 a1)).length = wl at *
  have hE : ∃ E : Nat, E = (padBits l0 a1).length := ⟨_, rfl⟩
  obtain ⟨E, hE⟩ := hE
  generalize padBits l0 a1 = pb at *
  have l2 : ∀ (d j : Nat), j + d = a1.toNat - wl → Ev (fun k => barscanlaw18_QrdataContents.l2 k a1 W (E : Int) ((wl + j : Nat) : Int)) true := by
    intro d
    induction d with
    | zero =>
      intro j hj
      refine Ev.step (fun k => by rw [barscanlaw18_QrdataContents.l2]) ?_
      exact ev_else (by omega) (ev_some (Ev.now _))
    | succ d ih =>
      intro j hj
      have ih := ih (j + 1) (by omega)
      have ht := htail j (by omega)
      have e1 : wrap64 (Int.tdiv (E : Int) 8) = (wl : Int) := by
        rw [Int.tdiv_eq_ediv_of_nonneg (by omega)]
        exact w_is (by omega) (by omega) (by omega)
      have e2 : wrap64 (((wl + j : Nat) : Int) - (wl : Int)) = (j : Int) := by clear e1; exact w_is (by omega) (by omega) (by omega)
      have e3 : wrap64 (((wl + j : Nat) : Int) + 1) = ((wl + (j + 1) : Nat) : Int) := by clear e1 e2; exact w_is (by omega) (by omega) (by omega)
      refine Ev.step (fun k => by rw [barscanlaw18_QrdataContents.l2]) ?_
      rw [e1, e2, e3, ht, Int.tmod_eq_emod_of_nonneg (by omega)]
      clear e1 e2 e3 ht
      refine ev_if (by omega) (ev_cond (fun e => ?_) (fun e => ?_))
      · exact ev_if (by omega) (ev_if (by omega) (ev_if (by unfold altW; rw [if_neg (by omega)]) ih))
      · exact ev_if (by omega) (ev_if (by omega) (ev_if (by unfold altW; rw [if_pos (by omega)]) ih))
  have l1 : ∀ (d i : Nat), i + d = E → l0.length ≤ i → Ev (fun k => barscanlaw18_QrdataContents.l1 k a1 W (E : Int) (i : Int)) true := by
    intro d
    induction d with
    | zero =>
      intro i hi hge
      have e1 : wrap64 (Int.tdiv (E : Int) 8) = ((wl + 0 : Nat) : Int) := by
        rw [Int.tdiv_eq_ediv_of_nonneg (by omega)]
        exact w_is (by omega) (by omega) (by omega)
      refine Ev.step (fun k => by rw [barscanlaw18_QrdataContents.l1]) ?_
      rw [e1]
      clear e1
      exact ev_else (by omega) (l2 (a1.toNat - wl) 0 (by omega))
    | succ d ih =>
      intro i hi hge
      have ih := ih (i + 1) (by omega) (by omega)
      have hb := hbit i (by omega)
      rw [hzero i (by omega) hge] at hb
      refine Ev.step (fun k => by rw [barscanlaw18_QrdataContents.l1]) ?_
      rw [show wrap64 ((i : Int) + 1) = ((i + 1 : Nat) : Int) from w_is (by omega) (by omega) (by omega)]
      exact ev_if (by omega) (ev_is hb (ev_else (by decide) ih))
  have hend : wrap64 ((mn (wrap64 ((l0.length : Int) + 4)) (8 * a1)) + (Int.tmod (wrap64 (8 - (Int.tmod (mn (wrap64 ((l0.length : Int) + 4)) (8 * a1)) 8))) 8)) = (E : Int) := by
    have e0 : wrap64 ((l0.length : Int) + 4) = (l0.length : Int) + 4 := w_is rfl (by omega) (by omega)
    have e1 : mn ((l0.length : Int) + 4) (8 * a1) = ((l0.length + padM l0 a1 : Nat) : Int) := by
      clear e0
      unfold mn
      split <;> omega
    rw [e0, e1]
    clear e0 e1
    generalize l0.length + padM l0 a1 = K at *
    rw [Int.tmod_eq_emod_of_nonneg (a := (K : Int)) (by omega)]
    have e2 : wrap64 (8 - (K : Int) % 8) = 8 - (K : Int) % 8 := w_is rfl (by omega) (by omega)
    rw [e2]
    clear e2
    rw [Int.tmod_eq_emod_of_nonneg (a := 8 - (K : Int) % 8) (by omega)]
    exact w_is (by omega) (by omega) (by omega)
  have hw8 : wrap64 (8 * a1) = 8 * a1 := w_is rfl (by omega) (by omega)
  have HW8 := Aside0.mk (And.intro hend hw8)
  clear hend hw8
  have l0' : ∀ (d i : Nat), i + d = l0.length → Ev (fun k => barscanlaw18_QrdataContents.l0 k l0 a1 W l0 (l0.length : Int) (i : Int)) true := by
    intro d
    induction d with
    | zero =>
      intro i hi
      refine Ev.step (fun k => by rw [barscanlaw18_QrdataContents.l0]) ?_
      rw [HW8.out.2, HW8.out.1]
      exact ev_else (by omega) (l1 (E - l0.length) l0.length (by omega) (Nat.le_refl _))
    | succ d ih =>
      intro i hi
      have ih := ih (i + 1) (by omega)
      obtain ⟨hi2, hbi⟩ := hfirst i (by omega)
      have hb := hbit i hi2
      rw [hbi] at hb
      have hrd : rdOf false l0 (i : Int) = l0[i] := by simp [rdOf, List.getElem?_eq_getElem (show i < l0.length by omega)]
      refine Ev.step (fun k => by rw [barscanlaw18_QrdataContents.l0]) ?_
      rw [hrd, show wrap64 ((i : Int) + 1) = ((i + 1 : Nat) : Int) from w_is (by omega) (by omega) (by omega)]
      exact ev_if (by omega) (ev_if (by omega) (ev_if (by omega) (ev_is hb (ev_else (by simp) ih))))
  refine ev_if rfl (ev_else (by omega) (ev_else (by omega) (ev_if (by show (W.length : Int) = a1; omega) ?_)))
  refine Ev.step (fun k => by rw [barscanlaw18_QrdataContents.j0]) ?_
  exact ev_else (by simp; omega) (l0' l0.length 0 (by omega))
end Go.Proofs.Ytjhhckkmogekkaa.Pure
