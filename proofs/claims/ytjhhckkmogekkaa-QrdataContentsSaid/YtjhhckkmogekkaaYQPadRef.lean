/- The reference's Pad and Equal. No condition. -/
import Derived.Test.YtjhhckkmogekkaaYPad
import Derived.Test.YtjhhckkmogekkaaYMOk
import Derived.Test.YtjhhckkmogekkaaXx30
import Derived.Test.YtjhhckkmogekkaaXx25c
namespace Go.Proofs.Ytjhhckkmogekkaa.X
open Go.RowKit Go.Proofs.YtjhhckkmogekkaaW.PrintWords Go.Proofs.YtjhhckkmogekkaaW.PrintLast Go.Proofs.YtjhhckkmogekkaaW.PrintMore
set_option linter.unusedVariables false
set_option linter.unusedSimpArgs false

theorem low_zero : ∀ n : Nat, low 0 n = List.replicate n false
  | 0 => rfl
  | n + 1 => by
    have hb : bitOf 0 n = false := by unfold bitOf; rw [Int.zero_ediv]; rfl
    rw [List.replicate_succ, ← low_zero n]
    show bitOf 0 n :: low 0 n = false :: low 0 n
    rw [hb]
theorem value18_ev (b : List Bool) (hb : b.length ≤ 62) : Ev (fun k => barscanref18_value.f k b) (gval b) := by
  have key : ∀ (d i : Nat), i + d = b.length → Ev (fun k => barscanref18_value.l0 k b (gval (b.take i)) (i : Int)) (gval b) := by
    intro d
    induction d with
    | zero =>
      intro i hi
      rw [List.take_of_length_le (by omega)]
      refine Ev.step (fun k => by rw [barscanref18_value.l0]) ?_
      exact ev_else (by omega) (Ev.now _)
    | succ d ih =>
      intro i hi
      have hlt : i < b.length := by omega
      have ih := ih (i + 1) (by omega)
      have h1 : gval (b.take (i + 1)) = 2 * gval (b.take i) + if b[i] then 1 else 0 := by rw [List.take_succ_eq_append_getElem hlt, gval_snoc]
      have h2 := gval_small (b := b.take i) (by rw [List.length_take]; omega)
      have h3 := gval_small (b := b.take (i + 1)) (by rw [List.length_take]; omega)
      have hr : rdOf false b (i : Int) = b[i] := by simp [rdOf, List.getElem?_eq_getElem hlt]
      have hw : wrap64 ((i : Int) + 1) = ((i + 1 : Nat) : Int) := w_is (by omega) (by omega) (by omega)
      refine Ev.step (fun k => by rw [barscanref18_value.l0]) ?_
      rw [hr, hw]
      clear hw
      refine ev_if (by omega) (ev_if (by omega) ?_)
      cases hx : b[i] with
      | true =>
        rw [hx] at h1
        simp only [if_true] at h1
        refine ev_if rfl ?_
        rw [w64 (n := 2 * gval (b.take i)) (by omega), w64 (by omega), ← h1]
        exact ih
      | false =>
        rw [hx] at h1
        simp only [Bool.false_eq_true, if_false, Int.add_zero] at h1
        refine ev_else (by decide) ?_
        rw [w64 (by omega), ← h1]
        exact ih
  unfold barscanref18_value.f
  exact key b.length 0 (by omega)
theorem altW_next (i : Nat) : wrap64 (253 - altW i) = altW (i + 1) := by
  rcases (show i % 2 = 0 ∨ i % 2 = 1 by omega) with h | h
  · have e1 : altW i = 236 := by unfold altW; rw [if_pos h]
    have e2 : altW (i + 1) = 17 := by unfold altW; rw [if_neg (by omega)]
    rw [e1, e2]; decide +kernel
  · have e1 : altW i = 17 := by unfold altW; rw [if_neg (by omega)]
    have e2 : altW (i + 1) = 236 := by unfold altW; rw [if_pos (by omega)]
    rw [e1, e2]; decide +kernel
section
variable (n : Int) (hn0 : 0 ≤ n) (hn1 : n ≤ 4096)
theorem pad_l3 (hn0 : 0 ≤ n) (hn1 : n ≤ 4096) (W : List Int) (hW : W.length ≤ n.toNat) : ∀ (d i : Nat), i + d = n.toNat - W.length → Ev (fun k => barscanref18_Pad.l3 k n (W ++ (List.range i).map altW) (altW i)) (W ++ (List.range (n.toNat - W.length)).map altW, 0) := by
  intro d
  induction d with
  | zero =>
    intro i hi
    refine Ev.step (fun k => by rw [barscanref18_Pad.l3]) ?_
    refine ev_else (by simp only [List.length_append, List.length_map, List.length_range]; omega) (ev_val ?_)
    rw [show i = n.toNat - W.length by omega]
  | succ d ih =>
    intro i hi
    have ih := ih (i + 1) (by omega)
    rw [List.range_succ, List.map_append, ← List.append_assoc] at ih
    refine Ev.step (fun k => by rw [barscanref18_Pad.l3]) ?_
    refine ev_if (by simp only [List.length_append, List.length_map, List.length_range]; omega) (ev_if (by simp only [List.length_append, List.length_map, List.length_range]; omega) ?_)
    rw [altW_next]
    exact ih
theorem pad_l2 (hn0 : 0 ≤ n) (hn1 : n ≤ 4096) (pb : List Bool) (hp : pb.length ≤ 40000) (q : Nat) (hq : pb.length = 8 * q) (hqn : q ≤ n.toNat) (r : List Int × Int) (hr : Ev (fun k => barscanref18_Pad.l3 k n (words 8 false pb) 236) r) : ∀ (d j : Nat), j + d = q → Ev (fun k => barscanref18_Pad.l2 k n pb ((List.range j).map (fun j => gnum 8 false (gchunk 8 pb (j * 8)))) ((8 * j : Nat) : Int)) r := by
  have hwl : (pb.length + 8 - 1) / 8 = q := by omega
  intro d
  induction d with
  | zero =>
    intro j hj
    refine Ev.step (fun k => by rw [barscanref18_Pad.l2]) ?_
    refine ev_else (by omega) ?_
    unfold words at hr
    rw [hwl] at hr
    rw [show j = q by omega]
    exact hr
  | succ d ih =>
    intro j hj
    have ih := ih (j + 1) (by omega)
    have hch : (pb.take (((8 * j + 8 : Nat) : Int)).toNat).drop (((8 * j : Nat) : Int)).toNat = gchunk 8 pb (j * 8) := by
      rw [Int.toNat_natCast, Int.toNat_natCast, List.drop_take]
      unfold gchunk
      rw [show 8 * j + 8 - 8 * j = 8 by omega, Nat.mul_comm]
    have hcl : (gchunk 8 pb (j * 8)).length = 8 := by unfold gchunk; rw [List.length_take, List.length_drop]; omega
    have hv := value18_ev (gchunk 8 pb (j * 8)) (by omega)
    have hgn : gnum 8 false (gchunk 8 pb (j * 8)) = gval (gchunk 8 pb (j * 8)) := by
      unfold gnum
      rw [hcl]
      simp
    have hw : wrap64 (((8 * j : Nat) : Int) + 8) = ((8 * j + 8 : Nat) : Int) := w_is (by omega) (by omega) (by omega)
    refine Ev.step (fun k => by rw [barscanref18_Pad.l2]) ?_
    rw [hw, hch]
    clear hw
    refine ev_if (by omega) (ev_if (by omega) (ev_if (by omega) (ev_if (by omega) (Ev.bind hv (ev_if (by simp only [List.length_map, List.length_range]; omega) ?_)))))
    rw [List.range_succ, List.map_append] at ih
    simp only [List.map_cons, List.map_nil, hgn] at ih
    rw [show 8 * (j + 1) = 8 * j + 8 by omega] at ih
    exact ih
theorem pad_l1 (hn0 : 0 ≤ n) (hn1 : n ≤ 4096) (L : List Bool) (hL : L.length ≤ 33000) (r : List Int × Int) (hr : Ev (fun k => barscanref18_Pad.l2 k n (L ++ List.replicate (padQ L.length) false) [] 0) r) : ∀ (d i : Nat), i + d = padQ L.length → Ev (fun k => barscanref18_Pad.l1 k n (L ++ List.replicate i false)) r := by
  have hq : padQ L.length = (8 - L.length % 8) % 8 := rfl
  intro d
  induction d with
  | zero =>
    intro i hi
    refine Ev.step (fun k => by rw [barscanref18_Pad.l1]) ?_
    refine ev_if (by rw [List.length_append, List.length_replicate]; omega) ?_
    rw [show i = padQ L.length by omega]
    exact hr
  | succ d ih =>
    intro i hi
    have ih := ih (i + 1) (by omega)
    rw [List.replicate_succ', ← List.append_assoc] at ih
    refine Ev.step (fun k => by rw [barscanref18_Pad.l1]) ?_
    exact ev_else (by rw [List.length_append, List.length_replicate]; omega) (ev_if (by rw [List.length_append, List.length_replicate]; omega) ih)
theorem pad_l0 (hn0 : 0 ≤ n) (hn1 : n ≤ 4096) (l : List Bool) (hl : (l.length : Int) ≤ 8 * n) (r : List Int × Int) (hr : Ev (fun k => barscanref18_Pad.l1 k n (l ++ List.replicate (padM l n) false)) r) : ∀ (d i : Nat), i + d = padM l n → Ev (fun k => barscanref18_Pad.l0 k n (l ++ List.replicate i false) (i : Int)) r := by
  have hm : padM l n = min 4 (8 * n.toNat - l.length) := rfl
  have hj : Ev (fun k => barscanref18_Pad.j2 k n (l ++ List.replicate (padM l n) false)) r := Ev.step (fun k => by rw [barscanref18_Pad.j2]) hr
  intro d
  induction d with
  | zero =>
    intro i hi
    obtain rfl : i = padM l n := by omega
    refine Ev.step (fun k => by rw [barscanref18_Pad.l0]) ?_
    rw [show wrap64 (8 * n) = 8 * n from w_is rfl (by omega) (by omega)]
    refine ev_cond (fun e => ev_else ?_ hj) (fun _ => hj)
    rw [List.length_append, List.length_replicate]
    omega
  | succ d ih =>
    intro i hi
    have ih := ih (i + 1) (by omega)
    rw [List.replicate_succ', ← List.append_assoc] at ih
    refine Ev.step (fun k => by rw [barscanref18_Pad.l0]) ?_
    rw [show wrap64 (8 * n) = 8 * n from w_is rfl (by omega) (by omega), show wrap64 ((i : Int) + 1) = ((i + 1 : Nat) : Int) from w_is (by omega) (by omega) (by omega)]
    exact ev_if (by omega) (ev_if (by rw [List.length_append, List.length_replicate]; omega) (ev_if (by rw [List.length_append, List.length_replicate]; omega) ih))
end
theorem refPad_ev (l : List Bool) (n : Int) : Ev (fun k => barscanref18_Pad.f k l n) (padR l n) := by
  unfold barscanref18_Pad.f
  have bad : (n < 0 ∨ 4096 < n) → ∀ b, b = true → Ev (fun k => barscanref18_Pad.j0 k l n b) (padR l n) := by
    intro h b hb
    refine Ev.step (fun k => by rw [barscanref18_Pad.j0]) ?_
    refine ev_if hb (ev_val ?_)
    unfold padR
    rw [if_pos h]
  refine ev_cond (fun e => bad (.inl e) _ rfl) (fun e => ?_)
  by_cases e2 : 4096 < n
  · exact bad (.inr e2) _ (decide_eq_true e2)
  refine Ev.step (fun k => by rw [barscanref18_Pad.j0]) ?_
  rw [show wrap64 (8 * n) = 8 * n from w_is rfl (by omega) (by omega)]
  refine ev_else (by rw [decide_eq_false e2]; decide) ?_
  unfold padR
  rw [if_neg (by omega)]
  refine ev_cond (fun e3 => ?_) (fun e3 => ?_)
  · rw [if_pos (by omega)]; exact Ev.now _
  rw [if_neg (by omega)]
  refine ev_some (ev_if (by simp only [List.length_nil]; omega) ?_)
  rw [List.nil_append]
  have hpl := padWords_length l n (by omega)
  have hbl := padBits_length l n
  have hm4 : padM l n ≤ 4 := by unfold padM; omega
  have hpb : padBits l n = (l ++ List.replicate (padM l n) false) ++ List.replicate (padQ (l ++ List.replicate (padM l n) false).length) false := by
    unfold padBits
    rw [low_zero, low_zero]
  have hq : (padBits l n).length = 8 * ((padBits l n).length / 8) := by
    rw [hbl]
    unfold padQ
    omega
  rw [words_length] at hpl
  have hW : (words 8 false (padBits l n)).length ≤ n.toNat := by rw [words_length]; exact hpl
  have h3 := pad_l3 n (by omega) (by omega) (words 8 false (padBits l n)) hW (n.toNat - (words 8 false (padBits l n)).length) 0 (by omega)
  simp only [List.range_zero, List.map_nil, List.append_nil] at h3
  have hle : (padBits l n).length ≤ 40000 := by rw [hbl]; unfold padQ; omega
  have h2 := pad_l2 n (by omega) (by omega) (padBits l n) hle ((padBits l n).length / 8) hq (by omega) _ h3 ((padBits l n).length / 8) 0 (by omega)
  simp only [List.range_zero, List.map_nil] at h2
  rw [hpb] at h2
  have h1 := pad_l1 n (by omega) (by omega) (l ++ List.replicate (padM l n) false) (by rw [List.length_append, List.length_replicate]; omega) _ h2 (padQ (l ++ List.replicate (padM l n) false).length) 0 (by omega)
  rw [List.replicate_zero, List.append_nil] at h1
  have h0 := pad_l0 n (by omega) (by omega) l (by omega) _ h1 (padM l n) 0 (by omega)
  rw [List.replicate_zero, List.append_nil] at h0
  have : padW l n = words 8 false (padBits l n) ++ (List.range (n.toNat - (words 8 false (padBits l n)).length)).map altW := rfl
  rw [this, hpb]
  exact h0
theorem padW_length (l : List Bool) (n : Int) (h : (l.length : Int) ≤ 8 * n) : (padW l n).length = n.toNat := by
  have := padWords_length l n h
  unfold padW
  rw [List.length_append, List.length_map, List.length_range]
  omega
theorem same18_ev (l : List Int) (hl : l.length ≤ 1000000) : Ev (fun k => barscanlaw18_same.f k l l) true := by
  have key : ∀ (d i : Nat), i + d = l.length → Ev (fun k => barscanref18_Equal.l0 k l l (i : Int)) true := by
    intro d
    induction d with
    | zero =>
      intro i hi
      refine Ev.step (fun k => by rw [barscanref18_Equal.l0]) ?_
      exact ev_else (by omega) (Ev.now _)
    | succ d ih =>
      intro i hi
      have ih := ih (i + 1) (by omega)
      refine Ev.step (fun k => by rw [barscanref18_Equal.l0]) ?_
      refine ev_if (by omega) (ev_if (by omega) (ev_if (by omega) (ev_if rfl ?_)))
      rw [show wrap64 ((i : Int) + 1) = ((i + 1 : Nat) : Int) from w_is (by omega) (by omega) (by omega)]
      exact ih
  unfold barscanlaw18_same.f barscanref18_Equal.f
  exact Ev.bind (ev_if rfl (key l.length 0 (by omega))) (Ev.now _)
theorem padR_length (l : List Bool) (n : Int) : (padR l n).1.length ≤ 4096 := by
  unfold padR
  split
  · simp
  split
  · simp
  · rename_i h1 h2
    show (padW l n).length ≤ 4096
    rw [padW_length l n (by omega)]
    omega
end Go.Proofs.Ytjhhckkmogekkaa.X
