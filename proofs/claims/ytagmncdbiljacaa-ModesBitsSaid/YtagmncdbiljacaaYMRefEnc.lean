/- The reference's Encode, in plain Lean. No condition. -/
import Derived.Test.YtagmncdbiljacaaYMTrip
import Derived.Test.YtagmncdbiljacaaYMRefBits
import Derived.Test.YtagmncdbiljacaaYRefT
import Derived.Test.YtagmncdbiljacaaXx41
import Derived.Test.YtagmncdbiljacaaXx40
namespace Go.Proofs.Ytagmncdbiljacaa.X
open Go.RowKit Go.Proofs.YtagmncdbiljacaaW.PrintWords Go.Proofs.YtagmncdbiljacaaW.PrintLast Go.Proofs.YtagmncdbiljacaaW.PrintMore
set_option linter.unusedVariables false
set_option linter.unusedSimpArgs false

theorem refGroup_ev (m : Int) (hm : m = 1 ∨ m = 2 ∨ m = 4) (d : List Int) (hd : 0 < d.length) (hl : d.length ≤ 1000000) (hb : ∀ x ∈ d, 0 ≤ x ∧ x < 256) (hf : ∀ x ∈ d, fitOf m x = true) :
    Ev (fun k => barscanref16_group.f k m d) (numOf m (d.take (szOf m)), dbOf m (d.take (szOf m)).length, ((d.take (szOf m)).length : Int)) := by
  unfold barscanref16_group.f
  rcases hm with rfl | rfl | rfl
  · refine ev_if rfl ?_
    have hs : szOf 1 = 3 := rfl
    rw [hs]
    have key : ∀ (e i : Nat), i + e = min 3 d.length → Ev (fun k => barscanref16_group.l0 k 1 d (numOf 1 (d.take i)) (i : Int)) (numOf 1 (d.take 3), dbOf 1 (d.take 3).length, ((d.take 3).length : Int)) := by
      intro e
      induction e with
      | zero =>
        intro i hi
        have hlen : (d.take 3).length = i := by rw [List.length_take]; omega
        have ht : d.take i = d.take 3 := by
          rcases Nat.lt_or_ge d.length 3 with h | h
          · rw [List.take_of_length_le (by omega), List.take_of_length_le (by omega)]
          · rw [show i = 3 by omega]
        rw [hlen, ht]
        refine Ev.step (fun k => by rw [barscanref16_group.l0]) ?_
        refine ev_cond (fun e1 => ev_else (by omega) ?_) (fun e1 => ?_)
        · exact ev_is (refData_is 1 i (by omega) (by omega)) (Ev.now _)
        · exact ev_is (refData_is 1 i (by omega) (by omega)) (Ev.now _)
      | succ e ih =>
        intro i hi
        have hlt : i < d.length := by omega
        refine Ev.step (fun k => by rw [barscanref16_group.l0]) ?_
        refine ev_if (by omega) (ev_if (by omega) (ev_if (by omega) ?_))
        have hn : wrap64 ((wrap64 (10 * numOf 1 (d.take i))) + (((rd d (i : Int)) - 48) % 256)) = numOf 1 (d.take (i + 1)) := by
          rw [rd_ofNat d i hlt, List.take_succ_eq_append_getElem hlt]
          unfold numOf
          rw [List.foldl_append]
          simp only [List.foldl, numStep, if_true]
        rw [hn, show wrap64 ((i : Int) + 1) = ((i + 1 : Nat) : Int) from w_is (by omega) (by omega) (by omega)]
        exact ih (i + 1) (by omega)
    exact key (min 3 d.length) 0 (by omega)
  · refine ev_else (by decide) (ev_else (by decide) ?_)
    have hs : szOf 2 = 2 := rfl
    rw [hs]
    have hi : ∀ x ∈ d, 0 ≤ ixOf x ∧ ixOf x < 45 := fun x hx => ⟨(alnum_ch (hb x hx).1 (hb x hx).2 (hf x hx)).1, (alnum_ch (hb x hx).1 (hb x hx).2 (hf x hx)).2.1⟩
    match d, hd with
    | [a], _ =>
      have ha := hi a (by simp)
      have hba := hb a (by simp)
      refine ev_if rfl (ev_if (by simp) ?_)
      refine Ev.bind (place_ev _ hba.1 hba.2) (ev_val ?_)
      have e : numOf 2 ([a].take 2) = ixOf a := by
        show wrap64 (wrap64 (45 * 0) + ixOf a) = ixOf a
        rw [show wrap64 (45 * 0) = 0 by decide +kernel, Int.zero_add]
        exact w_is rfl (by omega) (by omega)
      rw [e]
      show (ixOf a, (6 : Int), (1 : Int)) = _
      simp [dbOf]
    | a :: b :: t, _ =>
      have ha := hi a (by simp)
      have hba := hb a (by simp)
      have hb1 := hi b (by simp)
      have hbb := hb b (by simp)
      refine ev_else (by simp only [List.length_cons]; omega) (ev_if (by simp only [List.length_cons]; omega) ?_)
      refine Ev.bind (place_ev _ hba.1 hba.2) (ev_if (by simp only [List.length_cons]; omega) ?_)
      have r1 : rd (a :: b :: t) 1 = b := rfl
      rw [r1]
      refine Ev.bind (place_ev _ hbb.1 hbb.2) (ev_val ?_)
      have e : numOf 2 ((a :: b :: t).take 2) = wrap64 (wrap64 (45 * ixOf a) + ixOf b) := by
        show wrap64 (wrap64 (45 * wrap64 (wrap64 (45 * 0) + ixOf a)) + ixOf b) = _
        rw [show wrap64 (45 * 0) = 0 by decide +kernel, Int.zero_add, show wrap64 (ixOf a) = ixOf a from w_is rfl (by omega) (by omega)]
      rw [e]
      show (wrap64 (wrap64 (45 * ixOf a) + ixOf b), (11 : Int), (2 : Int)) = _
      simp [dbOf]
  · refine ev_else (by decide) (ev_if rfl (ev_if (by omega) ?_))
    match d, hd with
    | a :: t, _ =>
      refine ev_val ?_
      rfl

theorem refEnc_data (l : List S33) (c : Int) (i : Nat) (hi : i < l.length) (hm : l[i].f0 = 1 ∨ l[i].f0 = 2 ∨ l[i].f0 = 4) (hlen : l[i].f1.length ≤ 1000000) (hb : ∀ x ∈ l[i].f1, 0 ≤ x ∧ x < 256) (hf : ∀ x ∈ l[i].f1, fitOf l[i].f0 x = true) (r : List Bool × Int) :
    ∀ (n at_ : Nat) (out : List Bool), l[i].f1.length - at_ ≤ n → at_ ≤ l[i].f1.length → out.length + (encData l[i].f0 (l[i].f1.drop at_)).length ≤ 1048576 → Ev (fun k => barscanref16_Encode.l0 k l c (out ++ encData l[i].f0 (l[i].f1.drop at_)) (wrap64 ((i : Int) + 1))) r →
      Ev (fun k => barscanref16_Encode.l1 k l c out (i : Int) (at_ : Int)) r := by
  have hs := szOf_range l[i].f0
  intro n
  induction n with
  | zero =>
    intro at_ out h1 h2 h3 h
    rw [List.drop_of_length_le (by omega), encData_nil, List.append_nil] at h
    refine Ev.step (fun k => by rw [barscanref16_Encode.l1]) ?_
    rw [rdS_at l i hi]
    exact ev_if (by omega) (ev_if (by omega) (ev_else (by omega) h))
  | succ n ih =>
    intro at_ out h1 h2 h3 h
    by_cases e : at_ = l[i].f1.length
    · rw [List.drop_of_length_le (by omega), encData_nil, List.append_nil] at h
      refine Ev.step (fun k => by rw [barscanref16_Encode.l1]) ?_
      rw [rdS_at l i hi]
      exact ev_if (by omega) (ev_if (by omega) (ev_else (by omega) h))
    refine Ev.step (fun k => by rw [barscanref16_Encode.l1]) ?_
    rw [rdS_at l i hi]
    refine ev_if (by omega) (ev_if (by omega) (ev_if (by omega) (ev_if (by omega) (ev_if (by omega) ?_))))
    rw [Int.toNat_natCast]
    have hdl : (l[i].f1.drop at_).length = l[i].f1.length - at_ := List.length_drop
    have hg := refGroup_ev l[i].f0 hm (l[i].f1.drop at_) (by omega) (by omega) (fun x hx => hb x (List.mem_of_mem_drop hx)) (fun x hx => hf x (List.mem_of_mem_drop hx))
    have hrec := encData_rec l[i].f0 (l[i].f1.drop at_) (by intro h0; rw [h0] at hdl; simp at hdl; omega)
    rw [hrec] at h h3
    have htl : ((l[i].f1.drop at_).take (szOf l[i].f0)).length = min (szOf l[i].f0) (l[i].f1.length - at_) := by rw [List.length_take, hdl]
    generalize hgd : (l[i].f1.drop at_).take (szOf l[i].f0) = g at *
    have hr := dbOf_range l[i].f0 g.length (by omega)
    obtain ⟨w, hw⟩ : ∃ w : Nat, dbOf l[i].f0 g.length = w := ⟨(dbOf l[i].f0 g.length).toNat, by omega⟩
    have hgb : grpBits l[i].f0 g = low (numOf l[i].f0 g) w := by unfold grpBits; rw [hw, Int.toNat_natCast]
    rw [hgb] at h h3
    rw [List.length_append, low_length] at h3
    refine Ev.bind hg ?_
    rw [hw]
    refine Ev.bind (refAppend_ev out (numOf l[i].f0 g) w (by omega) (by omega)) ?_
    rw [List.drop_drop] at h h3
    have hnext : at_ + szOf l[i].f0 = at_ + g.length ∨ l[i].f1.length ≤ at_ + g.length ∧ l[i].f1.length ≤ at_ + szOf l[i].f0 := by omega
    have hdr : l[i].f1.drop (at_ + szOf l[i].f0) = l[i].f1.drop (at_ + g.length) := by
      rcases hnext with h | ⟨h, h'⟩
      · rw [h]
      · rw [List.drop_of_length_le h, List.drop_of_length_le h']
    rw [hdr] at h h3
    clear hnext
    have g1 : l[i].f1.length - (at_ + g.length) ≤ n := by omega
    have g2 : at_ + g.length ≤ l[i].f1.length := by omega
    have g3 : (out ++ low (numOf l[i].f0 g) w).length + (encData l[i].f0 (l[i].f1.drop (at_ + g.length))).length ≤ 1048576 := by rw [List.length_append, low_length]; omega
    have hw1 : wrap64 ((at_ : Int) + (g.length : Int)) = ((at_ + g.length : Nat) : Int) := w_is (by omega) (by omega) (by omega)
    show Ev (fun k => barscanref16_Encode.l1 k l c (out ++ low (numOf l[i].f0 g) w) (i : Int) (wrap64 ((at_ : Int) + (g.length : Int)))) r
    rw [hw1]
    rw [← List.append_assoc] at h
    exact ih (at_ + g.length) _ g1 g2 g3 h
theorem refEnc_loop (l : List S33) (c : Int) (hc : 0 ≤ c ∧ c ≤ 2) (hv : okSegs c l) (hb : ∀ s ∈ l, ∀ x ∈ s.f1, 0 ≤ x ∧ x < 256) (hl : l.length ≤ 1000000) : ∀ (d i : Nat) (out : List Bool), i + d = l.length → out.length + (encAll c (l.drop i)).length ≤ 1048576 → Ev (fun k => barscanref16_Encode.l0 k l c out (i : Int)) (out ++ encAll c (l.drop i), 0) := by
  intro d
  induction d with
  | zero =>
    intro i out hi ho
    rw [List.drop_of_length_le (by omega)]
    refine Ev.step (fun k => by rw [barscanref16_Encode.l0]) ?_
    refine ev_else (by omega) (ev_val ?_)
    simp [encAll]
  | succ d ih =>
    intro i out hi ho
    have hlt : i < l.length := by omega
    obtain ⟨hm, hlen, hf⟩ := hv l[i] (List.getElem_mem hlt)
    have hcb := cb_mode hc hm
    have hpw := Nat.pow_le_pow_right (n := 2) (by omega) (show (cbOf l[i].f0 c).toNat ≤ 16 by omega)
    have e16 : (2 : Nat) ^ 16 = 65536 := rfl
    have he : encAll c (l.drop i) = low l[i].f0 4 ++ (low l[i].f1.length (cbOf l[i].f0 c).toNat ++ (encData l[i].f0 l[i].f1 ++ encAll c (l.drop (i + 1)))) := by
      rw [List.drop_eq_getElem_cons hlt]
      unfold encAll
      rw [List.flatMap_cons]
      unfold encSeg
      simp only [List.append_assoc]
    rw [he] at ho ⊢
    simp only [List.length_append, low_length] at ho
    obtain ⟨q, hq⟩ : ∃ q : Nat, cbOf l[i].f0 c = q := ⟨(cbOf l[i].f0 c).toNat, by omega⟩
    rw [hq, Int.toNat_natCast] at ho ⊢
    refine Ev.step (fun k => by rw [barscanref16_Encode.l0]) ?_
    rw [rdS_at l i hlt]
    have hcount := refCount_ev l[i].f0 c
    rw [if_neg (by omega), hq] at hcount
    refine ev_if (by omega) (ev_if (by omega) (Ev.bind hcount ?_))
    refine Ev.bind (refAppend_ev out l[i].f0 4 (by omega) (by omega)) ?_
    refine Ev.bind (refAppend_ev (out ++ low l[i].f0 4) l[i].f1.length q (by omega) (by rw [List.length_append, low_length]; omega)) ?_
    refine refEnc_data l c i hlt hm (by omega) (hb _ (List.getElem_mem hlt)) hf _ l[i].f1.length 0 _ (by omega) (by omega) (by rw [List.drop_zero]; simp only [List.length_append, low_length]; omega) ?_
    rw [List.drop_zero, show wrap64 ((i : Int) + 1) = ((i + 1 : Nat) : Int) from w_is (by omega) (by omega) (by omega)]
    have := ih (i + 1) (out ++ low l[i].f0 4 ++ low (l[i].f1.length : Int) q ++ encData l[i].f0 l[i].f1) (by omega) (by simp only [List.length_append, low_length]; omega)
    simpa only [List.append_assoc] using this
theorem refEncode_ev (l : List S33) (c : Int) (hb : ∀ s ∈ l, ∀ x ∈ s.f1, 0 ≤ x ∧ x < 256) (hl : l.length ≤ 1000000) : Ev (fun k => barscanref16_Encode.f k l c) (encR l c) := by
  unfold barscanref16_Encode.f encR
  refine Ev.bind (refBits_ev l c hl hb) ?_
  refine ev_cond (fun e => ?_) (fun e => ?_)
  · rw [if_pos e]
    obtain ⟨hc, hv, _, hm⟩ := bits_okSegs e
    have h1 := mbits_le e
    have h2 := encAll_length c l
    exact refEnc_loop l c hc hv hb hl l.length 0 [] (by omega) (by rw [List.drop_zero, List.length_nil]; omega)
  · rw [if_neg e]
    exact Ev.now _
end Go.Proofs.Ytagmncdbiljacaa.X
