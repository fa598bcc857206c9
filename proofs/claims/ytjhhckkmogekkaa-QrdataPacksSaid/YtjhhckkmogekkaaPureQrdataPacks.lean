/- The pure law of QrdataPacks. No condition. -/
import Derived.Test.YtjhhckkmogekkaaXx40a
import Derived.Test.YtjhhckkmogekkaaYNRefEnc
namespace Go.Proofs.Ytjhhckkmogekkaa.Pure
open Go.RowKit Go.Proofs.Ytjhhckkmogekkaa.X Go.Proofs.YtjhhckkmogekkaaW.PrintWords Go.Proofs.YtjhhckkmogekkaaW.PrintLast Go.Proofs.YtjhhckkmogekkaaW.PrintMore
set_option linter.unusedVariables false
set_option linter.unusedSimpArgs false

def clsOf (v : Int) : Int := if v ≤ 9 then 0 else if v ≤ 26 then 1 else 2
theorem class_in {v : Int} (h1 : 1 ≤ v) (h2 : v ≤ 40) : Ev (fun k => modes_Class.f k v) (clsOf v, 0) := by
  unfold modes_Class.f clsOf
  refine ev_else (by omega) (Ev.step (fun k => by rw [modes_Class.j0]) ?_)
  refine ev_else (by simp; omega) ?_
  refine ev_cond (fun e => ?_) (fun e => ?_)
  · rw [if_pos e]; exact Ev.now _
  rw [if_neg e]
  refine ev_cond (fun e => ?_) (fun e => ?_)
  · rw [if_pos e]; exact Ev.now _
  · rw [if_neg e]; exact Ev.now _
theorem rclass_in {v : Int} (h1 : 1 ≤ v) (h2 : v ≤ 40) : Ev (fun k => barscanref16_Class.f k v) (clsOf v, 0) := by
  unfold barscanref16_Class.f clsOf
  refine ev_else (by omega) (Ev.step (fun k => by rw [barscanref16_Class.j0]) ?_)
  refine ev_else (by simp; omega) ?_
  refine ev_cond (fun e => ?_) (fun e => ?_)
  · rw [if_pos e]; exact Ev.now _
  rw [if_neg e]
  refine ev_cond (fun e => ?_) (fun e => ?_)
  · rw [if_pos e]; exact Ev.now _
  · rw [if_neg e]; exact Ev.now _
theorem rcap_all : ∀ n : Nat, n < 40 → ∀ l : Nat, l < 4 → barscanref17_Capacity.f ((n : Int) + 1) ((l : Int) + 1) = some (capOf ((n : Int) + 1) ((l : Int) + 1), 0) := by decide +kernel
theorem rcap_in {v lv : Int} (h1 : 1 ≤ v) (h2 : v ≤ 40) (l1 : 1 ≤ lv) (l4 : lv ≤ 4) : barscanref17_Capacity.f v lv = some (capOf v lv, 0) := by
  have := rcap_all (v - 1).toNat (by omega) (lv - 1).toNat (by omega)
  rwa [show (((v - 1).toNat : Nat) : Int) + 1 = v by omega, show (((lv - 1).toNat : Nat) : Int) + 1 = lv by omega] at this
theorem capE_is (v lv : Int) : qrversion_Capacity.f v lv = some (if 1 ≤ v ∧ v ≤ 40 then (if 1 ≤ lv ∧ lv ≤ 4 then (capOf v lv, 0) else (0, 15)) else (0, 14)) := by
  unfold qrversion_Capacity.f qrversion_level.f qrversion_valid.f qrversion_capacity.f
  by_cases h1 : 1 ≤ v
  · by_cases h2 : v ≤ 40
    · by_cases l1 : 1 ≤ lv
      · by_cases l4 : lv ≤ 4
        · simp [h1, h2, l1, l4, show ¬ lv < 1 by omega, show ¬ 4 < lv by omega]
        · simp [h1, h2, l1, l4, show ¬ lv < 1 by omega, show 4 < lv by omega]
      · simp [h1, h2, l1, show lv < 1 by omega]
    · simp [h1, h2]
  · simp [h1]
def packR (l : List S59) (i t p v lv : Int) : List Int × Int :=
  if ¬ (1 ≤ v ∧ v ≤ 40) then ([], 14) else if ¬ (1 ≤ lv ∧ lv ≤ 4) then ([], 15)
  else if (headR i t p).2 ≠ 0 then ([], (headR i t p).2)
  else if (encR l (clsOf v)).2 ≠ 0 then ([], (encR l (clsOf v)).2)
  else padR ((headR i t p).1 ++ (encR l (clsOf v)).1) (capOf v lv)
theorem encR_length (l : List S59) (c : Int) : (encR l c).1.length ≤ 1048576 := by
  unfold encR
  split
  · rename_i e1
    have h1 := mbits_le e1
    have h2 := encAll_length c l
    show (encAll c l).length ≤ 1048576
    omega
  · simp
theorem pack_ev (l : List S59) (i t p v lv : Int) : Ev (fun k => qrdata_Pack.f k l i t p v lv) (packR l i t p v lv) := by
  unfold qrdata_Pack.f packR
  refine ev_is (capE_is v lv) ?_
  by_cases hv : 1 ≤ v ∧ v ≤ 40
  · rw [if_pos hv, if_neg (show ¬ ¬ (1 ≤ v ∧ v ≤ 40) from fun h => h hv)]
    by_cases hl : 1 ≤ lv ∧ lv ≤ 4
    · rw [if_pos hl, if_neg (show ¬ ¬ (1 ≤ lv ∧ lv ≤ 4) from fun h => h hl)]
      refine ev_if rfl (ev_is (a := headR i t p) rfl ?_)
      refine ev_cond (fun e => ?_) (fun e => ?_)
      · rw [if_neg (by simpa using e)]
        refine Ev.bind (class_in hv.1 hv.2) (ev_is (a := encR l (clsOf v)) rfl ?_)
        refine ev_cond (fun e2 => ?_) (fun e2 => ?_)
        · rw [if_neg (by simpa using e2)]
          have h1 := headR_length i t p
          have h2 := encR_length l (clsOf v)
          refine ev_is (a := (headR i t p).1 ++ (encR l (clsOf v)).1) ?_ (ev_is (a := padR ((headR i t p).1 ++ (encR l (clsOf v)).1) (capOf v lv)) rfl (Ev.now _))
          unfold slices_Concat_bool_bool.f
          rw [if_pos ⟨by simp, by simp only [List.flatten_cons, List.flatten_nil, List.append_nil, List.length_append]; omega⟩]
          simp
        · rw [if_pos (by simpa using e2)]; exact Ev.now _
      · rw [if_pos (by simpa using e)]; exact Ev.now _
    · rw [if_neg hl, if_pos (show ¬ (1 ≤ lv ∧ lv ≤ 4) from hl)]
      exact ev_else (by decide) (Ev.now _)
  · rw [if_neg hv, if_pos (show ¬ (1 ≤ v ∧ v ≤ 40) from hv)]
    exact ev_else (by decide) (Ev.now _)
theorem refPack_ev (l : List S59) (i t p v lv : Int) (hb : ∀ s ∈ l, ∀ x ∈ s.f1, 0 ≤ x ∧ x < 256) (hl0 : l.length ≤ 9223372036854775807) : Ev (fun k => barscanref18_Pack.f k l i t p v lv) (packR l i t p v lv) := by
  unfold barscanref18_Pack.f
  have bad : ¬ (1 ≤ v ∧ v ≤ 40) → ∀ b, b = true → Ev (fun k => barscanref18_Pack.j0 k v lv b l i t p) (packR l i t p v lv) := by
    intro h b hb
    refine Ev.step (fun k => by rw [barscanref18_Pack.j0]) ?_
    refine ev_if hb (ev_val ?_)
    unfold packR
    rw [if_pos h]
  refine ev_cond (fun e => bad (by omega) _ rfl) (fun e => ?_)
  by_cases e1 : 40 < v
  · exact bad (by omega) _ (decide_eq_true e1)
  have hv : 1 ≤ v ∧ v ≤ 40 := by omega
  refine Ev.step (fun k => by rw [barscanref18_Pack.j0]) ?_
  refine ev_else (by rw [decide_eq_false e1]; decide) ?_
  have bad2 : ¬ (1 ≤ lv ∧ lv ≤ 4) → ∀ b, b = true → Ev (fun k => barscanref18_Pack.j1 k v lv b l i t p) (packR l i t p v lv) := by
    intro h b hb
    refine Ev.step (fun k => by rw [barscanref18_Pack.j1]) ?_
    refine ev_if hb (ev_val ?_)
    unfold packR
    rw [if_neg (show ¬ ¬ (1 ≤ v ∧ v ≤ 40) from fun h => h hv), if_pos h]
  refine ev_cond (fun e => bad2 (by omega) _ rfl) (fun e2 => ?_)
  by_cases e3 : 4 < lv
  · exact bad2 (by omega) _ (decide_eq_true e3)
  have hl : 1 ≤ lv ∧ lv ≤ 4 := by omega
  refine Ev.step (fun k => by rw [barscanref18_Pack.j1]) ?_
  refine ev_else (by rw [decide_eq_false e3]; decide) (Ev.bind (refHeader18_ev i t p) ?_)
  unfold packR
  rw [if_neg (show ¬ ¬ (1 ≤ v ∧ v ≤ 40) from fun h => h hv), if_neg (show ¬ ¬ (1 ≤ lv ∧ lv ≤ 4) from fun h => h hl)]
  refine ev_cond (fun e4 => ?_) (fun e4 => ?_)
  · rw [if_neg (by simpa using e4)]
    refine Ev.bind (rclass_in hv.1 hv.2) (Ev.bind (refEncode_ev l (clsOf v) hb hl0) ?_)
    refine ev_cond (fun e5 => ?_) (fun e5 => ?_)
    · rw [if_neg (by simpa using e5)]
      have h1 := headR_length i t p
      have h2 := encR_length l (clsOf v)
      refine ev_is (rcap_in hv.1 hv.2 hl.1 hl.2) (ev_if (by omega) (Ev.bind (refPad_ev _ _) (Ev.now _)))
    · rw [if_pos (by simpa using e5)]; exact Ev.now _
  · rw [if_pos (by simpa using e4)]; exact Ev.now _
theorem QrdataPacks (l0_0 : List S59) (a0_1 a0_2 a0_3 a1 a2 : Int) (h0 : l0_0.length ≤ maxLen) (h1 : ∀ y ∈ l0_0, (Lit.int .i64 y.f0).wf = true ∧ y.f1.length ≤ maxLen ∧ ∀ c ∈ y.f1, (Lit.int .u8 c).wf = true) : ∃ k, X.barscanlaw18_QrdataPacks.f k l0_0 a0_1 a0_2 a0_3 a1 a2 = some true := by
  have hb : ∀ s ∈ l0_0, ∀ x ∈ s.f1, 0 ≤ x ∧ x < 256 := fun s hs x hx => wf8 ((h1 s hs).2.2 x hx)
  have hl : l0_0.length ≤ 9223372036854775807 := h0
  clear h0 h1
  refine Ev.rounds ?_
  unfold X.barscanlaw18_QrdataPacks.f
  refine Ev.bind (pack_ev l0_0 a0_1 a0_2 a0_3 a1 a2) (Ev.bind (refPack_ev l0_0 a0_1 a0_2 a0_3 a1 a2 hb hl) ?_)
  have hlen : (packR l0_0 a0_1 a0_2 a0_3 a1 a2).1.length ≤ 1000000 := by
    unfold packR
    repeat' split
    all_goals first | (simp; done) | (exact Nat.le_trans (padR_length _ _) (by omega))
  exact Ev.bind (same18_ev _ hlen) (ev_if rfl (ev_if rfl (ev_some (Ev.now _))))
end Go.Proofs.Ytjhhckkmogekkaa.Pure
