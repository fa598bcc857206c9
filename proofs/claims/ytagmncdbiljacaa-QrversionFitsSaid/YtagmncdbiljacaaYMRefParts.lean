/- The small functions of the reference of modes come to the same numbers. No condition. -/
import Derived.Test.YtagmncdbiljacaaYMIx
import Derived.Test.YtagmncdbiljacaaXx9
import Derived.Test.YtagmncdbiljacaaXx10
namespace Go.Proofs.Ytagmncdbiljacaa.X
open Go.RowKit Go.Proofs.YtagmncdbiljacaaW.PrintWords Go.Proofs.YtagmncdbiljacaaW.PrintLast Go.Proofs.YtagmncdbiljacaaW.PrintMore
set_option linter.unusedVariables false
set_option linter.unusedSimpArgs false

theorem ev_if {α : Type} {c : Prop} [Decidable c] {A B : Nat → Option α} {r : α} (hc : c) (h : Ev A r) : Ev (fun k => if c then A k else B k) r := by
  simpa only [if_pos hc] using h
theorem ev_else {α : Type} {c : Prop} [Decidable c] {A B : Nat → Option α} {r : α} (hc : ¬ c) (h : Ev B r) : Ev (fun k => if c then A k else B k) r := by
  simpa only [if_neg hc] using h
theorem ev_some {α β : Type} {a : α} {f : Nat → α → Option β} {r : β} (h : Ev (fun k => f k a) r) : Ev (fun k => (some a).bind (f k)) r := h
theorem ev_is {α β : Type} {o : Option α} {a : α} (ho : o = some a) {f : Nat → α → Option β} {r : β} (h : Ev (fun k => f k a) r) : Ev (fun k => o.bind (f k)) r := by rw [ho]; exact h
theorem ev_val {α : Type} {a r : α} (h : a = r) : Ev (fun _ => some a) r := by rw [h]; exact Ev.now r
theorem ev_eq {α : Type} {g : Nat → Option α} {a r : α} (h : Ev g a) (e : a = r) : Ev g r := e ▸ h
theorem ev_cond {α : Type} {c : Prop} [Decidable c] {A B : Nat → Option α} {r : α} (hp : c → Ev A r) (hn : ¬ c → Ev B r) : Ev (fun k => if c then A k else B k) r := by
  by_cases hc : c
  · exact ev_if hc (hp hc)
  · exact ev_else hc (hn hc)

theorem place_all : (List.range 256).all (fun n => barscanref16_place.f 46 (n : Int) == some (ixOf (n : Int))) = true := by kernel_rfl
theorem place_ev (c : Int) (h0 : 0 ≤ c) (h1 : c < 256) : Ev (fun k => barscanref16_place.f k c) (ixOf c) := by
  have h := List.all_eq_true.mp place_all c.toNat (by simp; omega)
  rw [show ((c.toNat : Nat) : Int) = c by omega] at h
  exact Ev.of (barscanref16_place.mono c) (eq_of_beq h)
theorem refFits_ev (m c : Int) (h0 : 0 ≤ c) (h1 : c < 256) : Ev (fun k => barscanref16_Fits.f k m c) (fitOf m c) := by
  unfold fitOf modes_Fits.f barscanref16_Fits.f strings_IndexByte.f
  refine ev_cond (fun e => ?_) (fun e => ?_)
  · rw [if_pos e]
    refine ev_cond (fun e => ?_) (fun e => ?_)
    · rw [if_pos e]; exact Ev.now _
    · rw [if_neg e]; exact Ev.now _
  · rw [if_neg e]
    refine ev_cond (fun e => ?_) (fun e => ?_)
    · rw [if_pos e]
      exact Ev.bind (place_ev c h0 h1) (Ev.now _)
    · rw [if_neg e]; exact Ev.now _
theorem known_is (m : Int) : barscanref16_known.f m = some (decide (m = 1 ∨ m = 2 ∨ m = 4)) := by
  unfold barscanref16_known.f
  by_cases h1 : m = 1
  · simp [h1]
  · by_cases h2 : m = 2
    · simp [h2]
    · rw [if_neg h1, if_neg h2]
      congr 1
      by_cases h4 : m = 4 <;> simp [h1, h2, h4]
theorem cbOf_known (m c : Int) : cbOf m c = 0 ↔ ¬ ((m = 1 ∨ m = 2 ∨ m = 4) ∧ 0 ≤ c ∧ c ≤ 2) := by
  unfold cbOf
  split
  · rename_i h
    split
    · simp [*]; omega
    · split
      · simp [*]; omega
      · split
        · split <;> simp [*]
        · simp [*]
  · rename_i h
    simp only [true_iff, not_and]
    intro _ h0 h2
    exact h ⟨h0, h2⟩
theorem refCount_ev (m c : Int) : Ev (fun k => barscanref16_CountBits.f k m c) (if cbOf m c = 0 then (0, 1) else (cbOf m c, 0)) := by
  unfold barscanref16_CountBits.f
  refine ev_is (known_is m) ?_
  by_cases hk : m = 1 ∨ m = 2 ∨ m = 4
  · refine ev_if (by simpa using hk) ?_
    by_cases hc : 0 ≤ c ∧ c ≤ 2
    · refine ev_else (by omega) ?_
      refine Ev.step (fun k => by rw [barscanref16_CountBits.j0]) ?_
      refine ev_else (by simp; omega) ?_
      have hne : ¬ cbOf m c = 0 := by rw [cbOf_known]; exact fun h => h ⟨hk, hc⟩
      rw [if_neg hne]
      obtain ⟨c0, c2⟩ := hc
      unfold cbOf
      rw [if_pos (show 0 ≤ c ∧ c ≤ 2 from ⟨c0, c2⟩)]
      refine ev_cond (fun e => ?_) (fun e1 => ?_)
      · rw [if_pos e]; refine ev_val ?_; congr 1; unfold wrap64; omega
      rw [if_neg e1]
      refine ev_cond (fun e => ?_) (fun e2 => ?_)
      · rw [if_pos e]; refine ev_val ?_; congr 1; unfold wrap64; omega
      rw [if_neg e2, if_pos (show m = 4 by omega)]
      refine ev_cond (fun e => ?_) (fun e3 => ?_)
      · rw [if_pos e]; exact Ev.now _
      · rw [if_neg e3]; exact Ev.now _
    · have he : cbOf m c = 0 := by rw [cbOf_known]; exact fun h => hc h.2
      rw [if_pos he]
      refine ev_cond (fun e => ?_) (fun e => ?_)
      · refine Ev.step (fun k => by rw [barscanref16_CountBits.j0]) ?_
        exact ev_if rfl (Ev.now _)
      · refine Ev.step (fun k => by rw [barscanref16_CountBits.j0]) ?_
        exact ev_if (by simp; omega) (Ev.now _)
  · have he : cbOf m c = 0 := by rw [cbOf_known]; exact fun h => hk h.1
    rw [if_pos he]
    refine ev_else (by simpa using hk) ?_
    refine Ev.step (fun k => by rw [barscanref16_CountBits.j0]) ?_
    exact ev_if rfl (Ev.now _)
theorem refData_is (m n : Int) (h0 : 0 ≤ n) (h1 : n ≤ 1000000000000000000) : barscanref16_Data.f m n = some (dbOf m n) := by
  unfold barscanref16_Data.f dbOf
  simp only [Int.tmod_eq_emod_of_nonneg h0, Int.tdiv_eq_ediv_of_nonneg h0]
  by_cases e1 : m = 1
  · rw [if_pos e1, if_pos e1]
    have a1 := wrap64_id (n / 3) (by omega) (by omega)
    have a2 := wrap64_id (n / 3 * 10) (by omega) (by omega)
    have a3 := wrap64_id (n % 3 * 3) (by omega) (by omega)
    have a4 := wrap64_id (n / 3 * 10 + n % 3 * 3) (by omega) (by omega)
    have a5 := wrap64_id (n % 3 + 1) (by omega) (by omega)
    rw [a1, a2, a3, a4, a5]
    simp only [Int.tdiv_eq_ediv_of_nonneg (show 0 ≤ n % 3 + 1 by omega)]
    have a6 := wrap64_id ((n % 3 + 1) / 2) (by omega) (by omega)
    rw [a6, wrap64_id _ (by omega) (by omega)]
    congr 1
    clear a1 a2 a3 a4 a5 a6
    split
    · omega
    · split <;> omega
  · rw [if_neg e1, if_neg e1]
    by_cases e2 : m = 2
    · rw [if_pos e2, if_pos e2]
      rw [wrap64_id (n / 2) (by omega) (by omega), wrap64_id (n / 2 * 11) (by omega) (by omega), wrap64_id (n % 2 * 6) (by omega) (by omega), wrap64_id _ (by omega) (by omega)]
      congr 1
      split <;> omega
    · rw [if_neg e2, if_neg e2, wrap64_id _ (by omega) (by omega), Int.mul_comm]
theorem shl_one (n : Nat) (h : n ≤ 16) : wrap64 ((shl .i64 1 (IntKind.u64.wrap (n : Int))) - 1) = 2 ^ n - 1 := by
  have : ∀ n : Fin 17, wrap64 ((shl .i64 1 (IntKind.u64.wrap ((n.val : Nat) : Int))) - 1) = 2 ^ n.val - 1 := by decide +kernel
  exact this ⟨n, by omega⟩
theorem refMost_ev (m c : Int) (h : cbOf m c ≠ 0) : Ev (fun k => barscanref16_most.f k m c) (2 ^ (cbOf m c).toNat - 1) := by
  unfold barscanref16_most.f
  have hr := cbOf_range m c
  have hc := refCount_ev m c
  rw [if_neg h] at hc
  refine Ev.bind hc ?_
  obtain ⟨n, hn⟩ : ∃ n : Nat, cbOf m c = n := ⟨(cbOf m c).toNat, by omega⟩
  show Ev (fun k => if 0 ≤ (IntKind.u64.wrap (cbOf m c)) then (some (wrap64 ((shl .i64 1 (IntKind.u64.wrap (cbOf m c))) - 1))) else (none)) _
  rw [hn, shl_one n (by omega)]
  refine ev_if ?_ (ev_val (by simp))
  show (0 : Int) ≤ (n : Int) % 18446744073709551616
  omega
theorem refSize_ev (m c n : Int) (h : cbOf m c ≠ 0) (h0 : 0 ≤ n) (h1 : n ≤ 1000000000) : Ev (fun k => barscanref16_size.f k m c n) (4 + cbOf m c + dbOf m n) := by
  unfold barscanref16_size.f
  have hr := cbOf_range m c
  have hd := dbOf_range m n h0
  have hc := refCount_ev m c
  rw [if_neg h] at hc
  refine Ev.bind hc ?_
  refine ev_is (refData_is m n h0 (by omega)) ?_
  refine ev_val ?_
  show wrap64 (wrap64 (4 + cbOf m c) + dbOf m n) = _
  rw [wrap64_id (4 + cbOf m c) (by omega) (by omega), wrap64_id _ (by omega) (by omega)]
end Go.Proofs.Ytagmncdbiljacaa.X
