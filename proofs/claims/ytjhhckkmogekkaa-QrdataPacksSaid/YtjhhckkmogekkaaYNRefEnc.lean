/- Joined by this session's own program (wip/mclaim.py): YMRefParts, YMOk, YQRef, YQPadRef, YMDecode, YNTrip, YNRefBits, YNRefEnc. No condition beyond each theorem's own hypotheses. -/
import Derived.Test.YtjhhckkmogekkaaXx36
import Derived.Test.YtjhhckkmogekkaaYMIx
import Derived.Test.YtjhhckkmogekkaaXx9
import Derived.Test.YtjhhckkmogekkaaYMBits
import Derived.Test.YtjhhckkmogekkaaYHeader
import Derived.Test.YtjhhckkmogekkaaYPad
import Derived.Test.YtjhhckkmogekkaaXx30
import Derived.Test.YtjhhckkmogekkaaXx25c
import Derived.Test.YtjhhckkmogekkaaYMSegment
import Derived.Test.YtjhhckkmogekkaaYMEncSpec
import Derived.Test.YtjhhckkmogekkaaYNRefT
namespace Go.Proofs.Ytjhhckkmogekkaa.X
open Go.RowKit Go.Proofs.YtjhhckkmogekkaaW.PrintWords Go.Proofs.YtjhhckkmogekkaaW.PrintLast Go.Proofs.YtjhhckkmogekkaaW.PrintMore
set_option linter.unusedVariables false
set_option linter.unusedSimpArgs false

theorem ev_if {α : Type} {c : Prop} [Decidable c] {A B : Nat → Option α} {r : α} (hc : c) (h : Ev A r) : Ev (fun k => if c then A k else B k) r := by
  simpa only [if_pos hc] using h
theorem ev_else {α : Type} {c : Prop} [Decidable c] {A B : Nat → Option α} {r : α} (hc : ¬ c) (h : Ev B r) : Ev (fun k => if c then A k else B k) r := by
  simpa only [if_neg hc] using h
theorem ev_some {α β : Type} {a : α} {f : Nat → α → Option β} {r : β} (h : Ev (fun k => f k a) r) : Ev (fun k => (some a).bind (f k)) r := h
theorem ev_is {α β : Type} {o : Option α} {a : α} (ho : o = some a) {f : Nat → α → Option β} {r : β} (h : Ev (fun k => f k a) r) : Ev (fun k => o.bind (f k)) r := by rw [ho]; exact h
theorem ev_val {α : Type} {a r : α} (h : a = r) : Ev (fun _ => some a) r := by rw [h]; exact Ev.now r
theorem ev_eq {α : Type} {g : Nat → Option α} {a r : α} (h : Ev g a) (e : a = r) : Ev g r := e ▸ h
theorem ev_cond {α : Type} {c : Prop} [Decidable c] {A B : Nat → Option α} {r : α} (hp : c → Ev A r) (hn : ¬ c → Ev B r) : Ev (fun k => if c then A k else B k) r := by
  by_cases hc : c
  · exact ev_if hc (hp hc)
  · exact ev_else hc (hn hc)

theorem place_all : (List.range 256).all (fun n => barscanref16_place.f 46 (n : Int) == some (ixOf (n : Int))) = true := by kernel_rfl
theorem place_ev (c : Int) (h0 : 0 ≤ c) (h1 : c < 256) : Ev (fun k => barscanref16_place.f k c) (ixOf c) := by
  have h := List.all_eq_true.mp place_all c.toNat (by simp; omega)
  rw [show ((c.toNat : Nat) : Int) = c by omega] at h
  exact Ev.of (barscanref16_place.mono c) (eq_of_beq h)
theorem refFits_ev (m c : Int) (h0 : 0 ≤ c) (h1 : c < 256) : Ev (fun k => barscanref16_Fits.f k m c) (fitOf m c) := by
  unfold fitOf modes_Fits.f barscanref16_Fits.f strings_IndexByte.f
  refine ev_cond (fun e => ?_) (fun e => ?_)
  · rw [if_pos e]
    refine ev_cond (fun e => ?_) (fun e => ?_)
    · rw [if_pos e]; exact Ev.now _
    · rw [if_neg e]; exact Ev.now _
  · rw [if_neg e]
    refine ev_cond (fun e => ?_) (fun e => ?_)
    · rw [if_pos e]
      exact Ev.bind (place_ev c h0 h1) (Ev.now _)
    · rw [if_neg e]; exact Ev.now _
theorem known_is (m : Int) : barscanref16_known.f m = some (decide (m = 1 ∨ m = 2 ∨ m = 4)) := by
  unfold barscanref16_known.f
  by_cases h1 : m = 1
  · simp [h1]
  · by_cases h2 : m = 2
    · simp [h2]
    · rw [if_neg h1, if_neg h2]
      congr 1
      by_cases h4 : m = 4 <;> simp [h1, h2, h4]
theorem cbOf_known (m c : Int) : cbOf m c = 0 ↔ ¬ ((m = 1 ∨ m = 2 ∨ m = 4) ∧ 0 ≤ c ∧ c ≤ 2) := by
  unfold cbOf
  split
  · rename_i h
    split
    · simp [*]; omega
    · split
      · simp [*]; omega
      · split
        · split <;> simp [*]
        · simp [*]
  · rename_i h
    simp only [true_iff, not_and]
    intro _ h0 h2
    exact h ⟨h0, h2⟩
theorem refCount_ev (m c : Int) : Ev (fun k => barscanref16_CountBits.f k m c) (if cbOf m c = 0 then (0, 1) else (cbOf m c, 0)) := by
  unfold barscanref16_CountBits.f
  refine ev_is (known_is m) ?_
  by_cases hk : m = 1 ∨ m = 2 ∨ m = 4
  · refine ev_if (by simpa using hk) ?_
    by_cases hc : 0 ≤ c ∧ c ≤ 2
    · refine ev_else (by omega) ?_
      refine Ev.step (fun k => by rw [barscanref16_CountBits.j0]) ?_
      refine ev_else (by simp; omega) ?_
      have hne : ¬ cbOf m c = 0 := by rw [cbOf_known]; exact fun h => h ⟨hk, hc⟩
      rw [if_neg hne]
      obtain ⟨c0, c2⟩ := hc
      unfold cbOf
      rw [if_pos (show 0 ≤ c ∧ c ≤ 2 from ⟨c0, c2⟩)]
      refine ev_cond (fun e => ?_) (fun e1 => ?_)
      · rw [if_pos e]; refine ev_val ?_; congr 1; unfold wrap64; omega
      rw [if_neg e1]
      refine ev_cond (fun e => ?_) (fun e2 => ?_)
      · rw [if_pos e]; refine ev_val ?_; congr 1; unfold wrap64; omega
      rw [if_neg e2, if_pos (show m = 4 by omega)]
      refine ev_cond (fun e => ?_) (fun e3 => ?_)
      · rw [if_pos e]; exact Ev.now _
      · rw [if_neg e3]; exact Ev.now _
    · have he : cbOf m c = 0 := by rw [cbOf_known]; exact fun h => hc h.2
      rw [if_pos he]
      refine ev_cond (fun e => ?_) (fun e => ?_)
      · refine Ev.step (fun k => by rw [barscanref16_CountBits.j0]) ?_
        exact ev_if rfl (Ev.now _)
      · refine Ev.step (fun k => by rw [barscanref16_CountBits.j0]) ?_
        exact ev_if (by simp; omega) (Ev.now _)
  · have he : cbOf m c = 0 := by rw [cbOf_known]; exact fun h => hk h.1
    rw [if_pos he]
    refine ev_else (by simpa using hk) ?_
    refine Ev.step (fun k => by rw [barscanref16_CountBits.j0]) ?_
    exact ev_if rfl (Ev.now _)
theorem refData_is (m n : Int) (h0 : 0 ≤ n) (h1 : n ≤ 1000000000000000000) : barscanref16_Data.f m n = some (dbOf m n) := by
  unfold barscanref16_Data.f dbOf
  simp only [Int.tmod_eq_emod_of_nonneg h0, Int.tdiv_eq_ediv_of_nonneg h0]
  by_cases e1 : m = 1
  · rw [if_pos e1, if_pos e1]
    have a1 := wrap64_id (n / 3) (by omega) (by omega)
    have a2 := wrap64_id (n / 3 * 10) (by omega) (by omega)
    have a3 := wrap64_id (n % 3 * 3) (by omega) (by omega)
    have a4 := wrap64_id (n / 3 * 10 + n % 3 * 3) (by omega) (by omega)
    have a5 := wrap64_id (n % 3 + 1) (by omega) (by omega)
    rw [a1, a2, a3, a4, a5]
    simp only [Int.tdiv_eq_ediv_of_nonneg (show 0 ≤ n % 3 + 1 by omega)]
    have a6 := wrap64_id ((n % 3 + 1) / 2) (by omega) (by omega)
    rw [a6, wrap64_id _ (by omega) (by omega)]
    congr 1
    clear a1 a2 a3 a4 a5 a6
    split
    · omega
    · split <;> omega
  · rw [if_neg e1, if_neg e1]
    by_cases e2 : m = 2
    · rw [if_pos e2, if_pos e2]
      rw [wrap64_id (n / 2) (by omega) (by omega), wrap64_id (n / 2 * 11) (by omega) (by omega), wrap64_id (n % 2 * 6) (by omega) (by omega), wrap64_id _ (by omega) (by omega)]
      congr 1
      split <;> omega
    · rw [if_neg e2, if_neg e2, wrap64_id _ (by omega) (by omega), Int.mul_comm]
theorem shl_one (n : Nat) (h : n ≤ 16) : wrap64 ((shl .i64 1 (IntKind.u64.wrap (n : Int))) - 1) = 2 ^ n - 1 := by
  have : ∀ n : Fin 17, wrap64 ((shl .i64 1 (IntKind.u64.wrap ((n.val : Nat) : Int))) - 1) = 2 ^ n.val - 1 := by decide +kernel
  exact this ⟨n, by omega⟩
theorem refMost_ev (m c : Int) (h : cbOf m c ≠ 0) : Ev (fun k => barscanref16_most.f k m c) (2 ^ (cbOf m c).toNat - 1) := by
  unfold barscanref16_most.f
  have hr := cbOf_range m c
  have hc := refCount_ev m c
  rw [if_neg h] at hc
  refine Ev.bind hc ?_
  obtain ⟨n, hn⟩ : ∃ n : Nat, cbOf m c = n := ⟨(cbOf m c).toNat, by omega⟩
  show Ev (fun k => if 0 ≤ (IntKind.u64.wrap (cbOf m c)) then (some (wrap64 ((shl .i64 1 (IntKind.u64.wrap (cbOf m c))) - 1))) else (none)) _
  rw [hn, shl_one n (by omega)]
  refine ev_if ?_ (ev_val (by simp))
  show (0 : Int) ≤ (n : Int) % 18446744073709551616
  omega
theorem refSize_ev (m c n : Int) (h : cbOf m c ≠ 0) (h0 : 0 ≤ n) (h1 : n ≤ 1000000000) : Ev (fun k => barscanref16_size.f k m c n) (4 + cbOf m c + dbOf m n) := by
  unfold barscanref16_size.f
  have hr := cbOf_range m c
  have hd := dbOf_range m n h0
  have hc := refCount_ev m c
  rw [if_neg h] at hc
  refine Ev.bind hc ?_
  refine ev_is (refData_is m n h0 (by omega)) ?_
  refine ev_val ?_
  show wrap64 (wrap64 (4 + cbOf m c) + dbOf m n) = _
  rw [wrap64_id (4 + cbOf m c) (by omega) (by omega), wrap64_id _ (by omega) (by omega)]
end Go.Proofs.Ytjhhckkmogekkaa.X

namespace Go.Proofs.Ytjhhckkmogekkaa.X
open Go.RowKit Go.Proofs.YtjhhckkmogekkaaW.PrintWords Go.Proofs.YtjhhckkmogekkaaW.PrintLast Go.Proofs.YtjhhckkmogekkaaW.PrintMore
set_option linter.unusedVariables false
set_option linter.unusedSimpArgs false

theorem cb_mode {cls m : Int} (hc : 0 ≤ cls ∧ cls ≤ 2) (hm : m = 1 ∨ m = 2 ∨ m = 4) : 8 ≤ cbOf m cls ∧ cbOf m cls ≤ 16 := by
  unfold cbOf
  rw [if_pos hc]
  rcases hm with rfl | rfl | rfl
  · simp; omega
  · simp; omega
  · simp; split <;> omega
theorem w_is {a b : Int} (h : a = b) (h0 : -1000000000000 ≤ b) (h1 : b ≤ 1000000000000) : wrap64 a = b := by
  subst h
  exact wrap64_id _ (by omega) (by omega)
def okSeg (cls : Int) (s : S59) : Prop := (s.f0 = 1 ∨ s.f0 = 2 ∨ s.f0 = 4) ∧ s.f1.length ≤ 2 ^ (cbOf s.f0 cls).toNat - 1 ∧ ∀ x ∈ s.f1, fitOf s.f0 x = true
def okSegs (cls : Int) (l : List S59) : Prop := ∀ s ∈ l, okSeg cls s
theorem okSegs_cons {cls : Int} {s : S59} {l : List S59} : okSegs cls (s :: l) ↔ okSeg cls s ∧ okSegs cls l := by
  simp [okSegs]
theorem okSeg_facts {cls : Int} (hc : 0 ≤ cls ∧ cls ≤ 2) {s : S59} (h : okSeg cls s) : badMode cls s = false ∧ tooLong cls s = false ∧ badChar s = false := by
  obtain ⟨hm, hl, hf⟩ := h
  have hcb := cb_mode hc hm
  have hp := Nat.one_le_two_pow (n := (cbOf s.f0 cls).toNat)
  refine ⟨decide_eq_false (by omega), decide_eq_false (by omega), ?_⟩
  unfold badChar
  rw [List.any_eq_false]
  intro x hx
  simp [hf x hx]
theorem okSegs_bits {cls : Int} (hc : 0 ≤ cls ∧ cls ≤ 2) {l : List S59} (h : okSegs cls l) (hl : l.length ≤ 4096) (hs : sumBits cls l ≤ 1048576) : mbits l cls = (sumBits cls l, 0) := by
  have h1 : l.any (badMode cls) = false := by rw [List.any_eq_false]; intro x hx; simp [(okSeg_facts hc (h x hx)).1]
  have h2 : l.any (tooLong cls) = false := by rw [List.any_eq_false]; intro x hx; simp [(okSeg_facts hc (h x hx)).2.1]
  have h3 : l.any badChar = false := by rw [List.any_eq_false]; intro x hx; simp [(okSeg_facts hc (h x hx)).2.2]
  unfold mbits
  rw [if_neg (by simp [h1]; omega), if_neg (by simp [h2]; omega), if_neg (by simp [h3]), if_neg (by omega)]
theorem bits_okSegs {cls : Int} {l : List S59} (h : (mbits l cls).2 = 0) : (0 ≤ cls ∧ cls ≤ 2) ∧ okSegs cls l ∧ l.length ≤ 4096 ∧ mbits l cls = (sumBits cls l, 0) := by
  have key : (0 ≤ cls ∧ cls ≤ 2) ∧ l.any (badMode cls) = false ∧ l.length ≤ 4096 ∧ l.any (tooLong cls) = false ∧ l.any badChar = false ∧ mbits l cls = (sumBits cls l, 0) := by
    unfold mbits at h ⊢
    split at h
    · simp at h
    · rename_i h1
      split at h
      · simp at h
      · rename_i h2
        split at h
        · simp at h
        · rename_i h3
          split at h
          · simp at h
          · rename_i h4
            rw [if_neg h1, if_neg h2, if_neg h3, if_neg h4]
            simp only [not_or] at h1 h2
            exact ⟨by omega, by simpa using h1.2.2, by omega, by simpa using h2.2, by simpa using h3, rfl⟩
  obtain ⟨hc, h1, h4, h2, h3, h5⟩ := key
  refine ⟨hc, fun s hs => ?_, h4, h5⟩
  have h1 := List.any_eq_false.mp h1 s hs
  have h2 := List.any_eq_false.mp h2 s hs
  have h3 := List.any_eq_false.mp h3 s hs
  have h1' : ¬ cbOf s.f0 cls = 0 := by simpa [badMode] using h1
  have h2' : s.f1.length < 2 ^ (cbOf s.f0 cls).toNat := by simpa [tooLong] using h2
  refine ⟨?_, by omega, ?_⟩
  · by_cases e : s.f0 = 1 ∨ s.f0 = 2 ∨ s.f0 = 4
    · exact e
    · exact absurd ((cbOf_known s.f0 cls).mpr (fun h => e h.1)) h1'
  · intro x hx
    unfold badChar at h3
    have := List.any_eq_false.mp (show s.f1.any (fun x => !fitOf s.f0 x) = false by simpa using h3) x hx
    simpa using this
end Go.Proofs.Ytjhhckkmogekkaa.X

namespace Go.Proofs.Ytjhhckkmogekkaa.X
open Go.RowKit Go.Proofs.YtjhhckkmogekkaaW.PrintWords Go.Proofs.YtjhhckkmogekkaaW.PrintLast Go.Proofs.YtjhhckkmogekkaaW.PrintMore
set_option linter.unusedVariables false
set_option linter.unusedSimpArgs false

theorem number18_ev (v : Int) (h0 : 0 ≤ v) (h1 : v ≤ 1000000000) (n : Nat) (hn : n ≤ 62) : Ev (fun k => barscanref18_number.f k v n) (low v n) := by
  have key : ∀ (d j : Nat), j + d = n → Ev (fun k => barscanref18_number.l0 k (v / 2 ^ j) (List.replicate d false ++ low v j) ((d : Int) - 1)) (low v n) := by
    intro d
    induction d with
    | zero =>
      intro j hj
      obtain rfl : j = n := by omega
      refine Ev.step (fun k => by rw [barscanref18_number.l0]) ?_
      exact ev_else (by omega) (ev_val (by simp))
    | succ d ih =>
      intro j hj
      have ih := ih (j + 1) (by omega)
      have hp : (0 : Int) < 2 ^ j := Int.pow_pos (by decide)
      have hv0 : 0 ≤ v / 2 ^ j := Int.ediv_nonneg h0 (by omega)
      have hv1 : v / 2 ^ j ≤ v := Int.ediv_le_self _ h0
      have e1 : (((d + 1 : Nat) : Int) - 1) = (d : Int) := by omega
      have e2 : wrap64 (Int.tdiv (v / 2 ^ j) 2) = v / 2 ^ (j + 1) := by
        rw [Int.tdiv_eq_ediv_of_nonneg hv0, Int.ediv_ediv_of_nonneg (by omega), ← Int.pow_succ]
        have hp2 : (0 : Int) < 2 ^ (j + 1) := Int.pow_pos (by decide)
        have a := Int.ediv_nonneg h0 (show (0 : Int) ≤ 2 ^ (j + 1) by omega)
        have b := Int.ediv_le_self (2 ^ (j + 1)) h0
        exact w_is rfl (by omega) (by omega)
      have e3 : (Int.tmod (v / 2 ^ j) 2 == 1) = bitOf v j := by
        rw [Int.tmod_eq_emod_of_nonneg hv0]
        unfold bitOf
        by_cases e : v / 2 ^ j % 2 = 1
        · rw [e]; rfl
        · rw [decide_eq_false e]; exact beq_eq_false_iff_ne.mpr e
      have e4 : (List.replicate (d + 1) false ++ low v j).set ((d : Int)).toNat (bitOf v j) = List.replicate d false ++ low v (j + 1) := by
        rw [show ((d : Int)).toNat = d by omega, List.replicate_succ', List.append_assoc, List.set_append_right _ _ (by rw [List.length_replicate]; exact Nat.le_refl _), List.length_replicate, Nat.sub_self]
        rfl
      refine Ev.step (fun k => by rw [barscanref18_number.l0]) ?_
      rw [e1, e2, e3, e4]
      clear e2 e3 e4
      refine ev_if (by omega) (ev_if (by omega) (ev_if (by rw [List.length_append, List.length_replicate]; omega) ?_))
      rw [show wrap64 ((d : Int) - 1) = (d : Int) - 1 from w_is rfl (by omega) (by omega)]
      exact ih
  unfold barscanref18_number.f
  refine ev_if (by omega) (ev_if (by rw [Int.toNat_natCast]; omega) ?_)
  rw [Int.toNat_natCast, show wrap64 ((n : Int) - 1) = (n : Int) - 1 from w_is rfl (by omega) (by omega)]
  have h := key n 0 (by omega)
  simp only [Int.pow_zero, Int.ediv_one] at h
  have hl : low v 0 = [] := rfl
  rw [hl, List.append_nil] at h
  exact h
theorem refHeader18_ev (i t p : Int) : Ev (fun k => barscanref18_Header.f k i t p) (headR i t p) := by
  have zero : t = 0 ∧ i = 0 ∧ p = 0 → ∀ b, b = true → Ev (fun k => barscanref18_Header.j0 k b i t p) (headR i t p) := by
    intro h b hb
    refine Ev.step (fun k => by rw [barscanref18_Header.j0]) ?_
    refine ev_if hb (ev_val ?_)
    unfold headR
    rw [if_pos ⟨h.2.1, h.1, h.2.2⟩]
  have other : ¬ (i = 0 ∧ t = 0 ∧ p = 0) → ∀ b, b = false → Ev (fun k => barscanref18_Header.j0 k b i t p) (headR i t p) := by
    intro h b hb
    have bad : (t < 2 ∨ 16 < t ∨ i < 0 ∨ t ≤ i ∨ p < 0 ∨ 255 < p) → ∀ c, c = true → Ev (fun k => barscanref18_Header.j1 k c i t p) (headR i t p) := by
      intro h2 c hc
      refine Ev.step (fun k => by rw [barscanref18_Header.j1]) ?_
      refine ev_if hc (ev_val ?_)
      unfold headR
      rw [if_neg h, if_pos h2]
    refine Ev.step (fun k => by rw [barscanref18_Header.j0]) ?_
    refine ev_else (by rw [hb]; decide) ?_
    refine ev_cond (fun e => bad (.inl e) _ rfl) (fun e0 => ?_)
    refine ev_cond (fun e => bad (.inr (.inl e)) _ rfl) (fun e1 => ?_)
    refine ev_cond (fun e => bad (.inr (.inr (.inl e))) _ rfl) (fun e2 => ?_)
    refine ev_cond (fun e => bad (.inr (.inr (.inr (.inl e)))) _ rfl) (fun e3 => ?_)
    refine ev_cond (fun e => bad (.inr (.inr (.inr (.inr (.inl e))))) _ rfl) (fun e4 => ?_)
    by_cases e5 : 255 < p
    · exact bad (.inr (.inr (.inr (.inr (.inr e5))))) _ (decide_eq_true e5)
    refine Ev.step (fun k => by rw [barscanref18_Header.j1]) ?_
    have q1 := number18_ev 3 (by decide) (by decide) 4 (by decide)
    have q2 := number18_ev i (by omega) (by omega) 4 (by decide)
    have q3 := number18_ev (t - 1) (by omega) (by omega) 4 (by decide)
    have q4 := number18_ev p (by omega) (by omega) 8 (by decide)
    have hw : wrap64 (t - 1) = t - 1 := w_is rfl (by omega) (by omega)
    rw [hw]
    clear hw
    refine ev_else (by rw [decide_eq_false e5]; decide) (Ev.bind q1 (Ev.bind q2 (ev_if (by simp only [low_length]; omega) (ev_some (Ev.bind q3 (ev_if (by simp only [List.length_append, low_length]; omega) (ev_some (Ev.bind q4 (ev_if (by simp only [List.length_append, low_length]; omega) (ev_val ?_))))))))))
    unfold headR
    rw [if_neg h, if_neg (by omega)]
    rfl
  unfold barscanref18_Header.f
  refine ev_cond (fun e => ?_) (fun e => other (fun h => e h.2.1) _ rfl)
  refine ev_cond (fun e2 => ?_) (fun e2 => other (fun h => e2 h.1) _ rfl)
  by_cases e3 : p = 0
  · exact zero ⟨e, e2, e3⟩ _ (by simp [e3])
  · exact other (fun h => e3 h.2.2) _ (by simp [e3])
theorem headR_length (i t p : Int) : (headR i t p).1.length ≤ 20 := by
  unfold headR
  split
  · simp
  split
  · simp
  · exact Nat.le_of_eq (headBits_length i t p)
end Go.Proofs.Ytjhhckkmogekkaa.X

namespace Go.Proofs.Ytjhhckkmogekkaa.X
open Go.RowKit Go.Proofs.YtjhhckkmogekkaaW.PrintWords Go.Proofs.YtjhhckkmogekkaaW.PrintLast Go.Proofs.YtjhhckkmogekkaaW.PrintMore
set_option linter.unusedVariables false
set_option linter.unusedSimpArgs false

theorem low_zero : ∀ n : Nat, low 0 n = List.replicate n false
  | 0 => rfl
  | n + 1 => by
    have hb : bitOf 0 n = false := by unfold bitOf; rw [Int.zero_ediv]; rfl
    rw [List.replicate_succ, ← low_zero n]
    show bitOf 0 n :: low 0 n = false :: low 0 n
    rw [hb]
theorem value18_ev (b : List Bool) (hb : b.length ≤ 62) : Ev (fun k => barscanref18_value.f k b) (gval b) := by
  have key : ∀ (d i : Nat), i + d = b.length → Ev (fun k => barscanref18_value.l0 k b (gval (b.take i)) (i : Int)) (gval b) := by
    intro d
    induction d with
    | zero =>
      intro i hi
      rw [List.take_of_length_le (by omega)]
      refine Ev.step (fun k => by rw [barscanref18_value.l0]) ?_
      exact ev_else (by omega) (Ev.now _)
    | succ d ih =>
      intro i hi
      have hlt : i < b.length := by omega
      have ih := ih (i + 1) (by omega)
      have h1 : gval (b.take (i + 1)) = 2 * gval (b.take i) + if b[i] then 1 else 0 := by rw [List.take_succ_eq_append_getElem hlt, gval_snoc]
      have h2 := gval_small (b := b.take i) (by rw [List.length_take]; omega)
      have h3 := gval_small (b := b.take (i + 1)) (by rw [List.length_take]; omega)
      have hr : rdOf false b (i : Int) = b[i] := by simp [rdOf, List.getElem?_eq_getElem hlt]
      have hw : wrap64 ((i : Int) + 1) = ((i + 1 : Nat) : Int) := w_is (by omega) (by omega) (by omega)
      refine Ev.step (fun k => by rw [barscanref18_value.l0]) ?_
      rw [hr, hw]
      clear hw
      refine ev_if (by omega) (ev_if (by omega) ?_)
      cases hx : b[i] with
      | true =>
        rw [hx] at h1
        simp only [if_true] at h1
        refine ev_if rfl ?_
        rw [w64 (n := 2 * gval (b.take i)) (by omega), w64 (by omega), ← h1]
        exact ih
      | false =>
        rw [hx] at h1
        simp only [Bool.false_eq_true, if_false, Int.add_zero] at h1
        refine ev_else (by decide) ?_
        rw [w64 (by omega), ← h1]
        exact ih
  unfold barscanref18_value.f
  exact key b.length 0 (by omega)
theorem altW_next (i : Nat) : wrap64 (253 - altW i) = altW (i + 1) := by
  rcases (show i % 2 = 0 ∨ i % 2 = 1 by omega) with h | h
  · have e1 : altW i = 236 := by unfold altW; rw [if_pos h]
    have e2 : altW (i + 1) = 17 := by unfold altW; rw [if_neg (by omega)]
    rw [e1, e2]; decide +kernel
  · have e1 : altW i = 17 := by unfold altW; rw [if_neg (by omega)]
    have e2 : altW (i + 1) = 236 := by unfold altW; rw [if_pos (by omega)]
    rw [e1, e2]; decide +kernel
section
variable (n : Int) (hn0 : 0 ≤ n) (hn1 : n ≤ 4096)
theorem pad_l3 (hn0 : 0 ≤ n) (hn1 : n ≤ 4096) (W : List Int) (hW : W.length ≤ n.toNat) : ∀ (d i : Nat), i + d = n.toNat - W.length → Ev (fun k => barscanref18_Pad.l3 k n (W ++ (List.range i).map altW) (altW i)) (W ++ (List.range (n.toNat - W.length)).map altW, 0) := by
  intro d
  induction d with
  | zero =>
    intro i hi
    refine Ev.step (fun k => by rw [barscanref18_Pad.l3]) ?_
    refine ev_else (by simp only [List.length_append, List.length_map, List.length_range]; omega) (ev_val ?_)
    rw [show i = n.toNat - W.length by omega]
  | succ d ih =>
    intro i hi
    have ih := ih (i + 1) (by omega)
    rw [List.range_succ, List.map_append, ← List.append_assoc] at ih
    refine Ev.step (fun k => by rw [barscanref18_Pad.l3]) ?_
    refine ev_if (by simp only [List.length_append, List.length_map, List.length_range]; omega) (ev_if (by simp only [List.length_append, List.length_map, List.length_range]; omega) ?_)
    rw [altW_next]
    exact ih
theorem pad_l2 (hn0 : 0 ≤ n) (hn1 : n ≤ 4096) (pb : List Bool) (hp : pb.length ≤ 40000) (q : Nat) (hq : pb.length = 8 * q) (hqn : q ≤ n.toNat) (r : List Int × Int) (hr : Ev (fun k => barscanref18_Pad.l3 k n (words 8 false pb) 236) r) : ∀ (d j : Nat), j + d = q → Ev (fun k => barscanref18_Pad.l2 k n pb ((List.range j).map (fun j => gnum 8 false (gchunk 8 pb (j * 8)))) ((8 * j : Nat) : Int)) r := by
  have hwl : (pb.length + 8 - 1) / 8 = q := by omega
  intro d
  induction d with
  | zero =>
    intro j hj
    refine Ev.step (fun k => by rw [barscanref18_Pad.l2]) ?_
    refine ev_else (by omega) ?_
    unfold words at hr
    rw [hwl] at hr
    rw [show j = q by omega]
    exact hr
  | succ d ih =>
    intro j hj
    have ih := ih (j + 1) (by omega)
    have hch : (pb.take (((8 * j + 8 : Nat) : Int)).toNat).drop (((8 * j : Nat) : Int)).toNat = gchunk 8 pb (j * 8) := by
      rw [Int.toNat_natCast, Int.toNat_natCast, List.drop_take]
      unfold gchunk
      rw [show 8 * j + 8 - 8 * j = 8 by omega, Nat.mul_comm]
    have hcl : (gchunk 8 pb (j * 8)).length = 8 := by unfold gchunk; rw [List.length_take, List.length_drop]; omega
    have hv := value18_ev (gchunk 8 pb (j * 8)) (by omega)
    have hgn : gnum 8 false (gchunk 8 pb (j * 8)) = gval (gchunk 8 pb (j * 8)) := by
      unfold gnum
      rw [hcl]
      simp
    have hw : wrap64 (((8 * j : Nat) : Int) + 8) = ((8 * j + 8 : Nat) : Int) := w_is (by omega) (by omega) (by omega)
    refine Ev.step (fun k => by rw [barscanref18_Pad.l2]) ?_
    rw [hw, hch]
    clear hw
    refine ev_if (by omega) (ev_if (by omega) (ev_if (by omega) (ev_if (by omega) (Ev.bind hv (ev_if (by simp only [List.length_map, List.length_range]; omega) ?_)))))
    rw [List.range_succ, List.map_append] at ih
    simp only [List.map_cons, List.map_nil, hgn] at ih
    rw [show 8 * (j + 1) = 8 * j + 8 by omega] at ih
    exact ih
theorem pad_l1 (hn0 : 0 ≤ n) (hn1 : n ≤ 4096) (L : List Bool) (hL : L.length ≤ 33000) (r : List Int × Int) (hr : Ev (fun k => barscanref18_Pad.l2 k n (L ++ List.replicate (padQ L.length) false) [] 0) r) : ∀ (d i : Nat), i + d = padQ L.length → Ev (fun k => barscanref18_Pad.l1 k n (L ++ List.replicate i false)) r := by
  have hq : padQ L.length = (8 - L.length % 8) % 8 := rfl
  intro d
  induction d with
  | zero =>
    intro i hi
    refine Ev.step (fun k => by rw [barscanref18_Pad.l1]) ?_
    refine ev_if (by rw [List.length_append, List.length_replicate]; omega) ?_
    rw [show i = padQ L.length by omega]
    exact hr
  | succ d ih =>
    intro i hi
    have ih := ih (i + 1) (by omega)
    rw [List.replicate_succ', ← List.append_assoc] at ih
    refine Ev.step (fun k => by rw [barscanref18_Pad.l1]) ?_
    exact ev_else (by rw [List.length_append, List.length_replicate]; omega) (ev_if (by rw [List.length_append, List.length_replicate]; omega) ih)
theorem pad_l0 (hn0 : 0 ≤ n) (hn1 : n ≤ 4096) (l : List Bool) (hl : (l.length : Int) ≤ 8 * n) (r : List Int × Int) (hr : Ev (fun k => barscanref18_Pad.l1 k n (l ++ List.replicate (padM l n) false)) r) : ∀ (d i : Nat), i + d = padM l n → Ev (fun k => barscanref18_Pad.l0 k n (l ++ List.replicate i false) (i : Int)) r := by
  have hm : padM l n = min 4 (8 * n.toNat - l.length) := rfl
  have hj : Ev (fun k => barscanref18_Pad.j2 k n (l ++ List.replicate (padM l n) false)) r := Ev.step (fun k => by rw [barscanref18_Pad.j2]) hr
  intro d
  induction d with
  | zero =>
    intro i hi
    obtain rfl : i = padM l n := by omega
    refine Ev.step (fun k => by rw [barscanref18_Pad.l0]) ?_
    rw [show wrap64 (8 * n) = 8 * n from w_is rfl (by omega) (by omega)]
    refine ev_cond (fun e => ev_else ?_ hj) (fun _ => hj)
    rw [List.length_append, List.length_replicate]
    omega
  | succ d ih =>
    intro i hi
    have ih := ih (i + 1) (by omega)
    rw [List.replicate_succ', ← List.append_assoc] at ih
    refine Ev.step (fun k => by rw [barscanref18_Pad.l0]) ?_
    rw [show wrap64 (8 * n) = 8 * n from w_is rfl (by omega) (by omega), show wrap64 ((i : Int) + 1) = ((i + 1 : Nat) : Int) from w_is (by omega) (by omega) (by omega)]
    exact ev_if (by omega) (ev_if (by rw [List.length_append, List.length_replicate]; omega) (ev_if (by rw [List.length_append, List.length_replicate]; omega) ih))
end
theorem refPad_ev (l : List Bool) (n : Int) : Ev (fun k => barscanref18_Pad.f k l n) (padR l n) := by
  unfold barscanref18_Pad.f
  have bad : (n < 0 ∨ 4096 < n) → ∀ b, b = true → Ev (fun k => barscanref18_Pad.j0 k l n b) (padR l n) := by
    intro h b hb
    refine Ev.step (fun k => by rw [barscanref18_Pad.j0]) ?_
    refine ev_if hb (ev_val ?_)
    unfold padR
    rw [if_pos h]
  refine ev_cond (fun e => bad (.inl e) _ rfl) (fun e => ?_)
  by_cases e2 : 4096 < n
  · exact bad (.inr e2) _ (decide_eq_true e2)
  refine Ev.step (fun k => by rw [barscanref18_Pad.j0]) ?_
  rw [show wrap64 (8 * n) = 8 * n from w_is rfl (by omega) (by omega)]
  refine ev_else (by rw [decide_eq_false e2]; decide) ?_
  unfold padR
  rw [if_neg (by omega)]
  refine ev_cond (fun e3 => ?_) (fun e3 => ?_)
  · rw [if_pos (by omega)]; exact Ev.now _
  rw [if_neg (by omega)]
  refine ev_some (ev_if (by simp only [List.length_nil]; omega) ?_)
  rw [List.nil_append]
  have hpl := padWords_length l n (by omega)
  have hbl := padBits_length l n
  have hm4 : padM l n ≤ 4 := by unfold padM; omega
  have hpb : padBits l n = (l ++ List.replicate (padM l n) false) ++ List.replicate (padQ (l ++ List.replicate (padM l n) false).length) false := by
    unfold padBits
    rw [low_zero, low_zero]
  have hq : (padBits l n).length = 8 * ((padBits l n).length / 8) := by
    rw [hbl]
    unfold padQ
    omega
  rw [words_length] at hpl
  have hW : (words 8 false (padBits l n)).length ≤ n.toNat := by rw [words_length]; exact hpl
  have h3 := pad_l3 n (by omega) (by omega) (words 8 false (padBits l n)) hW (n.toNat - (words 8 false (padBits l n)).length) 0 (by omega)
  simp only [List.range_zero, List.map_nil, List.append_nil] at h3
  have hle : (padBits l n).length ≤ 40000 := by rw [hbl]; unfold padQ; omega
  have h2 := pad_l2 n (by omega) (by omega) (padBits l n) hle ((padBits l n).length / 8) hq (by omega) _ h3 ((padBits l n).length / 8) 0 (by omega)
  simp only [List.range_zero, List.map_nil] at h2
  rw [hpb] at h2
  have h1 := pad_l1 n (by omega) (by omega) (l ++ List.replicate (padM l n) false) (by rw [List.length_append, List.length_replicate]; omega) _ h2 (padQ (l ++ List.replicate (padM l n) false).length) 0 (by omega)
  rw [List.replicate_zero, List.append_nil] at h1
  have h0 := pad_l0 n (by omega) (by omega) l (by omega) _ h1 (padM l n) 0 (by omega)
  rw [List.replicate_zero, List.append_nil] at h0
  have : padW l n = words 8 false (padBits l n) ++ (List.range (n.toNat - (words 8 false (padBits l n)).length)).map altW := rfl
  rw [this, hpb]
  exact h0
theorem padW_length (l : List Bool) (n : Int) (h : (l.length : Int) ≤ 8 * n) : (padW l n).length = n.toNat := by
  have := padWords_length l n h
  unfold padW
  rw [List.length_append, List.length_map, List.length_range]
  omega
theorem same18_ev (l : List Int) (hl : l.length ≤ 1000000) : Ev (fun k => barscanlaw18_same.f k l l) true := by
  have key : ∀ (d i : Nat), i + d = l.length → Ev (fun k => barscanref18_Equal.l0 k l l (i : Int)) true := by
    intro d
    induction d with
    | zero =>
      intro i hi
      refine Ev.step (fun k => by rw [barscanref18_Equal.l0]) ?_
      exact ev_else (by omega) (Ev.now _)
    | succ d ih =>
      intro i hi
      have ih := ih (i + 1) (by omega)
      refine Ev.step (fun k => by rw [barscanref18_Equal.l0]) ?_
      refine ev_if (by omega) (ev_if (by omega) (ev_if (by omega) (ev_if rfl ?_)))
      rw [show wrap64 ((i : Int) + 1) = ((i + 1 : Nat) : Int) from w_is (by omega) (by omega) (by omega)]
      exact ih
  unfold barscanlaw18_same.f barscanref18_Equal.f
  exact Ev.bind (ev_if rfl (key l.length 0 (by omega))) (Ev.now _)
theorem padR_length (l : List Bool) (n : Int) : (padR l n).1.length ≤ 4096 := by
  unfold padR
  split
  · simp
  split
  · simp
  · rename_i h1 h2
    show (padW l n).length ≤ 4096
    rw [padW_length l n (by omega)]
    omega
end Go.Proofs.Ytjhhckkmogekkaa.X

namespace Go.Proofs.Ytjhhckkmogekkaa.X
open Go.RowKit Go.Shelf Go.Proofs.YtjhhckkmogekkaaW.PrintWords Go.Proofs.YtjhhckkmogekkaaW.PrintLast Go.Proofs.YtjhhckkmogekkaaW.PrintMore
set_option linter.unusedVariables false
set_option linter.unusedSimpArgs false

theorem rdD_len (m : Int) : ∀ (f n : Nat) (l : List Bool) (acc : List Int) (x : List Int × List Bool), rdD m f n l acc = some x → x.2.length ≤ l.length
  | 0, n, l, acc, x, h => by simp [rdD] at h
  | f + 1, n, l, acc, x, h => by
    unfold rdD at h
    split at h
    · obtain rfl := Option.some.inj h; exact Nat.le_refl _
    · dsimp only at h
      split at h
      · have := rdD_len m f _ _ _ x h
        rw [List.length_drop] at this
        omega
      · cases h
theorem segD_len (cls m : Int) (l : List Bool) (x : List Int × List Bool) (h : segD cls m l = .ok x) : x.2.length ≤ l.length := by
  unfold segD rdEnd at h
  split at h
  · cases h
  split at h
  · cases h
  split at h
  · cases h
  · rename_i y hy
    injection h with h
    subst h
    have := rdD_len m _ _ _ _ _ hy
    rw [List.length_drop] at this
    omega
theorem decD_fuel (cls : Int) : ∀ (f : Nat) (l : List Bool) (out : List S59), l.length < f → ∀ f', l.length < f' → decD cls f l out = decD cls f' l out
  | 0, l, out, h, _, _ => by omega
  | f + 1, l, out, h, f', h' => by
    obtain ⟨f', rfl⟩ : ∃ x, f' = x + 1 := ⟨f' - 1, by omega⟩
    unfold decD
    split
    · rfl
    split
    · rfl
    split
    · rfl
    split
    · rfl
    split
    · rename_i e he; rfl
    · rename_i x hx
      have hl := segD_len _ _ _ _ hx
      rw [List.length_drop] at hl
      exact decD_fuel cls f x.2 _ (by omega) f' (by omega)

/-- How many bits a reader has left, told off the world. -/
def rdLen (W : World) (g : Nat) : Nat := match W.cell? ⟨g, 0, none⟩ with
  | some (.slice _ n _) => n
  | _ => 0
theorem rdLen_is {W : World} {b g : Nat} {l : List Bool} (h : IsRd W b g l) : rdLen W g = l.length := by
  obtain ⟨A, c, hh, _, _⟩ := h
  unfold rdLen
  rw [(cells_at hh).1]

set_option maxHeartbeats 4000000 in
set_option maxRecDepth 100000 in
theorem decode_bad (A0 : Option Addr) (c0 : Nat) (l0 : List Bool) (cls : Int) (w : World) (h : (cls < 0 ∨ 2 < cls) ∨ 1048576 < l0.length) :
    Calls Try.prog 26 #[.slice A0 l0.length c0, .int .i64 cls] w fun e w' => e = .returned (.tuple #[.slice none 0 0, .int .i64 (decR l0 cls).2]) ∧ (decR l0 cls).1 = [] ∧ Below w.heap.size w w' := by
  by_cases h1 : cls < 0
  · have HE := Aside0.mk (show decR l0 cls = ([], 1) by unfold decR; rw [if_pos (.inl h1)])
    have d1 : decide (cls < 0) = true := decide_eq_true h1
    clear h h1
    go_enter Try.func26, Try.ntmps26
    go_wp2_with fail
    go_ret2
    exact ⟨by rw [HE.out]; rfl, by rw [HE.out], Below.refl _ _⟩
  by_cases h2 : 2 < cls
  · have HE := Aside0.mk (show decR l0 cls = ([], 1) by unfold decR; rw [if_pos (.inr h2)])
    have d1 : decide (cls < 0) = false := decide_eq_false h1
    have d2 : decide (2 < cls) = true := decide_eq_true h2
    clear h h1 h2
    go_enter Try.func26, Try.ntmps26
    go_wp2_with fail
    go_ret2
    exact ⟨by rw [HE.out]; rfl, by rw [HE.out], Below.refl _ _⟩
  · have h3 : 1048576 < l0.length := by omega
    have HE := Aside0.mk (show decR l0 cls = ([], 4) by unfold decR; rw [if_neg (by omega), if_pos h3])
    have d1 : decide (cls < 0) = false := decide_eq_false h1
    have d2 : decide (2 < cls) = false := decide_eq_false h2
    have d3 : decide ((1048576 : Int) < (l0.length : Int)) = true := decide_eq_true (by omega)
    have d3n : decide (1048576 < l0.length) = true := decide_eq_true h3
    clear h h1 h2 h3
    go_enter Try.func26, Try.ntmps26
    go_wp2_with fail
    go_ret2
    exact ⟨by rw [HE.out]; rfl, by rw [HE.out], Below.refl _ _⟩

set_option maxHeartbeats 4000000 in
set_option maxRecDepth 100000 in
theorem decode_walk (A0 : Option Addr) (c0 : Nat) (l0 : List Bool) (cls : Int) (w : World) (hr0 : Kd.C Kd.bool w A0 l0.length l0) (hc0 : l0.length ≤ c0) (h0 : 0 ≤ cls) (h2 : cls ≤ 2) (hl : l0.length ≤ 1048576) :
    Calls Try.prog 26 #[.slice A0 l0.length c0, .int .i64 cls] w fun e w' => ∃ v0_ : Value, e = .returned (.tuple #[v0_, .int .i64 (decR l0 cls).2]) ∧ Kd.S k59 59 w' w.heap.size (fun _ => True) v0_ (decR l0 cls).1 ∧ Below w.heap.size w w' := by
  have HD := Aside0.mk (show decR l0 cls = decD cls (l0.length + 1) l0 [] by unfold decR; rw [if_neg (by omega), if_neg (by omega)])
  have d1 : decide (cls < 0) = false := decide_eq_false (by omega)
  have d2 : decide (2 < cls) = false := decide_eq_false (by omega)
  have d3 : decide ((1048576 : Int) < (l0.length : Int)) = false := decide_eq_false (by omega)
  have d3n : decide (1048576 < l0.length) = false := decide_eq_false (by omega)
  have HR0 := Aside0.mk hr0
  have HC0 := Aside0.mk hc0
  have HL := Aside0.mk hl
  clear hr0 hc0 h0 h2 hl
  go_enter Try.func26, Try.ntmps26
  go_wp2_with fail
  refine (NewReader_calls A0 c0 l0 w HR0.out HC0.out (by have := HL.out; omega)).mono ?_
  rintro e w1 ⟨g, rfl, hg, hRd, hB1⟩
  have hgl := hRd.lt
  have HRD := Aside0.mk hRd
  have HB1 := Aside0.mk hB1
  have HG := Aside0.mk (And.intro hg hgl)
  clear hRd hB1 hg hgl
  obtain ⟨b, hb⟩ : ∃ b, b = w.heap.size := ⟨_, rfl⟩
  rw [← hb] at HRD HB1 HG
  have HBE := Aside0.mk hb
  clear hb
  go_wp2_with fail
  go_loopw [7] (fun v7 wr => ∃ (l' : List Bool) (out : List S59), Aside0 (decD cls (l'.length + 1) l' out = decR l0 cls ∧ out.length ≤ 4096 ∧ l'.length ≤ 1048576) ∧ Aside0 (IsRd wr b g l') ∧ Aside0 (Kd.S k59 59 wr w1.heap.size (fun k => w1.heap.size ≤ k) v7 out) ∧ Aside0 (Below b w wr ∧ w1.heap.size ≤ wr.heap.size))
    (fun _ wr => rdLen wr g)
  case atStart => exact ⟨l0, [], ⟨HD.out.symm, by simp, HL.out⟩, HRD, ⟨Kd.S_nil _ _ _ _ _⟩, ⟨HB1.out, Nat.le_refl _⟩⟩
  case round =>
    obtain ⟨l', out, HI, HRd, HO, HB⟩ := hrel
    obtain ⟨Ao, co, rfl⟩ := Kd.S_slice HO.out
    have hde := HI.out.1
    rw [decD] at hde
    go_wp2_with fail
    refine (Left_calls wr b g l' HRd.out).mono ?_
    rintro e w2 ⟨rfl, hw_⟩
    replace hw_ := hw_.symm
    subst hw_
    by_cases h4 : l'.length < 4
    · have t1 : decide ((4 : Int) ≤ ((l'.length : Nat) : Int)) = false := decide_eq_false (by omega)
      have t1n : decide (4 ≤ l'.length) = false := decide_eq_false (by omega)
      rw [if_pos h4] at hde
      have HDE := Aside0.mk hde
      have H4 := Aside0.mk h4
      clear hde h4
      go_wp2_with fail
      refine (Left_calls wr b g l' HRd.out).mono ?_
      rintro e w2 ⟨rfl, hw_⟩
      replace hw_ := hw_.symm
      subst hw_
      go_wp2_with fail
      refine (Take_all wr b g l' l'.length HRd.out).mono ?_
      rintro e w3 ⟨rfl, hRd3, hB3, hz3, hj3⟩
      have hrt : rdTake l' l'.length = (gval l', 0, l'.length) := by
        have := H4.out
        unfold rdTake
        rw [if_neg (by omega), if_neg (by omega), Int.toNat_natCast, List.take_length]
      rw [hrt]
      have HB3 := Aside0.mk (HB.out.1.trans (hB3.mono (by have := HG.out; omega)))
      have HS3 := Aside0.mk (Kd.S_move HO.out (fun k hk => hj3 k (by have := HG.out; omega)))
      clear hRd3 hB3 hz3 hj3 hrt
      by_cases hz : gval l' = 0
      · have HE := Aside0.mk (show decR l0 cls = (out, 0) by rw [← HDE.out, if_pos hz])
        rw [hz]
        clear hz HDE
        go_wp2_with fail
        go_ret2
        exact ⟨_, by rw [HE.out]; rfl, by rw [HE.out, ← HBE.out]; exact Kd.S_lower (Kd.S_mono HS3.out (fun _ _ => trivial)) (by have := HG.out; omega), by rw [← HBE.out]; exact HB3.out⟩
      · have HE := Aside0.mk (show decR l0 cls = ([], 22) by rw [← HDE.out, if_neg hz])
        have z1 : (gval l' == 0) = false := by simp [hz]
        have z2 : (gval l' != 0) = true := by simp [hz]
        generalize gval l' = gv at *
        clear hz HDE
        go_wp2_with fail
        go_ret2
        exact ⟨_, by rw [HE.out]; rfl, by rw [HE.out]; exact Kd.S_nil _ _ _ _ _, by rw [← HBE.out]; exact HB3.out⟩
    · have t1 : decide ((4 : Int) ≤ ((l'.length : Nat) : Int)) = true := decide_eq_true (by omega)
      have t1n : decide (4 ≤ l'.length) = true := decide_eq_true (by omega)
      rw [if_neg h4] at hde
      have HDE := Aside0.mk hde
      have H4 := Aside0.mk h4
      clear hde h4
      go_wp2_with fail
      refine (Take_all wr b g l' 4 HRd.out).mono ?_
      rintro e w3 ⟨rfl, hRd3, hB3, hz3, hj3⟩
      have hrt : rdTake l' 4 = (gval (l'.take 4), 0, 4) := by
        have := H4.out
        unfold rdTake
        rw [if_neg (by omega), if_neg (by omega)]
        rfl
      rw [hrt] at hRd3 ⊢
      dsimp only at hRd3
      have HB3 := Aside0.mk (And.intro (HB.out.1.trans (hB3.mono (by have := HG.out; omega))) (show w1.heap.size ≤ w3.heap.size by rw [hz3]; exact HB.out.2))
      have HS3 := Aside0.mk (Kd.S_move HO.out (fun k hk => hj3 k (by have := HG.out; omega)))
      have HRd3 := Aside0.mk hRd3
      have HLN := Aside0.mk (rdLen_is HRd.out)
      clear hRd3 hB3 hz3 hj3 hrt HO HRd HB
      by_cases hz : gval (l'.take 4) = 0
      · have HE := Aside0.mk (show decR l0 cls = (out, 0) by rw [← HDE.out, if_pos hz])
        rw [hz]
        clear hz HDE
        go_wp2_with fail
        go_ret2
        exact ⟨_, by rw [HE.out]; rfl, by rw [HE.out, ← HBE.out]; exact Kd.S_lower (Kd.S_mono HS3.out (fun _ _ => trivial)) (by have := HG.out; omega), by rw [← HBE.out]; exact HB3.out.1⟩
      have hde2 := HDE.out
      rw [if_neg hz] at hde2
      obtain ⟨m, hm⟩ : ∃ m, gval (l'.take 4) = m := ⟨_, rfl⟩
      rw [hm] at hz hde2 ⊢
      have z1 : (m == 0) = false := by simp [hz]
      have z2 : (m != 0) = true := by simp [hz]
      have hcb := countBits_is 0 m cls
      have hcr := cbOf_range m cls
      have HCB := Aside0.mk hcb
      clear hcb hz HDE
      by_cases hc : cbOf m cls = 0
      · have HE := Aside0.mk (show decR l0 cls = ([], 22) by rw [← hde2, if_pos hc])
        rw [hc] at HCB
        clear hc hde2 hcr
        go_wp2_with fail
        refine (modes_countBits.calls 1 m cls 0 w3 HCB.out).mono ?_
        rintro e w4 ⟨rfl, hB4⟩
        have HB4 := Aside0.mk (HB3.out.1.trans (hB4.mono (by have := HG.out; have := HB3.out.2; omega)))
        clear hB4
        go_wp2_with fail
        go_ret2
        exact ⟨_, by rw [HE.out]; rfl, by rw [HE.out]; exact Kd.S_nil _ _ _ _ _, by rw [← HBE.out]; exact HB4.out⟩
      have hde3 := hde2
      rw [if_neg hc] at hde3
      obtain ⟨cb, hcbn⟩ : ∃ cb, cbOf m cls = cb := ⟨_, rfl⟩
      rw [hcbn] at HCB hc
      have y1 : (cb == 0) = false := by simp [hc]
      have y2 : (cb != 0) = true := by simp [hc]
      have HCN := Aside0.mk (And.intro hcbn hcr)
      have HC := Aside0.mk hc
      clear hde2 hcr hcbn hc
      go_wp2_with fail
      refine (modes_countBits.calls 1 m cls cb w3 HCB.out).mono ?_
      rintro e w4 ⟨rfl, hB4⟩
      have hS4 := Kd.S_below HS3.out hB4
      have hRd4 := RdKeep.rd HRd3.out hB4
      have HB4 := Aside0.mk (And.intro (HB3.out.1.trans (hB4.mono (by have := HG.out; have := HB3.out.2; omega))) (Nat.le_trans HB3.out.2 hB4.size))
      have HS4 := Aside0.mk hS4
      have HRd4 := Aside0.mk hRd4
      clear hB4 hS4 hRd4 HB3 HS3 HRd3 HCB
      by_cases hn : out.length = 4096
      · have HE := Aside0.mk (show decR l0 cls = ([], 4) by rw [← hde3, if_pos hn])
        have n1 : ((out.length : Int) == 4096) = true := by simp; omega
        have n2 : (out.length == 4096) = true := by simp [hn]
        clear hn hde3
        go_wp2_with fail
        go_ret2
        exact ⟨_, by rw [HE.out]; rfl, by rw [HE.out]; exact Kd.S_nil _ _ _ _ _, by rw [← HBE.out]; exact HB4.out.1⟩
      have hde4 := hde3
      rw [if_neg hn] at hde4
      have n1 : ((out.length : Int) == 4096) = false := by simp; omega
      have n2 : (out.length == 4096) = false := by simp [hn]
      have HN := Aside0.mk hn
      have HDE4 := Aside0.mk hde4
      clear hde3 hn hde4
      go_wp2_with fail
      refine (segment_calls w4 b g (l'.drop 4) m cls HRd4.out (by have := HCN.out; have := HC.out; omega) (by have := HI.out.2.2; rw [List.length_drop]; omega)).mono ?_
      rintro e w5 (⟨x, hx, hx0, rfl, hK⟩ | ⟨d, rest, v, hx, rfl, hR5, hRd5, hK⟩)
      · have HE := Aside0.mk (show decR l0 cls = ([], x) by rw [← HDE4.out, hx])
        have x1 : (x == 0) = false := by simp [hx0]
        have x2 : (x != 0) = true := by simp [hx0]
        have HB5 := Aside0.mk (HB4.out.1.trans (hK.1.mono (by have := HG.out; omega)))
        have HSZ5 := Aside0.mk (show b ≤ w5.heap.size by have := HB4.out.2; have := HG.out; have := hK.2.1; omega)
        clear hx hx0 hK
        go_wp2_with fail
        go_ret2
        exact ⟨_, by rw [HE.out]; rfl, by rw [HE.out]; exact Kd.S_nil _ _ _ _ _, by rw [← HBE.out]; exact HB5.out.alloc HSZ5.out _⟩
      · obtain ⟨A5, c5, rfl⟩ := Kd.R_slice hR5
        have hdl := segD_len _ _ _ _ hx
        rw [List.length_drop] at hdl
        dsimp only at hdl
        have HE := Aside0.mk (And.intro (show decD cls l'.length rest (out ++ [⟨m, d⟩]) = decR l0 cls by rw [← HDE4.out, hx]) hdl)
        have hS5 : Kd.S k59 59 w5 w1.heap.size (fun k => w1.heap.size ≤ k ∧ k < w4.heap.size) (.slice Ao out.length co) out := Kd.S_step (Kd.S_mono (Kd.S_bound HS4.out) (fun k hk => ⟨hk.1, hk.2.2.1⟩)) (fun k hk hlt => hK.2.2 k hlt (by have := HG.out; omega) (by simp))
        have hslt := Kd.S_lt HS4.out
        have hR5b : Kd.R (Kd.int .u8) 5 w5 w4.heap.size (fun k => w4.heap.size ≤ k) (.slice A5 d.length c5) d := Kd.R_mono (Kd.R_bound hR5) (fun k hk => hk.2.1)
        have hsz5 : w4.heap.size ≤ w5.heap.size := hK.2.1
        have hza : (w5.alloc (.cells #[.int .i64 m, .slice A5 d.length c5] 59)).heap.size = w5.heap.size + 1 := by simp
        have hBa : Below w5.heap.size w5 (w5.alloc (.cells #[.int .i64 m, .slice A5 d.length c5] 59)) := below_alloc (Below.refl _ _) _
        have hy0 : (w5.alloc (.cells #[.int .i64 m, .slice A5 d.length c5] 59)).cell? ⟨w5.heap.size, 0, none⟩ = some (.int .i64 m) := by simp
        have hy1 : (w5.alloc (.cells #[.int .i64 m, .slice A5 d.length c5] 59)).cell? ⟨w5.heap.size, 1, none⟩ = some (.slice A5 d.length c5) := by simp
        have hS6 := Kd.S_alloc hS5 (.cells #[.int .i64 m, .slice A5 d.length c5] 59)
        have hR6 := Kd.R_alloc hR5b (.cells #[.int .i64 m, .slice A5 d.length c5] 59)
        have hRd6 := RdKeep.rd hRd5 hBa
        have hB6 : Below b w (w5.alloc (.cells #[.int .i64 m, .slice A5 d.length c5] 59)) := (HB4.out.1.trans (hK.1.mono (by have := HG.out; omega))).alloc (by have := HB4.out.2; have := HG.out; omega) _
        have x1 : ((0 : Int) == 0) = true := rfl
        go_upto_region 19 with (fail)
        generalize w5.alloc (.cells #[.int .i64 m, .slice A5 d.length c5] 59) = w6 at *
        have hle6 : w5.heap.size ≤ w6.heap.size := by omega
        have H6 := Aside0.mk (And.intro hS6 (And.intro hR6 (And.intro hRd6 (And.intro hB6 (And.intro hle6 (And.intro hslt hsz5))))))
        clear hx hdl hS5 hR5 hR5b hRd5 hK hS6 hR6 hRd6 hB6 hBa hza hslt hsz5 hle6
        go_wp2_with ((with_reducible refine gate_builtin (b := .append) (xs := #[.tmp 60, .tmp 62]) rfl ?_); at_builtin; refine Kd.S_append k59 (w0 := w6) w1.heap.size rfl (.tmp 60) (.tmp 62) 23 59 (.agg #[(.int .i64 0), (.slice none 0 0)]) 32 rfl Try.underlying23 info59 rfl (by decide) (by omega) (.slice Ao out.length co) out (⟨m, d⟩ : S59) [.int .i64 m, .slice A5 d.length c5] (fun k => w1.heap.size ≤ k) (fun k => w4.heap.size ≤ k) rfl rfl ?aP (fun k hk => ⟨Nat.le_trans HB4.out.2 hk, fun he => by have h1 := H6.out.2.2.2.2.2.1 k he.symm; omega⟩) ?aF ?aO ?aB ?aS ?aL ?_; (case aP => exact k59_mkM _ _ _ (⟨m, d⟩ : S59) (Kd.R_lower H6.out.2.1 HB4.out.2)); (case aB => exact Below.refl _ _); (case aF => exact (fun k hk => by have := H6.out.2.2.2.2.1; have := H6.out.2.2.2.2.2.2; have := HB4.out.2; omega)); (case aO => exact Kd.S_mono H6.out.1 (fun k hk => ⟨hk.1, by omega⟩)); (case aS => have := H6.out.2.2.2.2.1; have := H6.out.2.2.2.2.2.2; have := HB4.out.2; omega); (case aL => have := HI.out.2.1; omega); intro v9 w9 ho hb hg hat; have HO9 := Aside0.mk ho; have HB9 := Aside0.mk hb; clear ho hb hg hat)
        have hIs : IsRd w9 b g rest := H6.out.2.2.1.below HB9.out HG.out.2
        rw [rdLen_is hIs, HLN.out]
        refine ⟨⟨rest, out ++ [⟨m, d⟩], ⟨?_, ?_, ?_⟩, ⟨hIs⟩, HO9, ⟨H6.out.2.2.2.1.trans (HB9.out.mono (by have := HG.out; omega)), ?_⟩⟩, ?_⟩
        · rw [← HE.out.1]
          exact decD_fuel cls _ _ _ (by omega) _ (by have := HE.out.2; have := H4.out; omega)
        · have := HI.out.2.1
          have := HN.out
          rw [List.length_append]
          simp
          omega
        · have := HI.out.2.2
          have := HE.out.2
          omega
        · have h1 := HB9.out.size
          have := H6.out.2.2.2.2.1
          have := H6.out.2.2.2.2.2.2
          have := HB4.out.2
          omega
        · have := HE.out.2
          have := H4.out
          omega

theorem modes_Decode.calls (A0 : Option Addr) (c0 : Nat) (l0 : List Bool) (a1 : Int) (r1 : List S59) (r2 : Int) (w : World) (hr0 : Kd.C Kd.bool w A0 l0.length l0) (hc0 : l0.length ≤ c0) (h : modes_Decode.f l0 a1 = some (r1, r2)) :
    Calls Try.prog 26 #[.slice A0 l0.length c0, .int .i64 a1] w fun e w' => ∃ v0_ : Value, e = .returned (.tuple #[v0_, .int .i64 r2]) ∧ Kd.S k59 59 w' w.heap.size (fun _ => True) v0_ r1 ∧ Below w.heap.size w w' := by
  have h := Option.some.inj h
  rw [show r1 = (decR l0 a1).1 by rw [h], show r2 = (decR l0 a1).2 by rw [h]]
  by_cases hc : (a1 < 0 ∨ 2 < a1) ∨ 1048576 < l0.length
  · refine (decode_bad A0 c0 l0 a1 w hc).mono ?_
    rintro e w' ⟨rfl, he, hB⟩
    rw [he]
    exact ⟨_, rfl, Kd.S_nil _ _ _ _ _, hB⟩
  · exact decode_walk A0 c0 l0 a1 w hr0 hc0 (by omega) (by omega) (by omega)
end Go.Proofs.Ytjhhckkmogekkaa.X

namespace Go.Proofs.Ytjhhckkmogekkaa.X
open Go.RowKit Go.Proofs.YtjhhckkmogekkaaW.PrintWords Go.Proofs.YtjhhckkmogekkaaW.PrintLast Go.Proofs.YtjhhckkmogekkaaW.PrintMore
set_option linter.unusedVariables false
set_option linter.unusedSimpArgs false

theorem gval_low (v : Int) : ∀ n, gval (low v n) = v % 2 ^ n
  | 0 => by simp [low, gval]
  | n + 1 => by
    simp only [low]
    rw [gval_cons, low_length, gval_low v n, Int.pow_succ]
    unfold bitOf
    have hp : (0 : Int) < 2 ^ n := Int.pow_pos (by decide)
    have h1 := Int.emod_add_mul_ediv v (2 ^ n)
    have h2 := Int.emod_add_mul_ediv (v / 2 ^ n) 2
    have h3 := Int.emod_nonneg v (show (2 : Int) ^ n ≠ 0 by omega)
    have h4 := Int.emod_lt_of_pos v hp
    generalize (2 : Int) ^ n = p at *
    generalize v % p = r at *
    generalize v / p = q at *
    have h5 : q % 2 = 0 ∨ q % 2 = 1 := by omega
    have e : v = (r + p * (q % 2)) + (p * 2) * (q / 2) := by
      rw [Int.add_assoc, Int.mul_assoc, ← Int.mul_add, h2, h1]
    rw [e, Int.add_mul_emod_self_left]
    rcases h5 with h | h
    · rw [h, Int.mul_zero, Int.add_zero, Int.emod_eq_of_lt h3 (by omega)]
      simp
    · rw [h, Int.mul_one, Int.emod_eq_of_lt (by omega) (by omega)]
      simp
      omega
theorem gval_low_of {v : Int} {n : Nat} (h0 : 0 ≤ v) (h : v < 2 ^ n) : gval (low v n) = v := by
  rw [gval_low, Int.emod_eq_of_lt h0 h]
theorem gval_zeros (n : Nat) : gval (List.replicate n false) = 0 := by
  induction n with
  | zero => rfl
  | succ n ih => rw [List.replicate_succ, gval_cons, ih]; simp

/- The characters. -/
theorem digit_fit {c : Int} (h : fitOf 1 c = true) : 48 ≤ c ∧ c ≤ 57 := by
  unfold fitOf modes_Fits.f at h
  rw [if_pos rfl] at h
  split at h
  · simp at h; omega
  · simp at h
theorem digit_all : (List.range 10).all (fun n => chOf (n : Int) == 48 + (n : Int)) = true := by kernel_rfl
theorem digit_ch {d : Int} (h0 : 0 ≤ d) (h9 : d ≤ 9) : chOf d = 48 + d := by
  have h := List.all_eq_true.mp digit_all d.toNat (List.mem_range.mpr (by omega))
  simp only [beq_iff_eq] at h
  rw [show ((d.toNat : Nat) : Int) = d by omega] at h
  exact h
theorem alnum_all : (List.range 256).all (fun n => !fitOf 2 (n : Int) || (decide (0 ≤ ixOf (n : Int)) && decide (ixOf (n : Int) < 45) && chOf (ixOf (n : Int)) == (n : Int))) = true := by kernel_rfl
theorem alnum_ch {c : Int} (h0 : 0 ≤ c) (h1 : c < 256) (h : fitOf 2 c = true) : 0 ≤ ixOf c ∧ ixOf c < 45 ∧ chOf (ixOf c) = c := by
  have k := List.all_eq_true.mp alnum_all c.toNat (List.mem_range.mpr (by omega))
  rw [show ((c.toNat : Nat) : Int) = c by omega] at k
  rw [h] at k
  simp only [Bool.not_true, Bool.false_or, Bool.and_eq_true, decide_eq_true_eq, beq_iff_eq] at k
  exact ⟨k.1.1, k.1.2, k.2⟩

/-- A group's number, and its bytes again. -/
theorem grp_back (m : Int) (hm : m = 1 ∨ m = 2 ∨ m = 4) (g : List Int) (g1 : 1 ≤ g.length) (g2 : g.length ≤ szOf m) (hb : ∀ x ∈ g, 0 ≤ x ∧ x < 256) (hf : ∀ x ∈ g, fitOf m x = true) :
    0 ≤ numOf m g ∧ numOf m g < 2 ^ (dbOf m g.length).toNat ∧ unGrp m (numOf m g) g.length = (g, true) := by
  have step1 : ∀ v c : Int, 0 ≤ v → v ≤ 1000 → 48 ≤ c → c ≤ 57 → numStep 1 v c = 10 * v + (c - 48) := by
    intro v c a b c1 c2
    unfold numStep
    rw [if_pos rfl, wrap64_id (10 * v) (by omega) (by omega), Int.emod_eq_of_lt (by omega) (by omega), wrap64_id _ (by omega) (by omega)]
  have step2 : ∀ v c : Int, 0 ≤ v → v ≤ 1000 → 0 ≤ ixOf c → ixOf c < 45 → numStep 2 v c = 45 * v + ixOf c := by
    intro v c a b c1 c2
    unfold numStep
    rw [if_neg (by decide), if_pos rfl, wrap64_id (45 * v) (by omega) (by omega), wrap64_id _ (by omega) (by omega)]
  rcases hm with rfl | rfl | rfl
  · have hs : szOf 1 = 3 := rfl
    rw [hs] at g2
    have hd : ∀ x ∈ g, 48 ≤ x ∧ x ≤ 57 := fun x hx => digit_fit (hf x hx)
    clear hb hf
    match g, g1, g2 with
    | [a], _, _ =>
      have ha := hd a (by simp)
      have e : numOf 1 [a] = a - 48 := by unfold numOf; simp only [List.foldl]; rw [step1 0 a (by omega) (by omega) ha.1 ha.2]; omega
      rw [e]
      refine ⟨by omega, ?_, ?_⟩
      · rw [show (dbOf 1 (([a] : List Int).length : Int)).toNat = 4 by simp [dbOf]]
        omega
      · unfold unGrp
        simp only [List.length_singleton, if_neg (show ¬ (1 : Int) = 4 by decide), if_true]
        rw [show (a - 48) % 10 = a - 48 by omega, show (a - 48) / 10 = 0 by omega, digit_ch (by omega) (by omega), show 48 + (a - 48) = a by omega]
        rfl
    | [a, b], _, _ =>
      have ha := hd a (by simp)
      have hb := hd b (by simp)
      have e : numOf 1 [a, b] = 10 * (a - 48) + (b - 48) := by unfold numOf; simp only [List.foldl]; rw [step1 0 a (by omega) (by omega) ha.1 ha.2, step1 _ b (by omega) (by omega) hb.1 hb.2]; omega
      rw [e]
      refine ⟨by omega, ?_, ?_⟩
      · rw [show (dbOf 1 (([a, b] : List Int).length : Int)).toNat = 7 by simp [dbOf]]
        omega
      · unfold unGrp
        simp only [List.length_cons, List.length_nil, Nat.zero_add, if_neg (show ¬ (1 : Int) = 4 by decide), if_neg (show ¬ 1 + 1 = 1 by decide), if_true]
        rw [show (10 * (a - 48) + (b - 48)) % 10 = b - 48 by omega, show (10 * (a - 48) + (b - 48)) / 10 = a - 48 by omega, show (a - 48) % 10 = a - 48 by omega, show (a - 48) / 10 = 0 by omega, digit_ch (by omega) (by omega), digit_ch (by omega) (by omega), show 48 + (a - 48) = a by omega, show 48 + (b - 48) = b by omega]
        rfl
    | [a, b, c], _, _ =>
      have ha := hd a (by simp)
      have hb := hd b (by simp)
      have hc := hd c (by simp)
      have e : numOf 1 [a, b, c] = 100 * (a - 48) + 10 * (b - 48) + (c - 48) := by unfold numOf; simp only [List.foldl]; rw [step1 0 a (by omega) (by omega) ha.1 ha.2, step1 _ b (by omega) (by omega) hb.1 hb.2, step1 _ c (by omega) (by omega) hc.1 hc.2]; omega
      rw [e]
      refine ⟨by omega, ?_, ?_⟩
      · rw [show (dbOf 1 (([a, b, c] : List Int).length : Int)).toNat = 10 by simp [dbOf]]
        omega
      · unfold unGrp
        simp only [List.length_cons, List.length_nil, Nat.zero_add, if_neg (show ¬ (1 : Int) = 4 by decide), if_neg (show ¬ 1 + 1 + 1 = 1 by decide), if_neg (show ¬ 1 + 1 + 1 = 2 by decide), if_true]
        rw [show (100 * (a - 48) + 10 * (b - 48) + (c - 48)) % 10 = c - 48 by omega, show (100 * (a - 48) + 10 * (b - 48) + (c - 48)) / 10 = 10 * (a - 48) + (b - 48) by omega, show (10 * (a - 48) + (b - 48)) % 10 = b - 48 by omega, show (10 * (a - 48) + (b - 48)) / 10 = a - 48 by omega, show (a - 48) % 10 = a - 48 by omega, show (a - 48) / 10 = 0 by omega, digit_ch (by omega) (by omega), digit_ch (by omega) (by omega), digit_ch (by omega) (by omega), show 48 + (a - 48) = a by omega, show 48 + (b - 48) = b by omega, show 48 + (c - 48) = c by omega]
        rfl
  · have hs : szOf 2 = 2 := rfl
    rw [hs] at g2
    have hd : ∀ x ∈ g, 0 ≤ ixOf x ∧ ixOf x < 45 ∧ chOf (ixOf x) = x := fun x hx => alnum_ch (hb x hx).1 (hb x hx).2 (hf x hx)
    clear hb hf
    match g, g1, g2 with
    | [a], _, _ =>
      have ha := hd a (by simp)
      have e : numOf 2 [a] = ixOf a := by unfold numOf; simp only [List.foldl]; rw [step2 0 a (by omega) (by omega) ha.1 ha.2.1]; omega
      rw [e]
      refine ⟨by omega, ?_, ?_⟩
      · rw [show (dbOf 2 (([a] : List Int).length : Int)).toNat = 6 by simp [dbOf]]
        omega
      · unfold unGrp
        simp only [List.length_singleton, if_neg (show ¬ (2 : Int) = 4 by decide), if_neg (show ¬ (2 : Int) = 1 by decide), if_true]
        rw [show ixOf a % 45 = ixOf a by omega, show ixOf a / 45 = 0 by omega, ha.2.2]
        rfl
    | [a, b], _, _ =>
      have ha := hd a (by simp)
      have hb := hd b (by simp)
      have e : numOf 2 [a, b] = 45 * ixOf a + ixOf b := by unfold numOf; simp only [List.foldl]; rw [step2 0 a (by omega) (by omega) ha.1 ha.2.1, step2 _ b (by omega) (by omega) hb.1 hb.2.1]; omega
      rw [e]
      refine ⟨by omega, ?_, ?_⟩
      · rw [show (dbOf 2 (([a, b] : List Int).length : Int)).toNat = 11 by simp [dbOf]]
        omega
      · unfold unGrp
        simp only [List.length_cons, List.length_nil, Nat.zero_add, if_neg (show ¬ (2 : Int) = 4 by decide), if_neg (show ¬ (2 : Int) = 1 by decide), if_neg (show ¬ 1 + 1 = 1 by decide), if_true]
        rw [show (45 * ixOf a + ixOf b) % 45 = ixOf b by omega, show (45 * ixOf a + ixOf b) / 45 = ixOf a by omega, show ixOf a % 45 = ixOf a by omega, show ixOf a / 45 = 0 by omega, ha.2.2, hb.2.2]
        rfl
  · have hs : szOf 4 = 1 := rfl
    rw [hs] at g2
    match g, g1, g2 with
    | [a], _, _ =>
      have ha := hb a (by simp)
      have e : numOf 4 [a] = a := by unfold numOf numStep; simp only [List.foldl]; rw [if_neg (by decide), if_neg (by decide), wrap64_id _ (by omega) (by omega)]
      rw [e]
      refine ⟨by omega, ?_, ?_⟩
      · rw [show (dbOf 4 (([a] : List Int).length : Int)).toNat = 8 from rfl]
        omega
      · unfold unGrp
        rw [if_pos rfl, show a % 256 = a by omega]

theorem rdD_back (m : Int) (hm : m = 1 ∨ m = 2 ∨ m = 4) : ∀ (f : Nat) (d acc : List Int) (t : List Bool), d.length < f → (∀ x ∈ d, 0 ≤ x ∧ x < 256) → (∀ x ∈ d, fitOf m x = true) → rdD m f d.length (encData m d ++ t) acc = some (acc ++ d, t) := by
  intro f
  induction f with
  | zero => intro d acc t h; omega
  | succ f ih =>
    intro d acc t h hb hf
    unfold rdD
    by_cases e : d.length = 0
    · obtain rfl : d = [] := List.eq_nil_of_length_eq_zero e
      rw [if_pos (show ([] : List Int).length = 0 from rfl), encData_nil]
      simp
    rw [if_neg e]
    have hs := szOf_range m
    have hk : min d.length (szOf m) = (d.take (szOf m)).length := by rw [List.length_take, Nat.min_comm]
    obtain ⟨b0, b1, b2⟩ := grp_back m hm (d.take (szOf m)) (by rw [List.length_take]; omega) (by rw [List.length_take]; omega) (fun x hx => hb x (List.mem_of_mem_take hx)) (fun x hx => hf x (List.mem_of_mem_take hx))
    have hg : (grpBits m (d.take (szOf m))).length = (dbOf m (d.take (szOf m)).length).toNat := by unfold grpBits; rw [low_length]
    dsimp only
    rw [hk, encData_rec m d (by intro h0; rw [h0] at e; exact e rfl), List.append_assoc, ← hg, List.take_left, List.drop_left]
    have hv : gval (grpBits m (d.take (szOf m))) = numOf m (d.take (szOf m)) := gval_low_of b0 b1
    rw [hv, b2, if_pos rfl]
    rw [show d.length - (d.take (szOf m)).length = (d.drop (szOf m)).length by rw [List.length_take, List.length_drop]; omega]
    rw [ih (d.drop (szOf m)) _ t (by rw [List.length_drop]; omega) (fun x hx => hb x (List.mem_of_mem_drop hx)) (fun x hx => hf x (List.mem_of_mem_drop hx))]
    rw [List.append_assoc, List.take_append_drop]
theorem segD_back (cls m : Int) (hm : m = 1 ∨ m = 2 ∨ m = 4) (hc : 0 ≤ cls ∧ cls ≤ 2) (d : List Int) (t : List Bool) (hl : d.length ≤ 2 ^ (cbOf m cls).toNat - 1) (hb : ∀ x ∈ d, 0 ≤ x ∧ x < 256) (hf : ∀ x ∈ d, fitOf m x = true) :
    segD cls m (low d.length (cbOf m cls).toNat ++ encData m d ++ t) = .ok (d, t) := by
  have hcb := cb_mode hc hm
  have hp := Nat.one_le_two_pow (n := (cbOf m cls).toNat)
  have hv : gval (low (d.length : Int) (cbOf m cls).toNat) = d.length := gval_low_of (by omega) (by
    have : ((2 ^ (cbOf m cls).toNat : Nat) : Int) = (2 : Int) ^ (cbOf m cls).toNat := by simp
    omega)
  have ht : (low (d.length : Int) (cbOf m cls).toNat ++ encData m d ++ t).take (cbOf m cls).toNat = low (d.length : Int) (cbOf m cls).toNat := by
    rw [List.append_assoc, List.take_append_of_le_length (by rw [low_length]; exact Nat.le_refl _), List.take_of_length_le (by rw [low_length]; exact Nat.le_refl _)]
  have hd : (low (d.length : Int) (cbOf m cls).toNat ++ encData m d ++ t).drop (cbOf m cls).toNat = encData m d ++ t := by
    rw [List.append_assoc, List.drop_append_of_le_length (by rw [low_length]; exact Nat.le_refl _), List.drop_of_length_le (by rw [low_length]; exact Nat.le_refl _), List.nil_append]
  have he := encData_length m d.length d (Nat.le_refl _)
  have hr := dbOf_range m d.length (by omega)
  unfold segD
  rw [ht, hd, hv, if_neg (by simp only [List.length_append, low_length]; omega), if_neg (by rw [List.length_append, he]; omega)]
  rw [Int.toNat_natCast, rdD_back m hm _ d [] t (by omega) hb hf]
  rfl
theorem decD_back (cls : Int) (hc : 0 ≤ cls ∧ cls ≤ 2) (t : List Bool) : ∀ (l out : List S59) (f : Nat), okSegs cls l → (∀ s ∈ l, ∀ x ∈ s.f1, 0 ≤ x ∧ x < 256) → (encAll cls l ++ t).length < f → out.length + l.length ≤ 4096 → decD cls f (encAll cls l ++ t) out = decD cls (t.length + 1) t (out ++ l) := by
  intro l
  induction l with
  | nil =>
    intro out f _ _ hf _
    rw [List.append_nil]
    have e : encAll cls [] = [] := rfl
    rw [e, List.nil_append] at hf ⊢
    exact decD_fuel cls f t out hf _ (by omega)
  | cons s l ih =>
    intro out f hv hb hf ho
    obtain ⟨⟨hm, hl, hfit⟩, hv⟩ := okSegs_cons.mp hv
    have hcb := cb_mode hc hm
    obtain ⟨f, rfl⟩ : ∃ j, f = j + 1 := ⟨f - 1, by omega⟩
    have he : encAll cls (s :: l) ++ t = low s.f0 4 ++ (low s.f1.length (cbOf s.f0 cls).toNat ++ encData s.f0 s.f1 ++ (encAll cls l ++ t)) := by
      unfold encAll
      rw [List.flatMap_cons]
      unfold encSeg
      simp only [List.append_assoc]
    rw [he] at hf ⊢
    obtain ⟨R, hR⟩ : ∃ R, R = decD cls (t.length + 1) t (out ++ s :: l) := ⟨_, rfl⟩
    rw [← hR]
    have h4 : (low s.f0 4).length = 4 := low_length _ _
    have ht : (low s.f0 4 ++ (low s.f1.length (cbOf s.f0 cls).toNat ++ encData s.f0 s.f1 ++ (encAll cls l ++ t))).take 4 = low s.f0 4 := by
      conv => lhs; arg 1; rw [← h4]
      exact List.take_left
    have hd : (low s.f0 4 ++ (low s.f1.length (cbOf s.f0 cls).toNat ++ encData s.f0 s.f1 ++ (encAll cls l ++ t))).drop 4 = low s.f1.length (cbOf s.f0 cls).toNat ++ encData s.f0 s.f1 ++ (encAll cls l ++ t) := by
      conv => lhs; arg 1; rw [← h4]
      exact List.drop_left
    have hg : gval (low s.f0 4) = s.f0 := gval_low_of (by omega) (show s.f0 < 16 by omega)
    unfold decD
    rw [ht, hd, hg, if_neg (by rw [List.length_append, h4]; omega), if_neg (by omega), if_neg (by omega), if_neg (by simp only [List.length_cons] at ho; omega)]
    rw [segD_back cls s.f0 hm hc s.f1 (encAll cls l ++ t) hl (hb s (by simp)) hfit]
    simp only [List.length_append] at hf
    have := ih (out ++ [⟨s.f0, s.f1⟩]) f hv (fun s' hs => hb s' (by simp [hs])) (by simp only [List.length_append]; omega) (by simp only [List.length_append, List.length_cons, List.length_nil] at ho ⊢; omega)
    refine Eq.trans (show _ = decD cls f (encAll cls l ++ t) (out ++ [⟨s.f0, s.f1⟩]) from rfl) ?_
    rw [this, hR, List.append_assoc]
    rfl
theorem decD_zeros (cls : Int) (n f : Nat) (out : List S59) : decD cls (f + 1) (List.replicate n false) out = (out, 0) := by
  unfold decD
  rw [List.length_replicate]
  by_cases h : n < 4
  · rw [if_pos h, gval_zeros, if_pos rfl]
  · rw [if_neg h, List.take_replicate, gval_zeros, if_pos rfl]
theorem decD_end (cls : Int) (t : List Bool) (f : Nat) (out : List S59) : decD cls (f + 1) ([false, false, false, false] ++ t) out = (out, 0) := by
  unfold decD
  rw [if_neg (by simp), if_pos]
  rfl
theorem trip_zeros {cls : Int} (hc : 0 ≤ cls ∧ cls ≤ 2) {l : List S59} (hv : okSegs cls l) (hb : ∀ s ∈ l, ∀ x ∈ s.f1, 0 ≤ x ∧ x < 256) (hl : l.length ≤ 4096) (n : Nat) (hn : sumBits cls l + n ≤ 1048576) : decR (encAll cls l ++ List.replicate n false) cls = (l, 0) := by
  have h := encAll_length cls l
  unfold decR
  rw [if_neg (by omega), if_neg (by rw [List.length_append, List.length_replicate]; omega), decD_back cls hc _ l [] _ hv hb (by omega) (by simpa using hl), decD_zeros]
  rfl
theorem trip_end {cls : Int} (hc : 0 ≤ cls ∧ cls ≤ 2) {l : List S59} (hv : okSegs cls l) (hb : ∀ s ∈ l, ∀ x ∈ s.f1, 0 ≤ x ∧ x < 256) (hl : l.length ≤ 4096) (t : List Bool) (hn : sumBits cls l + 4 + t.length ≤ 1048576) : decR (encAll cls l ++ ([false, false, false, false] ++ t)) cls = (l, 0) := by
  have h := encAll_length cls l
  unfold decR
  rw [if_neg (by omega), if_neg (by simp only [List.length_append, List.length_cons, List.length_nil]; omega), decD_back cls hc _ l [] _ hv hb (by omega) (by simpa using hl), decD_end]
  rfl
end Go.Proofs.Ytjhhckkmogekkaa.X

namespace Go.Proofs.Ytjhhckkmogekkaa.X
open Go.RowKit Go.Proofs.YtjhhckkmogekkaaW.PrintWords Go.Proofs.YtjhhckkmogekkaaW.PrintLast Go.Proofs.YtjhhckkmogekkaaW.PrintMore
set_option linter.unusedVariables false
set_option linter.unusedSimpArgs false

theorem rdS_at (l : List S59) (i : Nat) (h : i < l.length) : rd_T59 l (i : Int) = l[i] := by
  unfold rd_T59
  rw [show ((i : Int)).toNat = i by omega]
  simp [List.getD_eq_getElem?_getD, h]
theorem any_at {α : Type} {p : α → Bool} {l : List α} {i : Nat} (hi : i < l.length) (hp : p l[i] = true) : l.any p = true := List.any_eq_true.mpr ⟨l[i], List.getElem_mem hi, hp⟩
theorem rd_ofNat (l : List Int) (i : Nat) (h : i < l.length) : rd l (i : Int) = l[i] := by simp [rd, List.getElem?_eq_getElem h]
theorem any_full {α : Type} {p : α → Bool} {l : List α} {i : Nat} (hi : l.length ≤ i) (h : (l.take i).any p = false) : l.any p = false := by rwa [List.take_of_length_le hi] at h
theorem mbits_le {l : List S59} {cls : Int} (h : (mbits l cls).2 = 0) : sumBits cls l ≤ 1048576 := by
  unfold mbits at h
  split at h
  · simp at h
  split at h
  · simp at h
  split at h
  · simp at h
  split at h
  · simp at h
  · omega
theorem sumBits_take (cls : Int) (l : List S59) (i : Nat) (h : i < l.length) : sumBits cls (l.take (i + 1)) = sumBits cls (l.take i) + segBits cls l[i] := by
  rw [List.take_succ_eq_append_getElem h, sumBits_append]
  simp [sumBits]

section
variable (l : List S59) (c : Int) (hc : 0 ≤ c ∧ c ≤ 2) (hb : ∀ s ∈ l, ∀ x ∈ s.f1, 0 ≤ x ∧ x < 256)

theorem refBits_l3 (i : Nat) (acc : Int) (hi : i < l.length) (hb : ∀ s ∈ l, ∀ x ∈ s.f1, 0 ≤ x ∧ x < 256) (hcb : cbOf l[i].f0 c ≠ 0) (hlen : l[i].f1.length ≤ 1000000) (r : Int × Int) (hbad : badChar l[i] = true → r = (0, 6))
    (hok : badChar l[i] = false → Ev (fun k => barscanref16_Bits.l2 k l c (wrap64 (acc + segBits c l[i])) (wrap64 ((i : Int) + 1))) r) : ∀ (d j : Nat), j + d = l[i].f1.length → (l[i].f1.take j).any (fun x => !fitOf l[i].f0 x) = false → Ev (fun k => barscanref16_Bits.l3 k l c acc (i : Int) (j : Int)) r := by
  intro d
  induction d with
  | zero =>
    intro j hj hp
    refine Ev.step (fun k => by rw [barscanref16_Bits.l3]) ?_
    rw [rdS_at l i hi]
    refine ev_if (by omega) (ev_if (by omega) (ev_else (by omega) ?_))
    exact Ev.bind (refSize_ev _ c _ hcb (by omega) (by omega)) (hok (any_full (by omega) hp))
  | succ d ih =>
    intro j hj hp
    have hlt : j < l[i].f1.length := by omega
    refine Ev.step (fun k => by rw [barscanref16_Bits.l3]) ?_
    rw [rdS_at l i hi, rd_ofNat _ j hlt]
    refine ev_if (by omega) (ev_if (by omega) (ev_if (by omega) (ev_if (by omega) ?_)))
    have hx := hb l[i] (List.getElem_mem hi) l[i].f1[j] (List.getElem_mem hlt)
    refine Ev.bind (refFits_ev _ _ hx.1 hx.2) ?_
    by_cases e : fitOf l[i].f0 l[i].f1[j] = true
    · refine ev_if e ?_
      rw [show wrap64 ((j : Int) + 1) = ((j + 1 : Nat) : Int) from w_is (by omega) (by omega) (by omega)]
      exact ih (j + 1) (by omega) (any_take_succ _ _ _ hlt hp (by simp [e]))
    · refine ev_else e ?_
      rw [hbad (by unfold badChar; exact any_at hlt (by simp [e]))]
      exact Ev.now _
theorem refBits_l2 (hl : l.length ≤ 4096) (hb : ∀ s ∈ l, ∀ x ∈ s.f1, 0 ≤ x ∧ x < 256) (hbm : l.any (badMode c) = false) (htl : l.any (tooLong c) = false) (r : Int × Int) (hr : r = if l.any badChar = true then (0, 6) else if 1048576 < sumBits c l then (0, 4) else (sumBits c l, 0)) :
    ∀ (d i : Nat), i + d = l.length → (l.take i).any badChar = false → Ev (fun k => barscanref16_Bits.l2 k l c (sumBits c (l.take i)) (i : Int)) r := by
  have hs := sumBits_range c l htl
  intro d
  induction d with
  | zero =>
    intro i hi hp
    refine Ev.step (fun k => by rw [barscanref16_Bits.l2]) ?_
    refine ev_else (by omega) ?_
    have hp := any_full (by omega) hp
    rw [if_neg (by rw [hp]; simp)] at hr
    rw [List.take_of_length_le (by omega)]
    refine ev_cond (fun e => ?_) (fun e => ?_)
    · rw [hr, if_pos e]; exact Ev.now _
    · rw [hr, if_neg e]; exact Ev.now _
  | succ d ih =>
    intro i hi hp
    have hlt : i < l.length := by omega
    have hm : l[i] ∈ l := List.getElem_mem hlt
    have h1 := List.any_eq_false.mp hbm l[i] hm
    have h2 : tooLong c l[i] = false := by simpa using List.any_eq_false.mp htl l[i] hm
    have h3 := segBits_range c l[i] h2
    have h4 : (l.take (i + 1)).any (tooLong c) = false := List.any_eq_false.mpr fun x hx => List.any_eq_false.mp htl x (List.mem_of_mem_take hx)
    have h5 := sumBits_range c _ h4
    have h6 : (l.take (i + 1)).length ≤ 4096 := by rw [List.length_take]; omega
    refine Ev.step (fun k => by rw [barscanref16_Bits.l2]) ?_
    refine ev_if (by omega) ?_
    refine refBits_l3 l c i _ hlt hb (by unfold badMode at h1; simpa using h1) (by omega) r (fun e => ?_) (fun e => ?_) l[i].f1.length 0 (by omega) (by simp)
    · rw [hr, if_pos (any_at hlt e)]
    · rw [← sumBits_take c l i hlt, w_is rfl (by omega) (by omega), show wrap64 ((i : Int) + 1) = ((i + 1 : Nat) : Int) from w_is (by omega) (by omega) (by omega)]
      exact ih (i + 1) (by omega) (any_take_succ _ _ _ hlt hp e)
theorem refBits_l1 (hl : l.length ≤ 4096) (hb : ∀ s ∈ l, ∀ x ∈ s.f1, 0 ≤ x ∧ x < 256) (hbm : l.any (badMode c) = false) (r : Int × Int) (hr : r = if l.any (tooLong c) = true then (0, 4) else if l.any badChar = true then (0, 6) else if 1048576 < sumBits c l then (0, 4) else (sumBits c l, 0)) :
    ∀ (d i : Nat), i + d = l.length → (l.take i).any (tooLong c) = false → Ev (fun k => barscanref16_Bits.l1 k l c (i : Int)) r := by
  intro d
  induction d with
  | zero =>
    intro i hi hp
    have hp := any_full (by omega) hp
    refine Ev.step (fun k => by rw [barscanref16_Bits.l1]) ?_
    refine ev_else (by omega) ?_
    rw [if_neg (by rw [hp]; simp)] at hr
    exact refBits_l2 l c hl hb hbm hp r hr l.length 0 (by omega) (by simp)
  | succ d ih =>
    intro i hi hp
    have hlt : i < l.length := by omega
    have h1 := List.any_eq_false.mp hbm l[i] (List.getElem_mem hlt)
    have hcb : cbOf l[i].f0 c ≠ 0 := by unfold badMode at h1; simpa using h1
    have hpw : ((2 ^ (cbOf l[i].f0 c).toNat : Nat) : Int) = (2 : Int) ^ (cbOf l[i].f0 c).toNat := by simp
    refine Ev.step (fun k => by rw [barscanref16_Bits.l1]) ?_
    rw [rdS_at l i hlt]
    refine ev_if (by omega) (ev_if (by omega) (Ev.bind (refMost_ev _ c hcb) ?_))
    refine ev_cond (fun e => ?_) (fun e => ?_)
    · rw [hr, if_pos (any_at hlt (decide_eq_true (by omega)))]; exact Ev.now _
    · rw [show wrap64 ((i : Int) + 1) = ((i + 1 : Nat) : Int) from w_is (by omega) (by omega) (by omega)]
      exact ih (i + 1) (by omega) (any_take_succ _ _ _ hlt hp (decide_eq_false (by omega)))
theorem refBits_ev (hl : l.length ≤ 9223372036854775807) (hb : ∀ s ∈ l, ∀ x ∈ s.f1, 0 ≤ x ∧ x < 256) : Ev (fun k => barscanref16_Bits.f k l c) (mbits l c) := by
  unfold barscanref16_Bits.f
  have bad : c < 0 ∨ 2 < c → ∀ b, b = true → Ev (fun k => barscanref16_Bits.j0 k l c b) (mbits l c) := by
    intro h b hb
    refine Ev.step (fun k => by rw [barscanref16_Bits.j0]) ?_
    refine ev_if hb ?_
    unfold mbits
    rw [if_pos (by omega)]
    exact Ev.now _
  refine ev_cond (fun e => bad (.inl e) _ rfl) (fun e => ?_)
  by_cases e2 : 2 < c
  · exact bad (.inr e2) _ (by simpa using e2)
  refine Ev.step (fun k => by rw [barscanref16_Bits.j0]) ?_
  refine ev_else (by simpa using e2) ?_
  have key : ∀ (d i : Nat), i + d = l.length → (l.take i).any (badMode c) = false → Ev (fun k => barscanref16_Bits.l0 k l c (i : Int)) (mbits l c) := by
    intro d
    induction d with
    | zero =>
      intro i hi hp
      have hp := any_full (by omega) hp
      refine Ev.step (fun k => by rw [barscanref16_Bits.l0]) ?_
      refine ev_else (by omega) ?_
      unfold mbits
      rw [if_neg (by rw [hp]; simp; omega)]
      refine ev_cond (fun e => ?_) (fun e => ?_)
      · rw [if_pos (by omega)]; exact Ev.now _
      · refine refBits_l1 l c (by omega) hb hp _ ?_ l.length 0 (by omega) (by simp)
        by_cases e3 : l.any (tooLong c) = true
        · rw [if_pos (.inr e3), if_pos e3]
        · rw [if_neg (fun h => h.elim (fun h => e (by omega)) e3), if_neg e3]
    | succ d ih =>
      intro i hi hp
      have hlt : i < l.length := by omega
      refine Ev.step (fun k => by rw [barscanref16_Bits.l0]) ?_
      rw [rdS_at l i hlt]
      refine ev_if (by omega) (ev_if (by omega) (ev_is (known_is _) ?_))
      have hk := cbOf_known l[i].f0 c
      by_cases e3 : l[i].f0 = 1 ∨ l[i].f0 = 2 ∨ l[i].f0 = 4
      · refine ev_if (decide_eq_true e3) ?_
        rw [show wrap64 ((i : Int) + 1) = ((i + 1 : Nat) : Int) by rw [wrap64_id _ (by omega) (by omega)]; omega]
        refine ih (i + 1) (by omega) (any_take_succ _ _ _ hlt hp (decide_eq_false fun h => ?_))
        exact hk.mp h ⟨e3, by omega, by omega⟩
      · refine ev_else (by simp [e3]) ?_
        have : l.any (badMode c) = true := any_at hlt (decide_eq_true (hk.mpr fun h => e3 h.1))
        unfold mbits
        rw [if_pos (.inr (.inr this))]
        exact Ev.now _
  exact key l.length 0 (by omega) (by simp)
end
end Go.Proofs.Ytjhhckkmogekkaa.X

namespace Go.Proofs.Ytjhhckkmogekkaa.X
open Go.RowKit Go.Proofs.YtjhhckkmogekkaaW.PrintWords Go.Proofs.YtjhhckkmogekkaaW.PrintLast Go.Proofs.YtjhhckkmogekkaaW.PrintMore
set_option linter.unusedVariables false
set_option linter.unusedSimpArgs false

theorem refGroup_ev (m : Int) (hm : m = 1 ∨ m = 2 ∨ m = 4) (d : List Int) (hd : 0 < d.length) (hl : d.length ≤ 1000000) (hb : ∀ x ∈ d, 0 ≤ x ∧ x < 256) (hf : ∀ x ∈ d, fitOf m x = true) :
    Ev (fun k => barscanref16_group.f k m d) (numOf m (d.take (szOf m)), dbOf m (d.take (szOf m)).length, ((d.take (szOf m)).length : Int)) := by
  unfold barscanref16_group.f
  rcases hm with rfl | rfl | rfl
  · refine ev_if rfl ?_
    have hs : szOf 1 = 3 := rfl
    rw [hs]
    have key : ∀ (e i : Nat), i + e = min 3 d.length → Ev (fun k => barscanref16_group.l0 k 1 d (numOf 1 (d.take i)) (i : Int)) (numOf 1 (d.take 3), dbOf 1 (d.take 3).length, ((d.take 3).length : Int)) := by
      intro e
      induction e with
      | zero =>
        intro i hi
        have hlen : (d.take 3).length = i := by rw [List.length_take]; omega
        have ht : d.take i = d.take 3 := by
          rcases Nat.lt_or_ge d.length 3 with h | h
          · rw [List.take_of_length_le (by omega), List.take_of_length_le (by omega)]
          · rw [show i = 3 by omega]
        rw [hlen, ht]
        refine Ev.step (fun k => by rw [barscanref16_group.l0]) ?_
        refine ev_cond (fun e1 => ev_else (by omega) ?_) (fun e1 => ?_)
        · exact ev_is (refData_is 1 i (by omega) (by omega)) (Ev.now _)
        · exact ev_is (refData_is 1 i (by omega) (by omega)) (Ev.now _)
      | succ e ih =>
        intro i hi
        have hlt : i < d.length := by omega
        refine Ev.step (fun k => by rw [barscanref16_group.l0]) ?_
        refine ev_if (by omega) (ev_if (by omega) (ev_if (by omega) ?_))
        have hn : wrap64 ((wrap64 (10 * numOf 1 (d.take i))) + (((rd d (i : Int)) - 48) % 256)) = numOf 1 (d.take (i + 1)) := by
          rw [rd_ofNat d i hlt, List.take_succ_eq_append_getElem hlt]
          unfold numOf
          rw [List.foldl_append]
          simp only [List.foldl, numStep, if_true]
        rw [hn, show wrap64 ((i : Int) + 1) = ((i + 1 : Nat) : Int) from w_is (by omega) (by omega) (by omega)]
        exact ih (i + 1) (by omega)
    exact key (min 3 d.length) 0 (by omega)
  · refine ev_else (by decide) (ev_else (by decide) ?_)
    have hs : szOf 2 = 2 := rfl
    rw [hs]
    have hi : ∀ x ∈ d, 0 ≤ ixOf x ∧ ixOf x < 45 := fun x hx => ⟨(alnum_ch (hb x hx).1 (hb x hx).2 (hf x hx)).1, (alnum_ch (hb x hx).1 (hb x hx).2 (hf x hx)).2.1⟩
    match d, hd with
    | [a], _ =>
      have ha := hi a (by simp)
      have hba := hb a (by simp)
      refine ev_if rfl (ev_if (by simp) ?_)
      refine Ev.bind (place_ev _ hba.1 hba.2) (ev_val ?_)
      have e : numOf 2 ([a].take 2) = ixOf a := by
        show wrap64 (wrap64 (45 * 0) + ixOf a) = ixOf a
        rw [show wrap64 (45 * 0) = 0 by decide +kernel, Int.zero_add]
        exact w_is rfl (by omega) (by omega)
      rw [e]
      show (ixOf a, (6 : Int), (1 : Int)) = _
      simp [dbOf]
    | a :: b :: t, _ =>
      have ha := hi a (by simp)
      have hba := hb a (by simp)
      have hb1 := hi b (by simp)
      have hbb := hb b (by simp)
      refine ev_else (by simp only [List.length_cons]; omega) (ev_if (by simp only [List.length_cons]; omega) ?_)
      refine Ev.bind (place_ev _ hba.1 hba.2) (ev_if (by simp only [List.length_cons]; omega) ?_)
      have r1 : rd (a :: b :: t) 1 = b := rfl
      rw [r1]
      refine Ev.bind (place_ev _ hbb.1 hbb.2) (ev_val ?_)
      have e : numOf 2 ((a :: b :: t).take 2) = wrap64 (wrap64 (45 * ixOf a) + ixOf b) := by
        show wrap64 (wrap64 (45 * wrap64 (wrap64 (45 * 0) + ixOf a)) + ixOf b) = _
        rw [show wrap64 (45 * 0) = 0 by decide +kernel, Int.zero_add, show wrap64 (ixOf a) = ixOf a from w_is rfl (by omega) (by omega)]
      rw [e]
      show (wrap64 (wrap64 (45 * ixOf a) + ixOf b), (11 : Int), (2 : Int)) = _
      simp [dbOf]
  · refine ev_else (by decide) (ev_if rfl (ev_if (by omega) ?_))
    match d, hd with
    | a :: t, _ =>
      refine ev_val ?_
      rfl

theorem refEnc_data (l : List S59) (c : Int) (i : Nat) (hi : i < l.length) (hm : l[i].f0 = 1 ∨ l[i].f0 = 2 ∨ l[i].f0 = 4) (hlen : l[i].f1.length ≤ 1000000) (hb : ∀ x ∈ l[i].f1, 0 ≤ x ∧ x < 256) (hf : ∀ x ∈ l[i].f1, fitOf l[i].f0 x = true) (r : List Bool × Int) :
    ∀ (n at_ : Nat) (out : List Bool), l[i].f1.length - at_ ≤ n → at_ ≤ l[i].f1.length → out.length + (encData l[i].f0 (l[i].f1.drop at_)).length ≤ 1048576 → Ev (fun k => barscanref16_Encode.l0 k l c (out ++ encData l[i].f0 (l[i].f1.drop at_)) (wrap64 ((i : Int) + 1))) r →
      Ev (fun k => barscanref16_Encode.l1 k l c out (i : Int) (at_ : Int)) r := by
  have hs := szOf_range l[i].f0
  intro n
  induction n with
  | zero =>
    intro at_ out h1 h2 h3 h
    rw [List.drop_of_length_le (by omega), encData_nil, List.append_nil] at h
    refine Ev.step (fun k => by rw [barscanref16_Encode.l1]) ?_
    rw [rdS_at l i hi]
    exact ev_if (by omega) (ev_if (by omega) (ev_else (by omega) h))
  | succ n ih =>
    intro at_ out h1 h2 h3 h
    by_cases e : at_ = l[i].f1.length
    · rw [List.drop_of_length_le (by omega), encData_nil, List.append_nil] at h
      refine Ev.step (fun k => by rw [barscanref16_Encode.l1]) ?_
      rw [rdS_at l i hi]
      exact ev_if (by omega) (ev_if (by omega) (ev_else (by omega) h))
    refine Ev.step (fun k => by rw [barscanref16_Encode.l1]) ?_
    rw [rdS_at l i hi]
    refine ev_if (by omega) (ev_if (by omega) (ev_if (by omega) (ev_if (by omega) (ev_if (by omega) ?_))))
    rw [Int.toNat_natCast]
    have hdl : (l[i].f1.drop at_).length = l[i].f1.length - at_ := List.length_drop
    have hg := refGroup_ev l[i].f0 hm (l[i].f1.drop at_) (by omega) (by omega) (fun x hx => hb x (List.mem_of_mem_drop hx)) (fun x hx => hf x (List.mem_of_mem_drop hx))
    have hrec := encData_rec l[i].f0 (l[i].f1.drop at_) (by intro h0; rw [h0] at hdl; simp at hdl; omega)
    rw [hrec] at h h3
    have htl : ((l[i].f1.drop at_).take (szOf l[i].f0)).length = min (szOf l[i].f0) (l[i].f1.length - at_) := by rw [List.length_take, hdl]
    generalize hgd : (l[i].f1.drop at_).take (szOf l[i].f0) = g at *
    have hr := dbOf_range l[i].f0 g.length (by omega)
    obtain ⟨w, hw⟩ : ∃ w : Nat, dbOf l[i].f0 g.length = w := ⟨(dbOf l[i].f0 g.length).toNat, by omega⟩
    have hgb : grpBits l[i].f0 g = low (numOf l[i].f0 g) w := by unfold grpBits; rw [hw, Int.toNat_natCast]
    rw [hgb] at h h3
    rw [List.length_append, low_length] at h3
    refine Ev.bind hg ?_
    rw [hw]
    refine Ev.bind (refAppend_ev out (numOf l[i].f0 g) w (by omega) (by omega)) ?_
    rw [List.drop_drop] at h h3
    have hnext : at_ + szOf l[i].f0 = at_ + g.length ∨ l[i].f1.length ≤ at_ + g.length ∧ l[i].f1.length ≤ at_ + szOf l[i].f0 := by omega
    have hdr : l[i].f1.drop (at_ + szOf l[i].f0) = l[i].f1.drop (at_ + g.length) := by
      rcases hnext with h | ⟨h, h'⟩
      · rw [h]
      · rw [List.drop_of_length_le h, List.drop_of_length_le h']
    rw [hdr] at h h3
    clear hnext
    have g1 : l[i].f1.length - (at_ + g.length) ≤ n := by omega
    have g2 : at_ + g.length ≤ l[i].f1.length := by omega
    have g3 : (out ++ low (numOf l[i].f0 g) w).length + (encData l[i].f0 (l[i].f1.drop (at_ + g.length))).length ≤ 1048576 := by rw [List.length_append, low_length]; omega
    have hw1 : wrap64 ((at_ : Int) + (g.length : Int)) = ((at_ + g.length : Nat) : Int) := w_is (by omega) (by omega) (by omega)
    show Ev (fun k => barscanref16_Encode.l1 k l c (out ++ low (numOf l[i].f0 g) w) (i : Int) (wrap64 ((at_ : Int) + (g.length : Int)))) r
    rw [hw1]
    rw [← List.append_assoc] at h
    exact ih (at_ + g.length) _ g1 g2 g3 h
theorem refEnc_loop (l : List S59) (c : Int) (hc : 0 ≤ c ∧ c ≤ 2) (hv : okSegs c l) (hb : ∀ s ∈ l, ∀ x ∈ s.f1, 0 ≤ x ∧ x < 256) (hl : l.length ≤ 1000000) : ∀ (d i : Nat) (out : List Bool), i + d = l.length → out.length + (encAll c (l.drop i)).length ≤ 1048576 → Ev (fun k => barscanref16_Encode.l0 k l c out (i : Int)) (out ++ encAll c (l.drop i), 0) := by
  intro d
  induction d with
  | zero =>
    intro i out hi ho
    rw [List.drop_of_length_le (by omega)]
    refine Ev.step (fun k => by rw [barscanref16_Encode.l0]) ?_
    refine ev_else (by omega) (ev_val ?_)
    simp [encAll]
  | succ d ih =>
    intro i out hi ho
    have hlt : i < l.length := by omega
    obtain ⟨hm, hlen, hf⟩ := hv l[i] (List.getElem_mem hlt)
    have hcb := cb_mode hc hm
    have hpw := Nat.pow_le_pow_right (n := 2) (by omega) (show (cbOf l[i].f0 c).toNat ≤ 16 by omega)
    have e16 : (2 : Nat) ^ 16 = 65536 := rfl
    have he : encAll c (l.drop i) = low l[i].f0 4 ++ (low l[i].f1.length (cbOf l[i].f0 c).toNat ++ (encData l[i].f0 l[i].f1 ++ encAll c (l.drop (i + 1)))) := by
      rw [List.drop_eq_getElem_cons hlt]
      unfold encAll
      rw [List.flatMap_cons]
      unfold encSeg
      simp only [List.append_assoc]
    rw [he] at ho ⊢
    simp only [List.length_append, low_length] at ho
    obtain ⟨q, hq⟩ : ∃ q : Nat, cbOf l[i].f0 c = q := ⟨(cbOf l[i].f0 c).toNat, by omega⟩
    rw [hq, Int.toNat_natCast] at ho ⊢
    refine Ev.step (fun k => by rw [barscanref16_Encode.l0]) ?_
    rw [rdS_at l i hlt]
    have hcount := refCount_ev l[i].f0 c
    rw [if_neg (by omega), hq] at hcount
    refine ev_if (by omega) (ev_if (by omega) (Ev.bind hcount ?_))
    refine Ev.bind (refAppend_ev out l[i].f0 4 (by omega) (by omega)) ?_
    refine Ev.bind (refAppend_ev (out ++ low l[i].f0 4) l[i].f1.length q (by omega) (by rw [List.length_append, low_length]; omega)) ?_
    refine refEnc_data l c i hlt hm (by omega) (hb _ (List.getElem_mem hlt)) hf _ l[i].f1.length 0 _ (by omega) (by omega) (by rw [List.drop_zero]; simp only [List.length_append, low_length]; omega) ?_
    rw [List.drop_zero, show wrap64 ((i : Int) + 1) = ((i + 1 : Nat) : Int) from w_is (by omega) (by omega) (by omega)]
    have := ih (i + 1) (out ++ low l[i].f0 4 ++ low (l[i].f1.length : Int) q ++ encData l[i].f0 l[i].f1) (by omega) (by simp only [List.length_append, low_length]; omega)
    simpa only [List.append_assoc] using this
theorem refEncode_ev (l : List S59) (c : Int) (hb : ∀ s ∈ l, ∀ x ∈ s.f1, 0 ≤ x ∧ x < 256) (hl : l.length ≤ 9223372036854775807) : Ev (fun k => barscanref16_Encode.f k l c) (encR l c) := by
  unfold barscanref16_Encode.f encR
  refine Ev.bind (refBits_ev l c hl hb) ?_
  refine ev_cond (fun e => ?_) (fun e => ?_)
  · rw [if_pos e]
    obtain ⟨hc, hv, h4, hm⟩ := bits_okSegs e
    have h1 := mbits_le e
    have h2 := encAll_length c l
    exact refEnc_loop l c hc hv hb (by omega) l.length 0 [] (by omega) (by rw [List.drop_zero, List.length_nil]; omega)
  · rw [if_neg e]
    exact Ev.now _
end Go.Proofs.Ytjhhckkmogekkaa.X
