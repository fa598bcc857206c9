/- slices.ContainsFunc over the three closures of modes.Bits: whether an element passes. No condition. -/
import Derived.Test.YtjhhckkmogekkaaYMParts
import Derived.WalkSpells
namespace Go.Proofs.Ytjhhckkmogekkaa.X
open Go.RowKit Go.Proofs.YtjhhckkmogekkaaW.PrintWords Go.Proofs.YtjhhckkmogekkaaW.PrintLast Go.Proofs.YtjhhckkmogekkaaW.PrintMore
set_option linter.unusedVariables false
set_option linter.unusedSimpArgs false

/-- The first place at which p holds, or -1. -/
def idxI {α : Type} (p : α → Bool) : List α → Int
  | [] => -1
  | x :: l => if p x then 0 else if idxI p l = -1 then -1 else idxI p l + 1
theorem idxI_ge {α : Type} (p : α → Bool) (l : List α) : -1 ≤ idxI p l ∧ idxI p l < l.length + 1 ∧ (decide (0 ≤ idxI p l) = l.any p) := by
  induction l with
  | nil => simp [idxI]
  | cons x l ih =>
    obtain ⟨h1, h2, h3⟩ := ih
    unfold idxI
    by_cases hx : p x = true
    · rw [if_pos hx]; simp [hx]; omega
    · rw [if_neg hx]
      split
      · rename_i he
        rw [he] at h3
        have h4 : l.any p = false := by rw [← h3]; rfl
        refine ⟨by omega, by simp only [List.length_cons]; omega, ?_⟩
        rw [List.any_cons, h4]
        simp [hx]
      · rename_i he
        refine ⟨by omega, by simp; omega, ?_⟩
        rw [List.any_cons, ← h3]
        simp only [hx, Bool.false_or]
        exact decide_eq_decide.2 (by omega)
theorem idxI_at {α : Type} (p : α → Bool) (l : List α) (i : Nat) (h : (l.take i).any p = false) (hi : i < l.length) (hp : p l[i] = true) : idxI p l = i := by
  induction l generalizing i with
  | nil => simp at hi
  | cons x l ih =>
    cases i with
    | zero => simp at hp; simp [idxI, hp]
    | succ i =>
      simp only [List.take_succ_cons, List.any_cons, Bool.or_eq_false_iff] at h
      have := ih i h.2 (by simpa using hi) (by simpa using hp)
      unfold idxI
      rw [if_neg (by simp [h.1]), this, if_neg (by omega)]
      simp
theorem idxI_none {α : Type} (p : α → Bool) (l : List α) (h : l.any p = false) : idxI p l = -1 := by
  induction l with
  | nil => rfl
  | cons x l ih =>
    simp only [List.any_cons, Bool.or_eq_false_iff] at h
    unfold idxI
    rw [if_neg (by simp [h.1]), if_pos (ih h.2)]
theorem any_take_succ {α : Type} (p : α → Bool) (l : List α) (i : Nat) (hi : i < l.length) (h : (l.take i).any p = false) (hp : p l[i] = false) : (l.take (i + 1)).any p = false := by
  rw [List.take_succ_eq_append_getElem hi, List.any_append, h]
  simp [hp]

set_option maxHeartbeats 1000000 in
set_option maxRecDepth 100000 in
theorem Bits1_calls (m cls : Int) (A : Option Addr) (n c g : Nat) (w : World) (hc : w.cell? ⟨g, 0, none⟩ = some (.int .i64 cls)) (hg : g < w.heap.size) :
    Calls Try.prog 72 #[.agg #[.int .i64 m, .slice A n c], .pointer (some ⟨g, 0, none⟩)] w fun e w' => e = .returned (.bool (decide (cbOf m cls = 0))) ∧ Below w.heap.size w w' := by
  go_enter Try.func72, Try.ntmps72
  go_wp2_with (go_at_call 45; refine (modes_countBits.calls 1 m cls _ _ (countBits_is 0 m cls)).mono ?_; rintro e w1 ⟨rfl, hB⟩; have HB := Aside0.mk hB; clear hB)
  go_ret
  exact ⟨rfl, bstep (below_alloc (Below.refl _ _) _) HB.out⟩

theorem cb_cases (m c : Int) : cbOf m c = 0 ∨ cbOf m c = 8 ∨ cbOf m c = 9 ∨ cbOf m c = 10 ∨ cbOf m c = 11 ∨ cbOf m c = 12 ∨ cbOf m c = 13 ∨ cbOf m c = 14 ∨ cbOf m c = 16 := by
  unfold cbOf; split <;> (try split) <;> (try split) <;> (try split) <;> (try split) <;> omega
theorem pow2_le (cb : Int) (h0 : 0 ≤ cb) (h16 : cb ≤ 16) : ∀ n : Nat, decide (IntKind.i64.wrap (2 ^ cb.toNat) ≤ (n : Int)) = decide (2 ^ cb.toNat ≤ n) := by
  intro n
  have hs : IntKind.i64.wrap (2 ^ cb.toNat) = ((2 ^ cb.toNat : Nat) : Int) := by
    have h := Nat.pow_le_pow_right (n := 2) (by omega) (show cb.toNat ≤ 16 by omega)
    have h2 : (2 : Int) ^ cb.toNat = ((2 ^ cb.toNat : Nat) : Int) := by simp
    rw [i64_w, h2]
    generalize 2 ^ cb.toNat = z at h ⊢
    exact wrap64_id _ (by omega) (by omega)
  rw [hs]
  exact decide_eq_decide.2 (by omega)
set_option maxHeartbeats 4000000 in
set_option maxRecDepth 100000 in
theorem Bits2_calls (m cls : Int) (A : Option Addr) (n c g : Nat) (w : World) (hc : w.cell? ⟨g, 0, none⟩ = some (.int .i64 cls)) (hg : g < w.heap.size) :
    Calls Try.prog 73 #[.agg #[.int .i64 m, .slice A n c], .pointer (some ⟨g, 0, none⟩)] w fun e w' => e = .returned (.bool (decide (2 ^ (cbOf m cls).toNat ≤ n))) ∧ Below w.heap.size w w' := by
  have hcb := countBits_is 0 m cls
  obtain ⟨h0, h16⟩ := cbOf_range m cls
  generalize cbOf m cls = cb at *
  have HCB := Aside0.mk hcb
  have h64 : cb ≤ 64 := by omega
  clear hcb
  go_enter Try.func73, Try.ntmps73
  go_upto_region 1 with (fail)
  have hx0 : (w.alloc (.cells #[.int .i64 m, .slice A n c] 59)).cell? ⟨w.heap.size, 0, none⟩ = some (.int .i64 m) := by simp
  have hx1 : (w.alloc (.cells #[.int .i64 m, .slice A n c] 59)).cell? ⟨w.heap.size, 1, none⟩ = some (.slice A n c) := by simp
  have hx2 : (w.alloc (.cells #[.int .i64 m, .slice A n c] 59)).cell? ⟨g, 0, none⟩ = some (.int .i64 cls) := by rw [World.cell?_alloc_past _ _ _ hg]; exact hc
  have HB0 := Aside0.mk (below_alloc (Below.refl w.heap.size w) (.cells #[.int .i64 m, .slice A n c] 59))
  generalize w.alloc (.cells #[.int .i64 m, .slice A n c] 59) = W0 at *
  generalize hgb : w.heap.size = gb at *
  have HGB := Aside0.mk hgb
  clear hc hg hgb
  go_region_with (go_at_call 45; refine (modes_countBits.calls 1 m cls _ _ HCB.out).mono ?_; rintro e w1 ⟨rfl, hB⟩; have hy0 := pw_cell_below hB hx0; have hy1 := pw_cell_below hB hx1; have HB := Aside0.mk hB; clear hB)
  all_goals
    go_wp2_with fail
    go_ret
    obtain rfl := HGB.out
    refine ⟨?_, by first | exact bstep HB0.out HB.out | exact bstep (below_drew HB0.out) HB.out⟩
    rw [← pow2_le cb h0 h16 n]
    rfl

set_option maxHeartbeats 1000000 in
set_option maxRecDepth 100000 in
theorem Bits3_calls (m x : Int) (g : Nat) (u : Value) (w : World) (hc : w.cell? ⟨g, 0, none⟩ = some (.int .i64 m)) :
    Calls Try.prog 75 #[.int .u8 x, .pointer (some ⟨g, 0, none⟩)] w fun e w' => e = .returned (.bool (!fitOf m x)) ∧ Below w.heap.size w w' := by
  go_enter Try.func75, Try.ntmps75
  go_wp2_with (go_at_call 76; refine (modes_Fits.calls m x _ _ (fits_is m x)).mono ?_; rintro e w1 ⟨rfl, hD⟩; have HB := Aside0.mk (drawn_below hD); clear hD)
  go_ret
  exact ⟨rfl, HB.out⟩

set_option maxHeartbeats 4000000 in
set_option maxRecDepth 100000 in
theorem Index1_calls (cls : Int) (g : Nat) (A0 : Option Addr) (c0 : Nat) (l0 : List S59) (w : World) (hr0 : Kd.C k59 w A0 l0.length l0) (hc0 : l0.length ≤ c0) (hc : w.cell? ⟨g, 0, none⟩ = some (.int .i64 cls)) (hg : g < w.heap.size) (hl : l0.length ≤ 9223372036854775807) :
    Calls Try.prog 91 #[.slice A0 l0.length c0, .func (.func 72) #[] #[.pointer (some ⟨g, 0, none⟩)]] w fun e w' => e = .returned (.int .i64 (idxI (fun s => decide (cbOf s.f0 cls = 0)) l0)) ∧ Below w.heap.size w w' := by
  have HR0 := Aside0.mk hr0
  have HC := Aside0.mk (And.intro hc hg)
  have HL := Aside0.mk hl
  clear hr0 hc hg hc0
  obtain ⟨p, hp⟩ : ∃ p : S59 → Bool, p = (fun s => decide (cbOf s.f0 cls = 0)) := ⟨_, rfl⟩
  rw [← hp]
  have HP := Aside0.mk hp
  clear hp
  go_enter Try.func91, Try.ntmps91
  go_wp2_with fail
  go_loopw [8] (fun v8 wr => ∃ i : Nat, v8 = .int .i64 i ∧ Aside0 (i ≤ l0.length ∧ (l0.take i).any p = false) ∧ Aside0 (Below w.heap.size w wr)) (fun v8 _ => l0.length - (intOf v8).toNat)
  case atStart => exact ⟨0, rfl, ⟨Nat.zero_le _, by simp⟩, ⟨Below.refl _ _⟩⟩
  case round =>
    obtain ⟨i, rfl, HI, HB⟩ := hrel
    by_cases hlt : i < l0.length
    · have t0 : decide ((i : Int) < (l0.length : Int)) = true := decide_eq_true (by omega)
      have t0n : decide (i < l0.length) = true := decide_eq_true hlt
      obtain ⟨ad, A1, c1, rfl, hx0, hx1, _, _⟩ := at_T59 (Kd.C_below HR0.out HB.out) (i : Int) (by omega) (by omega)
      simp only [Int.toNat_natCast] at hx0 hx1
      have hcw : wr.cell? ⟨g, 0, none⟩ = some (.int .i64 cls) := pw_cell_below HB.out HC.out.1
      have hgw : g < wr.heap.size := Nat.lt_of_lt_of_le HC.out.2 HB.out.size
      have HW := Aside0.mk (show wrap64 ((i : Int) + 1) = ((i + 1 : Nat) : Int) by have := HL.out; unfold wrap64; omega)
      have HLT := Aside0.mk hlt
      have hcall := Bits1_calls (rd_T59 l0 i).f0 cls A1 (rd_T59 l0 i).f1.length c1 g wr hcw hgw
      rw [show (decide (cbOf (rd_T59 l0 i).f0 cls = 0)) = p l0[i] from by rw [HP.out]; simp [rd_T59, List.getD_eq_getElem?_getD, List.getElem?_eq_getElem hlt]] at hcall
      obtain ⟨b, hb⟩ : ∃ b, p l0[i] = b := ⟨_, rfl⟩
      rw [hb] at hcall
      have HCL := Aside0.mk hcall
      have HBV := Aside0.mk hb
      clear hcall hb hcw hgw hl
      go_wp2_with fail
      refine HCL.out.mono ?_
      rintro e w1 ⟨rfl, hB⟩
      have HB1 := Aside0.mk (bstep HB.out hB)
      clear hB
      cases b with
      | false =>
        go_wp2_with fail
        rw [HW.out]
        refine ⟨⟨i + 1, rfl, ⟨HLT.out, any_take_succ p l0 i HLT.out HI.out.2 HBV.out⟩, HB1⟩, ?_⟩
        have := HLT.out
        simp only [intOf, Int.toNat_natCast]
        omega
      | true =>
        go_wp2_with fail
        go_ret
        exact ⟨by rw [idxI_at p l0 i HI.out.2 HLT.out HBV.out]; rfl, HB1.out⟩
    · have t0 : decide ((i : Int) < (l0.length : Int)) = false := decide_eq_false (by omega)
      have t0n : decide (i < l0.length) = false := decide_eq_false hlt
      have hz : idxI p l0 = -1 := by
        refine idxI_none p l0 ?_
        have h1 := HI.out.2
        rw [List.take_of_length_le (by omega)] at h1
        exact h1
      have HZ := Aside0.mk hz
      clear hz hl hlt
      go_wp2_with fail
      go_ret
      exact ⟨by rw [HZ.out]; rfl, HB.out⟩

set_option maxHeartbeats 1000000 in
set_option maxRecDepth 100000 in
theorem Contains1_calls (cls : Int) (g : Nat) (A0 : Option Addr) (c0 : Nat) (l0 : List S59) (w : World) (hr0 : Kd.C k59 w A0 l0.length l0) (hc0 : l0.length ≤ c0) (hc : w.cell? ⟨g, 0, none⟩ = some (.int .i64 cls)) (hg : g < w.heap.size) (hl : l0.length ≤ 9223372036854775807) :
    Calls Try.prog 71 #[.slice A0 l0.length c0, .func (.func 72) #[] #[.pointer (some ⟨g, 0, none⟩)]] w fun e w' => e = .returned (.bool (l0.any (fun s => decide (cbOf s.f0 cls = 0)))) ∧ Below w.heap.size w w' := by
  have hz := (idxI_ge (fun s => decide (cbOf s.f0 cls = 0)) l0).2.2
  have hcall := Index1_calls cls g A0 c0 l0 w hr0 hc0 hc hg hl
  generalize idxI (fun s => decide (cbOf s.f0 cls = 0)) l0 = z at *
  rw [← hz]
  have HCL := Aside0.mk hcall
  clear hcall hz hr0 hc hg hl hc0
  go_enter Try.func71, Try.ntmps71
  go_wp2_with fail
  refine HCL.out.mono ?_
  rintro e w1 ⟨rfl, hB⟩
  have HB := Aside0.mk hB
  clear hB
  go_wp2_with fail
  go_ret
  exact ⟨rfl, HB.out⟩

set_option maxHeartbeats 4000000 in
set_option maxRecDepth 100000 in
theorem Index2_calls (cls : Int) (g : Nat) (A0 : Option Addr) (c0 : Nat) (l0 : List S59) (w : World) (hr0 : Kd.C k59 w A0 l0.length l0) (hc0 : l0.length ≤ c0) (hc : w.cell? ⟨g, 0, none⟩ = some (.int .i64 cls)) (hg : g < w.heap.size) (hl : l0.length ≤ 9223372036854775807) :
    Calls Try.prog 91 #[.slice A0 l0.length c0, .func (.func 73) #[] #[.pointer (some ⟨g, 0, none⟩)]] w fun e w' => e = .returned (.int .i64 (idxI (fun s => decide (2 ^ (cbOf s.f0 cls).toNat ≤ s.f1.length)) l0)) ∧ Below w.heap.size w w' := by
  have HR0 := Aside0.mk hr0
  have HC := Aside0.mk (And.intro hc hg)
  have HL := Aside0.mk hl
  clear hr0 hc hg hc0
  obtain ⟨p, hp⟩ : ∃ p : S59 → Bool, p = (fun s => decide (2 ^ (cbOf s.f0 cls).toNat ≤ s.f1.length)) := ⟨_, rfl⟩
  rw [← hp]
  have HP := Aside0.mk hp
  clear hp
  go_enter Try.func91, Try.ntmps91
  go_wp2_with fail
  go_loopw [8] (fun v8 wr => ∃ i : Nat, v8 = .int .i64 i ∧ Aside0 (i ≤ l0.length ∧ (l0.take i).any p = false) ∧ Aside0 (Below w.heap.size w wr)) (fun v8 _ => l0.length - (intOf v8).toNat)
  case atStart => exact ⟨0, rfl, ⟨Nat.zero_le _, by simp⟩, ⟨Below.refl _ _⟩⟩
  case round =>
    obtain ⟨i, rfl, HI, HB⟩ := hrel
    by_cases hlt : i < l0.length
    · have t0 : decide ((i : Int) < (l0.length : Int)) = true := decide_eq_true (by omega)
      have t0n : decide (i < l0.length) = true := decide_eq_true hlt
      obtain ⟨ad, A1, c1, rfl, hx0, hx1, _, _⟩ := at_T59 (Kd.C_below HR0.out HB.out) (i : Int) (by omega) (by omega)
      simp only [Int.toNat_natCast] at hx0 hx1
      have hcw : wr.cell? ⟨g, 0, none⟩ = some (.int .i64 cls) := pw_cell_below HB.out HC.out.1
      have hgw : g < wr.heap.size := Nat.lt_of_lt_of_le HC.out.2 HB.out.size
      have HW := Aside0.mk (show wrap64 ((i : Int) + 1) = ((i + 1 : Nat) : Int) by have := HL.out; unfold wrap64; omega)
      have HLT := Aside0.mk hlt
      have hcall := Bits2_calls (rd_T59 l0 i).f0 cls A1 (rd_T59 l0 i).f1.length c1 g wr hcw hgw
      rw [show (decide (2 ^ (cbOf (rd_T59 l0 i).f0 cls).toNat ≤ (rd_T59 l0 i).f1.length)) = p l0[i] from by rw [HP.out]; simp [rd_T59, List.getD_eq_getElem?_getD, List.getElem?_eq_getElem hlt]] at hcall
      obtain ⟨b, hb⟩ : ∃ b, p l0[i] = b := ⟨_, rfl⟩
      rw [hb] at hcall
      have HCL := Aside0.mk hcall
      have HBV := Aside0.mk hb
      clear hcall hb hcw hgw hl
      go_wp2_with fail
      refine HCL.out.mono ?_
      rintro e w1 ⟨rfl, hB⟩
      have HB1 := Aside0.mk (bstep HB.out hB)
      clear hB
      cases b with
      | false =>
        go_wp2_with fail
        rw [HW.out]
        refine ⟨⟨i + 1, rfl, ⟨HLT.out, any_take_succ p l0 i HLT.out HI.out.2 HBV.out⟩, HB1⟩, ?_⟩
        have := HLT.out
        simp only [intOf, Int.toNat_natCast]
        omega
      | true =>
        go_wp2_with fail
        go_ret
        exact ⟨by rw [idxI_at p l0 i HI.out.2 HLT.out HBV.out]; rfl, HB1.out⟩
    · have t0 : decide ((i : Int) < (l0.length : Int)) = false := decide_eq_false (by omega)
      have t0n : decide (i < l0.length) = false := decide_eq_false hlt
      have hz : idxI p l0 = -1 := by
        refine idxI_none p l0 ?_
        have h1 := HI.out.2
        rw [List.take_of_length_le (by omega)] at h1
        exact h1
      have HZ := Aside0.mk hz
      clear hz hl hlt
      go_wp2_with fail
      go_ret
      exact ⟨by rw [HZ.out]; rfl, HB.out⟩

set_option maxHeartbeats 1000000 in
set_option maxRecDepth 100000 in
theorem Contains2_calls (cls : Int) (g : Nat) (A0 : Option Addr) (c0 : Nat) (l0 : List S59) (w : World) (hr0 : Kd.C k59 w A0 l0.length l0) (hc0 : l0.length ≤ c0) (hc : w.cell? ⟨g, 0, none⟩ = some (.int .i64 cls)) (hg : g < w.heap.size) (hl : l0.length ≤ 9223372036854775807) :
    Calls Try.prog 71 #[.slice A0 l0.length c0, .func (.func 73) #[] #[.pointer (some ⟨g, 0, none⟩)]] w fun e w' => e = .returned (.bool (l0.any (fun s => decide (2 ^ (cbOf s.f0 cls).toNat ≤ s.f1.length)))) ∧ Below w.heap.size w w' := by
  have hz := (idxI_ge (fun s => decide (2 ^ (cbOf s.f0 cls).toNat ≤ s.f1.length)) l0).2.2
  have hcall := Index2_calls cls g A0 c0 l0 w hr0 hc0 hc hg hl
  generalize idxI (fun s => decide (2 ^ (cbOf s.f0 cls).toNat ≤ s.f1.length)) l0 = z at *
  rw [← hz]
  have HCL := Aside0.mk hcall
  clear hcall hz hr0 hc hg hl hc0
  go_enter Try.func71, Try.ntmps71
  go_wp2_with fail
  refine HCL.out.mono ?_
  rintro e w1 ⟨rfl, hB⟩
  have HB := Aside0.mk hB
  clear hB
  go_wp2_with fail
  go_ret
  exact ⟨rfl, HB.out⟩

set_option maxHeartbeats 4000000 in
set_option maxRecDepth 100000 in
theorem Index3_calls (m : Int) (g : Nat) (A0 : Option Addr) (c0 : Nat) (l0 : List Int) (w : World) (hr0 : Kd.C (Kd.int .u8) w A0 l0.length l0) (hc0 : l0.length ≤ c0) (hc : w.cell? ⟨g, 0, none⟩ = some (.int .i64 m)) (hg : g < w.heap.size) (hl : l0.length ≤ 9223372036854775807) :
    Calls Try.prog 92 #[.slice A0 l0.length c0, .func (.func 75) #[] #[.pointer (some ⟨g, 0, none⟩)]] w fun e w' => e = .returned (.int .i64 (idxI (fun x => !fitOf m x) l0)) ∧ Below w.heap.size w w' := by
  have HR0 := Aside0.mk hr0
  have HC := Aside0.mk (And.intro hc hg)
  have HL := Aside0.mk hl
  clear hr0 hc hg hc0
  obtain ⟨p, hp⟩ : ∃ p : Int → Bool, p = (fun x => !fitOf m x) := ⟨_, rfl⟩
  rw [← hp]
  have HP := Aside0.mk hp
  clear hp
  go_enter Try.func92, Try.ntmps92
  go_wp2_with fail
  go_loopw [8] (fun v8 wr => ∃ i : Nat, v8 = .int .i64 i ∧ Aside0 (i ≤ l0.length ∧ (l0.take i).any p = false) ∧ Aside0 (Below w.heap.size w wr)) (fun v8 _ => l0.length - (intOf v8).toNat)
  case atStart => exact ⟨0, rfl, ⟨Nat.zero_le _, by simp⟩, ⟨Below.refl _ _⟩⟩
  case round =>
    obtain ⟨i, rfl, HI, HB⟩ := hrel
    by_cases hlt : i < l0.length
    · have t0 : decide ((i : Int) < (l0.length : Int)) = true := decide_eq_true (by omega)
      have t0n : decide (i < l0.length) = true := decide_eq_true hlt
      obtain ⟨ad, ea, hx0⟩ := Kd.at_int (Kd.C_below HR0.out HB.out) (i : Int) (by omega) (by omega)
      subst ea
      simp only [Int.toNat_natCast] at hx0
      have hcw : wr.cell? ⟨g, 0, none⟩ = some (.int .i64 m) := pw_cell_below HB.out HC.out.1
      have hgw : g < wr.heap.size := Nat.lt_of_lt_of_le HC.out.2 HB.out.size
      have HW := Aside0.mk (show wrap64 ((i : Int) + 1) = ((i + 1 : Nat) : Int) by have := HL.out; unfold wrap64; omega)
      have HLT := Aside0.mk hlt
      have hcall := Bits3_calls m (rd l0 i) g (.bool true) wr hcw
      rw [show (!fitOf m (rd l0 i)) = p l0[i] from by rw [HP.out]; simp [rd, List.getD_eq_getElem?_getD, List.getElem?_eq_getElem hlt]] at hcall
      obtain ⟨b, hb⟩ : ∃ b, p l0[i] = b := ⟨_, rfl⟩
      rw [hb] at hcall
      have HCL := Aside0.mk hcall
      have HBV := Aside0.mk hb
      clear hcall hb hcw hgw hl
      go_wp2_with fail
      refine HCL.out.mono ?_
      rintro e w1 ⟨rfl, hB⟩
      have HB1 := Aside0.mk (bstep HB.out hB)
      clear hB
      cases b with
      | false =>
        go_wp2_with fail
        rw [HW.out]
        refine ⟨⟨i + 1, rfl, ⟨HLT.out, any_take_succ p l0 i HLT.out HI.out.2 HBV.out⟩, HB1⟩, ?_⟩
        have := HLT.out
        simp only [intOf, Int.toNat_natCast]
        omega
      | true =>
        go_wp2_with fail
        go_ret
        exact ⟨by rw [idxI_at p l0 i HI.out.2 HLT.out HBV.out]; rfl, HB1.out⟩
    · have t0 : decide ((i : Int) < (l0.length : Int)) = false := decide_eq_false (by omega)
      have t0n : decide (i < l0.length) = false := decide_eq_false hlt
      have hz : idxI p l0 = -1 := by
        refine idxI_none p l0 ?_
        have h1 := HI.out.2
        rw [List.take_of_length_le (by omega)] at h1
        exact h1
      have HZ := Aside0.mk hz
      clear hz hl hlt
      go_wp2_with fail
      go_ret
      exact ⟨by rw [HZ.out]; rfl, HB.out⟩

set_option maxHeartbeats 1000000 in
set_option maxRecDepth 100000 in
theorem Contains3_calls (m : Int) (g : Nat) (A0 : Option Addr) (c0 : Nat) (l0 : List Int) (w : World) (hr0 : Kd.C (Kd.int .u8) w A0 l0.length l0) (hc0 : l0.length ≤ c0) (hc : w.cell? ⟨g, 0, none⟩ = some (.int .i64 m)) (hg : g < w.heap.size) (hl : l0.length ≤ 9223372036854775807) :
    Calls Try.prog 74 #[.slice A0 l0.length c0, .func (.func 75) #[] #[.pointer (some ⟨g, 0, none⟩)]] w fun e w' => e = .returned (.bool (l0.any (fun x => !fitOf m x))) ∧ Below w.heap.size w w' := by
  have hz := (idxI_ge (fun x => !fitOf m x) l0).2.2
  have hcall := Index3_calls m g A0 c0 l0 w hr0 hc0 hc hg hl
  generalize idxI (fun x => !fitOf m x) l0 = z at *
  rw [← hz]
  have HCL := Aside0.mk hcall
  clear hcall hz hr0 hc hg hl hc0
  go_enter Try.func74, Try.ntmps74
  go_wp2_with fail
  refine HCL.out.mono ?_
  rintro e w1 ⟨rfl, hB⟩
  have HB := Aside0.mk hB
  clear hB
  go_wp2_with fail
  go_ret
  exact ⟨rfl, HB.out⟩
end Go.Proofs.Ytjhhckkmogekkaa.X
