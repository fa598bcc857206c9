/- What modes.Encode puts, modes.Decode reads back: in plain Lean. No condition. -/
import Derived.Test.YtagmncdbiljacaaYMOpt
import Derived.Test.YtagmncdbiljacaaYMDecode
namespace Go.Proofs.Ytagmncdbiljacaa.X
open Go.RowKit Go.Proofs.YtagmncdbiljacaaW.PrintWords Go.Proofs.YtagmncdbiljacaaW.PrintLast Go.Proofs.YtagmncdbiljacaaW.PrintMore
set_option linter.unusedVariables false
set_option linter.unusedSimpArgs false

theorem gval_low (v : Int) : ∀ n, gval (low v n) = v % 2 ^ n
  | 0 => by simp [low, gval]
  | n + 1 => by
    simp only [low]
    rw [gval_cons, low_length, gval_low v n, Int.pow_succ]
    unfold bitOf
    have hp : (0 : Int) < 2 ^ n := Int.pow_pos (by decide)
    have h1 := Int.emod_add_mul_ediv v (2 ^ n)
    have h2 := Int.emod_add_mul_ediv (v / 2 ^ n) 2
    have h3 := Int.emod_nonneg v (show (2 : Int) ^ n ≠ 0 by omega)
    have h4 := Int.emod_lt_of_pos v hp
    generalize (2 : Int) ^ n = p at *
    generalize v % p = r at *
    generalize v / p = q at *
    have h5 : q % 2 = 0 ∨ q % 2 = 1 := by omega
    have e : v = (r + p * (q % 2)) + (p * 2) * (q / 2) := by
      rw [Int.add_assoc, Int.mul_assoc, ← Int.mul_add, h2, h1]
    rw [e, Int.add_mul_emod_self_left]
    rcases h5 with h | h
    · rw [h, Int.mul_zero, Int.add_zero, Int.emod_eq_of_lt h3 (by omega)]
      simp
    · rw [h, Int.mul_one, Int.emod_eq_of_lt (by omega) (by omega)]
      simp
      omega
theorem gval_low_of {v : Int} {n : Nat} (h0 : 0 ≤ v) (h : v < 2 ^ n) : gval (low v n) = v := by
  rw [gval_low, Int.emod_eq_of_lt h0 h]
theorem gval_zeros (n : Nat) : gval (List.replicate n false) = 0 := by
  induction n with
  | zero => rfl
  | succ n ih => rw [List.replicate_succ, gval_cons, ih]; simp

/- The characters. -/
theorem digit_fit {c : Int} (h : fitOf 1 c = true) : 48 ≤ c ∧ c ≤ 57 := by
  unfold fitOf modes_Fits.f at h
  rw [if_pos rfl] at h
  split at h
  · simp at h; omega
  · simp at h
theorem digit_all : (List.range 10).all (fun n => chOf (n : Int) == 48 + (n : Int)) = true := by kernel_rfl
theorem digit_ch {d : Int} (h0 : 0 ≤ d) (h9 : d ≤ 9) : chOf d = 48 + d := by
  have h := List.all_eq_true.mp digit_all d.toNat (List.mem_range.mpr (by omega))
  simp only [beq_iff_eq] at h
  rw [show ((d.toNat : Nat) : Int) = d by omega] at h
  exact h
theorem alnum_all : (List.range 256).all (fun n => !fitOf 2 (n : Int) || (decide (0 ≤ ixOf (n : Int)) && decide (ixOf (n : Int) < 45) && chOf (ixOf (n : Int)) == (n : Int))) = true := by kernel_rfl
theorem alnum_ch {c : Int} (h0 : 0 ≤ c) (h1 : c < 256) (h : fitOf 2 c = true) : 0 ≤ ixOf c ∧ ixOf c < 45 ∧ chOf (ixOf c) = c := by
  have k := List.all_eq_true.mp alnum_all c.toNat (List.mem_range.mpr (by omega))
  rw [show ((c.toNat : Nat) : Int) = c by omega] at k
  rw [h] at k
  simp only [Bool.not_true, Bool.false_or, Bool.and_eq_true, decide_eq_true_eq, beq_iff_eq] at k
  exact ⟨k.1.1, k.1.2, k.2⟩

/-- A group's number, and its bytes again. -/
theorem grp_back (m : Int) (hm : m = 1 ∨ m = 2 ∨ m = 4) (g : List Int) (g1 : 1 ≤ g.length) (g2 : g.length ≤ szOf m) (hb : ∀ x ∈ g, 0 ≤ x ∧ x < 256) (hf : ∀ x ∈ g, fitOf m x = true) :
    0 ≤ numOf m g ∧ numOf m g < 2 ^ (dbOf m g.length).toNat ∧ unGrp m (numOf m g) g.length = (g, true) := by
  have step1 : ∀ v c : Int, 0 ≤ v → v ≤ 1000 → 48 ≤ c → c ≤ 57 → numStep 1 v c = 10 * v + (c - 48) := by
    intro v c a b c1 c2
    unfold numStep
    rw [if_pos rfl, wrap64_id (10 * v) (by omega) (by omega), Int.emod_eq_of_lt (by omega) (by omega), wrap64_id _ (by omega) (by omega)]
  have step2 : ∀ v c : Int, 0 ≤ v → v ≤ 1000 → 0 ≤ ixOf c → ixOf c < 45 → numStep 2 v c = 45 * v + ixOf c := by
    intro v c a b c1 c2
    unfold numStep
    rw [if_neg (by decide), if_pos rfl, wrap64_id (45 * v) (by omega) (by omega), wrap64_id _ (by omega) (by omega)]
  rcases hm with rfl | rfl | rfl
  · have hs : szOf 1 = 3 := rfl
    rw [hs] at g2
    have hd : ∀ x ∈ g, 48 ≤ x ∧ x ≤ 57 := fun x hx => digit_fit (hf x hx)
    clear hb hf
    match g, g1, g2 with
    | [a], _, _ =>
      have ha := hd a (by simp)
      have e : numOf 1 [a] = a - 48 := by unfold numOf; simp only [List.foldl]; rw [step1 0 a (by omega) (by omega) ha.1 ha.2]; omega
      rw [e]
      refine ⟨by omega, ?_, ?_⟩
      · rw [show (dbOf 1 (([a] : List Int).length : Int)).toNat = 4 by simp [dbOf]]
        omega
      · unfold unGrp
        simp only [List.length_singleton, if_neg (show ¬ (1 : Int) = 4 by decide), if_true]
        rw [show (a - 48) % 10 = a - 48 by omega, show (a - 48) / 10 = 0 by omega, digit_ch (by omega) (by omega), show 48 + (a - 48) = a by omega]
        rfl
    | [a, b], _, _ =>
      have ha := hd a (by simp)
      have hb := hd b (by simp)
      have e : numOf 1 [a, b] = 10 * (a - 48) + (b - 48) := by unfold numOf; simp only [List.foldl]; rw [step1 0 a (by omega) (by omega) ha.1 ha.2, step1 _ b (by omega) (by omega) hb.1 hb.2]; omega
      rw [e]
      refine ⟨by omega, ?_, ?_⟩
      · rw [show (dbOf 1 (([a, b] : List Int).length : Int)).toNat = 7 by simp [dbOf]]
        omega
      · unfold unGrp
        simp only [List.length_cons, List.length_nil, Nat.zero_add, if_neg (show ¬ (1 : Int) = 4 by decide), if_neg (show ¬ 1 + 1 = 1 by decide), if_true]
        rw [show (10 * (a - 48) + (b - 48)) % 10 = b - 48 by omega, show (10 * (a - 48) + (b - 48)) / 10 = a - 48 by omega, show (a - 48) % 10 = a - 48 by omega, show (a - 48) / 10 = 0 by omega, digit_ch (by omega) (by omega), digit_ch (by omega) (by omega), show 48 + (a - 48) = a by omega, show 48 + (b - 48) = b by omega]
        rfl
    | [a, b, c], _, _ =>
      have ha := hd a (by simp)
      have hb := hd b (by simp)
      have hc := hd c (by simp)
      have e : numOf 1 [a, b, c] = 100 * (a - 48) + 10 * (b - 48) + (c - 48) := by unfold numOf; simp only [List.foldl]; rw [step1 0 a (by omega) (by omega) ha.1 ha.2, step1 _ b (by omega) (by omega) hb.1 hb.2, step1 _ c (by omega) (by omega) hc.1 hc.2]; omega
      rw [e]
      refine ⟨by omega, ?_, ?_⟩
      · rw [show (dbOf 1 (([a, b, c] : List Int).length : Int)).toNat = 10 by simp [dbOf]]
        omega
      · unfold unGrp
        simp only [List.length_cons, List.length_nil, Nat.zero_add, if_neg (show ¬ (1 : Int) = 4 by decide), if_neg (show ¬ 1 + 1 + 1 = 1 by decide), if_neg (show ¬ 1 + 1 + 1 = 2 by decide), if_true]
        rw [show (100 * (a - 48) + 10 * (b - 48) + (c - 48)) % 10 = c - 48 by omega, show (100 * (a - 48) + 10 * (b - 48) + (c - 48)) / 10 = 10 * (a - 48) + (b - 48) by omega, show (10 * (a - 48) + (b - 48)) % 10 = b - 48 by omega, show (10 * (a - 48) + (b - 48)) / 10 = a - 48 by omega, show (a - 48) % 10 = a - 48 by omega, show (a - 48) / 10 = 0 by omega, digit_ch (by omega) (by omega), digit_ch (by omega) (by omega), digit_ch (by omega) (by omega), show 48 + (a - 48) = a by omega, show 48 + (b - 48) = b by omega, show 48 + (c - 48) = c by omega]
        rfl
  · have hs : szOf 2 = 2 := rfl
    rw [hs] at g2
    have hd : ∀ x ∈ g, 0 ≤ ixOf x ∧ ixOf x < 45 ∧ chOf (ixOf x) = x := fun x hx => alnum_ch (hb x hx).1 (hb x hx).2 (hf x hx)
    clear hb hf
    match g, g1, g2 with
    | [a], _, _ =>
      have ha := hd a (by simp)
      have e : numOf 2 [a] = ixOf a := by unfold numOf; simp only [List.foldl]; rw [step2 0 a (by omega) (by omega) ha.1 ha.2.1]; omega
      rw [e]
      refine ⟨by omega, ?_, ?_⟩
      · rw [show (dbOf 2 (([a] : List Int).length : Int)).toNat = 6 by simp [dbOf]]
        omega
      · unfold unGrp
        simp only [List.length_singleton, if_neg (show ¬ (2 : Int) = 4 by decide), if_neg (show ¬ (2 : Int) = 1 by decide), if_true]
        rw [show ixOf a % 45 = ixOf a by omega, show ixOf a / 45 = 0 by omega, ha.2.2]
        rfl
    | [a, b], _, _ =>
      have ha := hd a (by simp)
      have hb := hd b (by simp)
      have e : numOf 2 [a, b] = 45 * ixOf a + ixOf b := by unfold numOf; simp only [List.foldl]; rw [step2 0 a (by omega) (by omega) ha.1 ha.2.1, step2 _ b (by omega) (by omega) hb.1 hb.2.1]; omega
      rw [e]
      refine ⟨by omega, ?_, ?_⟩
      · rw [show (dbOf 2 (([a, b] : List Int).length : Int)).toNat = 11 by simp [dbOf]]
        omega
      · unfold unGrp
        simp only [List.length_cons, List.length_nil, Nat.zero_add, if_neg (show ¬ (2 : Int) = 4 by decide), if_neg (show ¬ (2 : Int) = 1 by decide), if_neg (show ¬ 1 + 1 = 1 by decide), if_true]
        rw [show (45 * ixOf a + ixOf b) % 45 = ixOf b by omega, show (45 * ixOf a + ixOf b) / 45 = ixOf a by omega, show ixOf a % 45 = ixOf a by omega, show ixOf a / 45 = 0 by omega, ha.2.2, hb.2.2]
        rfl
  · have hs : szOf 4 = 1 := rfl
    rw [hs] at g2
    match g, g1, g2 with
    | [a], _, _ =>
      have ha := hb a (by simp)
      have e : numOf 4 [a] = a := by unfold numOf numStep; simp only [List.foldl]; rw [if_neg (by decide), if_neg (by decide), wrap64_id _ (by omega) (by omega)]
      rw [e]
      refine ⟨by omega, ?_, ?_⟩
      · rw [show (dbOf 4 (([a] : List Int).length : Int)).toNat = 8 from rfl]
        omega
      · unfold unGrp
        rw [if_pos rfl, show a % 256 = a by omega]

theorem rdD_back (m : Int) (hm : m = 1 ∨ m = 2 ∨ m = 4) : ∀ (f : Nat) (d acc : List Int) (t : List Bool), d.length < f → (∀ x ∈ d, 0 ≤ x ∧ x < 256) → (∀ x ∈ d, fitOf m x = true) → rdD m f d.length (encData m d ++ t) acc = some (acc ++ d, t) := by
  intro f
  induction f with
  | zero => intro d acc t h; omega
  | succ f ih =>
    intro d acc t h hb hf
    unfold rdD
    by_cases e : d.length = 0
    · obtain rfl : d = [] := List.eq_nil_of_length_eq_zero e
      rw [if_pos (show ([] : List Int).length = 0 from rfl), encData_nil]
      simp
    rw [if_neg e]
    have hs := szOf_range m
    have hk : min d.length (szOf m) = (d.take (szOf m)).length := by rw [List.length_take, Nat.min_comm]
    obtain ⟨b0, b1, b2⟩ := grp_back m hm (d.take (szOf m)) (by rw [List.length_take]; omega) (by rw [List.length_take]; omega) (fun x hx => hb x (List.mem_of_mem_take hx)) (fun x hx => hf x (List.mem_of_mem_take hx))
    have hg : (grpBits m (d.take (szOf m))).length = (dbOf m (d.take (szOf m)).length).toNat := by unfold grpBits; rw [low_length]
    dsimp only
    rw [hk, encData_rec m d (by intro h0; rw [h0] at e; exact e rfl), List.append_assoc, ← hg, List.take_left, List.drop_left]
    have hv : gval (grpBits m (d.take (szOf m))) = numOf m (d.take (szOf m)) := gval_low_of b0 b1
    rw [hv, b2, if_pos rfl]
    rw [show d.length - (d.take (szOf m)).length = (d.drop (szOf m)).length by rw [List.length_take, List.length_drop]; omega]
    rw [ih (d.drop (szOf m)) _ t (by rw [List.length_drop]; omega) (fun x hx => hb x (List.mem_of_mem_drop hx)) (fun x hx => hf x (List.mem_of_mem_drop hx))]
    rw [List.append_assoc, List.take_append_drop]
theorem segD_back (cls m : Int) (hm : m = 1 ∨ m = 2 ∨ m = 4) (hc : 0 ≤ cls ∧ cls ≤ 2) (d : List Int) (t : List Bool) (hl : d.length ≤ 2 ^ (cbOf m cls).toNat - 1) (hb : ∀ x ∈ d, 0 ≤ x ∧ x < 256) (hf : ∀ x ∈ d, fitOf m x = true) :
    segD cls m (low d.length (cbOf m cls).toNat ++ encData m d ++ t) = .ok (d, t) := by
  have hcb := cb_mode hc hm
  have hp := Nat.one_le_two_pow (n := (cbOf m cls).toNat)
  have hv : gval (low (d.length : Int) (cbOf m cls).toNat) = d.length := gval_low_of (by omega) (by
    have : ((2 ^ (cbOf m cls).toNat : Nat) : Int) = (2 : Int) ^ (cbOf m cls).toNat := by simp
    omega)
  have ht : (low (d.length : Int) (cbOf m cls).toNat ++ encData m d ++ t).take (cbOf m cls).toNat = low (d.length : Int) (cbOf m cls).toNat := by
    rw [List.append_assoc, List.take_append_of_le_length (by rw [low_length]; exact Nat.le_refl _), List.take_of_length_le (by rw [low_length]; exact Nat.le_refl _)]
  have hd : (low (d.length : Int) (cbOf m cls).toNat ++ encData m d ++ t).drop (cbOf m cls).toNat = encData m d ++ t := by
    rw [List.append_assoc, List.drop_append_of_le_length (by rw [low_length]; exact Nat.le_refl _), List.drop_of_length_le (by rw [low_length]; exact Nat.le_refl _), List.nil_append]
  have he := encData_length m d.length d (Nat.le_refl _)
  have hr := dbOf_range m d.length (by omega)
  unfold segD
  rw [ht, hd, hv, if_neg (by simp only [List.length_append, low_length]; omega), if_neg (by rw [List.length_append, he]; omega)]
  rw [Int.toNat_natCast, rdD_back m hm _ d [] t (by omega) hb hf]
  rfl
theorem decD_back (cls : Int) (hc : 0 ≤ cls ∧ cls ≤ 2) (t : List Bool) : ∀ (l out : List S33) (f : Nat), okSegs cls l → (∀ s ∈ l, ∀ x ∈ s.f1, 0 ≤ x ∧ x < 256) → (encAll cls l ++ t).length < f → out.length + l.length ≤ 4096 → decD cls f (encAll cls l ++ t) out = decD cls (t.length + 1) t (out ++ l) := by
  intro l
  induction l with
  | nil =>
    intro out f _ _ hf _
    rw [List.append_nil]
    have e : encAll cls [] = [] := rfl
    rw [e, List.nil_append] at hf ⊢
    exact decD_fuel cls f t out hf _ (by omega)
  | cons s l ih =>
    intro out f hv hb hf ho
    obtain ⟨⟨hm, hl, hfit⟩, hv⟩ := okSegs_cons.mp hv
    have hcb := cb_mode hc hm
    obtain ⟨f, rfl⟩ : ∃ j, f = j + 1 := ⟨f - 1, by omega⟩
    have he : encAll cls (s :: l) ++ t = low s.f0 4 ++ (low s.f1.length (cbOf s.f0 cls).toNat ++ encData s.f0 s.f1 ++ (encAll cls l ++ t)) := by
      unfold encAll
      rw [List.flatMap_cons]
      unfold encSeg
      simp only [List.append_assoc]
    rw [he] at hf ⊢
    obtain ⟨R, hR⟩ : ∃ R, R = decD cls (t.length + 1) t (out ++ s :: l) := ⟨_, rfl⟩
    rw [← hR]
    have h4 : (low s.f0 4).length = 4 := low_length _ _
    have ht : (low s.f0 4 ++ (low s.f1.length (cbOf s.f0 cls).toNat ++ encData s.f0 s.f1 ++ (encAll cls l ++ t))).take 4 = low s.f0 4 := by
      conv => lhs; arg 1; rw [← h4]
      exact List.take_left
    have hd : (low s.f0 4 ++ (low s.f1.length (cbOf s.f0 cls).toNat ++ encData s.f0 s.f1 ++ (encAll cls l ++ t))).drop 4 = low s.f1.length (cbOf s.f0 cls).toNat ++ encData s.f0 s.f1 ++ (encAll cls l ++ t) := by
      conv => lhs; arg 1; rw [← h4]
      exact List.drop_left
    have hg : gval (low s.f0 4) = s.f0 := gval_low_of (by omega) (show s.f0 < 16 by omega)
    unfold decD
    rw [ht, hd, hg, if_neg (by rw [List.length_append, h4]; omega), if_neg (by omega), if_neg (by omega), if_neg (by simp only [List.length_cons] at ho; omega)]
    rw [segD_back cls s.f0 hm hc s.f1 (encAll cls l ++ t) hl (hb s (by simp)) hfit]
    simp only [List.length_append] at hf
    have := ih (out ++ [⟨s.f0, s.f1⟩]) f hv (fun s' hs => hb s' (by simp [hs])) (by simp only [List.length_append]; omega) (by simp only [List.length_append, List.length_cons, List.length_nil] at ho ⊢; omega)
    refine Eq.trans (show _ = decD cls f (encAll cls l ++ t) (out ++ [⟨s.f0, s.f1⟩]) from rfl) ?_
    rw [this, hR, List.append_assoc]
    rfl
theorem decD_zeros (cls : Int) (n f : Nat) (out : List S33) : decD cls (f + 1) (List.replicate n false) out = (out, 0) := by
  unfold decD
  rw [List.length_replicate]
  by_cases h : n < 4
  · rw [if_pos h, gval_zeros, if_pos rfl]
  · rw [if_neg h, List.take_replicate, gval_zeros, if_pos rfl]
theorem decD_end (cls : Int) (t : List Bool) (f : Nat) (out : List S33) : decD cls (f + 1) ([false, false, false, false] ++ t) out = (out, 0) := by
  unfold decD
  rw [if_neg (by simp), if_pos]
  rfl
theorem trip_zeros {cls : Int} (hc : 0 ≤ cls ∧ cls ≤ 2) {l : List S33} (hv : okSegs cls l) (hb : ∀ s ∈ l, ∀ x ∈ s.f1, 0 ≤ x ∧ x < 256) (hl : l.length ≤ 4096) (n : Nat) (hn : sumBits cls l + n ≤ 1048576) : decR (encAll cls l ++ List.replicate n false) cls = (l, 0) := by
  have h := encAll_length cls l
  unfold decR
  rw [if_neg (by omega), if_neg (by rw [List.length_append, List.length_replicate]; omega), decD_back cls hc _ l [] _ hv hb (by omega) (by simpa using hl), decD_zeros]
  rfl
theorem trip_end {cls : Int} (hc : 0 ≤ cls ∧ cls ≤ 2) {l : List S33} (hv : okSegs cls l) (hb : ∀ s ∈ l, ∀ x ∈ s.f1, 0 ≤ x ∧ x < 256) (hl : l.length ≤ 4096) (t : List Bool) (hn : sumBits cls l + 4 + t.length ≤ 1048576) : decR (encAll cls l ++ ([false, false, false, false] ++ t)) cls = (l, 0) := by
  have h := encAll_length cls l
  unfold decR
  rw [if_neg (by omega), if_neg (by simp only [List.length_append, List.length_cons, List.length_nil]; omega), decD_back cls hc _ l [] _ hv hb (by omega) (by simpa using hl), decD_end]
  rfl
end Go.Proofs.Ytagmncdbiljacaa.X
