/- Words and FromWords, the program's and the reference's. -/
import Derived.Test.YtochccmhcpeioaaYRefA
import Derived.Test.YtochccmhcpeioaaXx2
import Derived.Test.YtochccmhcpeioaaXx5
namespace Go.Proofs.Ytochccmhcpeioaa.X
open Go.RowKit Go.Proofs.YtochccmhcpeioaaW.PrintWords Go.Proofs.YtochccmhcpeioaaW.PrintLast Go.Proofs.YtochccmhcpeioaaW.PrintMore
set_option linter.unusedVariables false
set_option linter.unusedSimpArgs false

/-- The numbers of groups of s bits. -/
def words (s : Nat) (fill : Bool) (l : List Bool) : List Int := (List.range ((l.length + s - 1) / s)).map (fun j => gnum s fill (gchunk s l (j * s)))
def wordsR (l : List Bool) (size : Int) (fill : Bool) : List Int × Int := if size < 1 ∨ size > 62 then ([], 3) else (words size.toNat fill l, 0)
theorem Words_is (l : List Bool) (size : Int) (fill : Bool) (hl : l.length ≤ 17592186044415) : bits_Words.f l size fill = some (wordsR l size fill) := by
  unfold bits_Words.f wordsR
  by_cases h1 : size < 1
  · rw [if_pos h1, if_pos (.inl h1)]
  by_cases h2 : size > 62
  · rw [if_neg h1, if_pos h2, if_pos (.inr h2)]
  rw [if_neg h1, if_neg h2, if_neg (by omega)]
  unfold bits_groups.f
  rw [if_pos ⟨by omega, by omega, hl⟩, Option.bind_some]
  rfl

/-- A group of bits from index i, filled. -/
def padded (s : Nat) (fill : Bool) (l : List Bool) (i : Nat) : List Bool := gchunk s l i ++ List.replicate (s - (gchunk s l i).length) fill
theorem padded_length (s : Nat) (fill : Bool) (l : List Bool) (i : Nat) : (padded s fill l i).length = s := by
  simp [padded, gchunk]
  omega
theorem padded_get? (s : Nat) (fill : Bool) (l : List Bool) (i t : Nat) (ht : t < s) : (padded s fill l i)[t]? = some (if h2 : i + t < l.length then l[i + t] else fill) := by
  unfold padded gchunk
  by_cases h2 : i + t < l.length
  · rw [dif_pos h2, List.getElem?_append_left (by simp; omega), List.getElem?_take_of_lt ht, List.getElem?_drop, List.getElem?_eq_getElem h2]
  · rw [dif_neg h2, List.getElem?_append_right (by simp; omega), List.getElem?_replicate, if_pos (by simp; omega)]
theorem padded_get (s : Nat) (fill : Bool) (l : List Bool) (i t : Nat) (h : t < (padded s fill l i).length) : (padded s fill l i)[t] = if h2 : i + t < l.length then l[i + t] else fill := by
  have h1 := padded_get? s fill l i t (by rw [padded_length] at h; exact h)
  rw [List.getElem?_eq_getElem h] at h1
  exact Option.some.inj h1
theorem padded_val (s : Nat) (fill : Bool) (l : List Bool) (i : Nat) : gval (padded s fill l i) = gnum s fill (gchunk s l i) := rfl

theorem refwords_in (s : Nat) (hs : 1 ≤ s) (hs2 : s ≤ 62) (fill : Bool) (l : List Bool) (hl : l.length ≤ 17592186044000) (acc : List Int) (ha : acc.length < 17592186044416) (i k : Nat) (hi : i ≤ l.length) : ∀ (d t : Nat), t + d = s →
    barscanref01_Words.l1 (k + d + 1) l s fill acc i (gval ((padded s fill l i).take t)) ((i : Int) + t) = barscanref01_Words.l0 k l s fill (acc ++ [gnum s fill (gchunk s l i)]) ((i : Int) + s) := by
  intro d
  induction d with
  | zero =>
    intro t ht
    obtain rfl : t = s := by omega
    simp only [Nat.add_zero, barscanref01_Words.l1]
    rw [w64 (by omega), if_neg (by omega), if_pos ha, List.take_of_length_le (by rw [padded_length]; exact Nat.le_refl _), padded_val]
  | succ d ih =>
    intro t ht
    have hlt : t < (padded s fill l i).length := by rw [padded_length]; omega
    have hs' : gval ((padded s fill l i).take (t + 1)) = 2 * gval ((padded s fill l i).take t) + if (padded s fill l i)[t] then 1 else 0 := by
      rw [List.take_succ_eq_append_getElem hlt, gval_snoc]
    have hb := gval_small (b := (padded s fill l i).take (t + 1)) (by rw [List.length_take]; omega)
    have hb0 := gval_small (b := (padded s fill l i).take t) (by rw [List.length_take]; omega)
    have ih' := ih (t + 1) (by omega)
    have e1 : ((i : Int) + (t : Int)) + 1 = (i : Int) + ((t + 1 : Nat) : Int) := by omega
    rw [show k + (d + 1) + 1 = (k + d + 1) + 1 by omega]
    generalize hK : k + d + 1 = K at *
    simp only [barscanref01_Words.l1]
    rw [w64 (n := (i : Int) + (s : Int)) (by omega), if_pos (by omega), w64 (n := (i : Int) + t + 1) (by omega), e1]
    rw [padded_get] at hs'
    have hstep : ∀ b : Bool, (gval ((padded s fill l i).take (t + 1)) = 2 * gval ((padded s fill l i).take t) + if b then 1 else 0) → (if b = true then barscanref01_Words.l1 K l s fill acc i (wrap64 (wrap64 (2 * gval ((padded s fill l i).take t)) + 1)) ((i : Int) + ((t + 1 : Nat) : Int)) else barscanref01_Words.l1 K l s fill acc i (wrap64 (2 * gval ((padded s fill l i).take t))) ((i : Int) + ((t + 1 : Nat) : Int))) = barscanref01_Words.l0 k l s fill (acc ++ [gnum s fill (gchunk s l i)]) ((i : Int) + s) := by
      intro b hb2
      cases b with
      | true =>
        simp only [if_true] at hb2 ⊢
        rw [w64 (n := 2 * _) (by omega), w64 (by omega), ← hb2]
        exact ih'
      | false =>
        simp only [Bool.false_eq_true, if_false, Int.add_zero] at hb2 ⊢
        rw [w64 (by omega), ← hb2]
        exact ih'
    by_cases hin : i + t < l.length
    · rw [dif_pos hin] at hs'
      have hrd : rdOf false l ((i : Int) + (t : Int)) = l[i + t] := by
        have : ((i : Int) + (t : Int)).toNat = i + t := by omega
        simp [rdOf, this, List.getElem?_eq_getElem hin]
      rw [if_pos (by omega), if_pos (by omega), hrd, if_neg (show ¬ ((i : Int) + t ≥ l.length) by omega)]
      exact hstep _ hs'
    · rw [dif_neg hin] at hs'
      rw [if_neg (by omega), if_pos (by omega)]
      exact hstep _ hs'
theorem refwords_loop (s : Nat) (hs : 1 ≤ s) (hs2 : s ≤ 62) (fill : Bool) (l : List Bool) (hl : l.length ≤ 17592186044000) : ∀ (r j k : Nat), l.length - j * s ≤ r → (∀ i, i < j → i * s < l.length) → (r + 1) * (s + 2) < k →
    barscanref01_Words.l0 k l s fill ((List.range j).map (fun j => gnum s fill (gchunk s l (j * s)))) ((j * s : Nat) : Int) = some (words s fill l, 0) := by
  intro r
  induction r with
  | zero =>
    intro j k hr hj hk
    obtain ⟨k, rfl⟩ : ∃ m, k = m + 1 := ⟨k - 1, by omega⟩
    simp only [barscanref01_Words.l0]
    rw [if_neg (by omega)]
    unfold words
    rw [groups_count hs (k := j) (by omega) hj]
  | succ r ih =>
    intro j k hr hj hk
    by_cases hlt : j * s < l.length
    · have e1 : (r + 1 + 1) * (s + 2) = (r + 1) * (s + 2) + (s + 2) := by rw [Nat.succ_mul]
      obtain ⟨k, rfl⟩ : ∃ m, k = m + s + 1 + 1 := ⟨k - s - 2, by omega⟩
      have hj2 : j ≤ j * s := Nat.le_mul_of_pos_right j hs
      have h1 := refwords_in s hs hs2 fill l hl ((List.range j).map (fun j => gnum s fill (gchunk s l (j * s)))) (by simp; omega) (j * s) k (by omega) s 0 (by omega)
      simp only [barscanref01_Words.l0]
      rw [if_pos (by omega)]
      simp only [List.take_zero, show gval [] = 0 from rfl, Int.add_zero, Int.natCast_zero] at h1
      rw [h1]
      have e2 : ((j * s : Nat) : Int) + (s : Int) = (((j + 1) * s : Nat) : Int) := by rw [Nat.succ_mul]; omega
      have e3 : (List.range j).map (fun j => gnum s fill (gchunk s l (j * s))) ++ [gnum s fill (gchunk s l (j * s))] = (List.range (j + 1)).map (fun j => gnum s fill (gchunk s l (j * s))) := by
        rw [List.range_succ, List.map_append]
        rfl
      rw [e2, e3]
      refine ih (j + 1) k ?_ ?_ (by omega)
      · rw [Nat.succ_mul]; omega
      · intro i hi
        rcases Nat.lt_succ_iff_lt_or_eq.1 hi with h | rfl
        · exact hj i h
        · exact hlt
    · obtain ⟨k, rfl⟩ : ∃ m, k = m + 1 := ⟨k - 1, by omega⟩
      simp only [barscanref01_Words.l0]
      rw [if_neg (by omega)]
      unfold words
      rw [groups_count hs (k := j) (by omega) hj]
theorem refWords_is (l : List Bool) (size : Int) (fill : Bool) (k : Nat) (hl : l.length ≤ 17592186044000) (hk : (l.length + 1) * 64 + 1 < k) : barscanref01_Words.f k l size fill = some (wordsR l size fill) := by
  obtain ⟨k, rfl⟩ : ∃ m, k = m + 1 := ⟨k - 1, by omega⟩
  unfold barscanref01_Words.f wordsR
  by_cases h1 : size < 1
  · rw [if_pos h1, if_pos (.inl h1)]
    simp [barscanref01_Words.j0]
  rw [if_neg h1]
  by_cases h2 : size > 62
  · rw [if_pos (.inr h2), decide_eq_true h2]
    simp [barscanref01_Words.j0]
  rw [if_neg (by omega), decide_eq_false h2]
  simp only [barscanref01_Words.j0]
  rw [if_neg (by simp)]
  obtain ⟨s, rfl⟩ : ∃ s : Nat, size = s := ⟨size.toNat, by omega⟩
  have hm : (l.length + 1) * (s + 2) ≤ (l.length + 1) * 64 := Nat.mul_le_mul_left _ (by omega)
  have h := refwords_loop s (by omega) (by omega) fill l hl l.length 0 k (by omega) (by simp) (by omega)
  simpa using h

/-- What FromWords returns. -/
def okWord (s : Nat) (v : Int) : Bool := decide (0 ≤ v) && decide (v < 2 ^ s)
def fromR (l : List Int) (size : Int) : List Bool × Int :=
  if size < 1 ∨ size > 62 then ([], 3) else if (l.length : Int) > 1048576 / size then ([], 4) else if l.all (okWord size.toNat) then (l.flatMap (fun v => low v size.toNat), 0) else ([], 3)
theorem from_in (s : Nat) (hs2 : s ≤ 62) (v : Int) (l : List Int) (len i : Int) (k : Nat) : ∀ (n : Nat) (acc : List Bool), n ≤ 62 → acc.length + n < 140737488355328 →
    bits_FromWords.l1 (k + n + 1) s acc v ((n : Int) - 1) l len i = bits_FromWords.l0 k s (acc ++ low v n) l len (wrap64 (i + 1))
  | 0, acc, _, _ => by
    simp only [Nat.add_zero, bits_FromWords.l1]
    rw [if_neg (by omega)]
    simp [low]
  | n + 1, acc, hn, ha => by
    have e : ((n + 1 : Nat) : Int) - 1 = (n : Int) := by omega
    have ih := from_in s hs2 v l len i k n (acc ++ [bitOf v n]) (by omega) (by simp; omega)
    rw [show k + (n + 1) + 1 = (k + n + 1) + 1 by omega]
    generalize hK : k + n + 1 = K at *
    simp only [bits_FromWords.l1]
    rw [e, if_pos (by omega), if_pos (by omega), if_pos (by omega), w64 (by omega), bit_is v n (by omega), ih, List.append_assoc]
    rfl
theorem shr_ok (s : Nat) (hs2 : s ≤ 62) (v : Int) (h0 : 0 ≤ v) : (shr .i64 v (s : Int) != 0) = !decide (v < 2 ^ s) := by
  unfold shr
  rw [show min ((s : Int)).toNat (IntKind.i64).bits = s by rw [Int.toNat_natCast]; exact Nat.min_eq_left (by show s ≤ 64; omega)]
  have hp : (0 : Int) < 2 ^ s := Int.pow_pos (by decide)
  by_cases h : v < 2 ^ s
  · rw [Int.ediv_eq_zero_of_lt h0 h, decide_eq_true h]
    rfl
  · have h1 : 1 ≤ v / 2 ^ s := by
      rw [Int.le_ediv_iff_mul_le hp]
      omega
    rw [decide_eq_false h]
    exact bne_iff_ne.mpr (by omega)
theorem from_loop (s : Nat) (hs : 1 ≤ s) (hs2 : s ≤ 62) (l : List Int) (hl : l.length ≤ 1048576) : ∀ (d i k : Nat) (acc : List Bool), i + d = l.length → (d + 1) * (s + 4) < k → acc.length + d * s < 140737488355328 →
    bits_FromWords.l0 k s acc l (l.length : Int) (i : Int) = some (if (l.drop i).all (okWord s) then (acc ++ (l.drop i).flatMap (fun v => low v s), 0) else ([], 3)) := by
  intro d
  induction d with
  | zero =>
    intro i k acc hi hk ha
    obtain ⟨k, rfl⟩ : ∃ m, k = m + 1 := ⟨k - 1, by omega⟩
    simp only [bits_FromWords.l0]
    rw [if_neg (by omega), List.drop_of_length_le (by omega)]
    simp
  | succ d ih =>
    intro i k acc hi hk ha
    have e1 : (d + 1 + 1) * (s + 4) = (d + 1) * (s + 4) + (s + 4) := by rw [Nat.succ_mul]
    have e2 : (d + 1) * s = d * s + s := by rw [Nat.succ_mul]
    obtain ⟨k, rfl⟩ : ∃ m, k = m + s + 1 + 1 + 1 := ⟨k - s - 3, by omega⟩
    have hlt : i < l.length := by omega
    have r1 : rd l (i : Int) = l[i] := by simp [rd, List.getElem?_eq_getElem hlt]
    simp only [bits_FromWords.l0]
    rw [if_pos (by omega), if_pos (by omega), if_pos (by omega), r1, List.drop_eq_getElem_cons hlt, List.all_cons, List.flatMap_cons]
    have hfalse : (okWord s l[i] = false) → some (([] : List Bool), (3 : Int)) = some (if (okWord s l[i] && (l.drop (i + 1)).all (okWord s)) = true then (acc ++ (low l[i] s ++ (l.drop (i + 1)).flatMap (fun v => low v s)), 0) else ([], 3)) := by
      intro h
      rw [h, if_neg (by simp)]
    by_cases h0 : l[i] < 0
    · rw [if_pos h0]
      simp only [bits_FromWords.j2, if_true]
      exact hfalse (by unfold okWord; rw [decide_eq_false (by omega)]; rfl)
    rw [if_neg h0, if_pos (by omega), shr_ok s hs2 _ (by omega)]
    by_cases h1 : l[i] < 2 ^ s
    · have hok : okWord s l[i] = true := by unfold okWord; rw [decide_eq_true (show 0 ≤ l[i] by omega), decide_eq_true h1]; rfl
      rw [decide_eq_true h1]
      simp only [bits_FromWords.j2, Bool.not_true, Bool.false_eq_true, if_false]
      rw [w64 (by omega), from_in s hs2 _ _ _ _ _ s acc hs2 (by omega), w64 (by omega), show (i : Int) + 1 = ((i + 1 : Nat) : Int) by omega, ih (i + 1) k _ (by omega) (by omega) (by rw [List.length_append, low_length]; omega), hok, Bool.true_and, List.append_assoc]
    · rw [decide_eq_false h1]
      simp only [bits_FromWords.j2, Bool.not_false, if_true]
      exact hfalse (by unfold okWord; rw [decide_eq_false h1, Bool.and_false])
theorem FromWords_is (l : List Int) (size : Int) (k : Nat) (hl : l.length ≤ 140737488350000) (hk : (l.length + 1) * 66 + 1 < k) : bits_FromWords.f k l size = some (fromR l size) := by
  obtain ⟨k, rfl⟩ : ∃ m, k = m + 1 := ⟨k - 1, by omega⟩
  unfold bits_FromWords.f fromR
  by_cases h1 : size < 1
  · rw [if_pos h1, if_pos (.inl h1)]
    simp [bits_FromWords.j0]
  rw [if_neg h1]
  by_cases h2 : size > 62
  · rw [if_pos (.inr h2), decide_eq_true h2]
    simp [bits_FromWords.j0]
  rw [if_neg (by omega), decide_eq_false h2]
  simp only [bits_FromWords.j0]
  have hd1 : 0 ≤ 1048576 / size := Int.ediv_nonneg (by decide) (by omega)
  have hd2 : 1048576 / size ≤ 1048576 := Int.ediv_le_self _ (by decide)
  rw [if_neg (by simp), if_neg (by omega), Int.tdiv_eq_ediv_of_nonneg (by decide), w64 (by omega)]
  by_cases h3 : (l.length : Int) > 1048576 / size
  · rw [if_pos h3, if_pos h3]
  rw [if_neg h3, if_neg h3]
  obtain ⟨s, rfl⟩ : ∃ s : Nat, size = s := ⟨size.toNat, by omega⟩
  have hm : (l.length + 1) * (s + 4) ≤ (l.length + 1) * 66 := Nat.mul_le_mul_left _ (by omega)
  have hls : (l.length : Int) * (s : Int) ≤ 1048576 := by
    have h4 : (l.length : Int) * (s : Int) ≤ (1048576 / (s : Int)) * (s : Int) := Int.mul_le_mul_of_nonneg_right (by omega) (by omega)
    have h5 := Int.ediv_mul_le 1048576 (show (s : Int) ≠ 0 by omega)
    omega
  have hls0 : 0 ≤ (l.length : Int) * (s : Int) := Int.mul_nonneg (by omega) (by omega)
  have hls2 : l.length * s ≤ 1048576 := by
    have h6 : ((l.length * s : Nat) : Int) ≤ ((1048576 : Nat) : Int) := by
      rw [Int.natCast_mul]
      exact hls
    exact Int.ofNat_le.mp h6
  rw [w64 (by omega), if_pos hls0, if_pos (by omega)]
  have h := from_loop s (by omega) (by omega) l (by omega) l.length 0 k [] (by omega) (by omega) (by simp; omega)
  simpa using h

theorem reffrom_in (s : Int) (l : List Int) (hl : l.length ≤ 1048576) (i k : Nat) (hi : i < l.length) : ∀ (n : Nat) (acc : List Bool), n ≤ 62 → acc.length + n < 140737488355328 →
    barscanref01_FromWords.l1 (k + n + 1) l s acc i ((n : Int) - 1) = barscanref01_FromWords.l0 k l s (acc ++ low l[i] n) ((i + 1 : Nat) : Int)
  | 0, acc, _, _ => by
    simp only [Nat.add_zero, barscanref01_FromWords.l1]
    rw [if_neg (by omega), w64 (by omega), show (i : Int) + 1 = ((i + 1 : Nat) : Int) by omega]
    simp [low]
  | n + 1, acc, hn, ha => by
    have e : ((n + 1 : Nat) : Int) - 1 = (n : Int) := by omega
    have r1 : rd l (i : Int) = l[i] := by simp [rd, List.getElem?_eq_getElem hi]
    have ih := reffrom_in s l hl i k hi n (acc ++ [bitOf l[i] n]) (by omega) (by simp; omega)
    rw [show k + (n + 1) + 1 = (k + n + 1) + 1 by omega]
    generalize hK : k + n + 1 = K at *
    simp only [barscanref01_FromWords.l1]
    rw [e, if_pos (by omega), if_pos (by omega), if_pos (by omega), u64w (by omega), if_pos (by omega), if_pos (by omega), w64 (by omega), r1, bit_is _ n (by omega), ih, List.append_assoc]
    rfl
theorem reffrom_loop (s : Nat) (hs : 1 ≤ s) (hs2 : s ≤ 62) (l : List Int) (hl : l.length ≤ 1048576) : ∀ (d i k : Nat) (acc : List Bool), i + d = l.length → (d + 1) * (s + 4) < k → acc.length + d * s < 140737488355328 →
    barscanref01_FromWords.l0 k l s acc (i : Int) = some (if (l.drop i).all (okWord s) then (acc ++ (l.drop i).flatMap (fun v => low v s), 0) else ([], 3)) := by
  intro d
  induction d with
  | zero =>
    intro i k acc hi hk ha
    obtain ⟨k, rfl⟩ : ∃ m, k = m + 1 := ⟨k - 1, by omega⟩
    simp only [barscanref01_FromWords.l0]
    rw [if_neg (by omega), List.drop_of_length_le (by omega)]
    simp
  | succ d ih =>
    intro i k acc hi hk ha
    have e1 : (d + 1 + 1) * (s + 4) = (d + 1) * (s + 4) + (s + 4) := by rw [Nat.succ_mul]
    have e2 : (d + 1) * s = d * s + s := by rw [Nat.succ_mul]
    obtain ⟨k, rfl⟩ : ∃ m, k = m + s + 1 + 1 + 1 := ⟨k - s - 3, by omega⟩
    have hlt : i < l.length := by omega
    have r1 : rd l (i : Int) = l[i] := by simp [rd, List.getElem?_eq_getElem hlt]
    have hp : (2 : Int) ^ s ≤ 4611686018427387904 := pow_le62 hs2
    have hp0 : (0 : Int) < 2 ^ s := Int.pow_pos (by decide)
    have hsh : shl .i64 1 (s : Int) = 2 ^ s := by
      unfold shl
      rw [show min ((s : Int)).toNat (IntKind.i64).bits = s by rw [Int.toNat_natCast]; exact Nat.min_eq_left (by show s ≤ 64; omega), Int.one_mul, IntKind.wrap_i64]
      omega
    simp only [barscanref01_FromWords.l0]
    rw [if_pos (by omega), if_pos (by omega), r1, List.drop_eq_getElem_cons hlt, List.all_cons, List.flatMap_cons]
    have hfalse : (okWord s l[i] = false) → some (([] : List Bool), (3 : Int)) = some (if (okWord s l[i] && (l.drop (i + 1)).all (okWord s)) = true then (acc ++ (low l[i] s ++ (l.drop (i + 1)).flatMap (fun v => low v s)), 0) else ([], 3)) := by
      intro h
      rw [h, if_neg (by simp)]
    by_cases h0 : l[i] < 0
    · rw [if_pos h0]
      simp only [barscanref01_FromWords.j2, if_true]
      exact hfalse (by unfold okWord; rw [decide_eq_false (by omega)]; rfl)
    rw [if_neg h0, u64w (by omega), if_pos (by omega), hsh, w64 (by omega)]
    by_cases h1 : l[i] < 2 ^ s
    · have hok : okWord s l[i] = true := by unfold okWord; rw [decide_eq_true (show 0 ≤ l[i] by omega), decide_eq_true h1]; rfl
      rw [decide_eq_false (show ¬ (l[i] > 2 ^ s - 1) by omega)]
      simp only [barscanref01_FromWords.j2, Bool.false_eq_true, if_false]
      rw [w64 (by omega), reffrom_in s l hl i k hlt s acc hs2 (by omega), ih (i + 1) k _ (by omega) (by omega) (by rw [List.length_append, low_length]; omega), hok, Bool.true_and, List.append_assoc]
    · rw [decide_eq_true (show l[i] > 2 ^ s - 1 by omega)]
      simp only [barscanref01_FromWords.j2, if_true]
      exact hfalse (by unfold okWord; rw [decide_eq_false h1, Bool.and_false])
theorem refFromWords_is (l : List Int) (size : Int) (k : Nat) (hl : l.length ≤ 140737488350000) (hk : (l.length + 1) * 66 + 1 < k) : barscanref01_FromWords.f k l size = some (fromR l size) := by
  obtain ⟨k, rfl⟩ : ∃ m, k = m + 1 := ⟨k - 1, by omega⟩
  unfold barscanref01_FromWords.f fromR
  by_cases h1 : size < 1
  · rw [if_pos h1, if_pos (.inl h1)]
    simp [barscanref01_FromWords.j0]
  rw [if_neg h1]
  by_cases h2 : size > 62
  · rw [if_pos (.inr h2), decide_eq_true h2]
    simp [barscanref01_FromWords.j0]
  rw [if_neg (by omega), decide_eq_false h2]
  simp only [barscanref01_FromWords.j0]
  have hd1 : 0 ≤ 1048576 / size := Int.ediv_nonneg (by decide) (by omega)
  have hd2 : 1048576 / size ≤ 1048576 := Int.ediv_le_self _ (by decide)
  rw [if_neg (by simp), if_neg (by omega), Int.tdiv_eq_ediv_of_nonneg (by decide), w64 (by omega)]
  by_cases h3 : (l.length : Int) > 1048576 / size
  · rw [if_pos h3, if_pos h3]
  rw [if_neg h3, if_neg h3]
  obtain ⟨s, rfl⟩ : ∃ s : Nat, size = s := ⟨size.toNat, by omega⟩
  have hm : (l.length + 1) * (s + 4) ≤ (l.length + 1) * 66 := Nat.mul_le_mul_left _ (by omega)
  have hls : (l.length : Int) * (s : Int) ≤ 1048576 := by
    have h4 : (l.length : Int) * (s : Int) ≤ (1048576 / (s : Int)) * (s : Int) := Int.mul_le_mul_of_nonneg_right (by omega) (by omega)
    have h5 := Int.ediv_mul_le 1048576 (show (s : Int) ≠ 0 by omega)
    omega
  have hls2 : l.length * s ≤ 1048576 := by
    have h6 : ((l.length * s : Nat) : Int) ≤ ((1048576 : Nat) : Int) := by
      rw [Int.natCast_mul]
      exact hls
    exact Int.ofNat_le.mp h6
  have h := reffrom_loop s (by omega) (by omega) l (by omega) l.length 0 k [] (by omega) (by omega) (by simp; omega)
  simpa using h
end Go.Proofs.Ytochccmhcpeioaa.X
