/- Bytes and FromBytes, the program's and the reference's. -/
import Derived.Test.YtochccmhcpeioaaYWords
import Derived.Test.YtochccmhcpeioaaXx3
import Derived.Test.YtochccmhcpeioaaXx9
namespace Go.Proofs.Ytochccmhcpeioaa.X
open Go.RowKit Go.Proofs.YtochccmhcpeioaaW.PrintWords Go.Proofs.YtochccmhcpeioaaW.PrintLast Go.Proofs.YtochccmhcpeioaaW.PrintMore
set_option linter.unusedVariables false
set_option linter.unusedSimpArgs false

theorem take_put {α : Type} (out spec : List α) (i : Nat) (h1 : i < out.length) (h2 : i < spec.length) (h : out.take i = spec.take i) : (out.set i spec[i]).take (i + 1) = spec.take (i + 1) := by
  rw [List.take_succ_eq_append_getElem (by rw [List.length_set]; exact h1), List.take_succ_eq_append_getElem h2, List.getElem_set_self, ← h]
  congr 1
  rw [List.take_set_of_le (Nat.le_refl i)]
theorem gnum8 (g : List Bool) (hg : g.length ≤ 8) : 0 ≤ gnum 8 false g ∧ gnum 8 false g < 256 := by
  have h := gval_bound (g ++ List.replicate (8 - g.length) false)
  rw [List.length_append, List.length_replicate, show g.length + (8 - g.length) = 8 by omega] at h
  exact h
theorem words_length (s : Nat) (fill : Bool) (l : List Bool) : (words s fill l).length = (l.length + s - 1) / s := by simp [words]
theorem words8 (l : List Bool) : ∀ x ∈ words 8 false l, 0 ≤ x ∧ x < 256 := by
  intro x hx
  obtain ⟨j, _, rfl⟩ := List.mem_map.1 hx
  exact gnum8 _ (by simp [gchunk]; omega)
theorem bytes_loop (l : List Int) (hl : l.length ≤ 140737488350000) (hb : ∀ x ∈ l, 0 ≤ x ∧ x < 256) : ∀ (d i k : Nat), i + d = l.length → d < k → bits_Bytes.l0 k (l.take i) l (l.length : Int) i = some l := by
  intro d
  induction d with
  | zero =>
    intro i k hi hk
    obtain ⟨k, rfl⟩ : ∃ m, k = m + 1 := ⟨k - 1, by omega⟩
    simp only [bits_Bytes.l0]
    rw [if_neg (by omega), List.take_of_length_le (by omega)]
  | succ d ih =>
    intro i k hi hk
    obtain ⟨k, rfl⟩ : ∃ m, k = m + 1 := ⟨k - 1, by omega⟩
    have hlt : i < l.length := by omega
    have hr : rd l (i : Int) = l[i] := by simp [rd, List.getElem?_eq_getElem hlt]
    have hx := hb l[i] (List.getElem_mem hlt)
    simp only [bits_Bytes.l0]
    rw [if_pos (by omega), if_pos (by omega), if_pos (by omega), if_pos (by rw [List.length_take]; omega), hr, Int.emod_eq_of_lt hx.1 hx.2, w64 (by omega), show (i : Int) + 1 = ((i + 1 : Nat) : Int) by omega, ← List.take_succ_eq_append_getElem hlt]
    exact ih (i + 1) k (by omega) (by omega)
theorem Bytes_is (l : List Bool) (k : Nat) (hl : l.length ≤ 17592186044000) (hk : l.length + 8 < k) : bits_Bytes.f k l = some (words 8 false l) := by
  unfold bits_Bytes.f bits_groups.f
  rw [if_pos ⟨by decide, by decide, by omega⟩, Option.bind_some]
  have hn := words_length 8 false l
  have h := bytes_loop (words 8 false l) (by omega) (words8 l) (words 8 false l).length 0 k (by omega) (by omega)
  exact h

theorem refbytes_in (l : List Bool) (hl : l.length ≤ 17592186044000) (acc : List Int) (ha : acc.length < 140737488355328) (i k : Nat) (hi : i ≤ l.length) : ∀ (d t : Nat), t + d = 8 →
    barscanref01_Bytes.l1 (k + d + 1) l acc i (gval ((padded 8 false l i).take t)) ((i : Int) + t) = barscanref01_Bytes.l0 k l (acc ++ [gnum 8 false (gchunk 8 l i)]) ((i : Int) + 8) := by
  intro d
  induction d with
  | zero =>
    intro t ht
    obtain rfl : t = 8 := by omega
    have hg := gnum8 (gchunk 8 l i) (by simp [gchunk]; omega)
    simp only [Nat.add_zero, barscanref01_Bytes.l1]
    rw [w64 (by omega), if_neg (by omega), if_pos ha, List.take_of_length_le (by rw [padded_length]; exact Nat.le_refl _), padded_val, Int.emod_eq_of_lt hg.1 hg.2]
  | succ d ih =>
    intro t ht
    have hlt : t < (padded 8 false l i).length := by rw [padded_length]; omega
    have hs' : gval ((padded 8 false l i).take (t + 1)) = 2 * gval ((padded 8 false l i).take t) + if (padded 8 false l i)[t] then 1 else 0 := by
      rw [List.take_succ_eq_append_getElem hlt, gval_snoc]
    have hb := gval_small (b := (padded 8 false l i).take (t + 1)) (by rw [List.length_take]; omega)
    have hb0 := gval_small (b := (padded 8 false l i).take t) (by rw [List.length_take]; omega)
    have ih' := ih (t + 1) (by omega)
    have e1 : ((i : Int) + (t : Int)) + 1 = (i : Int) + ((t + 1 : Nat) : Int) := by omega
    rw [show k + (d + 1) + 1 = (k + d + 1) + 1 by omega]
    generalize hK : k + d + 1 = K at *
    simp only [barscanref01_Bytes.l1]
    rw [w64 (n := (i : Int) + 8) (by omega), if_pos (by omega), w64 (n := (i : Int) + t + 1) (by omega), e1]
    rw [padded_get] at hs'
    by_cases hin : i + t < l.length
    · rw [dif_pos hin] at hs'
      have hrd : rdOf false l ((i : Int) + (t : Int)) = l[i + t] := by
        have : ((i : Int) + (t : Int)).toNat = i + t := by omega
        simp [rdOf, this, List.getElem?_eq_getElem hin]
      rw [if_pos (by omega), if_pos (by omega), hrd]
      cases hx : l[i + t] with
      | true =>
        rw [hx] at hs'
        simp only [if_true] at hs' ⊢
        rw [w64 (n := 2 * _) (by omega), w64 (by omega), ← hs']
        exact ih'
      | false =>
        rw [hx] at hs'
        simp only [Bool.false_eq_true, if_false, Int.add_zero] at hs' ⊢
        rw [w64 (by omega), ← hs']
        exact ih'
    · rw [dif_neg hin] at hs'
      simp only [Bool.false_eq_true, if_false, Int.add_zero] at hs'
      rw [if_neg (by omega), w64 (by omega), ← hs']
      exact ih'
theorem refbytes_loop (l : List Bool) (hl : l.length ≤ 17592186044000) : ∀ (r j k : Nat), l.length - j * 8 ≤ r → (∀ i, i < j → i * 8 < l.length) → (r + 1) * 10 < k →
    barscanref01_Bytes.l0 k l ((List.range j).map (fun j => gnum 8 false (gchunk 8 l (j * 8)))) ((j * 8 : Nat) : Int) = some (words 8 false l) := by
  intro r
  induction r with
  | zero =>
    intro j k hr hj hk
    obtain ⟨k, rfl⟩ : ∃ m, k = m + 1 := ⟨k - 1, by omega⟩
    simp only [barscanref01_Bytes.l0]
    rw [if_neg (by omega)]
    unfold words
    rw [groups_count (by decide) (k := j) (by omega) hj]
  | succ r ih =>
    intro j k hr hj hk
    by_cases hlt : j * 8 < l.length
    · obtain ⟨k, rfl⟩ : ∃ m, k = m + 8 + 1 + 1 := ⟨k - 10, by omega⟩
      have h1 := refbytes_in l hl ((List.range j).map (fun j => gnum 8 false (gchunk 8 l (j * 8)))) (by simp; omega) (j * 8) k (by omega) 8 0 (by omega)
      simp only [barscanref01_Bytes.l0]
      rw [if_pos (by omega)]
      simp only [List.take_zero, show gval [] = 0 from rfl, Int.add_zero, Int.natCast_zero] at h1
      rw [h1]
      have e2 : ((j * 8 : Nat) : Int) + 8 = (((j + 1) * 8 : Nat) : Int) := by omega
      have e3 : (List.range j).map (fun j => gnum 8 false (gchunk 8 l (j * 8))) ++ [gnum 8 false (gchunk 8 l (j * 8))] = (List.range (j + 1)).map (fun j => gnum 8 false (gchunk 8 l (j * 8))) := by
        rw [List.range_succ, List.map_append]
        rfl
      rw [e2, e3]
      refine ih (j + 1) k (by omega) ?_ (by omega)
      intro i hi
      rcases Nat.lt_succ_iff_lt_or_eq.1 hi with h | rfl
      · exact hj i h
      · exact hlt
    · obtain ⟨k, rfl⟩ : ∃ m, k = m + 1 := ⟨k - 1, by omega⟩
      simp only [barscanref01_Bytes.l0]
      rw [if_neg (by omega)]
      unfold words
      rw [groups_count (by decide) (k := j) (by omega) hj]
theorem refBytes_is (l : List Bool) (k : Nat) (hl : l.length ≤ 17592186044000) (hk : (l.length + 1) * 10 < k) : barscanref01_Bytes.f k l = some (words 8 false l) := by
  have h := refbytes_loop l hl l.length 0 k (by omega) (by simp) hk
  simpa [barscanref01_Bytes.f] using h

/-! FromBytes -/
theorem band1u8 (x : Int) : Go.bits .and .u8 x 1 = x % 2 := by
  have h : (BitVec.ofInt 8 x &&& BitVec.ofInt 8 1).toNat = (x % 2).toNat := by
    have e1 : (BitVec.ofInt 8 1) = 1#8 := rfl
    rw [e1, BitVec.toNat_and, BitVec.toNat_ofInt]
    have e2 : (1#8).toNat = 2 ^ 1 - 1 := rfl
    rw [e2, Nat.and_two_pow_sub_one_eq_mod]
    omega
  show IntKind.u8.wrap (((BitVec.ofInt 8 x &&& BitVec.ofInt 8 1).toNat : Nat) : Int) = x % 2
  rw [h, IntKind.wrap_u8]
  omega
def byteBit (p : List Int) (i : Nat) : Bool := bitOf (p.getD (i / 8) 0) (7 - i % 8)
theorem byte_bit (p : List Int) (i : Nat) (hi : i ≤ 1048576) : (Go.bits .and .u8 (shr .u8 (rd p (wrap64 (Int.tdiv (i : Int) 8))) (wrap64 (7 - (Int.tmod (i : Int) 8)))) 1 == 1) = byteBit p i := by
  have e1 : Int.tdiv (i : Int) 8 = ((i / 8 : Nat) : Int) := by
    rw [Int.tdiv_eq_ediv_of_nonneg (by omega)]
    omega
  have e2 : Int.tmod (i : Int) 8 = ((i % 8 : Nat) : Int) := by
    rw [Int.tmod_eq_emod_of_nonneg (by omega)]
    omega
  have e3 : (7 : Int) - ((i % 8 : Nat) : Int) = ((7 - i % 8 : Nat) : Int) := by omega
  rw [e1, e2, e3, w64 (by omega), w64 (by omega), band1u8]
  unfold shr byteBit bitOf rd
  rw [show min (((7 - i % 8 : Nat) : Int)).toNat (IntKind.u8).bits = 7 - i % 8 by rw [Int.toNat_natCast]; exact Nat.min_eq_left (by show _ ≤ 8; omega), Int.toNat_natCast]
  by_cases h : p.getD (i / 8) 0 / 2 ^ (7 - i % 8) % 2 = 1
  · rw [h]; rfl
  · rw [decide_eq_false h]
    exact beq_eq_false_iff_ne.mpr h
def fromBytesR (p : List Int) (n : Int) : List Bool × Int := if n < 0 then ([], 3) else if n > 1048576 then ([], 4) else if (n + 7) / 8 > p.length then ([], 10) else ((List.range n.toNat).map (byteBit p), 0)
theorem frombytes_loop (p : List Int) (n : Nat) (hn : n ≤ 1048576) (hp : (n + 7) / 8 ≤ p.length) : ∀ (d i k : Nat) (out : List Bool), i + d = n → d < k → out.length = n → out.take i = ((List.range n).map (byteBit p)).take i →
    bits_FromBytes.l0 k p out (n : Int) i = some ((List.range n).map (byteBit p), 0) := by
  intro d
  induction d with
  | zero =>
    intro i k out hi hk ho ht
    obtain ⟨k, rfl⟩ : ∃ m, k = m + 1 := ⟨k - 1, by omega⟩
    simp only [bits_FromBytes.l0]
    rw [if_neg (by omega)]
    rw [List.take_of_length_le (by omega), List.take_of_length_le (by simp; omega)] at ht
    rw [ht]
  | succ d ih =>
    intro i k out hi hk ho ht
    have hi2 : i ≤ 1048576 := by omega
    have hi8 : i / 8 < p.length := by omega
    obtain ⟨k, rfl⟩ : ∃ m, k = m + 1 := ⟨k - 1, by omega⟩
    have hlm : i < ((List.range n).map (byteBit p)).length := by simp; omega
    have hs := take_put out _ i (by omega) hlm ht
    rw [List.getElem_map, List.getElem_range] at hs
    have e1 : Int.tdiv (i : Int) 8 = ((i / 8 : Nat) : Int) := by
      rw [Int.tdiv_eq_ediv_of_nonneg (by omega)]
      omega
    have e2 : Int.tmod (i : Int) 8 = ((i % 8 : Nat) : Int) := by
      rw [Int.tmod_eq_emod_of_nonneg (by omega)]
      omega
    have g1 : wrap64 (Int.tdiv (i : Int) 8) = ((i / 8 : Nat) : Int) := by rw [e1]; exact w64 (by omega)
    have g2 : wrap64 (7 - Int.tmod (i : Int) 8) = ((7 - i % 8 : Nat) : Int) := by rw [e2, w64 (by omega)]; omega
    have hbit := byte_bit p i hi2
    rw [g1, g2] at hbit
    simp only [bits_FromBytes.l0]
    rw [g1, g2, hbit]
    clear g1 g2 hbit e1 e2
    rw [if_pos (by omega), if_pos (by omega), if_pos (by omega), if_pos (by omega), if_pos (by omega), if_pos (by omega), w64 (by omega), show (i : Int) + 1 = ((i + 1 : Nat) : Int) by omega, Int.toNat_natCast]
    exact ih (i + 1) k _ (by omega) (by omega) (by rw [List.length_set]; exact ho) hs
theorem FromBytes_is (p : List Int) (n : Int) (k : Nat) (hk : 1048580 < k) : bits_FromBytes.f k p n = some (fromBytesR p n) := by
  unfold bits_FromBytes.f fromBytesR
  by_cases h1 : n < 0
  · rw [if_pos h1, if_pos h1]
  rw [if_neg h1, if_neg h1]
  by_cases h2 : n > 1048576
  · rw [if_pos h2, if_pos h2]
  have e1 : wrap64 (Int.tdiv (wrap64 (n + 7)) 8) = (n + 7) / 8 := by
    rw [w64 (n := n + 7) (by omega), Int.tdiv_eq_ediv_of_nonneg (by omega), w64 (by omega)]
  rw [if_neg h2, if_neg h2, e1]
  by_cases h3 : (n + 7) / 8 > p.length
  · rw [if_pos h3, if_pos h3]
  rw [if_neg h3, if_neg h3, if_pos (by omega), if_pos (by omega), Option.bind_some, List.length_replicate]
  obtain ⟨m, rfl⟩ : ∃ m : Nat, n = m := ⟨n.toNat, by omega⟩
  rw [Int.toNat_natCast]
  exact frombytes_loop p m (by omega) (by omega) m 0 k _ (by omega) (by omega) (by simp) (by simp)
theorem reffrombytes_loop (p : List Int) (n : Nat) (hn : n ≤ 1048576) (hp : (n + 7) / 8 ≤ p.length) : ∀ (d i k : Nat), i + d = n → d < k →
    barscanref01_FromBytes.l0 k p (n : Int) (((List.range n).map (byteBit p)).take i) i = some ((List.range n).map (byteBit p), 0) := by
  intro d
  induction d with
  | zero =>
    intro i k hi hk
    obtain ⟨k, rfl⟩ : ∃ m, k = m + 1 := ⟨k - 1, by omega⟩
    simp only [barscanref01_FromBytes.l0]
    rw [if_neg (by omega), List.take_of_length_le (by simp; omega)]
  | succ d ih =>
    intro i k hi hk
    have hi2 : i ≤ 1048576 := by omega
    have hi8 : i / 8 < p.length := by omega
    obtain ⟨k, rfl⟩ : ∃ m, k = m + 1 := ⟨k - 1, by omega⟩
    have hlm : i < ((List.range n).map (byteBit p)).length := by simp; omega
    have hs := List.take_succ_eq_append_getElem hlm
    rw [List.getElem_map, List.getElem_range] at hs
    have hlen : (((List.range n).map (byteBit p)).take i).length < 140737488355328 := by rw [List.length_take]; omega
    have e1 : Int.tdiv (i : Int) 8 = ((i / 8 : Nat) : Int) := by
      rw [Int.tdiv_eq_ediv_of_nonneg (by omega)]
      omega
    have e2 : Int.tmod (i : Int) 8 = ((i % 8 : Nat) : Int) := by
      rw [Int.tmod_eq_emod_of_nonneg (by omega)]
      omega
    have g1 : wrap64 (Int.tdiv (i : Int) 8) = ((i / 8 : Nat) : Int) := by rw [e1]; exact w64 (by omega)
    have g2 : wrap64 (7 - Int.tmod (i : Int) 8) = ((7 - i % 8 : Nat) : Int) := by rw [e2, w64 (by omega)]; omega
    have g3 : IntKind.u64.wrap (wrap64 (7 - Int.tmod (i : Int) 8)) = wrap64 (7 - Int.tmod (i : Int) 8) := by rw [g2]; exact u64w (by omega)
    have hbit := byte_bit p i hi2
    rw [g1, g2] at hbit
    simp only [barscanref01_FromBytes.l0]
    rw [g3, g1, g2, hbit]
    clear g1 g2 g3 hbit e1 e2
    rw [if_pos (by omega), if_pos (by omega), if_pos (by omega), if_pos (by omega), if_pos hlen, w64 (by omega), show (i : Int) + 1 = ((i + 1 : Nat) : Int) by omega, ← hs]
    exact ih (i + 1) k (by omega) (by omega)
theorem refFromBytes_is (p : List Int) (n : Int) (k : Nat) (hk : 1048580 < k) : barscanref01_FromBytes.f k p n = some (fromBytesR p n) := by
  unfold barscanref01_FromBytes.f fromBytesR
  by_cases h1 : n < 0
  · rw [if_pos h1, if_pos h1]
  rw [if_neg h1, if_neg h1]
  by_cases h2 : n > 1048576
  · rw [if_pos h2, if_pos h2]
  have e1 : wrap64 (Int.tdiv (wrap64 (n + 7)) 8) = (n + 7) / 8 := by
    rw [w64 (n := n + 7) (by omega), Int.tdiv_eq_ediv_of_nonneg (by omega), w64 (by omega)]
  rw [if_neg h2, if_neg h2, e1]
  by_cases h3 : (n + 7) / 8 > p.length
  · rw [if_pos h3, if_pos h3]
  rw [if_neg h3, if_neg h3]
  obtain ⟨m, rfl⟩ : ∃ m : Nat, n = m := ⟨n.toNat, by omega⟩
  rw [Int.toNat_natCast]
  have := reffrombytes_loop p m (by omega) (by omega) m 0 k (by omega) (by omega)
  simpa using this
end Go.Proofs.Ytochccmhcpeioaa.X
