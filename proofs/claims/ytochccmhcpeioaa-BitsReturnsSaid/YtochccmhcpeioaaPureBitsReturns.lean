/- The pure law of BitsReturns. No condition. -/
import Derived.Test.YtochccmhcpeioaaXx11
import Derived.Test.YtochccmhcpeioaaYBytes
import Derived.Test.YtochccmhcpeioaaYTexts
namespace Go.Proofs.Ytochccmhcpeioaa.Pure
open Go.RowKit Go.Proofs.Ytochccmhcpeioaa.X Go.Proofs.YtochccmhcpeioaaW.PrintWords Go.Proofs.YtochccmhcpeioaaW.PrintLast Go.Proofs.YtochccmhcpeioaaW.PrintMore
set_option linter.unusedVariables false
set_option linter.unusedSimpArgs false

theorem pow2_pos (n : Nat) : (0 : Int) < 2 ^ n := Int.pow_pos (by decide)
theorem bitOf_add (v c : Int) (n i : Nat) (h : i < n) : bitOf (c * 2 ^ n + v) i = bitOf v i := by
  unfold bitOf
  have e : (2 : Int) ^ n = 2 ^ i * (2 * 2 ^ (n - i - 1)) := by
    rw [← Int.pow_succ', ← Int.pow_add]
    congr 1
    omega
  have e2 : (c * 2 ^ n + v) / 2 ^ i = v / 2 ^ i + c * (2 * 2 ^ (n - i - 1)) := by
    rw [e, show c * (2 ^ i * (2 * 2 ^ (n - i - 1))) + v = v + 2 ^ i * (c * (2 * 2 ^ (n - i - 1))) by rw [Int.add_comm, ← Int.mul_assoc, Int.mul_comm c, Int.mul_assoc], Int.add_mul_ediv_left _ _ (by have := pow2_pos i; omega)]
  rw [e2, show c * (2 * 2 ^ (n - i - 1)) = 2 * (c * 2 ^ (n - i - 1)) by rw [← Int.mul_assoc, Int.mul_comm c, Int.mul_assoc], Int.add_mul_emod_self_left]
theorem low_add (v c : Int) : ∀ (n m : Nat), n ≤ m → low (c * 2 ^ m + v) n = low v n
  | 0, _, _ => rfl
  | n + 1, m, h => by
    simp only [low]
    rw [bitOf_add v c m n (by omega), low_add v c n m (by omega)]
theorem low_gval : ∀ (b : List Bool), low (gval b) b.length = b
  | [] => rfl
  | x :: b => by
    rw [gval_cons, List.length_cons]
    have hb := gval_bound b
    have hp := pow2_pos b.length
    cases x with
    | true =>
      have e : (if true = true then (2 : Int) ^ b.length else 0) + gval b = 1 * 2 ^ b.length + gval b := by simp
      rw [e]
      simp only [low]
      rw [low_add _ _ _ _ (Nat.le_refl _), low_gval b]
      congr 1
      unfold bitOf
      rw [Int.add_comm, Int.add_mul_ediv_right _ _ (by omega), Int.ediv_eq_zero_of_lt hb.1 hb.2]
      rfl
    | false =>
      have e : (if false = true then (2 : Int) ^ b.length else 0) + gval b = gval b := by simp
      rw [e]
      simp only [low]
      rw [low_gval b]
      congr 1
      unfold bitOf
      rw [Int.ediv_eq_zero_of_lt hb.1 hb.2]
      rfl
theorem low_get (v : Int) : ∀ (n t : Nat), t < n → (low v n)[t]? = some (bitOf v (n - 1 - t))
  | 0, t, h => by omega
  | n + 1, 0, _ => by simp [low]
  | n + 1, t + 1, h => by
    simp only [low, List.getElem?_cons_succ]
    rw [low_get v n t (by omega)]
    congr 2
    omega
theorem gnum_low (s : Nat) (fill : Bool) (l : List Bool) (i : Nat) : low (gnum s fill (gchunk s l i)) s = padded s fill l i := by
  have h := low_gval (padded s fill l i)
  rw [padded_length] at h
  exact h
/-- FromBytes of Bytes. -/
theorem bytes_back (b : List Bool) (hb : b.length ≤ 2000) : fromBytesR (words 8 false b) b.length = (b, 0) := by
  have hn := words_length 8 false b
  unfold fromBytesR
  rw [if_neg (by omega), if_neg (by omega), if_neg (by omega), Int.toNat_natCast]
  congr 1
  apply List.ext_getElem?
  intro i
  by_cases hi : i < b.length
  · rw [List.getElem?_map, List.getElem?_range hi, List.getElem?_eq_getElem hi]
    show some (byteBit (words 8 false b) i) = _
    congr 1
    have hw : (words 8 false b).getD (i / 8) 0 = gnum 8 false (gchunk 8 b (i / 8 * 8)) := by
      have : i / 8 < (b.length + 8 - 1) / 8 := by omega
      unfold words
      rw [List.getD_eq_getElem?_getD, List.getElem?_map, List.getElem?_range this]
      rfl
    unfold byteBit
    rw [hw]
    have h1 := low_get (gnum 8 false (gchunk 8 b (i / 8 * 8))) 8 (i % 8) (by omega)
    rw [gnum_low, padded_get? 8 false b (i / 8 * 8) (i % 8) (by omega)] at h1
    rw [dif_pos (by omega)] at h1
    have h2 := Option.some.inj h1
    rw [show 8 - 1 - i % 8 = 7 - i % 8 by omega] at h2
    rw [← h2]
    congr 1
    omega
  · rw [List.getElem?_eq_none (by simp; omega), List.getElem?_eq_none (by omega)]
/-- Parse of Format. -/
theorem bt_of (xs : List Int) (h : ∀ x ∈ xs, 0 ≤ x ∧ x < 256) (i : Nat) (hi : i < xs.length) : bt (strOfNums xs) (i : Int) = xs[i] := by
  have hx := h _ (List.getElem_mem hi)
  unfold bt
  have hs : ((i : Int)).toNat < (strOfNums xs).size := by rw [strOfNums_size]; omega
  rw [dif_pos hs]
  have : (strOfNums xs)[((i : Int)).toNat] = UInt8.ofNat xs[i].toNat := by
    simp [strOfNums, ByteArray.getElem_eq_getElem_data]
  rw [this]
  simp
  omega
theorem nbytes_of (xs : List Int) (h : ∀ x ∈ xs, 0 ≤ x ∧ x < 256) : nbytes (strOfNums xs) = xs := by
  apply List.ext_getElem
  · rw [nbytes_length, strOfNums_size]
  · intro i h1 h2
    rw [← nbytes_at h1, bt_of xs h i h2]
theorem chr_byte (b : List Bool) : ∀ x ∈ b.map chr, 0 ≤ x ∧ x < 256 := by
  intro x hx
  obtain ⟨y, _, rfl⟩ := List.mem_map.1 hx
  cases y <;> simp [chr]
theorem text_back (b : List Bool) (hb : b.length ≤ 2000) : parseR (strOfNums (b.map chr)) = (b, 0) := by
  unfold parseR
  rw [nbytes_of _ (chr_byte b), if_neg (by rw [strOfNums_size, List.length_map]; omega), if_pos, List.map_map]
  · congr 1
    have : ((fun x : Int => x == 49) ∘ chr) = id := by
      funext x
      cases x <;> rfl
    rw [this, List.map_id]
  · rw [List.all_map]
    have : (okChar ∘ chr) = fun _ => true := by
      funext x
      cases x <;> rfl
    rw [this]
    simp
/-- FromWords of Words. -/
theorem groups_back (s : Nat) (hs : 1 ≤ s) (fill : Bool) (b : List Bool) : ∀ k, (∀ j, j < k → j * s < b.length) → (List.range k).flatMap (fun j => padded s fill b (j * s)) = b.take (k * s) ++ List.replicate (k * s - b.length) fill
  | 0, _ => by simp
  | k + 1, h => by
    have hk := h k (by omega)
    have ih := groups_back s hs fill b k (fun j hj => h j (by omega))
    rw [List.range_succ, List.flatMap_append, ih, show k * s - b.length = 0 by omega, List.replicate_zero, List.append_nil]
    simp only [List.flatMap_cons, List.flatMap_nil, List.append_nil]
    unfold padded gchunk
    rw [← List.append_assoc, ← List.take_add, Nat.succ_mul]
    congr 2
    rw [List.length_take, List.length_drop]
    omega
theorem count_ok (n s : Nat) (hs : 1 ≤ s) : n ≤ (n + s - 1) / s * s ∧ (n + s - 1) / s * s < n + s ∧ ∀ j, j < (n + s - 1) / s → j * s < n := by
  have h1 := Nat.div_add_mod (n + s - 1) s
  have h2 := Nat.mod_lt (n + s - 1) (show s > 0 by omega)
  rw [Nat.mul_comm] at h1
  refine ⟨by omega, by omega, fun j hj => ?_⟩
  have h3 : (j + 1) * s ≤ (n + s - 1) / s * s := Nat.mul_le_mul_right _ (by omega)
  rw [Nat.succ_mul] at h3
  omega
theorem words_back (b : List Bool) (s : Nat) (hs : 1 ≤ s) (hs2 : s ≤ 62) (fill : Bool) (hb : b.length ≤ 2000) : ∃ r, r < s ∧ fromR (words s fill b) s = (b ++ List.replicate r fill, 0) := by
  obtain ⟨c1, c2, c3⟩ := count_ok b.length s hs
  have hlen := words_length s fill b
  refine ⟨(b.length + s - 1) / s * s - b.length, by omega, ?_⟩
  unfold fromR
  have hq : ((words s fill b).length : Int) ≤ 1048576 / (s : Int) := by
    rw [Int.le_ediv_iff_mul_le (by omega), hlen, ← Int.natCast_mul]
    omega
  rw [if_neg (by omega), if_neg (by omega), Int.toNat_natCast, if_pos]
  · congr 1
    unfold words
    rw [List.flatMap_map]
    have e : (fun j => low (gnum s fill (gchunk s b (j * s))) s) = (fun j => padded s fill b (j * s)) := by
      funext j
      exact gnum_low s fill b (j * s)
    rw [e, groups_back s hs fill b _ c3, List.take_of_length_le (by omega)]
  · rw [List.all_eq_true]
    intro x hx
    obtain ⟨j, _, rfl⟩ := List.mem_map.1 hx
    have h := gval_bound (padded s fill b (j * s))
    rw [padded_length] at h
    unfold okWord
    rw [decide_eq_true (show 0 ≤ gnum s fill (gchunk s b (j * s)) from h.1), decide_eq_true (show gnum s fill (gchunk s b (j * s)) < 2 ^ s from h.2)]
    rfl
theorem fill_loop (fill : Bool) (m : List Bool) (hm : m.length ≤ 3000) (n : Nat) (h : ∀ i, n ≤ i → i < m.length → m[i]? = some fill) : ∀ (d i k : Nat), n ≤ i → i + d = m.length → d < k → X.barscanlaw01_BitsReturns.l0 k fill m (i : Int) = some true := by
  intro d
  induction d with
  | zero =>
    intro i k hn hi hk
    obtain ⟨k, rfl⟩ : ∃ m, k = m + 1 := ⟨k - 1, by omega⟩
    simp only [X.barscanlaw01_BitsReturns.l0]
    rw [if_neg (by omega)]
    rfl
  | succ d ih =>
    intro i k hn hi hk
    obtain ⟨k, rfl⟩ : ∃ m, k = m + 1 := ⟨k - 1, by omega⟩
    have hlt : i < m.length := by omega
    have h1 := h i hn hlt
    rw [List.getElem?_eq_getElem hlt] at h1
    simp only [X.barscanlaw01_BitsReturns.l0]
    rw [if_pos (by omega), if_pos (by omega), rdOf_at hlt, Option.some.inj h1, if_neg (by simp), w64 (by omega), show (i : Int) + 1 = ((i + 1 : Nat) : Int) by omega]
    exact ih (i + 1) k (by omega) (by omega) (by omega)
theorem BitsReturns (l0 : List Bool) (a1 : Int) (a2 : Bool) (h0 : l0.length ≤ maxLen) (h1 : ∀ y ∈ l0, True) (h2 : (Lit.int .i64 a1).wf = true) : ∃ k, X.barscanlaw01_BitsReturns.f k l0 a1 a2 = some true := by
  refine ⟨2000000, ?_⟩
  unfold X.barscanlaw01_BitsReturns.f
  by_cases hl : (l0.length : Int) > 2000
  · rw [if_pos hl]
    rfl
  have hb : l0.length ≤ 2000 := by omega
  have hw := weight_le l0
  rw [if_neg hl, Bytes_is _ _ (by omega) (by omega), Option.bind_some, FromBytes_is _ _ _ (by omega), Option.bind_some, Format_is _ _ (by omega) (by omega), Option.bind_some, Parse_is _ _ (by rw [strOfNums_size, List.length_map]; omega), Option.bind_some, bytes_back l0 hb, text_back l0 hb, if_pos rfl, if_pos rfl, Same_is _ _ _ (by omega) (by omega), Option.bind_some, decide_eq_true rfl, if_pos rfl, Option.bind_some, if_pos rfl, Weight_is _ _ (by omega) (by omega), Option.bind_some, decide_eq_false (by omega)]
  rw [show 2000000 = 1999999 + 1 from rfl, X.barscanlaw01_BitsReturns.j0]
  rw [if_neg (by simp), Words_is _ _ _ (by omega), Option.bind_some]
  unfold wordsR
  by_cases hs : a1 < 1 ∨ a1 > 62
  · rw [if_pos hs, if_neg (by simp)]
    by_cases h3 : a1 < 1
    · rw [if_pos h3]
      rfl
    · rw [if_neg h3, if_pos (by omega)]
      rfl
  · rw [if_neg hs, if_pos rfl]
    obtain ⟨s, rfl⟩ : ∃ s : Nat, a1 = s := ⟨a1.toNat, by omega⟩
    rw [Int.toNat_natCast]
    obtain ⟨r, hr, hf⟩ := words_back l0 s (by omega) (by omega) a2 hb
    obtain ⟨c1, c2, c3⟩ := count_ok l0.length s (by omega)
    have hwl := words_length s a2 l0
    have hwl2 : (words s a2 l0).length ≤ 3000 := by
      rw [hwl]
      have : (l0.length + s - 1) / s ≤ (l0.length + s - 1) / s * s := Nat.le_mul_of_pos_right _ (by omega)
      omega
    have hml : (l0 ++ List.replicate r a2).length = l0.length + r := by simp
    dsimp only
    rw [FromWords_is _ _ _ (by omega) (by omega), Option.bind_some, hf, if_pos rfl]
    show (if (((l0 ++ List.replicate r a2).length : Nat) : Int) < (l0.length : Int) then _ else _) = _
    rw [hml, if_neg (by omega), w64 (by omega), if_neg (by omega), if_pos (by omega), if_pos (by omega), Int.toNat_natCast]
    rw [show (l0 ++ List.replicate r a2, (0 : Int)).1.take l0.length = l0 by simp, Same_is _ _ _ (by omega) (by omega), Option.bind_some, decide_eq_true rfl]
    rw [show 1999999 = 1999998 + 1 from rfl, X.barscanlaw01_BitsReturns.j1, if_neg (by simp)]
    refine fill_loop a2 _ (by rw [hml]; omega) l0.length ?_ r l0.length _ (Nat.le_refl _) (by rw [hml]) (by omega)
    intro i hi hi2
    rw [List.getElem?_append_right hi, List.getElem?_replicate, if_pos (by rw [hml] at hi2; omega)]
end Go.Proofs.Ytochccmhcpeioaa.Pure
