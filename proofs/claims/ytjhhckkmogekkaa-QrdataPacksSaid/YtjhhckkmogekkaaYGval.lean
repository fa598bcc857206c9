/- The number that bits form, and bits.value: it comes to that number, of at most 62 bits. -/
import Derived.Test.YtjhhckkmogekkaaXx19
namespace Go.Proofs.Ytjhhckkmogekkaa.X
open Go.RowKit Go.Proofs.YtjhhckkmogekkaaW.PrintWords Go.Proofs.YtjhhckkmogekkaaW.PrintLast Go.Proofs.YtjhhckkmogekkaaW.PrintMore
set_option linter.unusedVariables false
set_option linter.unusedSimpArgs false

/-- The number that bits form. -/
def gval (b : List Bool) : Int := b.foldl (fun v x => 2 * v + if x then 1 else 0) 0
theorem gval_snoc (b : List Bool) (x : Bool) : gval (b ++ [x]) = 2 * gval b + if x then 1 else 0 := by simp [gval]
theorem gval_from (b : List Bool) : ∀ v : Int, b.foldl (fun v x => 2 * v + if x then 1 else 0) v = v * 2 ^ b.length + gval b := by
  induction b with
  | nil => intro v; simp [gval]
  | cons x b ih =>
    intro v
    unfold gval
    rw [List.foldl_cons, List.foldl_cons, ih, ih (2 * 0 + if x = true then 1 else 0), List.length_cons, Int.pow_succ]
    cases x
    · simp; rw [Int.mul_comm 2 v, Int.mul_assoc, Int.mul_comm 2]
    · simp; rw [Int.add_mul, Int.mul_comm 2 v, Int.mul_assoc, Int.mul_comm 2]; omega
theorem gval_cons (x : Bool) (b : List Bool) : gval (x :: b) = (if x then 2 ^ b.length else 0) + gval b := by
  unfold gval
  rw [List.foldl_cons, gval_from]
  cases x <;> simp [gval]
theorem gval_bound (b : List Bool) : 0 ≤ gval b ∧ gval b < 2 ^ b.length := by
  induction b with
  | nil => simp [gval]
  | cons x b ih =>
    rw [gval_cons, List.length_cons, Int.pow_succ]
    cases x <;> simp <;> omega
theorem pow_le62 {n : Nat} (h : n ≤ 62) : (2 : Int) ^ n ≤ 4611686018427387904 := by
  have : (2 : Nat) ^ n ≤ 2 ^ 62 := Nat.pow_le_pow_right (by omega) h
  have h2 : ((2 ^ n : Nat) : Int) ≤ ((2 ^ 62 : Nat) : Int) := Int.ofNat_le.mpr this
  simpa using h2
theorem gval_small {b : List Bool} (h : b.length ≤ 62) : 0 ≤ gval b ∧ gval b < 4611686018427387904 := by
  have h1 := gval_bound b
  have h2 := pow_le62 h
  omega

/-- The printed loop comes to the number, of at most 62 bits. -/
theorem value_loop (l : List Bool) (hl : l.length ≤ 62) : ∀ (d i k : Nat), i + d = l.length → d < k → bits_value.l0 k (gval (l.take i)) l (l.length : Int) (i : Int) = some (gval l) := by
  intro d
  induction d with
  | zero =>
    intro i k hi hk
    obtain ⟨k, rfl⟩ : ∃ m, k = m + 1 := ⟨k - 1, by omega⟩
    simp only [bits_value.l0]
    rw [if_neg (by omega), List.take_of_length_le (by omega)]
  | succ d ih =>
    intro i k hi hk
    obtain ⟨k, rfl⟩ : ∃ m, k = m + 1 := ⟨k - 1, by omega⟩
    have hlt : i < l.length := by omega
    have hs : gval (l.take (i + 1)) = 2 * gval (l.take i) + if l[i] then 1 else 0 := by
      rw [List.take_succ_eq_append_getElem hlt, gval_snoc]
    have hb := gval_small (b := l.take (i + 1)) (by rw [List.length_take]; omega)
    have hb0 := gval_small (b := l.take i) (by rw [List.length_take]; omega)
    have hrd : rdOf false l (i : Int) = l[i] := by simp [rdOf, List.getElem?_eq_getElem hlt]
    have ih' := ih (i + 1) k (by omega) (by omega)
    have hw : wrap64 ((i : Int) + 1) = ((i + 1 : Nat) : Int) := by unfold wrap64; omega
    simp only [bits_value.l0]
    rw [if_pos (by omega), if_pos (by omega), if_pos (by omega), hrd, hw]
    cases hx : l[i] with
    | true =>
      rw [hx] at hs
      simp only [if_true] at hs ⊢
      have e : wrap64 (wrap64 (gval (l.take i) * 2) + 1) = gval (l.take (i + 1)) := by rw [hs]; unfold wrap64; omega
      rw [e]
      exact ih'
    | false =>
      rw [hx] at hs
      simp only [Bool.false_eq_true, if_false] at hs ⊢
      have e : wrap64 (gval (l.take i) * 2) = gval (l.take (i + 1)) := by rw [hs]; unfold wrap64; omega
      rw [e]
      exact ih'
theorem value_is (l : List Bool) (hl : l.length ≤ 62) (k : Nat) (hk : l.length < k) : bits_value.f k l = some (gval l) := by
  unfold bits_value.f
  exact value_loop l hl l.length 0 k (by omega) hk

theorem drawn_heap {W W1 : World} (h : Drawn0 W W1) : W1.heap = W.heap := by
  obtain ⟨n, rfl⟩ := h
  rfl
theorem w64 {n : Int} (h : -9223372036854775808 ≤ n ∧ n < 9223372036854775808) : wrap64 n = n := by unfold wrap64; omega
theorem u64w {n : Int} (h : 0 ≤ n ∧ n < 18446744073709551616) : IntKind.u64.wrap n = n := by
  simp [IntKind.wrap, IntKind.bits, IntKind.signed]
  omega
theorem wf64 {n : Int} (h : (Lit.int .i64 n).wf = true) : -9223372036854775808 ≤ n ∧ n < 9223372036854775808 := by
  simp only [Lit.wf, IntKind.min, IntKind.max, IntKind.signed, IntKind.bits, Bool.and_eq_true, decide_eq_true_eq, if_true] at h
  omega
theorem wf8 {n : Int} (h : (Lit.int .u8 n).wf = true) : 0 ≤ n ∧ n < 256 := by
  simp only [Lit.wf, IntKind.min, IntKind.max, IntKind.signed, IntKind.bits, Bool.and_eq_true, decide_eq_true_eq] at h
  simp at h
  omega
theorem band1 (x : Int) : Go.bits .and .i64 x 1 = x % 2 := by
  have h : (BitVec.ofInt 64 x &&& BitVec.ofInt 64 1).toNat = (x % 2).toNat := by
    have e1 : (BitVec.ofInt 64 1) = 1#64 := rfl
    rw [e1, BitVec.toNat_and, BitVec.toNat_ofInt]
    have e2 : (1#64).toNat = 2 ^ 1 - 1 := rfl
    rw [e2, Nat.and_two_pow_sub_one_eq_mod]
    omega
  show IntKind.i64.wrap (((BitVec.ofInt 64 x &&& BitVec.ofInt 64 1).toNat : Nat) : Int) = x % 2
  rw [h, IntKind.wrap_i64]
  omega
/-- Bit i of a number. -/
def bitOf (v : Int) (i : Nat) : Bool := decide (v / 2 ^ i % 2 = 1)
/-- The n low bits, the most significant first. -/
def low (v : Int) : Nat → List Bool
  | 0 => []
  | n + 1 => bitOf v n :: low v n
theorem low_length (v : Int) : ∀ n, (low v n).length = n
  | 0 => rfl
  | n + 1 => by simp [low, low_length v n]
theorem bit_is (v : Int) (i : Nat) (hi : i ≤ 64) : (Go.bits .and .i64 (shr .i64 v (i : Int)) 1 == 1) = bitOf v i := by
  rw [band1]
  unfold shr bitOf
  rw [show min ((i : Int)).toNat (IntKind.i64).bits = i by rw [Int.toNat_natCast]; exact Nat.min_eq_left hi]
  by_cases h : v / 2 ^ i % 2 = 1
  · rw [h]; rfl
  · rw [decide_eq_false h]
    exact beq_eq_false_iff_ne.mpr h

theorem groups_count {n size k : Nat} (hs : 1 ≤ size) (h1 : n ≤ k * size) (h2 : ∀ j, j < k → j * size < n) : (n + size - 1) / size = k := by
  apply Nat.div_eq_of_lt_le
  · rcases Nat.eq_zero_or_pos k with h | h
    · subst h; omega
    · have := h2 (k - 1) (by omega)
      have e : k * size = (k - 1) * size + size := by
        conv => lhs; rw [show k = (k - 1) + 1 by omega, Nat.succ_mul]
      omega
  · rw [Nat.succ_mul]; omega
end Go.Proofs.Ytjhhckkmogekkaa.X
