/- What the functions of package bits come to, in plain Lean. -/
import Derived.Test.YtochccmhcpeioaaYGroups
import Derived.Test.YtochccmhcpeioaaXx1
namespace Go.Proofs.Ytochccmhcpeioaa.X
open Go.RowKit Go.Proofs.YtochccmhcpeioaaW.PrintWords Go.Proofs.YtochccmhcpeioaaW.PrintLast Go.Proofs.YtochccmhcpeioaaW.PrintMore
set_option linter.unusedVariables false
set_option linter.unusedSimpArgs false

theorem w64 {n : Int} (h : -9223372036854775808 ≤ n ∧ n < 9223372036854775808) : wrap64 n = n := by unfold wrap64; omega
theorem u64w {n : Int} (h : 0 ≤ n ∧ n < 18446744073709551616) : IntKind.u64.wrap n = n := by
  simp [IntKind.wrap, IntKind.bits, IntKind.signed]
  omega
theorem wf64 {n : Int} (h : (Lit.int .i64 n).wf = true) : -9223372036854775808 ≤ n ∧ n < 9223372036854775808 := by
  simp only [Lit.wf, IntKind.min, IntKind.max, IntKind.signed, IntKind.bits, Bool.and_eq_true, decide_eq_true_eq, if_true] at h
  omega
theorem wf8 {n : Int} (h : (Lit.int .u8 n).wf = true) : 0 ≤ n ∧ n < 256 := by
  simp only [Lit.wf, IntKind.min, IntKind.max, IntKind.signed, IntKind.bits, Bool.and_eq_true, decide_eq_true_eq] at h
  simp at h
  omega
theorem band1 (x : Int) : Go.bits .and .i64 x 1 = x % 2 := by
  have h : (BitVec.ofInt 64 x &&& BitVec.ofInt 64 1).toNat = (x % 2).toNat := by
    have e1 : (BitVec.ofInt 64 1) = 1#64 := rfl
    rw [e1, BitVec.toNat_and, BitVec.toNat_ofInt]
    have e2 : (1#64).toNat = 2 ^ 1 - 1 := rfl
    rw [e2, Nat.and_two_pow_sub_one_eq_mod]
    omega
  show IntKind.i64.wrap (((BitVec.ofInt 64 x &&& BitVec.ofInt 64 1).toNat : Nat) : Int) = x % 2
  rw [h, IntKind.wrap_i64]
  omega
/-- Bit i of a number. -/
def bitOf (v : Int) (i : Nat) : Bool := decide (v / 2 ^ i % 2 = 1)
/-- The n low bits, the most significant first. -/
def low (v : Int) : Nat → List Bool
  | 0 => []
  | n + 1 => bitOf v n :: low v n
theorem low_length (v : Int) : ∀ n, (low v n).length = n
  | 0 => rfl
  | n + 1 => by simp [low, low_length v n]
theorem bit_is (v : Int) (i : Nat) (hi : i ≤ 64) : (Go.bits .and .i64 (shr .i64 v (i : Int)) 1 == 1) = bitOf v i := by
  rw [band1]
  unfold shr bitOf
  rw [show min ((i : Int)).toNat (IntKind.i64).bits = i by rw [Int.toNat_natCast]; exact Nat.min_eq_left hi]
  by_cases h : v / 2 ^ i % 2 = 1
  · rw [h]; rfl
  · rw [decide_eq_false h]
    exact beq_eq_false_iff_ne.mpr h

theorem append_loop (v : Int) : ∀ (n : Nat) (acc : List Bool) (k : Nat), n ≤ 64 → n < k → acc.length + n < 140737488355328 → bits_Append.l0 k v acc ((n : Int) - 1) = some (acc ++ low v n, 0)
  | 0, acc, k, _, hk, _ => by
    obtain ⟨k, rfl⟩ : ∃ m, k = m + 1 := ⟨k - 1, by omega⟩
    simp only [bits_Append.l0]
    rw [if_neg (by omega)]
    simp [low]
  | n + 1, acc, k, hn, hk, hl => by
    obtain ⟨k, rfl⟩ : ∃ m, k = m + 1 := ⟨k - 1, by omega⟩
    have e : ((n + 1 : Nat) : Int) - 1 = (n : Int) := by omega
    simp only [bits_Append.l0]
    rw [e, if_pos (by omega), if_pos (by omega), if_pos (by omega), w64 (by omega), bit_is v n (by omega), append_loop v n _ k (by omega) (by omega) (by simp; omega), List.append_assoc]
    rfl
/-- What Append returns. -/
def appendR (l : List Bool) (v n : Int) : List Bool × Int := if n < 0 ∨ n > 62 then ([], 3) else if (l.length : Int) + n > 1048576 then ([], 4) else (l ++ low v n.toNat, 0)
theorem Append_is (l : List Bool) (v n : Int) (k : Nat) (hl : l.length ≤ 140737488350000) (hk : 70 ≤ k) : bits_Append.f k l v n = some (appendR l v n) := by
  obtain ⟨k, rfl⟩ : ∃ m, k = m + 1 := ⟨k - 1, by omega⟩
  unfold bits_Append.f appendR
  by_cases h1 : n < 0
  · rw [if_pos h1, if_pos (.inl h1)]
    simp [bits_Append.j0]
  rw [if_neg h1]
  by_cases h2 : n > 62
  · rw [if_pos (.inr h2), decide_eq_true h2]
    simp [bits_Append.j0]
  rw [if_neg (by omega), decide_eq_false h2]
  simp only [bits_Append.j0]
  rw [if_neg (by simp), w64 (by omega)]
  by_cases h3 : (l.length : Int) + n > 1048576
  · rw [if_pos h3, if_pos h3]
  rw [if_neg h3, if_neg h3]
  unfold slices_Clone_bool_bool.f
  rw [if_pos (by omega), Option.bind_some, w64 (by omega)]
  obtain ⟨m, rfl⟩ : ∃ m : Nat, n = m := ⟨n.toNat, by omega⟩
  rw [append_loop v m l k (by omega) (by omega) (by omega), Int.toNat_natCast]

/-- What Take returns. -/
def takeR (l : List Bool) (i n : Int) : Int × Int := if n < 0 ∨ n > 62 ∨ i < 0 ∨ i > l.length then (0, 3) else if n > l.length - i then (0, 10) else (gval ((l.drop i.toNat).take n.toNat), 0)
theorem Take_is (l : List Bool) (i n : Int) (k : Nat) (hl : l.length ≤ 140737488350000) (hk : 70 ≤ k) : bits_Take.f k l i n = some (takeR l i n) := by
  obtain ⟨k, rfl⟩ : ∃ m, k = m + 1 := ⟨k - 1, by omega⟩
  unfold bits_Take.f takeR
  by_cases h1 : n < 0
  · rw [if_pos h1, if_pos (by omega)]
    simp [bits_Take.j0]
  rw [if_neg h1]
  by_cases h2 : n > 62
  · rw [if_pos h2, if_pos (by omega)]
    simp [bits_Take.j0]
  rw [if_neg h2]
  by_cases h3 : i < 0
  · rw [if_pos h3, if_pos (by omega)]
    simp [bits_Take.j0]
  rw [if_neg h3]
  by_cases h4 : i > l.length
  · rw [decide_eq_true h4, if_pos (by omega)]
    simp [bits_Take.j0]
  rw [decide_eq_false h4, if_neg (by omega)]
  simp only [bits_Take.j0]
  rw [if_neg (by simp), w64 (by omega)]
  by_cases h5 : n > l.length - i
  · rw [if_pos h5, if_pos h5]
  rw [if_neg h5, if_neg h5, if_pos (by omega), w64 (by omega), if_pos (by omega), if_pos (by omega)]
  obtain ⟨m, rfl⟩ : ∃ m : Nat, n = m := ⟨n.toNat, by omega⟩
  obtain ⟨j, rfl⟩ : ∃ j : Nat, i = j := ⟨i.toNat, by omega⟩
  have e : ((l.take ((j : Int) + (m : Int)).toNat).drop ((j : Int)).toNat) = (l.drop j).take m := by
    rw [show ((j : Int) + (m : Int)).toNat = j + m by omega, Int.toNat_natCast, List.drop_take]
    congr 1
    omega
  rw [e, value_is _ (by rw [List.length_take]; omega) k (by rw [List.length_take]; omega), Option.bind_some, Int.toNat_natCast, Int.toNat_natCast]
end Go.Proofs.Ytochccmhcpeioaa.X
