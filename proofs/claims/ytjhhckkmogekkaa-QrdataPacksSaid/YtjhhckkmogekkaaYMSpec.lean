/- What modes.segment and modes.Decode come to, as plain functions. No condition. -/
import Derived.Test.YtjhhckkmogekkaaYMParts
import Derived.Test.YtjhhckkmogekkaaYGval
import Derived.Test.YtjhhckkmogekkaaXx6
namespace Go.Proofs.Ytjhhckkmogekkaa.X
open Go.RowKit Go.Proofs.YtjhhckkmogekkaaW.PrintWords Go.Proofs.YtjhhckkmogekkaaW.PrintLast Go.Proofs.YtjhhckkmogekkaaW.PrintMore
set_option linter.unusedVariables false
set_option linter.unusedSimpArgs false

/-- How many bytes form a group. -/
def szOf (m : Int) : Nat := if m = 1 then 3 else if m = 2 then 2 else 1
def wids (m : Int) : List Int := if m = 1 then [0, 4, 7, 10] else if m = 2 then [0, 6, 11] else [0, 8]
theorem group_is (m : Int) : modes_group.f m = some ((szOf m : Int), wids m) := by
  unfold modes_group.f szOf wids
  split
  · rfl
  · split <;> rfl
theorem szOf_range (m : Int) : 1 ≤ szOf m ∧ szOf m ≤ 3 := by unfold szOf; split <;> (try split) <;> omega
theorem wids_length (m : Int) : (wids m).length = szOf m + 1 := by unfold szOf wids; split <;> (try split) <;> rfl
theorem wids_at (m : Int) (k : Nat) (hk : k ≤ szOf m) : rd (wids m) (k : Int) = dbOf m k := by
  unfold wids dbOf
  unfold szOf at hk
  by_cases h1 : m = 1
  · rw [if_pos h1] at hk ⊢
    rw [if_pos h1]
    have : k = 0 ∨ k = 1 ∨ k = 2 ∨ k = 3 := by omega
    rcases this with rfl | rfl | rfl | rfl <;> rfl
  rw [if_neg h1] at hk ⊢
  rw [if_neg h1]
  by_cases h2 : m = 2
  · rw [if_pos h2] at hk ⊢
    rw [if_pos h2]
    have : k = 0 ∨ k = 1 ∨ k = 2 := by omega
    rcases this with rfl | rfl | rfl <;> rfl
  · rw [if_neg h2] at hk ⊢
    rw [if_neg h2]
    have : k = 0 ∨ k = 1 := by omega
    rcases this with rfl | rfl <;> rfl
/-- The character of a value of the alphanumeric mode. -/
def chOf (v : Int) : Int := bt (⟨#[48, 49, 50, 51, 52, 53, 54, 55, 56, 57, 65, 66, 67, 68, 69, 70, 71, 72, 73, 74, 75, 76, 77, 78, 79, 80, 81, 82, 83, 84, 85, 86, 87, 88, 89, 90, 32, 36, 37, 42, 43, 45, 46, 47, 58]⟩ : ByteArray) v
/-- The bytes of a group's number: k bytes; false where the number is too great. -/
def unGrp (m v : Int) (k : Nat) : List Int × Bool :=
  if m = 4 then ([v % 256], true)
  else
    let b : Int := if m = 1 then 10 else 45
    if k = 1 then ([chOf (v % b)], v / b == 0)
    else if k = 2 then ([chOf (v / b % b), chOf (v % b)], v / b / b == 0)
    else ([chOf (v / b / b % b), chOf (v / b % b), chOf (v % b)], v / b / b / b == 0)
theorem bytesOf_is (m v : Int) (k : Nat) (h0 : 0 ≤ v) (h9 : v ≤ 9223372036854775807) (k1 : 1 ≤ k) (k3 : k ≤ 3) : modes_bytesOf.f 10 m v k = some (unGrp m v k) := by
  have key : ∀ b : Int, b = 10 ∨ b = 45 → modes_bytesOf.j0 10 v k b = some (if k = 1 then ([chOf (v % b)], v / b == 0)
    else if k = 2 then ([chOf (v / b % b), chOf (v % b)], v / b / b == 0)
    else ([chOf (v / b / b % b), chOf (v / b % b), chOf (v % b)], v / b / b / b == 0)) := by
    intro b hb
    have hb0 : b ≠ 0 := by omega
    have d1 : 0 ≤ v / b ∧ v / b ≤ v := ⟨by rcases hb with rfl | rfl <;> omega, by rcases hb with rfl | rfl <;> omega⟩
    have d2 : 0 ≤ v / b / b ∧ v / b / b ≤ v := ⟨by rcases hb with rfl | rfl <;> omega, by rcases hb with rfl | rfl <;> omega⟩
    have d3 : 0 ≤ v / b / b / b ∧ v / b / b / b ≤ v := ⟨by rcases hb with rfl | rfl <;> omega, by rcases hb with rfl | rfl <;> omega⟩
    have m1 : 0 ≤ v % b ∧ v % b < 45 := ⟨by rcases hb with rfl | rfl <;> omega, by rcases hb with rfl | rfl <;> omega⟩
    have m2 : 0 ≤ v / b % b ∧ v / b % b < 45 := ⟨by rcases hb with rfl | rfl <;> omega, by rcases hb with rfl | rfl <;> omega⟩
    have m3 : 0 ≤ v / b / b % b ∧ v / b / b % b < 45 := ⟨by rcases hb with rfl | rfl <;> omega, by rcases hb with rfl | rfl <;> omega⟩
    have hk : k = 1 ∨ k = 2 ∨ k = 3 := by omega
    have t1 := Int.tmod_eq_emod_of_nonneg (b := b) h0
    have t2 := Int.tmod_eq_emod_of_nonneg (b := b) d1.1
    have t3 := Int.tmod_eq_emod_of_nonneg (b := b) d2.1
    have q1 := Int.tdiv_eq_ediv_of_nonneg (b := b) h0
    have q2 := Int.tdiv_eq_ediv_of_nonneg (b := b) d1.1
    have q3 := Int.tdiv_eq_ediv_of_nonneg (b := b) d2.1
    have w1 := wrap64_id (v / b) (by omega) (by omega)
    have w2 := wrap64_id (v / b / b) (by omega) (by omega)
    have w3 := wrap64_id (v / b / b / b) (by omega) (by omega)
    have e0 : wrap64 ((1 : Int) - 1) = 0 := by unfold wrap64; omega
    have e1 : wrap64 ((2 : Int) - 1) = 1 := by unfold wrap64; omega
    have e2 : wrap64 ((3 : Int) - 1) = 2 := by unfold wrap64; omega
    have e3 : wrap64 ((0 : Int) - 1) = -1 := by unfold wrap64; omega
    rw [modes_bytesOf.j0, if_pos (by omega), if_pos (by omega)]
    rcases hk with rfl | rfl | rfl
    · simp only [Int.natCast_one, e0]
      rw [modes_bytesOf.l0, if_pos (by omega), if_neg hb0, t1, q1, w1, if_pos m1.1, if_pos m1.2, if_pos (by omega), if_pos (by simp), e3, modes_bytesOf.l0, if_neg (by omega)]
      rfl
    · rw [show (((2 : Nat) : Int)) = 2 from rfl, e1]
      rw [modes_bytesOf.l0, if_pos (by omega), if_neg hb0, t1, q1, w1, if_pos m1.1, if_pos m1.2, if_pos (by omega), if_pos (by simp), e0]
      rw [modes_bytesOf.l0, if_pos (by omega), if_neg hb0, t2, q2, w2, if_pos m2.1, if_pos m2.2, if_pos (by omega), if_pos (by simp), e3, modes_bytesOf.l0, if_neg (by omega)]
      rfl
    · rw [show (((3 : Nat) : Int)) = 3 from rfl, e2]
      rw [modes_bytesOf.l0, if_pos (by omega), if_neg hb0, t1, q1, w1, if_pos m1.1, if_pos m1.2, if_pos (by omega), if_pos (by simp), e1]
      rw [modes_bytesOf.l0, if_pos (by omega), if_neg hb0, t2, q2, w2, if_pos m2.1, if_pos m2.2, if_pos (by omega), if_pos (by simp), e0]
      rw [modes_bytesOf.l0, if_pos (by omega), if_neg hb0, t3, q3, w3, if_pos m3.1, if_pos m3.2, if_pos (by omega), if_pos (by simp), e3, modes_bytesOf.l0, if_neg (by omega)]
      rfl
  unfold modes_bytesOf.f unGrp
  by_cases h4 : m = 4
  · rw [if_pos h4, if_pos h4]
  rw [if_neg h4, if_neg h4]
  by_cases h1 : m = 1
  · rw [if_pos h1, if_pos h1, key 10 (.inl rfl)]
  · rw [if_neg h1, if_neg h1, key 45 (.inr rfl)]
theorem unGrp_length (m v : Int) (k : Nat) (k1 : 1 ≤ k) (k3 : k ≤ szOf m) : (unGrp m v k).1.length = k := by
  unfold unGrp
  unfold szOf at k3
  by_cases h4 : m = 4
  · rw [if_pos h4]
    rw [if_neg (by omega), if_neg (by omega)] at k3
    simp; omega
  · rw [if_neg h4]
    have : k = 1 ∨ k = 2 ∨ k = 3 := by
      split at k3
      · omega
      · split at k3 <;> omega
    rcases this with rfl | rfl | rfl <;> rfl

/-- The n bytes of data that are read off bits, behind what has been read; none where a number is too great. -/
def rdD (m : Int) : Nat → Nat → List Bool → List Int → Option (List Int × List Bool)
  | 0, _, _, _ => none
  | f + 1, n, l, acc =>
    if n = 0 then some (acc, l)
    else
      let k := min n (szOf m)
      let p := unGrp m (gval (l.take (dbOf m k).toNat)) k
      if p.2 = true then rdD m f (n - k) (l.drop (dbOf m k).toNat) (acc ++ p.1) else none
def rdEnd (o : Option (List Int × List Bool)) : Except Int (List Int × List Bool) := match o with | none => .error 9 | some x => .ok x
/-- A segment behind its mode: its data and the rest, or the error. -/
def segD (cls m : Int) (l : List Bool) : Except Int (List Int × List Bool) :=
  if (l.length : Int) < cbOf m cls then .error 10
  else if (((l.drop (cbOf m cls).toNat).length : Nat) : Int) < dbOf m (gval (l.take (cbOf m cls).toNat)) then .error 10
  else rdEnd (rdD m ((gval (l.take (cbOf m cls).toNat)).toNat + 1) (gval (l.take (cbOf m cls).toNat)).toNat (l.drop (cbOf m cls).toNat) [])
/-- The segments of bits, behind what has been read. -/
def decD (cls : Int) : Nat → List Bool → List S59 → List S59 × Int
  | 0, _, out => (out, 0)
  | f + 1, l, out =>
    if l.length < 4 then (if gval l = 0 then (out, 0) else ([], 22))
    else if gval (l.take 4) = 0 then (out, 0)
    else if cbOf (gval (l.take 4)) cls = 0 then ([], 22)
    else if out.length = 4096 then ([], 4)
    else match segD cls (gval (l.take 4)) (l.drop 4) with
      | .error e => ([], e)
      | .ok x => decD cls f x.2 (out ++ [⟨gval (l.take 4), x.1⟩])
def decR (l : List Bool) (cls : Int) : List S59 × Int :=
  if cls < 0 ∨ 2 < cls then ([], 1) else if 1048576 < l.length then ([], 4) else decD cls (l.length + 1) l []
def modes_Decode.f (l0 : List Bool) (a1 : Int) : Option (List S59 × Int) := some (decR l0 a1)
end Go.Proofs.Ytjhhckkmogekkaa.X
