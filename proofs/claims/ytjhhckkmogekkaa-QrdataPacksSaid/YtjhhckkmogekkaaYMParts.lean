/- The small functions of modes as plain numbers: the bits of a count, of data, and what fits. No condition. -/
import Derived.Test.YtjhhckkmogekkaaXx5
import Derived.Test.YtjhhckkmogekkaaXx42
namespace Go.Proofs.Ytjhhckkmogekkaa.X
open Go.RowKit Go.Proofs.YtjhhckkmogekkaaW.PrintWords Go.Proofs.YtjhhckkmogekkaaW.PrintLast Go.Proofs.YtjhhckkmogekkaaW.PrintMore
set_option linter.unusedVariables false
set_option linter.unusedSimpArgs false

theorem bstep {a b c : World} (h : Below a.heap.size a b) (k : Below b.heap.size b c) : Below a.heap.size a c := h.trans (k.mono h.size)
theorem drawn_below {a b : World} (h : Drawn0 a b) : Below a.heap.size a b := by
  obtain ⟨n, rfl⟩ := h
  exact pw_below_drewN (Below.refl _ _) n
/-- The bits of a count; 0 where there is no such mode or class. -/
def cbOf (m c : Int) : Int := if 0 ≤ c ∧ c ≤ 2 then (if m = 1 then 10 + 2 * c else if m = 2 then 9 + 2 * c else if m = 4 then (if c = 0 then 8 else 16) else 0) else 0
theorem cbOf_range (m c : Int) : 0 ≤ cbOf m c ∧ cbOf m c ≤ 16 := by unfold cbOf; split <;> (try split) <;> (try split) <;> (try split) <;> (try split) <;> omega
theorem countBits_is (k : Nat) (m c : Int) : modes_countBits.f (k + 1) m c = some (cbOf m c) := by
  unfold modes_countBits.f cbOf
  by_cases h : 0 ≤ c ∧ c ≤ 2
  · rw [if_neg (by omega), if_pos h, modes_countBits.j0, if_neg (by simp; omega)]
    obtain ⟨h1, h2⟩ := h
    by_cases e1 : m = 1
    · rw [if_pos e1, if_pos e1]; congr 1; unfold wrap64; omega
    rw [if_neg e1, if_neg e1]
    by_cases e2 : m = 2
    · rw [if_pos e2, if_pos e2]; congr 1; unfold wrap64; omega
    rw [if_neg e2, if_neg e2]
    by_cases e4 : m = 4
    · rw [if_pos e4, if_pos e4]; congr 1; unfold wrap64 mn; split <;> split <;> omega
    rw [if_neg e4, if_neg e4]
  · rw [if_neg h]
    split
    · rw [modes_countBits.j0, if_pos rfl]
    · rw [modes_countBits.j0, if_pos (by simp; omega)]
/-- The bits of n bytes of data. -/
def dbOf (m n : Int) : Int := if m = 1 then n / 3 * 10 + (if n % 3 = 0 then 0 else if n % 3 = 1 then 4 else 7) else if m = 2 then n / 2 * 11 + (if n % 2 = 0 then 0 else 6) else n * 8
theorem dbOf_range (m n : Int) (h0 : 0 ≤ n) : 0 ≤ dbOf m n ∧ dbOf m n ≤ 8 * n := by unfold dbOf; split <;> (try split) <;> (try split) <;> (try split) <;> omega
theorem wrap64_id (x : Int) (h0 : -9223372036854775808 ≤ x) (h1 : x ≤ 9223372036854775807) : wrap64 x = x := by unfold wrap64; omega
theorem dataBits_is (m n : Int) (h0 : 0 ≤ n) (h1 : n ≤ 1000000000000000000) : modes_dataBits.f m n = some (dbOf m n) := by
  unfold modes_dataBits.f modes_group.f dbOf
  by_cases e1 : m = 1
  · rw [if_pos e1, if_pos e1, Option.bind_some]
    simp only [Int.tmod_eq_emod_of_nonneg h0, Int.tdiv_eq_ediv_of_nonneg h0]
    rw [if_neg (by omega), if_pos (by omega), if_pos (by simp), if_pos (by omega), if_pos (by simp <;> omega)]
    congr 1
    have hr : n % 3 = 0 ∨ n % 3 = 1 ∨ n % 3 = 2 := by omega
    have e3 : rd [0, 4, 7, 10] (3 : Int) = 10 := rfl
    rw [e3]
    rcases hr with hr | hr | hr <;> rw [hr] <;> simp [rd] <;> (try rw [wrap64_id (n / 3) (by omega) (by omega)]) <;> rw [wrap64_id (n / 3 * 10) (by omega) (by omega)] <;> rw [wrap64_id _ (by omega) (by omega)]
  rw [if_neg e1, if_neg e1]
  by_cases e2 : m = 2
  · rw [if_pos e2, if_pos e2, Option.bind_some]
    simp only [Int.tmod_eq_emod_of_nonneg h0, Int.tdiv_eq_ediv_of_nonneg h0]
    rw [if_neg (by omega), if_pos (by omega), if_pos (by simp), if_pos (by omega), if_pos (by simp <;> omega)]
    congr 1
    have hr : n % 2 = 0 ∨ n % 2 = 1 := by omega
    have e3 : rd [0, 6, 11] (2 : Int) = 11 := rfl
    rw [e3]
    rcases hr with hr | hr <;> rw [hr] <;> simp [rd] <;> (try rw [wrap64_id (n / 2) (by omega) (by omega)]) <;> rw [wrap64_id (n / 2 * 11) (by omega) (by omega)] <;> rw [wrap64_id _ (by omega) (by omega)]
  · rw [if_neg e2, if_neg e2, Option.bind_some]
    simp only [Int.tmod_eq_emod_of_nonneg h0, Int.tdiv_eq_ediv_of_nonneg h0]
    rw [if_neg (by omega), if_pos (by omega), if_pos (by simp), if_pos (by omega), if_pos (by simp <;> omega)]
    congr 1
    have hr : n % 1 = 0 := by omega
    have e3 : rd [0, 8] (1 : Int) = 8 := rfl
    rw [e3, hr]
    simp [rd]
    rw [wrap64_id n (by omega) (by omega), wrap64_id (n * 8) (by omega) (by omega)]
    try rw [wrap64_id _ (by omega) (by omega)]
/-- What a mode can encode. -/
def fitOf (m c : Int) : Bool := (modes_Fits.f m c).getD false
theorem fits_is (m c : Int) : modes_Fits.f m c = some (fitOf m c) := by
  unfold fitOf modes_Fits.f strings_IndexByte.f
  split
  · split <;> rfl
  · split <;> rfl
end Go.Proofs.Ytjhhckkmogekkaa.X
