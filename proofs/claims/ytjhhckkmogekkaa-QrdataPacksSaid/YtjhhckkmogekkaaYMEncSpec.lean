/- What modes.Encode comes to, as plain functions. No condition. -/
import Derived.Test.YtjhhckkmogekkaaYMBits
import Derived.Test.YtjhhckkmogekkaaYMIx
import Derived.Test.YtjhhckkmogekkaaYMSegment
import Derived.Test.YtjhhckkmogekkaaXx23
namespace Go.Proofs.Ytjhhckkmogekkaa.X
open Go.RowKit Go.Proofs.YtjhhckkmogekkaaW.PrintWords Go.Proofs.YtjhhckkmogekkaaW.PrintLast Go.Proofs.YtjhhckkmogekkaaW.PrintMore
set_option linter.unusedVariables false
set_option linter.unusedSimpArgs false

def numStep (m v c : Int) : Int := if m = 1 then wrap64 ((wrap64 (10 * v)) + ((c - 48) % 256)) else if m = 2 then wrap64 ((wrap64 (45 * v)) + ixOf c) else wrap64 c
/-- The number that a group of bytes forms. -/
def numOf (m : Int) (g : List Int) : Int := g.foldl (numStep m) 0
theorem number_loop (m : Int) (g : List Int) (hg : g.length ≤ 1000000) : ∀ (d i k : Nat), i + d = g.length → d < k → modes_number.l0 k m ((g.take i).foldl (numStep m) 0) g (g.length : Int) (i : Int) = some (numOf m g) := by
  intro d
  induction d with
  | zero =>
    intro i k hi hk
    obtain ⟨k, rfl⟩ : ∃ m, k = m + 1 := ⟨k - 1, by omega⟩
    simp only [modes_number.l0]
    rw [if_neg (by omega), List.take_of_length_le (by omega)]
    rfl
  | succ d ih =>
    intro i k hi hk
    obtain ⟨k, rfl⟩ : ∃ m, k = m + 1 := ⟨k - 1, by omega⟩
    have hlt : i < g.length := by omega
    have hs : (g.take (i + 1)).foldl (numStep m) 0 = numStep m ((g.take i).foldl (numStep m) 0) g[i] := by
      rw [List.take_succ_eq_append_getElem hlt, List.foldl_append]; rfl
    have hrd : rd g (i : Int) = g[i] := by simp [rd, List.getD_eq_getElem?_getD, List.getElem?_eq_getElem hlt]
    have ih' := ih (i + 1) k (by omega) (by omega)
    have hw : wrap64 ((i : Int) + 1) = ((i + 1 : Nat) : Int) := by unfold wrap64; omega
    rw [hs] at ih'
    simp only [modes_number.l0, strings_IndexByte.f, Option.bind_some]
    rw [if_pos (by omega), if_pos (by omega), if_pos (by omega), hrd, hw]
    unfold numStep at ih' ⊢
    by_cases h1 : m = 1
    · rw [if_pos h1]; simp only [if_pos h1] at ih' ⊢; exact ih'
    · rw [if_neg h1]
      by_cases h2 : m = 2
      · rw [if_pos h2]; simp only [if_neg h1, if_pos h2] at ih' ⊢; exact ih'
      · rw [if_neg h2]; simp only [if_neg h1, if_neg h2] at ih' ⊢; exact ih'
theorem number_is (m : Int) (g : List Int) (hg : g.length ≤ 1000000) (k : Nat) (hk : g.length < k) : modes_number.f k m g = some (numOf m g) := by
  unfold modes_number.f
  exact number_loop m g hg g.length 0 k (by omega) (by omega)

/-- The group of bytes at a place. -/
def grpAt (m : Int) (d : List Int) (i : Nat) : List Int := (d.drop i).take (szOf m)
def grpBits (m : Int) (g : List Int) : List Bool := low (numOf m g) (dbOf m g.length).toNat
def encData (m : Int) (d : List Int) : List Bool := (List.range ((d.length + szOf m - 1) / szOf m)).flatMap (fun j => grpBits m (grpAt m d (j * szOf m)))
def encSeg (cls : Int) (s : S59) : List Bool := low s.f0 4 ++ low s.f1.length (cbOf s.f0 cls).toNat ++ encData s.f0 s.f1
def encAll (cls : Int) (l : List S59) : List Bool := l.flatMap (encSeg cls)
def encR (l : List S59) (cls : Int) : List Bool × Int := if (mbits l cls).2 = 0 then (encAll cls l, 0) else ([], (mbits l cls).2)
def modes_Encode.f (l0 : List S59) (a1 : Int) : Option (List Bool × Int) := some (encR l0 a1)

theorem encData_nil (m : Int) : encData m [] = [] := by
  have := szOf_range m
  unfold encData
  rw [show (([] : List Int).length + szOf m - 1) / szOf m = 0 from Nat.div_eq_of_lt (by simp; omega)]
  rfl
theorem encData_rec (m : Int) (d : List Int) (hd : d ≠ []) : encData m d = grpBits m (d.take (szOf m)) ++ encData m (d.drop (szOf m)) := by
  have hs := szOf_range m
  have hl : 0 < d.length := List.length_pos_iff.mpr hd
  have hk : (d.length + szOf m - 1) / szOf m = ((d.drop (szOf m)).length + szOf m - 1) / szOf m + 1 := by
    rw [List.length_drop]
    by_cases h : szOf m ≤ d.length
    · rw [show d.length + szOf m - 1 = (d.length - szOf m + szOf m - 1) + szOf m by omega, Nat.add_div_right _ (by omega)]
    · rw [show d.length - szOf m = 0 by omega, show (0 + szOf m - 1) / szOf m = 0 from Nat.div_eq_of_lt (by omega)]
      rw [show d.length + szOf m - 1 = (d.length - 1) + szOf m by omega, Nat.add_div_right _ (by omega), Nat.div_eq_of_lt (by omega)]
  unfold encData
  rw [hk, List.range_succ_eq_map, List.flatMap_cons, List.flatMap_map]
  congr 1
  · simp [grpAt]
  · have e : (fun j => grpBits m (grpAt m (d.drop (szOf m)) (j * szOf m))) = fun a => grpBits m (grpAt m d (a.succ * szOf m)) := by
      funext j
      unfold grpAt
      rw [List.drop_drop]
      congr 3
      rw [Nat.succ_mul, Nat.add_comm]
    rw [e]
theorem encData_length (m : Int) : ∀ (n : Nat) (d : List Int), d.length ≤ n → (encData m d).length = (dbOf m d.length).toNat := by
  intro n
  induction n with
  | zero =>
    intro d hd
    obtain rfl : d = [] := List.eq_nil_of_length_eq_zero (by omega)
    rw [encData_nil]
    unfold dbOf
    simp
  | succ n ih =>
    intro d hd
    cases d with
    | nil =>
      rw [encData_nil]
      unfold dbOf
      simp
    | cons x d =>
      have hs := szOf_range m
      rw [encData_rec m (x :: d) (by simp), List.length_append, ih _ (by rw [List.length_drop, List.length_cons] at *; omega)]
      unfold grpBits
      rw [low_length]
      have hsp := dbOf_split m (x :: d).length (by simp)
      have h1 := dbOf_range m (min (x :: d).length (szOf m) : Nat) (by omega)
      have h2 := dbOf_range m (((x :: d).length - min (x :: d).length (szOf m) : Nat) : Int) (by omega)
      have e1 : ((x :: d).take (szOf m)).length = min (x :: d).length (szOf m) := by rw [List.length_take, Nat.min_comm]
      have e2 : ((x :: d).drop (szOf m)).length = (x :: d).length - min (x :: d).length (szOf m) := by rw [List.length_drop]; omega
      rw [e1, e2, hsp]
      omega
theorem encSeg_length (cls : Int) (s : S59) : ((encSeg cls s).length : Int) = segBits cls s := by
  have h1 := cbOf_range s.f0 cls
  have h2 := dbOf_range s.f0 s.f1.length (by omega)
  unfold encSeg segBits
  rw [List.length_append, List.length_append, low_length, low_length, encData_length s.f0 _ _ (Nat.le_refl _)]
  omega
theorem encAll_length (cls : Int) (l : List S59) : ((encAll cls l).length : Int) = sumBits cls l := by
  induction l with
  | nil => rfl
  | cons s l ih =>
    have h := encSeg_length cls s
    unfold encAll at ih ⊢
    rw [List.flatMap_cons, List.length_append]
    unfold sumBits
    omega
end Go.Proofs.Ytjhhckkmogekkaa.X
