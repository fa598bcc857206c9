/- The reference's Append and Take in plain Lean. No condition. -/
import Derived.Test.YtjhhckkmogekkaaYGval
import Derived.Test.YtjhhckkmogekkaaXx34
import Derived.Test.YtjhhckkmogekkaaXx9
namespace Go.Proofs.Ytjhhckkmogekkaa.X
open Go.RowKit Go.Proofs.YtjhhckkmogekkaaW.PrintWords Go.Proofs.YtjhhckkmogekkaaW.PrintLast Go.Proofs.YtjhhckkmogekkaaW.PrintMore
set_option linter.unusedVariables false
set_option linter.unusedSimpArgs false

/-- What Append returns. -/
def appendR (l : List Bool) (v n : Int) : List Bool × Int := if n < 0 ∨ n > 62 then ([], 3) else if (l.length : Int) + n > 1048576 then ([], 4) else (l ++ low v n.toNat, 0)
/-- What Take returns. -/
def takeR (l : List Bool) (i n : Int) : Int × Int := if n < 0 ∨ n > 62 ∨ i < 0 ∨ i > l.length then (0, 3) else if n > l.length - i then (0, 10) else (gval ((l.drop i.toNat).take n.toNat), 0)
theorem refappend_loop (v : Int) : ∀ (n : Nat) (acc : List Bool) (k : Nat), n ≤ 64 → n < k → acc.length + n < 140737488355328 → barscanref01_Append.l0 k v acc ((n : Int) - 1) = some (acc ++ low v n, 0)
  | 0, acc, k, _, hk, _ => by
    obtain ⟨k, rfl⟩ : ∃ m, k = m + 1 := ⟨k - 1, by omega⟩
    simp only [barscanref01_Append.l0]
    rw [if_neg (by omega)]
    simp [low]
  | n + 1, acc, k, hn, hk, hl => by
    obtain ⟨k, rfl⟩ : ∃ m, k = m + 1 := ⟨k - 1, by omega⟩
    have e : ((n + 1 : Nat) : Int) - 1 = (n : Int) := by omega
    simp only [barscanref01_Append.l0]
    rw [e, if_pos (by omega), u64w (by omega), if_pos (by omega), if_pos (by omega), w64 (by omega), bit_is v n (by omega), refappend_loop v n _ k (by omega) (by omega) (by simp; omega), List.append_assoc]
    rfl
theorem refAppend_is (l : List Bool) (v n : Int) (k : Nat) (hl : l.length ≤ 140737488350000) (hk : 70 ≤ k) : barscanref01_Append.f k l v n = some (appendR l v n) := by
  obtain ⟨k, rfl⟩ : ∃ m, k = m + 1 := ⟨k - 1, by omega⟩
  unfold barscanref01_Append.f appendR
  by_cases h1 : n < 0
  · rw [if_pos h1, if_pos (.inl h1)]
    simp [barscanref01_Append.j0]
  rw [if_neg h1]
  by_cases h2 : n > 62
  · rw [if_pos (.inr h2), decide_eq_true h2]
    simp [barscanref01_Append.j0]
  rw [if_neg (by omega), decide_eq_false h2]
  simp only [barscanref01_Append.j0]
  rw [if_neg (by simp), w64 (by omega)]
  by_cases h3 : (l.length : Int) + n > 1048576
  · rw [if_pos (by omega), if_pos h3]
  rw [if_neg (by omega), if_neg h3, if_pos (by simp; omega), w64 (by omega), List.nil_append]
  obtain ⟨m, rfl⟩ : ∃ m : Nat, n = m := ⟨n.toNat, by omega⟩
  rw [refappend_loop v m l k (by omega) (by omega) (by omega), Int.toNat_natCast]

theorem reftake_loop (l : List Bool) (i n : Nat) (hin : i + n ≤ l.length) (hn : n ≤ 62) (hl : l.length ≤ 140737488350000) : ∀ (d m k : Nat), m + d = n → d < k → barscanref01_Take.l0 k l i n (gval ((l.drop i).take m)) ((i : Int) + m) = some (gval ((l.drop i).take n), 0) := by
  intro d
  induction d with
  | zero =>
    intro m k hm hk
    obtain ⟨k, rfl⟩ : ∃ m, k = m + 1 := ⟨k - 1, by omega⟩
    simp only [barscanref01_Take.l0]
    rw [w64 (by omega), if_neg (by omega)]
    obtain rfl : m = n := by omega
    rfl
  | succ d ih =>
    intro m k hm hk
    obtain ⟨k, rfl⟩ : ∃ m, k = m + 1 := ⟨k - 1, by omega⟩
    have hlt : m < (l.drop i).length := by rw [List.length_drop]; omega
    have hs : gval ((l.drop i).take (m + 1)) = 2 * gval ((l.drop i).take m) + if (l.drop i)[m] then 1 else 0 := by
      rw [List.take_succ_eq_append_getElem hlt, gval_snoc]
    have hb := gval_small (b := (l.drop i).take (m + 1)) (by rw [List.length_take]; omega)
    have hb0 := gval_small (b := (l.drop i).take m) (by rw [List.length_take]; omega)
    have hrd : rdOf false l ((i : Int) + (m : Int)) = (l.drop i)[m] := by
      rw [List.getElem_drop]
      have : ((i : Int) + (m : Int)).toNat = i + m := by omega
      simp [rdOf, this, List.getElem?_eq_getElem (show i + m < l.length by omega)]
    have ih' := ih (m + 1) k (by omega) (by omega)
    have e1 : ((i : Int) + (m : Int)) + 1 = (i : Int) + ((m + 1 : Nat) : Int) := by omega
    simp only [barscanref01_Take.l0]
    rw [w64 (by omega), if_pos (by omega), if_pos (by omega), if_pos (by omega), hrd, w64 (n := (i : Int) + m + 1) (by omega), e1]
    cases hx : (l.drop i)[m] with
    | true =>
      rw [hx] at hs
      simp only [if_true] at hs ⊢
      rw [w64 (n := 2 * _) (by omega), w64 (by omega), ← hs]
      exact ih'
    | false =>
      rw [hx] at hs
      simp only [Bool.false_eq_true, if_false, Int.add_zero] at hs ⊢
      rw [w64 (by omega), ← hs]
      exact ih'
theorem refTake_is (l : List Bool) (i n : Int) (k : Nat) (hl : l.length ≤ 140737488350000) (hk : 70 ≤ k) : barscanref01_Take.f k l i n = some (takeR l i n) := by
  obtain ⟨k, rfl⟩ : ∃ m, k = m + 1 := ⟨k - 1, by omega⟩
  unfold barscanref01_Take.f takeR
  by_cases h1 : n < 0
  · rw [if_pos h1, if_pos (by omega)]
    simp [barscanref01_Take.j0]
  rw [if_neg h1]
  by_cases h2 : n > 62
  · rw [if_pos h2, if_pos (by omega)]
    simp [barscanref01_Take.j0]
  rw [if_neg h2]
  by_cases h3 : i < 0
  · rw [if_pos h3, if_pos (by omega)]
    simp [barscanref01_Take.j0]
  rw [if_neg h3]
  by_cases h4 : i > l.length
  · rw [decide_eq_true h4, if_pos (by omega)]
    simp [barscanref01_Take.j0]
  rw [decide_eq_false h4, if_neg (by omega)]
  simp only [barscanref01_Take.j0]
  rw [if_neg (by simp), w64 (by omega)]
  by_cases h5 : n > l.length - i
  · rw [if_pos h5, if_pos h5]
  rw [if_neg h5, if_neg h5]
  obtain ⟨m, rfl⟩ : ∃ m : Nat, n = m := ⟨n.toNat, by omega⟩
  obtain ⟨j, rfl⟩ : ∃ j : Nat, i = j := ⟨i.toNat, by omega⟩
  have h := reftake_loop l j m (by omega) (by omega) hl m 0 k (by omega) (by omega)
  simpa [gval] using h

theorem refAppend_ev (l : List Bool) (v : Int) (n : Nat) (hn : n ≤ 62) (hl : l.length + n ≤ 1048576) : Ev (fun k => barscanref01_Append.f k l v n) (l ++ low v n, 0) := by
  refine ⟨70, fun k hk => ?_⟩
  show barscanref01_Append.f k l v n = some (l ++ low v n, 0)
  rw [refAppend_is l v n k (by omega) hk]
  unfold appendR
  rw [if_neg (by omega), if_neg (by omega), Int.toNat_natCast]
theorem refTake_ev (l : List Bool) (i n : Int) (hl : l.length ≤ 1048576) : Ev (fun k => barscanref01_Take.f k l i n) (takeR l i n) := ⟨70, fun k hk => refTake_is l i n k (by omega) hk⟩
end Go.Proofs.Ytjhhckkmogekkaa.X
