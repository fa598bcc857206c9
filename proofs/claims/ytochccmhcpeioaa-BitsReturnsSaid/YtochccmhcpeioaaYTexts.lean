/- Format, Parse, Weight and Distance, the program's and the reference's. -/
import Derived.Test.YtochccmhcpeioaaYRefA
import Derived.Test.YtochccmhcpeioaaXx3
import Derived.Test.YtochccmhcpeioaaXx6
import Derived.Test.YtochccmhcpeioaaXx7
namespace Go.Proofs.Ytochccmhcpeioaa.X
open Go.RowKit Go.Proofs.YtochccmhcpeioaaW.PrintWords Go.Proofs.YtochccmhcpeioaaW.PrintLast Go.Proofs.YtochccmhcpeioaaW.PrintMore
set_option linter.unusedVariables false
set_option linter.unusedSimpArgs false

theorem take_set {α : Type} (out spec : List α) (i : Nat) (h1 : i < out.length) (h2 : i < spec.length) (h : out.take i = spec.take i) : (out.set i spec[i]).take (i + 1) = spec.take (i + 1) := by
  rw [List.take_succ_eq_append_getElem (by rw [List.length_set]; exact h1), List.take_succ_eq_append_getElem h2, List.getElem_set_self, ← h]
  congr 1
  rw [List.take_set_of_le (Nat.le_refl i)]
theorem rdOf_at {l : List Bool} {i : Nat} (h : i < l.length) : rdOf false l (i : Int) = l[i] := by simp [rdOf, List.getElem?_eq_getElem h]
theorem rd_at {l : List Int} {i : Nat} (h : i < l.length) : rd l (i : Int) = l[i] := by simp [rd, List.getElem?_eq_getElem h]

/-! Weight -/
def weight (l : List Bool) : Int := (l.count true : Nat)
theorem weight_cons (x : Bool) (l : List Bool) : weight (x :: l) = (if x then 1 else 0) + weight l := by
  unfold weight
  cases x <;> simp <;> omega
theorem weight_le (l : List Bool) : 0 ≤ weight l ∧ weight l ≤ l.length := by
  unfold weight
  have := List.count_le_length (a := true) (l := l)
  omega
theorem weight_loop (l : List Bool) (hl : l.length ≤ 140737488350000) : ∀ (d i k : Nat) (x : Int), i + d = l.length → d < k → 0 ≤ x → x ≤ i → bits_Weight.l0 k x l (l.length : Int) i = some (x + weight (l.drop i)) := by
  intro d
  induction d with
  | zero =>
    intro i k x hi hk hx hx2
    obtain ⟨k, rfl⟩ : ∃ m, k = m + 1 := ⟨k - 1, by omega⟩
    simp only [bits_Weight.l0]
    rw [if_neg (by omega), List.drop_of_length_le (by omega)]
    simp [weight]
  | succ d ih =>
    intro i k x hi hk hx hx2
    obtain ⟨k, rfl⟩ : ∃ m, k = m + 1 := ⟨k - 1, by omega⟩
    have hlt : i < l.length := by omega
    simp only [bits_Weight.l0]
    rw [if_pos (by omega), if_pos (by omega), if_pos (by omega), rdOf_at hlt, w64 (n := (i : Int) + 1) (by omega), show (i : Int) + 1 = ((i + 1 : Nat) : Int) by omega, List.drop_eq_getElem_cons hlt, weight_cons]
    cases hx : l[i] with
    | true =>
      rw [if_pos rfl, if_pos rfl, w64 (by omega), ih (i + 1) k _ (by omega) (by omega) (by omega) (by omega), Int.add_assoc]
    | false =>
      rw [if_neg (by simp), if_neg (by simp), ih (i + 1) k _ (by omega) (by omega) (by omega) (by omega), Int.zero_add]
theorem Weight_is (l : List Bool) (k : Nat) (hl : l.length ≤ 140737488350000) (hk : l.length < k) : bits_Weight.f k l = some (weight l) := by
  have := weight_loop l hl l.length 0 k 0 (by omega) hk (by omega) (by omega)
  simpa [bits_Weight.f] using this
theorem refweight_loop (l : List Bool) (hl : l.length ≤ 140737488350000) : ∀ (d i k : Nat) (x : Int), i + d = l.length → d < k → 0 ≤ x → x ≤ i → barscanref01_Weight.l0 k l x i = some (x + weight (l.drop i)) := by
  intro d
  induction d with
  | zero =>
    intro i k x hi hk hx hx2
    obtain ⟨k, rfl⟩ : ∃ m, k = m + 1 := ⟨k - 1, by omega⟩
    simp only [barscanref01_Weight.l0]
    rw [if_neg (by omega), List.drop_of_length_le (by omega)]
    simp [weight]
  | succ d ih =>
    intro i k x hi hk hx hx2
    obtain ⟨k, rfl⟩ : ∃ m, k = m + 1 := ⟨k - 1, by omega⟩
    have hlt : i < l.length := by omega
    simp only [barscanref01_Weight.l0]
    rw [if_pos (by omega), if_pos (by omega), rdOf_at hlt, w64 (n := (i : Int) + 1) (by omega), show (i : Int) + 1 = ((i + 1 : Nat) : Int) by omega, List.drop_eq_getElem_cons hlt, weight_cons]
    cases hx : l[i] with
    | true =>
      rw [if_pos rfl, if_pos rfl, w64 (by omega), ih (i + 1) k _ (by omega) (by omega) (by omega) (by omega), Int.add_assoc]
    | false =>
      rw [if_neg (by simp), if_neg (by simp), ih (i + 1) k _ (by omega) (by omega) (by omega) (by omega), Int.zero_add]
theorem refWeight_is (l : List Bool) (k : Nat) (hl : l.length ≤ 140737488350000) (hk : l.length < k) : barscanref01_Weight.f k l = some (weight l) := by
  have := refweight_loop l hl l.length 0 k 0 (by omega) hk (by omega) (by omega)
  simpa [barscanref01_Weight.f] using this

/-! Distance -/
def dist : List Bool → List Bool → Int
  | x :: a, y :: b => (if x != y then 1 else 0) + dist a b
  | _, _ => 0
def distR (a b : List Bool) : Int × Int := if a.length = b.length then (dist a b, 0) else (0, 7)
theorem dist_loop (a b : List Bool) (hab : a.length = b.length) (hl : a.length ≤ 140737488350000) : ∀ (d i k : Nat) (x : Int), i + d = a.length → d < k → 0 ≤ x → x ≤ i → bits_Distance.l0 k a b x (a.length : Int) i = some (x + dist (a.drop i) (b.drop i), 0) := by
  intro d
  induction d with
  | zero =>
    intro i k x hi hk hx hx2
    obtain ⟨k, rfl⟩ : ∃ m, k = m + 1 := ⟨k - 1, by omega⟩
    simp only [bits_Distance.l0]
    rw [if_neg (by omega), List.drop_of_length_le (by omega), List.drop_of_length_le (by omega)]
    simp [dist]
  | succ d ih =>
    intro i k x hi hk hx hx2
    obtain ⟨k, rfl⟩ : ∃ m, k = m + 1 := ⟨k - 1, by omega⟩
    have h1 : i < a.length := by omega
    have h2 : i < b.length := by omega
    simp only [bits_Distance.l0]
    rw [if_pos (by omega), if_pos (by omega), if_pos (by omega), if_pos (by omega), rdOf_at h1, rdOf_at h2, w64 (n := (i : Int) + 1) (by omega), show (i : Int) + 1 = ((i + 1 : Nat) : Int) by omega, List.drop_eq_getElem_cons h1, List.drop_eq_getElem_cons h2]
    simp only [dist]
    by_cases hx : (a[i] != b[i]) = true
    · rw [if_pos hx, if_pos hx, w64 (by omega), ih (i + 1) k _ (by omega) (by omega) (by omega) (by omega), Int.add_assoc]
    · rw [if_neg hx, if_neg hx, ih (i + 1) k _ (by omega) (by omega) (by omega) (by omega), Int.zero_add]
theorem Distance_is (a b : List Bool) (k : Nat) (hl : a.length ≤ 140737488350000) (hk : a.length < k) : bits_Distance.f k a b = some (distR a b) := by
  unfold bits_Distance.f distR
  by_cases h : a.length = b.length
  · rw [if_pos (by omega), if_pos h]
    have := dist_loop a b h hl a.length 0 k 0 (by omega) hk (by omega) (by omega)
    simpa using this
  · rw [if_neg (by omega), if_neg h]
theorem refdist_loop (a b : List Bool) (hab : a.length = b.length) (hl : a.length ≤ 140737488350000) : ∀ (d i k : Nat) (x : Int), i + d = a.length → d < k → 0 ≤ x → x ≤ i → barscanref01_Distance.l0 k a b x i = some (x + dist (a.drop i) (b.drop i), 0) := by
  intro d
  induction d with
  | zero =>
    intro i k x hi hk hx hx2
    obtain ⟨k, rfl⟩ : ∃ m, k = m + 1 := ⟨k - 1, by omega⟩
    simp only [barscanref01_Distance.l0]
    rw [if_neg (by omega), List.drop_of_length_le (by omega), List.drop_of_length_le (by omega)]
    simp [dist]
  | succ d ih =>
    intro i k x hi hk hx hx2
    obtain ⟨k, rfl⟩ : ∃ m, k = m + 1 := ⟨k - 1, by omega⟩
    have h1 : i < a.length := by omega
    have h2 : i < b.length := by omega
    simp only [barscanref01_Distance.l0]
    rw [if_pos (by omega), if_pos (by omega), if_pos (by omega), rdOf_at h1, rdOf_at h2, w64 (n := (i : Int) + 1) (by omega), show (i : Int) + 1 = ((i + 1 : Nat) : Int) by omega, List.drop_eq_getElem_cons h1, List.drop_eq_getElem_cons h2]
    simp only [dist]
    by_cases hx : (a[i] != b[i]) = true
    · rw [if_pos hx, if_pos hx, w64 (by omega), ih (i + 1) k _ (by omega) (by omega) (by omega) (by omega), Int.add_assoc]
    · rw [if_neg hx, if_neg hx, ih (i + 1) k _ (by omega) (by omega) (by omega) (by omega), Int.zero_add]
theorem refDistance_is (a b : List Bool) (k : Nat) (hl : a.length ≤ 140737488350000) (hk : a.length < k) : barscanref01_Distance.f k a b = some (distR a b) := by
  unfold barscanref01_Distance.f distR
  by_cases h : a.length = b.length
  · rw [if_pos (by omega), if_pos h]
    have := refdist_loop a b h hl a.length 0 k 0 (by omega) hk (by omega) (by omega)
    simpa using this
  · rw [if_neg (by omega), if_neg h]

/-! Format -/
def chr (b : Bool) : Int := if b then 49 else 48
theorem format_loop (l : List Bool) (hl : l.length ≤ 140737488350000) : ∀ (d i k : Nat) (out : List Int), i + d = l.length → d < k → out.length = l.length → out.take i = (l.map chr).take i → bits_Format.l0 k out l (l.length : Int) i = some (strOfNums (l.map chr)) := by
  intro d
  induction d with
  | zero =>
    intro i k out hi hk ho ht
    obtain ⟨k, rfl⟩ : ∃ m, k = m + 1 := ⟨k - 1, by omega⟩
    simp only [bits_Format.l0]
    rw [if_neg (by omega)]
    rw [List.take_of_length_le (by omega), List.take_of_length_le (by simp; omega)] at ht
    rw [ht]
  | succ d ih =>
    intro i k out hi hk ho ht
    obtain ⟨k, rfl⟩ : ∃ m, k = m + 1 := ⟨k - 1, by omega⟩
    have hlt : i < l.length := by omega
    have hlm : i < (l.map chr).length := by rw [List.length_map]; exact hlt
    have hs := take_set out (l.map chr) i (by omega) hlm ht
    rw [List.getElem_map] at hs
    simp only [bits_Format.l0, Option.bind_some]
    rw [if_pos (by omega), if_pos (by omega), if_pos (by omega), if_pos (by omega), rdOf_at hlt, w64 (by omega), show (i : Int) + 1 = ((i + 1 : Nat) : Int) by omega, Int.toNat_natCast, List.set_set]
    cases hx : l[i] with
    | true =>
      rw [hx] at hs
      rw [if_pos rfl]
      exact ih (i + 1) k _ (by omega) (by omega) (by rw [List.length_set]; exact ho) hs
    | false =>
      rw [hx] at hs
      rw [if_neg (by simp)]
      exact ih (i + 1) k _ (by omega) (by omega) (by rw [List.length_set]; exact ho) hs
theorem Format_is (l : List Bool) (k : Nat) (hl : l.length ≤ 140737488350000) (hk : l.length < k) : bits_Format.f k l = some (strOfNums (l.map chr)) := by
  unfold bits_Format.f
  rw [if_pos (by omega), Int.toNat_natCast, if_pos (by omega)]
  exact format_loop l hl l.length 0 k _ (by omega) hk (by simp) (by simp)
theorem refformat_loop (l : List Bool) (hl : l.length ≤ 140737488350000) : ∀ (d i k : Nat), i + d = l.length → d < k → barscanref01_Format.l0 k l ((l.map chr).take i) i = some (strOfNums (l.map chr)) := by
  intro d
  induction d with
  | zero =>
    intro i k hi hk
    obtain ⟨k, rfl⟩ : ∃ m, k = m + 1 := ⟨k - 1, by omega⟩
    simp only [barscanref01_Format.l0]
    rw [if_neg (by omega), List.take_of_length_le (by simp; omega)]
  | succ d ih =>
    intro i k hi hk
    obtain ⟨k, rfl⟩ : ∃ m, k = m + 1 := ⟨k - 1, by omega⟩
    have hlt : i < l.length := by omega
    have hlm : i < (l.map chr).length := by rw [List.length_map]; exact hlt
    have hs := List.take_succ_eq_append_getElem hlm
    have hlen : ((l.map chr).take i).length < 140737488355328 := by rw [List.length_take]; omega
    rw [List.getElem_map] at hs
    simp only [barscanref01_Format.l0]
    rw [if_pos (by omega), if_pos (by omega), rdOf_at hlt, w64 (by omega), show (i : Int) + 1 = ((i + 1 : Nat) : Int) by omega]
    have ih' := ih (i + 1) k (by omega) (by omega)
    rw [hs] at ih'
    cases hx : l[i] with
    | true =>
      rw [hx] at ih'
      rw [if_pos rfl, if_pos hlen]
      exact ih'
    | false =>
      rw [hx] at ih'
      rw [if_neg (by simp), if_pos hlen]
      exact ih'
theorem refFormat_is (l : List Bool) (k : Nat) (hl : l.length ≤ 140737488350000) (hk : l.length < k) : barscanref01_Format.f k l = some (strOfNums (l.map chr)) := by
  have := refformat_loop l hl l.length 0 k (by omega) hk
  simpa [barscanref01_Format.f] using this

/-! Parse -/
def nbytes (s : ByteArray) : List Int := (List.range s.size).map (fun i : Nat => bt s (i : Int))
theorem nbytes_length (s : ByteArray) : (nbytes s).length = s.size := by simp [nbytes]
theorem nbytes_at {s : ByteArray} {i : Nat} (h : i < (nbytes s).length) : bt s (i : Int) = (nbytes s)[i] := by simp [nbytes]
def okChar (x : Int) : Bool := x == 48 || x == 49
def parseR (s : ByteArray) : List Bool × Int := if s.size > 1048576 then ([], 4) else if (nbytes s).all okChar then ((nbytes s).map (fun x => x == 49), 0) else ([], 6)
theorem parse_loop (s : ByteArray) (hl : s.size ≤ 1048576) : ∀ (d i k : Nat) (out : List Bool), i + d = s.size → d < k → out.length = s.size → out.take i = ((nbytes s).map (fun x => x == 49)).take i →
    bits_Parse.l0 k s out (s.size : Int) i = some (if ((nbytes s).drop i).all okChar then ((nbytes s).map (fun x => x == 49), 0) else ([], 6)) := by
  intro d
  induction d with
  | zero =>
    intro i k out hi hk ho ht
    obtain ⟨k, rfl⟩ : ∃ m, k = m + 1 := ⟨k - 1, by omega⟩
    have hn := nbytes_length s
    simp only [bits_Parse.l0]
    rw [if_neg (by omega), List.drop_of_length_le (by omega)]
    rw [List.take_of_length_le (by omega), List.take_of_length_le (by simp; omega)] at ht
    rw [ht]
    simp
  | succ d ih =>
    intro i k out hi hk ho ht
    obtain ⟨k, rfl⟩ : ∃ m, k = m + 1 := ⟨k - 1, by omega⟩
    have hn := nbytes_length s
    have hlt : i < (nbytes s).length := by omega
    have hlm : i < ((nbytes s).map (fun x => x == 49)).length := by rw [List.length_map]; exact hlt
    have hs := take_set out _ i (by omega) hlm ht
    rw [List.getElem_map] at hs
    simp only [bits_Parse.l0]
    rw [if_pos (by omega), if_pos (by omega), if_pos (by omega), nbytes_at hlt, w64 (by omega), show (i : Int) + 1 = ((i + 1 : Nat) : Int) by omega, Int.toNat_natCast, List.drop_eq_getElem_cons hlt, List.all_cons]
    by_cases h48 : (nbytes s)[i] = 48
    · rw [if_pos h48, if_pos (by omega), ih (i + 1) k _ (by omega) (by omega) (by rw [List.length_set]; exact ho) hs]
      simp [okChar, h48]
    rw [if_neg h48]
    by_cases h49 : (nbytes s)[i] = 49
    · have e : ((nbytes s)[i] == 49) = true := by rw [h49]; rfl
      rw [e] at hs
      rw [if_pos h49, if_pos (by omega), ih (i + 1) k _ (by omega) (by omega) (by rw [List.length_set]; exact ho) hs]
      simp [okChar, h49]
    · rw [if_neg h49]
      simp [okChar, h48, h49]
theorem Parse_is (s : ByteArray) (k : Nat) (hk : s.size < k) : bits_Parse.f k s = some (parseR s) := by
  unfold bits_Parse.f parseR
  by_cases h : s.size > 1048576
  · rw [if_pos (by omega), if_pos h]
  · rw [if_neg (by omega), if_neg h, if_pos (by omega), Int.toNat_natCast, if_pos (by omega), Option.bind_some, List.length_replicate]
    have := parse_loop s (by omega) s.size 0 k (List.replicate s.size false) (by omega) hk (by simp) (by simp)
    simpa using this
theorem refparse_loop (s : ByteArray) (hl : s.size ≤ 1048576) : ∀ (d i k : Nat), i + d = s.size → d < k →
    barscanref01_Parse.l0 k s (((nbytes s).map (fun x => x == 49)).take i) i = some (if ((nbytes s).drop i).all okChar then ((nbytes s).map (fun x => x == 49), 0) else ([], 6)) := by
  intro d
  induction d with
  | zero =>
    intro i k hi hk
    obtain ⟨k, rfl⟩ : ∃ m, k = m + 1 := ⟨k - 1, by omega⟩
    have hn := nbytes_length s
    simp only [barscanref01_Parse.l0]
    rw [if_neg (by omega), List.drop_of_length_le (by omega), List.take_of_length_le (by simp; omega)]
    simp
  | succ d ih =>
    intro i k hi hk
    obtain ⟨k, rfl⟩ : ∃ m, k = m + 1 := ⟨k - 1, by omega⟩
    have hn := nbytes_length s
    have hlt : i < (nbytes s).length := by omega
    have hlm : i < ((nbytes s).map (fun x => x == 49)).length := by rw [List.length_map]; exact hlt
    have hs := List.take_succ_eq_append_getElem hlm
    have hlen : (((nbytes s).map (fun x => x == 49)).take i).length < 140737488355328 := by rw [List.length_take]; omega
    rw [List.getElem_map] at hs
    have ih' := ih (i + 1) k (by omega) (by omega)
    rw [hs] at ih'
    simp only [barscanref01_Parse.l0]
    rw [if_pos (by omega), if_pos (by omega), nbytes_at hlt, w64 (by omega), show (i : Int) + 1 = ((i + 1 : Nat) : Int) by omega, if_pos hlen, if_pos hlen, List.drop_eq_getElem_cons hlt, List.all_cons]
    by_cases h48 : (nbytes s)[i] = 48
    · rw [if_pos h48, ih']
      simp [okChar, h48]
    rw [if_neg h48]
    by_cases h49 : (nbytes s)[i] = 49
    · have e : ((nbytes s)[i] == 49) = true := by rw [h49]; rfl
      rw [e] at ih'
      rw [if_pos h49, ih']
      simp [okChar, h49]
    · rw [if_neg h49]
      simp [okChar, h48, h49]
theorem refParse_is (s : ByteArray) (k : Nat) (hk : s.size < k) : barscanref01_Parse.f k s = some (parseR s) := by
  unfold barscanref01_Parse.f parseR
  by_cases h : s.size > 1048576
  · rw [if_pos (by omega), if_pos h]
  · rw [if_neg (by omega), if_neg h]
    have := refparse_loop s (by omega) s.size 0 k (by omega) hk
    simpa using this
end Go.Proofs.Ytochccmhcpeioaa.X
