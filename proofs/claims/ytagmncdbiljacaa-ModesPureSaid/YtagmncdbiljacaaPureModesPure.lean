/- The pure law of ModesPure. No condition. -/
import Derived.Test.YtagmncdbiljacaaXx38
import Derived.Test.YtagmncdbiljacaaYMSame
namespace Go.Proofs.Ytagmncdbiljacaa.Pure
open Go.RowKit Go.Proofs.Ytagmncdbiljacaa.X Go.Proofs.YtagmncdbiljacaaW.PrintWords Go.Proofs.YtagmncdbiljacaaW.PrintLast Go.Proofs.YtagmncdbiljacaaW.PrintMore
set_option linter.unusedVariables false
set_option linter.unusedSimpArgs false

/-- The one plan that is better than all others is the best. -/
theorem best_is {cls : Int} (hc : 0 ≤ cls ∧ cls ≤ 2) (s : List Int) (h0 : 0 < s.length) (hs : s.length ≤ 4096) (m : Int) (k : Nat) (hm : m = 1 ∨ m = 2 ∨ m = 4) (k1 : 1 ≤ k) (k2 : k ≤ kmax cls m s)
    (h : ∀ m' k', (m' = 1 ∨ m' = 2 ∨ m' = 4) → 1 ≤ k' → k' ≤ kmax cls m' s → ¬ (m' = m ∧ k' = k) → bet ⟨4 + cbOf m cls + dbOf m k + (best cls (s.drop k)).f0, 1 + (best cls (s.drop k)).f1, k, m⟩ ⟨4 + cbOf m' cls + dbOf m' k' + (best cls (s.drop k')).f0, 1 + (best cls (s.drop k')).f1, k', m'⟩ = true) :
    best cls s = ⟨4 + cbOf m cls + dbOf m k + (best cls (s.drop k)).f0, 1 + (best cls (s.drop k)).f1, k, m⟩ := by
  obtain ⟨⟨m', k', hm', k1', k2', _, hb⟩, hall⟩ := best_props hc s h0 hs
  by_cases e : m' = m ∧ k' = k
  · obtain ⟨rfl, rfl⟩ := e
    exact hb
  · have a := hall m k hm k1 k2
    have b := h m' k' hm' k1' k2' e
    rw [← hb] at b
    rw [a] at b
    exact absurd b (by simp)
theorem fitRun_rep (m x : Int) (n : Nat) (h : fitOf m x = true) : fitRun m (List.replicate n x) = n := by
  have := fitRun_all m (List.replicate n x) [] (fun y hy => by rw [List.eq_of_mem_replicate hy]; exact h)
  rw [List.append_nil, List.length_replicate] at this
  have h2 := fitRun_le m (List.replicate n x)
  rw [List.length_replicate] at h2
  omega
theorem fitRun_no (m x : Int) (n : Nat) (h : fitOf m x = false) : fitRun m (List.replicate n x) = 0 := by
  cases n with
  | zero => rfl
  | succ n => unfold fitRun; rw [List.replicate_succ, List.takeWhile_cons, if_neg (by simp [h])]; rfl
theorem best_nil (cls : Int) : (best cls []).f0 = 0 ∧ (best cls []).f1 = 0 := ⟨rfl, rfl⟩
theorem digits_best {c : Int} (hc : 0 ≤ c ∧ c ≤ 2) : ∀ n : Nat, n ≤ 255 → 1 ≤ n → best c (List.replicate n 52) = ⟨14 + 2 * c + dbOf 1 n, 1, n, 1⟩ := by
  have f1 : fitOf 1 52 = true := by decide +kernel
  have cb1 : cbOf 1 c = 10 + 2 * c := by unfold cbOf; rw [if_pos hc]; rfl
  have cb2 : cbOf 2 c = 9 + 2 * c := by unfold cbOf; rw [if_pos hc]; rfl
  have cb4 : 8 ≤ cbOf 4 c ∧ (c = 0 ∨ cbOf 4 c = 16) := by unfold cbOf; rw [if_pos hc]; simp; split <;> omega
  have db1 : ∀ x : Int, dbOf 1 x = x / 3 * 10 + (if x % 3 = 0 then 0 else if x % 3 = 1 then 4 else 7) := fun x => by unfold dbOf; simp
  have db2 : ∀ x : Int, dbOf 2 x = x / 2 * 11 + (if x % 2 = 0 then 0 else 6) := fun x => by unfold dbOf; simp
  intro n
  induction n using Nat.strongRecOn with
  | _ n ih =>
    intro hn n1
    have hd : ∀ k : Nat, (List.replicate n (52 : Int)).drop k = List.replicate (n - k) 52 := fun k => by simp
    have hrest : ∀ k : Nat, 1 ≤ k → k ≤ n → ((best c ((List.replicate n (52 : Int)).drop k)).f0 = if k = n then 0 else 14 + 2 * c + dbOf 1 ((n - k : Nat) : Int)) := by
      intro k h1 h2
      rw [hd]
      split
      · rename_i e; rw [show n - k = 0 by omega]; rfl
      · rw [ih (n - k) (by omega) (by omega) (by omega)]
    have hk : n ≤ kmax c 1 (List.replicate n 52) := by
      have hp := Nat.pow_le_pow_right (n := 2) (by omega) (show 8 ≤ (cbOf 1 c).toNat by omega)
      unfold kmax
      rw [fitRun_rep 1 52 n f1]
      have : 2 ^ 8 = 256 := rfl
      omega
    have hb := best_is hc (List.replicate n 52) (by simp; omega) (by simp; omega) 1 n (.inl rfl) n1 hk (fun m' k' hm' k1 k2 hne => by
      have hk' := kmax_le c m' (List.replicate n 52)
      rw [List.length_replicate] at hk'
      have hr := hrest k' k1 (by omega)
      have hrn := hrest n n1 (Nat.le_refl _)
      rw [if_pos rfl] at hrn
      rw [bet_iff]
      refine .inl ?_
      show 4 + cbOf 1 c + dbOf 1 n + _ < 4 + cbOf m' c + dbOf m' k' + _
      have k3 : k' ≤ n := Nat.le_trans k2 hk'
      rw [hr, hrn, cb1]
      clear hr hrn ih hrest hk f1 k2 hk'
      have e1 : ((n - k' : Nat) : Int) = n - k' := by omega
      by_cases hkn : k' = n
      · rw [if_pos hkn]
        subst hkn
        clear e1
        rcases hm' with rfl | rfl | rfl
        · exact absurd ⟨rfl, rfl⟩ hne
        · rw [cb2, db1, db2]
          clear db1 db2 cb1 cb2 cb4 hne
          repeat' split
          all_goals omega
        · rw [db1, dbOf_byte]
          generalize cbOf 4 c = z at cb4 ⊢
          clear db1 db2 cb1 cb2 hne
          repeat' split
          all_goals omega
      · rw [if_neg hkn, e1]
        clear e1 hne
        rcases hm' with rfl | rfl | rfl
        · rw [cb1, db1, db1, db1]
          clear db1 db2 cb1 cb2 cb4
          repeat' split
          all_goals omega
        · rw [cb2, db1, db2, db1]
          clear db1 db2 cb1 cb2 cb4
          repeat' split
          all_goals omega
        · rw [db1, dbOf_byte, db1]
          generalize cbOf 4 c = z at cb4 ⊢
          clear db1 db2 cb1 cb2
          repeat' split
          all_goals omega)
    have e0 : (List.replicate n (52 : Int)).drop n = [] := by rw [hd]; simp
    rw [hb, e0, (best_nil c).1, (best_nil c).2, cb1]
    rw [show 4 + (10 + 2 * c) + dbOf 1 n + 0 = 14 + 2 * c + dbOf 1 n by omega, Int.add_zero]
theorem letters_best {c : Int} (hc : 0 ≤ c ∧ c ≤ 2) : ∀ n : Nat, n ≤ 255 → 1 ≤ n → best c (List.replicate n 120) = ⟨4 + cbOf 4 c + n * 8, 1, n, 4⟩ := by
  have f1 : fitOf 1 120 = false := by decide +kernel
  have f2 : fitOf 2 120 = false := by decide +kernel
  have f4 : fitOf 4 120 = true := by decide +kernel
  have cb4 := cb_mode hc (.inr (.inr rfl) : (4 : Int) = 1 ∨ (4 : Int) = 2 ∨ (4 : Int) = 4)
  intro n
  induction n using Nat.strongRecOn with
  | _ n ih =>
    intro hn n1
    have hd : ∀ k : Nat, (List.replicate n (120 : Int)).drop k = List.replicate (n - k) 120 := fun k => by simp
    have hrest : ∀ k : Nat, 1 ≤ k → k ≤ n → ((best c ((List.replicate n (120 : Int)).drop k)).f0 = if k = n then 0 else 4 + cbOf 4 c + ((n - k : Nat) : Int) * 8) := by
      intro k h1 h2
      rw [hd]
      split
      · rename_i e; rw [show n - k = 0 by omega]; rfl
      · rw [ih (n - k) (by omega) (by omega) (by omega)]
    have hk : n ≤ kmax c 4 (List.replicate n 120) := by
      have hp := Nat.pow_le_pow_right (n := 2) (by omega) (show 8 ≤ (cbOf 4 c).toNat by omega)
      unfold kmax
      rw [fitRun_rep 4 120 n f4]
      have : 2 ^ 8 = 256 := rfl
      omega
    have hb := best_is hc (List.replicate n 120) (by simp; omega) (by simp; omega) 4 n (.inr (.inr rfl)) n1 hk (fun m' k' hm' k1 k2 hne => by
      have hk' := kmax_le c m' (List.replicate n 120)
      rw [List.length_replicate] at hk'
      have hr := hrest k' k1 (by omega)
      have hrn := hrest n n1 (Nat.le_refl _)
      rw [if_pos rfl] at hrn
      rcases hm' with rfl | rfl | rfl
      · unfold kmax at k2; rw [fitRun_no 1 120 n f1] at k2; omega
      · unfold kmax at k2; rw [fitRun_no 2 120 n f2] at k2; omega
      · have hkn : k' ≠ n := fun e => hne ⟨rfl, e⟩
        rw [if_neg hkn] at hr
        rw [bet_iff]
        refine .inl ?_
        show 4 + cbOf 4 c + dbOf 4 n + _ < 4 + cbOf 4 c + dbOf 4 k' + _
        rw [hr, hrn, dbOf_byte, dbOf_byte]
        omega)
    have e0 : (List.replicate n (120 : Int)).drop n = [] := by rw [hd]; simp
    rw [hb, e0, (best_nil c).1, (best_nil c).2, dbOf_byte, Int.add_zero, Int.add_zero]
theorem repeated_ev (x : Int) (n : Nat) (hn : n ≤ 100000) : Ev (fun k => barscanlaw16_repeated.f k x n) (List.replicate n x) := by
  have key : ∀ (d i : Nat), i + d = n → Ev (fun k => barscanlaw16_repeated.l0 k x n (List.replicate i x) (i : Int)) (List.replicate n x) := by
    intro d
    induction d with
    | zero =>
      intro i hi
      refine Ev.step (fun k => by rw [barscanlaw16_repeated.l0]) ?_
      obtain rfl : i = n := by omega
      exact ev_else (by omega) (Ev.now _)
    | succ d ih =>
      intro i hi
      have ih := ih (i + 1) (by omega)
      rw [List.replicate_succ'] at ih
      refine Ev.step (fun k => by rw [barscanlaw16_repeated.l0]) ?_
      refine ev_if (by omega) (ev_if (by simp; omega) ?_)
      rw [show wrap64 ((i : Int) + 1) = ((i + 1 : Nat) : Int) from w_is (by omega) (by omega) (by omega)]
      exact ih
  unfold barscanlaw16_repeated.f
  exact key n 0 (by omega)
theorem str_rep (x : Int) (n : Nat) (h0 : 0 ≤ x) (h1 : x < 256) : bytesOf (strOfNums (List.replicate n x)) = List.replicate n x := by
  have hx : ((x.toNat.toUInt8.toNat : Nat) : Int) = x := by
    rw [Nat.toUInt8_eq, UInt8.toNat_ofNat']
    omega
  simp [bytesOf, strOfNums, hx]
  right
  omega
theorem j1_ev {c : Int} (hc : 0 ≤ c ∧ c ≤ 2) (n : Nat) (hn : n ≤ 255) (n1 : 1 ≤ n) (x m want : Int) (h0 : 0 ≤ x) (h1 : x < 256) (hb : best c (List.replicate n x) = ⟨want, 1, n, m⟩) : Ev (fun k => barscanlaw16_ModesPure.j1 k c n x m want) true := by
  refine Ev.step (fun k => by rw [barscanlaw16_ModesPure.j1]) ?_
  refine Ev.bind (repeated_ev x n (by omega)) (Ev.bind (best_ev _ c) ?_)
  have hr : bestR (List.replicate n x) c = ([⟨m, List.replicate n x⟩], want, 0) := by
    unfold bestR
    rw [if_neg (by omega), if_neg (by rw [List.length_replicate]; omega), hb, List.length_replicate]
    obtain ⟨n, rfl⟩ : ∃ j, n = j + 1 := ⟨n - 1, by omega⟩
    have e : cutD c (n + 1) (List.replicate (n + 1) x) = [⟨m, List.replicate (n + 1) x⟩] := by
      have hl : ¬ (List.replicate (n + 1) x).length = 0 := by simp
      simp only [cutD, if_neg hl, hb]
      have e1 : (((n + 1 : Nat) : Int)).toNat = n + 1 := by omega
      rw [e1, List.take_of_length_le (by simp), List.drop_of_length_le (by simp)]
      cases n <;> simp [cutD]
    rw [e]
  rw [hr]
  refine ev_if rfl (ev_if rfl ?_)
  refine ev_is (a := [⟨m, List.replicate n x⟩]) ?_ ?_
  · unfold barscanlaw16_one.f
    rw [str_rep x n h0 h1, if_pos (by unfold strOfNums ByteArray.size; simp; omega)]
  · refine Ev.bind (segSame_ev _ (by simp)) ?_
    exact ev_if rfl (ev_some (Ev.now _))
theorem ModesPure : barscanlaw16_ModesPure.Pure := by
  intro a0 a1 a2 h0 h1
  obtain ⟨c, hc, c0, c2⟩ := class3 h1
  obtain ⟨n, hn⟩ : ∃ n : Nat, wrap64 a0 = (n : Int) ∧ n ≤ 255 := by
    obtain ⟨h2, h3⟩ := wf8 h0
    exact ⟨a0.toNat, w_is (by omega) (by omega) (by omega), by omega⟩
  refine Ev.rounds ?_
  unfold barscanlaw16_ModesPure.f
  rw [hc, hn.1]
  obtain ⟨_, hn⟩ := hn
  clear hc h1 h0
  have bad : ∀ b, b = true → Ev (fun k => barscanlaw16_ModesPure.j0 k a2 c n b) true := by
    intro b hb
    refine Ev.step (fun k => by rw [barscanlaw16_ModesPure.j0]) ?_
    exact ev_if hb (ev_some (Ev.now _))
  have good : 1 ≤ n → ∀ b, b = false → Ev (fun k => barscanlaw16_ModesPure.j0 k a2 c n b) true := by
    intro n1 b hb
    refine Ev.step (fun k => by rw [barscanlaw16_ModesPure.j0]) ?_
    refine ev_else (by simp [hb]) ?_
    refine ev_cond (fun e => ?_) (fun e => ?_)
    · have hw : ∀ z : Int, 0 ≤ z → z ≤ 10000 → wrap64 z = z := fun z a b => w_is rfl (by omega) (by omega)
      have h1 := hw (8 * (n : Int)) (by omega) (by omega)
      have h2 := hw (4 + 8 * (n : Int)) (by omega) (by omega)
      have h3 := hw (4 + 8 * (n : Int) + 8) (by omega) (by omega)
      have h4 := hw (4 + 8 * (n : Int) + 8 + 8) (by omega) (by omega)
      rw [h1, h2, h3, h4]
      clear h1 h2 h3 h4 hw
      have hb := letters_best ⟨c0, c2⟩ n hn n1
      have hcb : cbOf 4 c = if c = 0 then 8 else 16 := by unfold cbOf; rw [if_pos ⟨c0, c2⟩]; rfl
      refine ev_cond (fun e => ?_) (fun e => ?_)
      · rw [hcb, if_neg (by omega)] at hb
        exact j1_ev ⟨c0, c2⟩ n hn n1 120 4 _ (by omega) (by omega) (by rw [hb]; congr 1; omega)
      · rw [hcb, if_pos (by omega)] at hb
        exact j1_ev ⟨c0, c2⟩ n hn n1 120 4 _ (by omega) (by omega) (by rw [hb]; congr 1; omega)
    · have hb := digits_best ⟨c0, c2⟩ n hn n1
      refine j1_ev ⟨c0, c2⟩ n hn n1 52 1 _ (by omega) (by omega) ?_
      rw [hb]
      congr 1
      rw [Int.tdiv_eq_ediv_of_nonneg (by omega), Int.tmod_eq_emod_of_nonneg (by omega)]
      have hw : ∀ z : Int, 0 ≤ z → z ≤ 10000 → wrap64 z = z := fun z a b => w_is rfl (by omega) (by omega)
      have y0 : 0 ≤ (n : Int) % 3 ∧ (n : Int) % 3 ≤ 2 := by omega
      have y1 : 0 ≤ (n : Int) / 3 ∧ (n : Int) / 3 ≤ 255 := by omega
      rw [hw (2 * c) (by omega) (by omega), hw (14 + 2 * c) (by omega) (by omega), hw ((n : Int) / 3) (by omega) (by omega), hw ((n : Int) / 3 * 10) (by omega) (by omega), hw (14 + 2 * c + (n : Int) / 3 * 10) (by omega) (by omega), hw ((n : Int) % 3 * 3) (by omega) (by omega), hw ((n : Int) % 3 + 1) (by omega) (by omega)]
      rw [Int.tdiv_eq_ediv_of_nonneg (by omega)]
      rw [hw (14 + 2 * c + (n : Int) / 3 * 10 + (n : Int) % 3 * 3) (by omega) (by omega), hw (((n : Int) % 3 + 1) / 2) (by omega) (by omega), hw _ (by omega) (by omega)]
      have db1 : dbOf 1 n = (n : Int) / 3 * 10 + (if (n : Int) % 3 = 0 then 0 else if (n : Int) % 3 = 1 then 4 else 7) := by unfold dbOf; simp
      rw [db1]
      clear hb hw db1
      repeat' split
      all_goals omega
  refine ev_cond (fun _ => bad _ rfl) (fun e => ?_)
  have n1 : 1 ≤ n := by omega
  refine ev_cond (fun _ => ?_) (fun _ => good n1 _ rfl)
  by_cases e2 : (n : Int) < 20
  · exact bad _ (by simpa using e2)
  · exact good n1 _ (by simpa using e2)
end Go.Proofs.Ytagmncdbiljacaa.Pure
