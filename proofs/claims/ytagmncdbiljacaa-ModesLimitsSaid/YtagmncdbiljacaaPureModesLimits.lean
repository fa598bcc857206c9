/- The pure law of ModesLimits. No condition. -/
import Derived.Test.YtagmncdbiljacaaXx26
import Derived.Test.YtagmncdbiljacaaYMRefBits
import Derived.Test.YtagmncdbiljacaaYMSame
namespace Go.Proofs.Ytagmncdbiljacaa.Pure
open Go.RowKit Go.Proofs.Ytagmncdbiljacaa.X Go.Proofs.YtagmncdbiljacaaW.PrintWords Go.Proofs.YtagmncdbiljacaaW.PrintLast Go.Proofs.YtagmncdbiljacaaW.PrintMore
set_option linter.unusedVariables false
set_option linter.unusedSimpArgs false

theorem repeated_ev (x : Int) (n : Nat) (hn : n ≤ 100000) : Ev (fun k => barscanlaw16_repeated.f k x n) (List.replicate n x) := by
  have key : ∀ (d i : Nat), i + d = n → Ev (fun k => barscanlaw16_repeated.l0 k x n (List.replicate i x) (i : Int)) (List.replicate n x) := by
    intro d
    induction d with
    | zero =>
      intro i hi
      refine Ev.step (fun k => by rw [barscanlaw16_repeated.l0]) ?_
      obtain rfl : i = n := by omega
      exact ev_else (by omega) (Ev.now _)
    | succ d ih =>
      intro i hi
      have ih := ih (i + 1) (by omega)
      rw [List.replicate_succ'] at ih
      refine Ev.step (fun k => by rw [barscanlaw16_repeated.l0]) ?_
      refine ev_if (by omega) (ev_if (by simp; omega) ?_)
      rw [show wrap64 ((i : Int) + 1) = ((i + 1 : Nat) : Int) from w_is (by omega) (by omega) (by omega)]
      exact ih
  unfold barscanlaw16_repeated.f
  exact key n 0 (by omega)
theorem both_ev (l : List S33) (c : Int) (hl : l.length ≤ 1000000) (hb : ∀ s ∈ l, ∀ x ∈ s.f1, 0 ≤ x ∧ x < 256) :
    Ev (fun k => ((modes_Bits.f l c).bind fun bt319 => ((barscanref16_Bits.f k l c).bind fun bt321 => (if bt319.1 = bt321.1 then (if bt319.2 = bt321.2 then ((barscanlaw16_exampleHolds.f).bind fun t323 => (some t323)) else (some false)) else (some false))))) true :=
  ev_is (a := mbits l c) rfl (Ev.bind (refBits_ev l c hl hb) (ev_if rfl (ev_if rfl (ev_some (Ev.now _)))))
theorem shl_three (n : Nat) (h : n ≤ 16) : 0 ≤ IntKind.u64.wrap (n : Int) ∧ wrap64 ((shl .i64 1 (IntKind.u64.wrap (n : Int))) - 3) = 2 ^ n - 3 ∧ (2 : Int) ^ n ≤ 65536 := by
  have : ∀ n : Fin 17, 0 ≤ IntKind.u64.wrap ((n.val : Nat) : Int) ∧ wrap64 ((shl .i64 1 (IntKind.u64.wrap ((n.val : Nat) : Int))) - 3) = 2 ^ n.val - 3 ∧ (2 : Int) ^ n.val ≤ 65536 := by decide +kernel
  exact this ⟨n, by omega⟩
theorem class5 {a : Int} (h : (Lit.int .u8 a).wf = true) : ∃ c : Int, wrap64 (Int.tmod a 5) = c ∧ 0 ≤ c ∧ c ≤ 4 := by
  obtain ⟨h0, h1⟩ := wf8 h
  refine ⟨a % 5, ?_, by omega, by omega⟩
  rw [Int.tmod_eq_emod_of_nonneg h0]
  exact w_is rfl (by omega) (by omega)
theorem ModesLimits : barscanlaw16_ModesLimits.Pure := by
  intro a0 a1 a2 a3 h0 h1 h2
  obtain ⟨n, hn, n0, n2⟩ := class3 h0
  obtain ⟨c, hc, c0, c2⟩ := class3 h1
  obtain ⟨r, hr, r0, r4⟩ := class5 h2
  clear h0 h1 h2
  have many : ∀ (m : Int) (d i : Nat), i + d = 4094 + r.toNat → Ev (fun k => barscanlaw16_ModesLimits.l1 k a2 m c (List.replicate i (⟨m, []⟩ : S33)) (i : Int)) true := by
    intro m d
    have hw : wrap64 (4094 + r) = 4094 + r := w_is rfl (by omega) (by omega)
    induction d with
    | zero =>
      intro i hi
      refine Ev.step (fun k => by rw [barscanlaw16_ModesLimits.l1]) ?_
      rw [hr, hw]
      refine ev_else (by omega) (both_ev _ c (by rw [List.length_replicate]; omega) (fun s hs x hx => ?_))
      rw [List.eq_of_mem_replicate hs] at hx
      simp at hx
    | succ d ih =>
      intro i hi
      have ih := ih (i + 1) (by omega)
      rw [List.replicate_succ'] at ih
      refine Ev.step (fun k => by rw [barscanlaw16_ModesLimits.l1]) ?_
      rw [hr, hw]
      refine ev_if (by omega) (ev_if (by rw [List.length_replicate]; omega) ?_)
      rw [show wrap64 ((i : Int) + 1) = ((i + 1 : Nat) : Int) from w_is (by omega) (by omega) (by omega)]
      exact ih
  have fin : ∀ m : Int, m = 1 ∨ m = 2 ∨ m = 4 → Ev (fun k => barscanlaw16_ModesLimits.l0 k a0 a1 a2 a3 m n) true := by
    intro m hm
    refine Ev.step (fun k => by rw [barscanlaw16_ModesLimits.l0]) ?_
    rw [hn, hc, hr]
    refine ev_else (by omega) ?_
    refine ev_cond (fun _ => many m (4094 + r.toNat) 0 (by omega)) (fun _ => ?_)
    have hcb := cb_mode ⟨c0, c2⟩ hm
    obtain ⟨q, hq⟩ : ∃ q : Nat, cbOf m c = q := ⟨(cbOf m c).toNat, by omega⟩
    have hs := shl_three q (by omega)
    have hq8 := Nat.pow_le_pow_right (n := 2) (by omega) (show 8 ≤ q by omega)
    have hqp : ((2 ^ q : Nat) : Int) = (2 : Int) ^ q := by simp
    have e256 : (2 : Nat) ^ 8 = 256 := rfl
    have hcount := refCount_ev m c
    rw [if_neg (by omega), hq] at hcount
    refine Ev.bind hcount ?_
    refine ev_if hs.1 ?_
    have ew : wrap64 (wrap64 ((shl .i64 1 (IntKind.u64.wrap (q : Int))) - 3) + r) = (((2 ^ q - 3 + r).toNat : Nat) : Int) := by
      rw [hs.2.1]
      exact w_is (by omega) (by omega) (by omega)
    have ew' : wrap64 ((wrap64 ((shl .i64 1 (IntKind.u64.wrap ((q : Int), (0 : Int)).1)) - 3)) + r) = (((2 ^ q - 3 + r).toNat : Nat) : Int) := ew
    rw [ew']
    refine Ev.bind (repeated_ev 55 _ (by omega)) (ev_some ?_)
    refine both_ev [⟨m, List.replicate _ 55⟩] c (by simp) (fun s hs x hx => ?_)
    obtain rfl := List.mem_singleton.mp hs
    have hx : x ∈ List.replicate (2 ^ q - 3 + r : Int).toNat (55 : Int) := hx
    rw [List.eq_of_mem_replicate hx]
    omega
  have next : ∀ (m m2 i i2 : Int), i < n → wrap64 (m * 2) = m2 → wrap64 (i + 1) = i2 → Ev (fun k => barscanlaw16_ModesLimits.l0 k a0 a1 a2 a3 m2 i2) true → Ev (fun k => barscanlaw16_ModesLimits.l0 k a0 a1 a2 a3 m i) true := by
    intro m m2 i i2 hi e1 e2 h
    refine Ev.step (fun k => by rw [barscanlaw16_ModesLimits.l0]) ?_
    rw [hn, e1, e2]
    exact ev_if hi h
  refine Ev.rounds ?_
  unfold barscanlaw16_ModesLimits.f
  clear many
  have : n = 0 ∨ n = 1 ∨ n = 2 := by omega
  rcases this with rfl | rfl | rfl
  · exact fin 1 (.inl rfl)
  · exact next 1 2 0 1 (by omega) (by decide +kernel) (by decide +kernel) (fin 2 (.inr (.inl rfl)))
  · exact next 1 2 0 1 (by omega) (by decide +kernel) (by decide +kernel) (next 2 4 1 2 (by omega) (by decide +kernel) (by decide +kernel) (fin 4 (.inr (.inr rfl))))
end Go.Proofs.Ytagmncdbiljacaa.Pure
