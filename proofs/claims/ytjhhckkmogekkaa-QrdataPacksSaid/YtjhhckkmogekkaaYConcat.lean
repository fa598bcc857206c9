/- slices.Grow of a nil slice and slices.Concat of slices of bits. No condition beyond the theorems' own hypotheses. -/
import Derived.Test.YtjhhckkmogekkaaWC
import Derived.Test.YtjhhckkmogekkaaXx0
namespace Go.Proofs.Ytjhhckkmogekkaa.X
open Go.RowKit Go.Proofs.YtjhhckkmogekkaaW.PrintWords Go.Proofs.YtjhhckkmogekkaaW.PrintLast Go.Proofs.YtjhhckkmogekkaaW.PrintMore
set_option linter.unusedVariables false
set_option linter.unusedSimpArgs false

set_option maxHeartbeats 2000000 in
set_option maxRecDepth 100000 in
theorem grow_nil (n : Nat) (hn : n ≤ 100000000000) (w : World) :
    Calls Try.prog 56 #[.slice none 0 0, .int .i64 n] w fun e w' => ∃ A c, e = .returned (.slice A 0 c) ∧ Kd.R Kd.bool 4 w' w.heap.size (fun _ => True) (.slice A 0 c) [] ∧ Below w.heap.size w w' := by
  have d0 : decide ((n : Int) < 0) = false := decide_eq_false (by omega)
  have HB := Aside0.mk (Below.refl w.heap.size w)
  by_cases h0 : n = 0
  · subst h0
    have d1 : decide ((0 : Int) < ((0 : Nat) : Int)) = false := by decide
    go_enter Try.func56, Try.ntmps56
    go_wp2
    go_ret
    exact ⟨_, _, rfl, Kd.R_nil _ _ _ _ _, Below.refl _ _⟩
  · have d1 : decide ((0 : Int) < (n : Int)) = true := decide_eq_true (by omega)
    have HN := Aside0.mk hn
    have hs1 : (0 : Nat) < 1 := by decide
    have HN2 := Aside0.mk (show (([] : List Bool).length + n) * 1 ≤ 140737488355328 by simp only [List.length_nil]; omega)
    have hw : wrap64 (n : Int) = (n : Int) := by unfold wrap64; omega
    clear hn
    go_enter Try.func56, Try.ntmps56
    go_wp2_with ((with_reducible refine gate_builtin (b := .append) (xs := #[.tmp 20, .tmp 21]) rfl ?_); (try (refine gate_guard (by rfl) ?_; dsimp only)); at_builtin; refine Kd.R_append_zeros Kd.bool (w0 := w) w.heap.size rfl (.tmp 20) (.tmp 21) 40 3 4 (.bool false) 1 rfl Try.underlying40 Try.underlying3 info4 rfl (by decide) hs1 (.slice none 0 0) [] false (kx := .i64) (wrap64 (n : Int)) (fun _ => True) rfl rfl rfl (fun _ _ => trivial) (Kd.R_nil _ _ _ _ _) (by rw [hw]; exact Int.natCast_nonneg n) (Below.refl _ _) (Nat.le_refl _) (by rw [hw, Int.toNat_natCast]; exact HN2.out) ?_; intro v1 w1 ho hb hg hat; generalize ([] ++ List.replicate (wrap64 (n : Int)).toNat false : List Bool) = zs at ho; obtain ⟨A, c, rfl⟩ := Kd.R_slice ho; have HO := Aside0.mk (Kd.R_take (m := 0) ho (Nat.zero_le _)); have HB1 := Aside0.mk hb; clear ho hb hg hat)
    go_ret
    exact ⟨A, c, rfl, by have h := HO.out; rw [List.take_zero] at h; exact h, HB1.out⟩

/-- Two or more slices, one behind the other. -/
def slices_Concat_bool_bool.f (l0 : List (List Bool)) : Option (List Bool) := if l0.length ≤ 1000 ∧ l0.flatten.length ≤ 100000000000 then some l0.flatten else none
theorem flat_take (l : List (List Bool)) (i : Nat) (h : i < l.length) : (l.take (i + 1)).flatten = (l.take i).flatten ++ l[i] := by
  rw [List.take_succ_eq_append_getElem h, List.flatten_append]
  simp
theorem flat_take_le (l : List (List Bool)) (i : Nat) : (l.take i).flatten.length ≤ l.flatten.length := by
  conv => rhs; rw [← List.take_append_drop i l]
  rw [List.flatten_append, List.length_append]
  omega
theorem rdL_at (l : List (List Bool)) (i : Nat) (h : i < l.length) : rd_L2 l (i : Int) = l[i] := by
  unfold rd_L2
  rw [show ((i : Int)).toNat = i by omega]
  simp [List.getD_eq_getElem?_getD, h]
set_option maxHeartbeats 4000000 in
set_option maxRecDepth 100000 in
theorem slices_Concat_bool_bool.calls (A0 : Option Addr) (c0 : Nat) (l0 : List (List Bool)) (r : List Bool) (w : World) (hr0 : Kd.C (Kd.slice 4 Kd.bool) w A0 l0.length l0) (hc0 : l0.length ≤ c0) (h : slices_Concat_bool_bool.f l0 = some r) :
    Calls Try.prog 32 #[.slice A0 l0.length c0] w fun e w' => ∃ v0_ : Value, e = .returned v0_ ∧ Kd.R Kd.bool 4 w' w.heap.size (fun _ => True) v0_ r ∧ Below w.heap.size w w' := by
  unfold slices_Concat_bool_bool.f at h
  split at h
  case isFalse => cases h
  rename_i hlim
  obtain rfl := Option.some.inj h
  have HR0 := Aside0.mk hr0
  have HL := Aside0.mk hlim
  have HB := Aside0.mk (Below.refl w.heap.size w)
  have hs1 : (0 : Nat) < 1 := by decide
  clear hr0 hc0 h hlim
  go_enter Try.func32, Try.ntmps32
  go_wp2_with fail
  go_loopw [3, 11] (fun v3 v11 wr => ∃ (i s : Nat), v3 = .int .i64 s ∧ v11 = .int .i64 i ∧ Aside0 (i ≤ l0.length ∧ s = (l0.take i).flatten.length) ∧ Aside0 (Below w.heap.size w wr)) (fun _ v11 _ => l0.length - (intOf v11).toNat)
  case atStart => exact ⟨0, 0, rfl, rfl, ⟨Nat.zero_le _, rfl⟩, HB⟩
  case round =>
    clear HB
    obtain ⟨i, s, rfl, rfl, HI, HB⟩ := hrel
    by_cases hlt : i < l0.length
    · have t0 : decide ((i : Int) < (l0.length : Int)) = true := decide_eq_true (by omega)
      have t0n : decide (i < l0.length) = true := decide_eq_true hlt
      obtain ⟨ad, A1, c1, rfl, hx0, _, _⟩ := at_L2 (Kd.C_below HR0.out HB.out) (i : Int) (by omega) (by omega)
      have hi := rdL_at l0 i hlt
      rw [hi] at hx0
      simp only [Int.toNat_natCast] at hx0
      have h1 := flat_take l0 i hlt
      have h2 := flat_take_le l0 (i + 1)
      have h3 : s + l0[i].length = (l0.take (i + 1)).flatten.length := by rw [h1, List.length_append, HI.out.2]
      have h4 : s + l0[i].length ≤ 100000000000 := by have := HL.out.2; omega
      have hws : wrap64 ((s : Int) + (l0[i].length : Int)) = (s : Int) + (l0[i].length : Int) := by unfold wrap64; omega
      have d0 : decide ((s : Int) + (l0[i].length : Int) < 0) = false := decide_eq_false (by omega)
      have HS := Aside0.mk h3
      clear hi h1 h2 h3 h4
      generalize hk : l0[i].length = k at *
      have hwi : wrap64 ((i : Int) + 1) = ((i + 1 : Nat) : Int) := by have := HL.out.1; unfold wrap64; omega
      go_wp2_with fail
      rw [hwi]
      refine ⟨⟨i + 1, s + k, by first | rw [hws]; simp | simp, rfl, ⟨hlt, HS.out⟩, HB⟩, ?_⟩
      simp only [intOf, Int.toNat_natCast]
      omega
    · have t0 : decide ((i : Int) < (l0.length : Int)) = false := decide_eq_false (by omega)
      have t0n : decide (i < l0.length) = false := decide_eq_false hlt
      have hs : s ≤ 100000000000 := by have := HI.out.2; have := flat_take_le l0 i; have := HL.out.2; omega
      have HS := Aside0.mk hs
      clear hs hlt
      go_wp2_with fail
      refine (grow_nil s HS.out wr).mono ?_
      rintro e w2 ⟨A, c, rfl, hR, hb⟩
      have HO := Aside0.mk (Kd.R_lower hR HB.out.size)
      have HB2 := Aside0.mk (HB.out.trans (hb.mono HB.out.size))
      clear hR hb HB
      go_wp2_with fail
      go_loopw [6, 27] (fun v6 v27 wq => ∃ (i : Nat) (cur : Value) (acc : List Bool), v6 = cur ∧ v27 = .int .i64 i ∧ Aside0 (i ≤ l0.length ∧ acc = (l0.take i).flatten) ∧ Aside0 (Kd.R Kd.bool 4 wq w.heap.size (fun _ => True) cur acc) ∧ Aside0 (Below w.heap.size w wq)) (fun _ v27 _ => l0.length - (intOf v27).toNat)
      case atStart => exact ⟨0, _, [], rfl, rfl, ⟨Nat.zero_le _, rfl⟩, HO, HB2⟩
      case round =>
        clear HO HB2
        obtain ⟨j, cur, acc, rfl, rfl, HJ, HO, HB⟩ := hrel
        by_cases hlt : j < l0.length
        · have t1 : decide ((j : Int) < (l0.length : Int)) = true := decide_eq_true (by omega)
          have t1n : decide (j < l0.length) = true := decide_eq_true hlt
          obtain ⟨ad, A1, c1, rfl, hx0, hc1, hC1⟩ := at_L2 (Kd.C_below HR0.out HB.out) (j : Int) (by omega) (by omega)
          have hi := rdL_at l0 j hlt
          rw [hi] at hx0 hc1 hC1
          simp only [Int.toNat_natCast] at hx0
          have h1 := flat_take l0 j hlt
          have h2 := flat_take_le l0 (j + 1)
          have h5 : acc ++ l0[j] = (l0.take (j + 1)).flatten := by rw [h1, HJ.out.2]
          have h6 : (acc.length + l0[j].length) * 1 ≤ 140737488355328 := by rw [← h5, List.length_append] at h2; have := HL.out.2; omega
          have HA := Aside0.mk (And.intro h5 h6)
          have HC1 := Aside0.mk hC1
          obtain ⟨Ac, cc, rfl⟩ := Kd.R_slice HO.out
          clear hi h1 h2 h5 h6 hC1 hc1
          generalize l0[j] = row at *
          have hlt2 := Aside0.mk hlt
          go_wp2_with ((with_reducible refine gate_builtin (b := .append) (xs := #[.tmp 31, .tmp 32]) rfl ?_); (try (refine gate_guard (by rfl) ?_; dsimp only)); at_builtin; refine Kd.R_append_rows Kd.bool (w0 := w) w.heap.size rfl (.tmp 31) (.tmp 32) 40 4 (.bool false) 1 rfl Try.underlying40 info4 rfl (by decide) hs1 (.slice Ac acc.length cc) acc row _ _ _ (fun _ => True) (fun _ => False) rfl rfl ?aO ?aR (fun _ _ h => h) (fun _ h => h.elim) ?aF ?aB ?aS ?aL ?_; (case aR => exact HC1.out); (case aB => exact HB.out); (case aF => exact (fun _ _ => trivial)); (case aO => exact HO.out); (case aS => exact below_size HB.out); (case aL => exact HA.out.2); intro v252 w14 ho hb hg hat; have HO2 := Aside0.mk ho; have HB2 := Aside0.mk hb; clear HB HO; clear ho hb hg hat)
          have hwj : wrap64 ((j : Int) + 1) = ((j + 1 : Nat) : Int) := by have := HL.out.1; have := hlt2.out; unfold wrap64; omega
          rw [hwj]
          clear hwj
          refine ⟨⟨j + 1, v252, acc ++ row, rfl, rfl, ⟨hlt2.out, HA.out.1⟩, HO2, HB2⟩, ?_⟩
          have := hlt2.out
          simp only [intOf, Int.toNat_natCast]
          omega
        · have t1 : decide ((j : Int) < (l0.length : Int)) = false := decide_eq_false (by omega)
          have t1n : decide (j < l0.length) = false := decide_eq_false hlt
          have hfull : acc = l0.flatten := by rw [HJ.out.2, List.take_of_length_le (by omega)]
          have HFL := Aside0.mk hfull
          obtain ⟨Ac, cc, rfl⟩ := Kd.R_slice HO.out
          clear hlt hfull
          go_wp2_with fail
          go_ret
          exact ⟨_, rfl, by rw [← HFL.out]; exact HO.out, HB.out⟩
end Go.Proofs.Ytjhhckkmogekkaa.X
