/- modes.Decode: the segments of bits, or the error. No condition. -/
import Derived.Test.YtagmncdbiljacaaYMSegment
namespace Go.Proofs.Ytagmncdbiljacaa.X
open Go.RowKit Go.Shelf Go.Proofs.YtagmncdbiljacaaW.PrintWords Go.Proofs.YtagmncdbiljacaaW.PrintLast Go.Proofs.YtagmncdbiljacaaW.PrintMore
set_option linter.unusedVariables false
set_option linter.unusedSimpArgs false

theorem rdD_len (m : Int) : ∀ (f n : Nat) (l : List Bool) (acc : List Int) (x : List Int × List Bool), rdD m f n l acc = some x → x.2.length ≤ l.length
  | 0, n, l, acc, x, h => by simp [rdD] at h
  | f + 1, n, l, acc, x, h => by
    unfold rdD at h
    split at h
    · obtain rfl := Option.some.inj h; exact Nat.le_refl _
    · dsimp only at h
      split at h
      · have := rdD_len m f _ _ _ x h
        rw [List.length_drop] at this
        omega
      · cases h
theorem segD_len (cls m : Int) (l : List Bool) (x : List Int × List Bool) (h : segD cls m l = .ok x) : x.2.length ≤ l.length := by
  unfold segD rdEnd at h
  split at h
  · cases h
  split at h
  · cases h
  split at h
  · cases h
  · rename_i y hy
    injection h with h
    subst h
    have := rdD_len m _ _ _ _ _ hy
    rw [List.length_drop] at this
    omega
theorem decD_fuel (cls : Int) : ∀ (f : Nat) (l : List Bool) (out : List S33), l.length < f → ∀ f', l.length < f' → decD cls f l out = decD cls f' l out
  | 0, l, out, h, _, _ => by omega
  | f + 1, l, out, h, f', h' => by
    obtain ⟨f', rfl⟩ : ∃ x, f' = x + 1 := ⟨f' - 1, by omega⟩
    unfold decD
    split
    · rfl
    split
    · rfl
    split
    · rfl
    split
    · rfl
    split
    · rename_i e he; rfl
    · rename_i x hx
      have hl := segD_len _ _ _ _ hx
      rw [List.length_drop] at hl
      exact decD_fuel cls f x.2 _ (by omega) f' (by omega)

/-- How many bits a reader has left, told off the world. -/
def rdLen (W : World) (g : Nat) : Nat := match W.cell? ⟨g, 0, none⟩ with
  | some (.slice _ n _) => n
  | _ => 0
theorem rdLen_is {W : World} {b g : Nat} {l : List Bool} (h : IsRd W b g l) : rdLen W g = l.length := by
  obtain ⟨A, c, hh, _, _⟩ := h
  unfold rdLen
  rw [(cells_at hh).1]

set_option maxHeartbeats 4000000 in
set_option maxRecDepth 100000 in
theorem decode_bad (A0 : Option Addr) (c0 : Nat) (l0 : List Bool) (cls : Int) (w : World) (h : (cls < 0 ∨ 2 < cls) ∨ 1048576 < l0.length) :
    Calls Try.prog 23 #[.slice A0 l0.length c0, .int .i64 cls] w fun e w' => e = .returned (.tuple #[.slice none 0 0, .int .i64 (decR l0 cls).2]) ∧ (decR l0 cls).1 = [] ∧ Below w.heap.size w w' := by
  by_cases h1 : cls < 0
  · have HE := Aside0.mk (show decR l0 cls = ([], 1) by unfold decR; rw [if_pos (.inl h1)])
    have d1 : decide (cls < 0) = true := decide_eq_true h1
    clear h h1
    go_enter Try.func23, Try.ntmps23
    go_wp2_with fail
    go_ret2
    exact ⟨by rw [HE.out]; rfl, by rw [HE.out], Below.refl _ _⟩
  by_cases h2 : 2 < cls
  · have HE := Aside0.mk (show decR l0 cls = ([], 1) by unfold decR; rw [if_pos (.inr h2)])
    have d1 : decide (cls < 0) = false := decide_eq_false h1
    have d2 : decide (2 < cls) = true := decide_eq_true h2
    clear h h1 h2
    go_enter Try.func23, Try.ntmps23
    go_wp2_with fail
    go_ret2
    exact ⟨by rw [HE.out]; rfl, by rw [HE.out], Below.refl _ _⟩
  · have h3 : 1048576 < l0.length := by omega
    have HE := Aside0.mk (show decR l0 cls = ([], 4) by unfold decR; rw [if_neg (by omega), if_pos h3])
    have d1 : decide (cls < 0) = false := decide_eq_false h1
    have d2 : decide (2 < cls) = false := decide_eq_false h2
    have d3 : decide ((1048576 : Int) < (l0.length : Int)) = true := decide_eq_true (by omega)
    have d3n : decide (1048576 < l0.length) = true := decide_eq_true h3
    clear h h1 h2 h3
    go_enter Try.func23, Try.ntmps23
    go_wp2_with fail
    go_ret2
    exact ⟨by rw [HE.out]; rfl, by rw [HE.out], Below.refl _ _⟩

set_option maxHeartbeats 4000000 in
set_option maxRecDepth 100000 in
theorem decode_walk (A0 : Option Addr) (c0 : Nat) (l0 : List Bool) (cls : Int) (w : World) (hr0 : Kd.C Kd.bool w A0 l0.length l0) (hc0 : l0.length ≤ c0) (h0 : 0 ≤ cls) (h2 : cls ≤ 2) (hl : l0.length ≤ 1048576) :
    Calls Try.prog 23 #[.slice A0 l0.length c0, .int .i64 cls] w fun e w' => ∃ v0_ : Value, e = .returned (.tuple #[v0_, .int .i64 (decR l0 cls).2]) ∧ Kd.S k33 33 w' w.heap.size (fun _ => True) v0_ (decR l0 cls).1 ∧ Below w.heap.size w w' := by
  have HD := Aside0.mk (show decR l0 cls = decD cls (l0.length + 1) l0 [] by unfold decR; rw [if_neg (by omega), if_neg (by omega)])
  have d1 : decide (cls < 0) = false := decide_eq_false (by omega)
  have d2 : decide (2 < cls) = false := decide_eq_false (by omega)
  have d3 : decide ((1048576 : Int) < (l0.length : Int)) = false := decide_eq_false (by omega)
  have d3n : decide (1048576 < l0.length) = false := decide_eq_false (by omega)
  have HR0 := Aside0.mk hr0
  have HC0 := Aside0.mk hc0
  have HL := Aside0.mk hl
  clear hr0 hc0 h0 h2 hl
  go_enter Try.func23, Try.ntmps23
  go_wp2_with fail
  refine (NewReader_calls A0 c0 l0 w HR0.out HC0.out (by have := HL.out; omega)).mono ?_
  rintro e w1 ⟨g, rfl, hg, hRd, hB1⟩
  have hgl := hRd.lt
  have HRD := Aside0.mk hRd
  have HB1 := Aside0.mk hB1
  have HG := Aside0.mk (And.intro hg hgl)
  clear hRd hB1 hg hgl
  obtain ⟨b, hb⟩ : ∃ b, b = w.heap.size := ⟨_, rfl⟩
  rw [← hb] at HRD HB1 HG
  have HBE := Aside0.mk hb
  clear hb
  go_wp2_with fail
  go_loopw [7] (fun v7 wr => ∃ (l' : List Bool) (out : List S33), Aside0 (decD cls (l'.length + 1) l' out = decR l0 cls ∧ out.length ≤ 4096 ∧ l'.length ≤ 1048576) ∧ Aside0 (IsRd wr b g l') ∧ Aside0 (Kd.S k33 33 wr w1.heap.size (fun k => w1.heap.size ≤ k) v7 out) ∧ Aside0 (Below b w wr ∧ w1.heap.size ≤ wr.heap.size))
    (fun _ wr => rdLen wr g)
  case atStart => exact ⟨l0, [], ⟨HD.out.symm, by simp, HL.out⟩, HRD, ⟨Kd.S_nil _ _ _ _ _⟩, ⟨HB1.out, Nat.le_refl _⟩⟩
  case round =>
    obtain ⟨l', out, HI, HRd, HO, HB⟩ := hrel
    obtain ⟨Ao, co, rfl⟩ := Kd.S_slice HO.out
    have hde := HI.out.1
    rw [decD] at hde
    go_wp2_with fail
    refine (Left_calls wr b g l' HRd.out).mono ?_
    rintro e w2 ⟨rfl, hw_⟩
    replace hw_ := hw_.symm
    subst hw_
    by_cases h4 : l'.length < 4
    · have t1 : decide ((4 : Int) ≤ ((l'.length : Nat) : Int)) = false := decide_eq_false (by omega)
      have t1n : decide (4 ≤ l'.length) = false := decide_eq_false (by omega)
      rw [if_pos h4] at hde
      have HDE := Aside0.mk hde
      have H4 := Aside0.mk h4
      clear hde h4
      go_wp2_with fail
      refine (Left_calls wr b g l' HRd.out).mono ?_
      rintro e w2 ⟨rfl, hw_⟩
      replace hw_ := hw_.symm
      subst hw_
      go_wp2_with fail
      refine (Take_all wr b g l' l'.length HRd.out).mono ?_
      rintro e w3 ⟨rfl, hRd3, hB3, hz3, hj3⟩
      have hrt : rdTake l' l'.length = (gval l', 0, l'.length) := by
        have := H4.out
        unfold rdTake
        rw [if_neg (by omega), if_neg (by omega), Int.toNat_natCast, List.take_length]
      rw [hrt]
      have HB3 := Aside0.mk (HB.out.1.trans (hB3.mono (by have := HG.out; omega)))
      have HS3 := Aside0.mk (Kd.S_move HO.out (fun k hk => hj3 k (by have := HG.out; omega)))
      clear hRd3 hB3 hz3 hj3 hrt
      by_cases hz : gval l' = 0
      · have HE := Aside0.mk (show decR l0 cls = (out, 0) by rw [← HDE.out, if_pos hz])
        rw [hz]
        clear hz HDE
        go_wp2_with fail
        go_ret2
        exact ⟨_, by rw [HE.out]; rfl, by rw [HE.out, ← HBE.out]; exact Kd.S_lower (Kd.S_mono HS3.out (fun _ _ => trivial)) (by have := HG.out; omega), by rw [← HBE.out]; exact HB3.out⟩
      · have HE := Aside0.mk (show decR l0 cls = ([], 22) by rw [← HDE.out, if_neg hz])
        have z1 : (gval l' == 0) = false := by simp [hz]
        have z2 : (gval l' != 0) = true := by simp [hz]
        generalize gval l' = gv at *
        clear hz HDE
        go_wp2_with fail
        go_ret2
        exact ⟨_, by rw [HE.out]; rfl, by rw [HE.out]; exact Kd.S_nil _ _ _ _ _, by rw [← HBE.out]; exact HB3.out⟩
    · have t1 : decide ((4 : Int) ≤ ((l'.length : Nat) : Int)) = true := decide_eq_true (by omega)
      have t1n : decide (4 ≤ l'.length) = true := decide_eq_true (by omega)
      rw [if_neg h4] at hde
      have HDE := Aside0.mk hde
      have H4 := Aside0.mk h4
      clear hde h4
      go_wp2_with fail
      refine (Take_all wr b g l' 4 HRd.out).mono ?_
      rintro e w3 ⟨rfl, hRd3, hB3, hz3, hj3⟩
      have hrt : rdTake l' 4 = (gval (l'.take 4), 0, 4) := by
        have := H4.out
        unfold rdTake
        rw [if_neg (by omega), if_neg (by omega)]
        rfl
      rw [hrt] at hRd3 ⊢
      dsimp only at hRd3
      have HB3 := Aside0.mk (And.intro (HB.out.1.trans (hB3.mono (by have := HG.out; omega))) (show w1.heap.size ≤ w3.heap.size by rw [hz3]; exact HB.out.2))
      have HS3 := Aside0.mk (Kd.S_move HO.out (fun k hk => hj3 k (by have := HG.out; omega)))
      have HRd3 := Aside0.mk hRd3
      have HLN := Aside0.mk (rdLen_is HRd.out)
      clear hRd3 hB3 hz3 hj3 hrt HO HRd HB
      by_cases hz : gval (l'.take 4) = 0
      · have HE := Aside0.mk (show decR l0 cls = (out, 0) by rw [← HDE.out, if_pos hz])
        rw [hz]
        clear hz HDE
        go_wp2_with fail
        go_ret2
        exact ⟨_, by rw [HE.out]; rfl, by rw [HE.out, ← HBE.out]; exact Kd.S_lower (Kd.S_mono HS3.out (fun _ _ => trivial)) (by have := HG.out; omega), by rw [← HBE.out]; exact HB3.out.1⟩
      have hde2 := HDE.out
      rw [if_neg hz] at hde2
      obtain ⟨m, hm⟩ : ∃ m, gval (l'.take 4) = m := ⟨_, rfl⟩
      rw [hm] at hz hde2 ⊢
      have z1 : (m == 0) = false := by simp [hz]
      have z2 : (m != 0) = true := by simp [hz]
      have hcb := countBits_is 0 m cls
      have hcr := cbOf_range m cls
      have HCB := Aside0.mk hcb
      clear hcb hz HDE
      by_cases hc : cbOf m cls = 0
      · have HE := Aside0.mk (show decR l0 cls = ([], 22) by rw [← hde2, if_pos hc])
        rw [hc] at HCB
        clear hc hde2 hcr
        go_wp2_with fail
        refine (modes_countBits.calls 1 m cls 0 w3 HCB.out).mono ?_
        rintro e w4 ⟨rfl, hB4⟩
        have HB4 := Aside0.mk (HB3.out.1.trans (hB4.mono (by have := HG.out; have := HB3.out.2; omega)))
        clear hB4
        go_wp2_with fail
        go_ret2
        exact ⟨_, by rw [HE.out]; rfl, by rw [HE.out]; exact Kd.S_nil _ _ _ _ _, by rw [← HBE.out]; exact HB4.out⟩
      have hde3 := hde2
      rw [if_neg hc] at hde3
      obtain ⟨cb, hcbn⟩ : ∃ cb, cbOf m cls = cb := ⟨_, rfl⟩
      rw [hcbn] at HCB hc
      have y1 : (cb == 0) = false := by simp [hc]
      have y2 : (cb != 0) = true := by simp [hc]
      have HCN := Aside0.mk (And.intro hcbn hcr)
      have HC := Aside0.mk hc
      clear hde2 hcr hcbn hc
      go_wp2_with fail
      refine (modes_countBits.calls 1 m cls cb w3 HCB.out).mono ?_
      rintro e w4 ⟨rfl, hB4⟩
      have hS4 := Kd.S_below HS3.out hB4
      have hRd4 := RdKeep.rd HRd3.out hB4
      have HB4 := Aside0.mk (And.intro (HB3.out.1.trans (hB4.mono (by have := HG.out; have := HB3.out.2; omega))) (Nat.le_trans HB3.out.2 hB4.size))
      have HS4 := Aside0.mk hS4
      have HRd4 := Aside0.mk hRd4
      clear hB4 hS4 hRd4 HB3 HS3 HRd3 HCB
      by_cases hn : out.length = 4096
      · have HE := Aside0.mk (show decR l0 cls = ([], 4) by rw [← hde3, if_pos hn])
        have n1 : ((out.length : Int) == 4096) = true := by simp; omega
        have n2 : (out.length == 4096) = true := by simp [hn]
        clear hn hde3
        go_wp2_with fail
        go_ret2
        exact ⟨_, by rw [HE.out]; rfl, by rw [HE.out]; exact Kd.S_nil _ _ _ _ _, by rw [← HBE.out]; exact HB4.out.1⟩
      have hde4 := hde3
      rw [if_neg hn] at hde4
      have n1 : ((out.length : Int) == 4096) = false := by simp; omega
      have n2 : (out.length == 4096) = false := by simp [hn]
      have HN := Aside0.mk hn
      have HDE4 := Aside0.mk hde4
      clear hde3 hn hde4
      go_wp2_with fail
      refine (segment_calls w4 b g (l'.drop 4) m cls HRd4.out (by have := HCN.out; have := HC.out; omega) (by have := HI.out.2.2; rw [List.length_drop]; omega)).mono ?_
      rintro e w5 (⟨x, hx, hx0, rfl, hK⟩ | ⟨d, rest, v, hx, rfl, hR5, hRd5, hK⟩)
      · have HE := Aside0.mk (show decR l0 cls = ([], x) by rw [← HDE4.out, hx])
        have x1 : (x == 0) = false := by simp [hx0]
        have x2 : (x != 0) = true := by simp [hx0]
        have HB5 := Aside0.mk (HB4.out.1.trans (hK.1.mono (by have := HG.out; omega)))
        have HSZ5 := Aside0.mk (show b ≤ w5.heap.size by have := HB4.out.2; have := HG.out; have := hK.2.1; omega)
        clear hx hx0 hK
        go_wp2_with fail
        go_ret2
        exact ⟨_, by rw [HE.out]; rfl, by rw [HE.out]; exact Kd.S_nil _ _ _ _ _, by rw [← HBE.out]; exact HB5.out.alloc HSZ5.out _⟩
      · obtain ⟨A5, c5, rfl⟩ := Kd.R_slice hR5
        have hdl := segD_len _ _ _ _ hx
        rw [List.length_drop] at hdl
        dsimp only at hdl
        have HE := Aside0.mk (And.intro (show decD cls l'.length rest (out ++ [⟨m, d⟩]) = decR l0 cls by rw [← HDE4.out, hx]) hdl)
        have hS5 : Kd.S k33 33 w5 w1.heap.size (fun k => w1.heap.size ≤ k ∧ k < w4.heap.size) (.slice Ao out.length co) out := Kd.S_step (Kd.S_mono (Kd.S_bound HS4.out) (fun k hk => ⟨hk.1, hk.2.2.1⟩)) (fun k hk hlt => hK.2.2 k hlt (by have := HG.out; omega) (by simp))
        have hslt := Kd.S_lt HS4.out
        have hR5b : Kd.R (Kd.int .u8) 5 w5 w4.heap.size (fun k => w4.heap.size ≤ k) (.slice A5 d.length c5) d := Kd.R_mono (Kd.R_bound hR5) (fun k hk => hk.2.1)
        have hsz5 : w4.heap.size ≤ w5.heap.size := hK.2.1
        have hza : (w5.alloc (.cells #[.int .i64 m, .slice A5 d.length c5] 33)).heap.size = w5.heap.size + 1 := by simp
        have hBa : Below w5.heap.size w5 (w5.alloc (.cells #[.int .i64 m, .slice A5 d.length c5] 33)) := below_alloc (Below.refl _ _) _
        have hy0 : (w5.alloc (.cells #[.int .i64 m, .slice A5 d.length c5] 33)).cell? ⟨w5.heap.size, 0, none⟩ = some (.int .i64 m) := by simp
        have hy1 : (w5.alloc (.cells #[.int .i64 m, .slice A5 d.length c5] 33)).cell? ⟨w5.heap.size, 1, none⟩ = some (.slice A5 d.length c5) := by simp
        have hS6 := Kd.S_alloc hS5 (.cells #[.int .i64 m, .slice A5 d.length c5] 33)
        have hR6 := Kd.R_alloc hR5b (.cells #[.int .i64 m, .slice A5 d.length c5] 33)
        have hRd6 := RdKeep.rd hRd5 hBa
        have hB6 : Below b w (w5.alloc (.cells #[.int .i64 m, .slice A5 d.length c5] 33)) := (HB4.out.1.trans (hK.1.mono (by have := HG.out; omega))).alloc (by have := HB4.out.2; have := HG.out; omega) _
        have x1 : ((0 : Int) == 0) = true := rfl
        go_upto_region 19 with (fail)
        generalize w5.alloc (.cells #[.int .i64 m, .slice A5 d.length c5] 33) = w6 at *
        have hle6 : w5.heap.size ≤ w6.heap.size := by omega
        have H6 := Aside0.mk (And.intro hS6 (And.intro hR6 (And.intro hRd6 (And.intro hB6 (And.intro hle6 (And.intro hslt hsz5))))))
        clear hx hdl hS5 hR5 hR5b hRd5 hK hS6 hR6 hRd6 hB6 hBa hza hslt hsz5 hle6
        go_wp2_with ((with_reducible refine gate_builtin (b := .append) (xs := #[.tmp 60, .tmp 62]) rfl ?_); at_builtin; refine Kd.S_append k33 (w0 := w6) w1.heap.size rfl (.tmp 60) (.tmp 62) 25 33 (.agg #[(.int .i64 0), (.slice none 0 0)]) 32 rfl Try.underlying25 info33 rfl (by decide) (by omega) (.slice Ao out.length co) out (⟨m, d⟩ : S33) [.int .i64 m, .slice A5 d.length c5] (fun k => w1.heap.size ≤ k) (fun k => w4.heap.size ≤ k) rfl rfl ?aP (fun k hk => ⟨Nat.le_trans HB4.out.2 hk, fun he => by have h1 := H6.out.2.2.2.2.2.1 k he.symm; omega⟩) ?aF ?aO ?aB ?aS ?aL ?_; (case aP => exact k33_mkM _ _ _ (⟨m, d⟩ : S33) (Kd.R_lower H6.out.2.1 HB4.out.2)); (case aB => exact Below.refl _ _); (case aF => exact (fun k hk => by have := H6.out.2.2.2.2.1; have := H6.out.2.2.2.2.2.2; have := HB4.out.2; omega)); (case aO => exact Kd.S_mono H6.out.1 (fun k hk => ⟨hk.1, by omega⟩)); (case aS => have := H6.out.2.2.2.2.1; have := H6.out.2.2.2.2.2.2; have := HB4.out.2; omega); (case aL => have := HI.out.2.1; omega); intro v9 w9 ho hb hg hat; have HO9 := Aside0.mk ho; have HB9 := Aside0.mk hb; clear ho hb hg hat)
        have hIs : IsRd w9 b g rest := H6.out.2.2.1.below HB9.out HG.out.2
        rw [rdLen_is hIs, HLN.out]
        refine ⟨⟨rest, out ++ [⟨m, d⟩], ⟨?_, ?_, ?_⟩, ⟨hIs⟩, HO9, ⟨H6.out.2.2.2.1.trans (HB9.out.mono (by have := HG.out; omega)), ?_⟩⟩, ?_⟩
        · rw [← HE.out.1]
          exact decD_fuel cls _ _ _ (by omega) _ (by have := HE.out.2; have := H4.out; omega)
        · have := HI.out.2.1
          have := HN.out
          rw [List.length_append]
          simp
          omega
        · have := HI.out.2.2
          have := HE.out.2
          omega
        · have h1 := HB9.out.size
          have := H6.out.2.2.2.2.1
          have := H6.out.2.2.2.2.2.2
          have := HB4.out.2
          omega
        · have := HE.out.2
          have := H4.out
          omega

theorem modes_Decode.calls (A0 : Option Addr) (c0 : Nat) (l0 : List Bool) (a1 : Int) (r1 : List S33) (r2 : Int) (w : World) (hr0 : Kd.C Kd.bool w A0 l0.length l0) (hc0 : l0.length ≤ c0) (h : modes_Decode.f l0 a1 = some (r1, r2)) :
    Calls Try.prog 23 #[.slice A0 l0.length c0, .int .i64 a1] w fun e w' => ∃ v0_ : Value, e = .returned (.tuple #[v0_, .int .i64 r2]) ∧ Kd.S k33 33 w' w.heap.size (fun _ => True) v0_ r1 ∧ Below w.heap.size w w' := by
  have h := Option.some.inj h
  rw [show r1 = (decR l0 a1).1 by rw [h], show r2 = (decR l0 a1).2 by rw [h]]
  by_cases hc : (a1 < 0 ∨ 2 < a1) ∨ 1048576 < l0.length
  · refine (decode_bad A0 c0 l0 a1 w hc).mono ?_
    rintro e w' ⟨rfl, he, hB⟩
    rw [he]
    exact ⟨_, rfl, Kd.S_nil _ _ _ _ _, hB⟩
  · exact decode_walk A0 c0 l0 a1 w hr0 hc0 (by omega) (by omega) (by omega)
end Go.Proofs.Ytagmncdbiljacaa.X
