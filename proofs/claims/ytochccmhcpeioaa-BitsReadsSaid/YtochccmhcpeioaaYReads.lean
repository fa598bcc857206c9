/- The law BitsReads answers true. -/
import Derived.Test.YtochccmhcpeioaaYAlive
import Derived.Test.YtochccmhcpeioaaYRefA
namespace Go.Proofs.Ytochccmhcpeioaa.X
open Go.RowKit Go.Proofs.YtochccmhcpeioaaW.PrintWords Go.Proofs.YtochccmhcpeioaaW.PrintLast Go.Proofs.YtochccmhcpeioaaW.PrintMore
set_option linter.unusedVariables false
set_option linter.unusedSimpArgs false

def barscanlaw01_BitsReads.f (l0 : List Bool) (l1 : List Int) : Option Bool := some true

/-- What a reader of the rest takes is what Take takes at the place. -/
theorem reads_same (l : List Bool) (i : Nat) (hi : i ≤ l.length) (n : Int) : (rdTake (l.drop i) n).1 = (takeR l i n).1 ∧ (rdTake (l.drop i) n).2.1 = (takeR l i n).2 ∧ ((takeR l i n).2 = 0 → ((rdTake (l.drop i) n).2.2 : Int) = n) ∧ ((takeR l i n).2 ≠ 0 → (rdTake (l.drop i) n).2.2 = 0) ∧ i + (rdTake (l.drop i) n).2.2 ≤ l.length := by
  by_cases h1 : n < 0 ∨ n > 62
  · have hA : rdTake (l.drop i) n = (0, 3, 0) := by unfold rdTake; rw [if_pos h1]
    have hB : takeR l i n = (0, 3) := by unfold takeR; rw [if_pos (by omega)]
    rw [hA, hB]
    exact ⟨rfl, rfl, by simp, by simp, by simpa using hi⟩
  by_cases h2 : n > ((l.length - i : Nat) : Int)
  · have hA : rdTake (l.drop i) n = (0, 10, 0) := by unfold rdTake; rw [if_neg h1, if_pos (by rw [List.length_drop]; exact h2)]
    have hB : takeR l i n = (0, 10) := by unfold takeR; rw [if_neg (by omega), if_pos (by omega)]
    rw [hA, hB]
    exact ⟨rfl, rfl, by simp, by simp, by simpa using hi⟩
  · have hA : rdTake (l.drop i) n = (gval ((l.drop i).take n.toNat), 0, n.toNat) := by unfold rdTake; rw [if_neg h1, if_neg (by rw [List.length_drop]; exact h2)]
    have hB : takeR l i n = (gval ((l.drop i).take n.toNat), 0) := by unfold takeR; rw [if_neg (by omega), if_neg (by omega), Int.toNat_natCast]
    rw [hA, hB]
    exact ⟨rfl, rfl, fun _ => by show ((n.toNat : Nat) : Int) = n; omega, by simp, by show i + n.toNat ≤ _; omega⟩

set_option maxHeartbeats 4000000 in
set_option maxRecDepth 100000 in
theorem reads_alive (A0 : Option Addr) (c0 : Nat) (l0 : List Bool) (A1 : Option Addr) (c1 : Nat) (l1 : List Int) (w : World) (hg : 2000 < l0.length ∨ 100 < l1.length) :
    Calls Try.prog 5 #[.slice A0 l0.length c0, .slice A1 l1.length c1] w fun e w' => e = .returned (.bool true) ∧ Below w.heap.size w w' := by
  by_cases h1 : 2000 < l0.length
  · have b1 : decide ((2000 : Int) < (l0.length : Int)) = true := decide_eq_true (by omega)
    clear hg h1
    go_enter Try.func5, Try.ntmps5
    go_wp2_with (go_at_call 12; refine (barscanlaw01_alive.calls true _ rfl).mono ?_; rintro e w1 ⟨rfl, hB⟩; have HB := Aside0.mk hB; clear hB)
    go_ret
    exact ⟨rfl, HB.out⟩
  · have b1 : decide ((2000 : Int) < (l0.length : Int)) = false := decide_eq_false (by omega)
    have b2 : decide ((100 : Int) < (l1.length : Int)) = true := decide_eq_true (by omega)
    clear hg h1
    go_enter Try.func5, Try.ntmps5
    go_wp2_with (go_at_call 12; refine (barscanlaw01_alive.calls true _ rfl).mono ?_; rintro e w1 ⟨rfl, hB⟩; have HB := Aside0.mk hB; clear hB)
    go_ret
    exact ⟨rfl, HB.out⟩

set_option maxHeartbeats 4000000 in
set_option maxRecDepth 100000 in
theorem reads_runs (A0 : Option Addr) (c0 : Nat) (l0 : List Bool) (A1 : Option Addr) (c1 : Nat) (l1 : List Int) (w : World) (hr0 : Kd.C Kd.bool w A0 l0.length l0) (hc0 : l0.length ≤ c0) (hr1 : Kd.C (Kd.int .i64) w A1 l1.length l1) (hc1 : l1.length ≤ c1) (hg0 : l0.length ≤ 2000) (hg1 : l1.length ≤ 100) :
    Calls Try.prog 5 #[.slice A0 l0.length c0, .slice A1 l1.length c1] w fun e w' => e = .returned (.bool true) ∧ Below w.heap.size w w' := by
  have b1 : decide ((2000 : Int) < (l0.length : Int)) = false := decide_eq_false (by omega)
  have b2 : decide ((100 : Int) < (l1.length : Int)) = false := decide_eq_false (by omega)
  have HR0 := Aside0.mk hr0
  have HC0 := Aside0.mk hc0
  have HR1 := Aside0.mk hr1
  have HC1 := Aside0.mk hc1
  have HL := Aside0.mk hg0
  have HL1 := Aside0.mk hg1
  have HB := Aside0.mk (Below.refl w.heap.size w)
  clear hr0 hc0 hr1 hc1 hg0 hg1
  go_enter Try.func5, Try.ntmps5
  go_wp2_with (first | ((with_reducible refine gate_dst (N := 23) rfl ?_); refine Kd.R_lit Kd.bool _ 4 ?hg (N := 23) ?hd (xs := ([] : List Bool)) (inner := []) (ok := fun _ => True) (okp := fun _ => True) ?hr ?hp (fun _ hk => hk) trivial (Below.refl _ _) (Nat.le_refl _) (by simp) ?_; (case hd => rfl); (case hg => rfl); (case hr => first | (go_simp; done) | (go_simp; rfl)); (case hp => exact (Reps.none _ _)); intro v249 w12 ho13 hb hg_ hnew_; clear hg_ hnew_; have HO250 := Aside0.mk ho13; have HB2 := Aside0.mk hb; clear HB; have HB := HB2; clear HB2 ho13 hb) | ((with_reducible refine gate_builtin (b := .append) (xs := #[.tmp 23, .tmp 24]) rfl ?_); at_builtin; refine Kd.R_append_rows Kd.bool (w0 := w) w.heap.size rfl (.tmp 23) (.tmp 24) 22 4 (.bool false) 1 rfl Try.underlying22 info4 rfl (by decide) (by omega) v249 [] l0 _ _ _ (fun _ => True) (fun _ => False) rfl rfl ?aO ?aR (fun _ _ h => h) (fun _ h => h.elim) ?aF ?aB ?aS ?aL ?_; (case aR => exact Kd.C_below HR0.out HB.out); (case aB => exact HB.out); (case aF => exact (fun _ _ => trivial)); (case aO => exact HO250.out); (case aS => exact below_size HB.out); (case aL => have := HL.out; simp; omega); intro v252 w14 ho hb hg hat; rw [List.nil_append] at ho; have HO251 := Aside0.mk ho; have HB2 := Aside0.mk hb; clear HB; have HB := HB2; clear HB2 ho hb hg hat; obtain ⟨Ao, co, eo⟩ := Kd.R_slice HO251.out; subst eo) | fail)
  refine (NewReader_calls Ao co l0 w14 (Kd.R_reads' HO251.out).2.2 (Kd.R_reads' HO251.out).2.1 (by have := HL.out; omega)).mono ?_
  rintro e w1 ⟨g, rfl, hg, hRd, hB1⟩
  have hown : Kd.R Kd.bool 4 w1 w.heap.size (fun k => k < w14.heap.size) (.slice Ao l0.length co) l0 := Kd.R_below (Kd.R_mono (Kd.R_bound HO251.out) (fun k hk => hk.2.2.1)) hB1
  have hB1' := bstep HB.out hB1
  have hN : w.heap.size ≤ w14.heap.size := HB.out.size
  generalize w14.heap.size = N at *
  have HOWN := Aside0.mk hown
  have HRD := Aside0.mk hRd
  have HN := Aside0.mk (And.intro hN hg)
  clear HO251 HB hown hRd hB1 hN hg HO250
  have HB := Aside0.mk hB1'
  clear hB1'
  go_wp2_with fail
  go_loopw [30] (fun v30 wr => ∃ (x : List Bool) (i : Nat), v30 = .int .i64 i ∧ i ≤ l0.length ∧ Aside0 (x.length = l0.length) ∧ Aside0 (Kd.R Kd.bool 4 wr w.heap.size (fun k => k < N) (.slice Ao l0.length co) x) ∧ Aside0 (IsRd wr N g l0) ∧ Aside0 (Below w.heap.size w wr)) (fun v30 _ => l0.length - (intOf v30).toNat)
  case atStart => exact ⟨l0, 0, rfl, Nat.zero_le _, ⟨rfl⟩, HOWN, HRD, HB⟩
  case round =>
    obtain ⟨x, i, rfl, hi, HXL, HO, HR, HBR⟩ := hrel
    by_cases hlt : i < l0.length
    · have t0 : decide ((i : Int) < (l0.length : Int)) = true := decide_eq_true (by omega)
      obtain ⟨go, co', eo, gb, gl, cl, hcl⟩ := Kd.R_form HO.out (by have := HXL.out; omega)
      injection eo with ea en ec
      subst ea ec
      have hgoN : go < N := HO.out.1 go (by simp [Value.ownBlock])
      obtain ⟨hx, hf⟩ := Kd.R_celln false HO.out (i : Int) (by omega) (by have := HXL.out; omega)
      have HP := Aside0.mk (Kd.R_putg HO.out (i : Int) (!(rdOf false x i)))
      have HGN := Aside0.mk (And.intro hgoN gb)
      simp only [Int.toNat_natCast] at hx hf
      clear hcl gl en hgoN gb
      generalize rdOf false x (i : Int) = bx at *
      go_wp2
      have hwi : wrap64 ((i : Int) + 1) = ((i + 1 : Nat) : Int) := by have := HL.out; unfold wrap64; omega
      rw [hwi]
      refine ⟨⟨x.set i (!bx), i + 1, rfl, hlt, ⟨by rw [List.length_set]; exact HXL.out⟩, ⟨HP.out.1⟩, ⟨HR.out.step (fun k hk _ => Below.heap_setCell wr ⟨go, i, none⟩ _ k (by have := HGN.out.1; show k ≠ go; omega)) (Below.heap_setCell wr ⟨go, i, none⟩ _ g (by have := HGN.out.1; have := HN.out.2; show g ≠ go; omega))⟩, ⟨HBR.out.setCell (p := ⟨go, i, none⟩) HGN.out.2 _⟩⟩, ?_⟩
      simp only [intOf, Int.toNat_natCast]
      omega
    · have t0 : decide ((i : Int) < (l0.length : Int)) = false := decide_eq_false (by omega)
      have t0n : decide (i < l0.length) = false := decide_eq_false hlt
      have HO1 := HO
      clear HO HOWN HRD HB HXL hi hlt
      go_wp2_with fail
      go_loopw [8, 44] (fun v8 v44 wq => ∃ (p j : Nat), v8 = .int .i64 p ∧ v44 = .int .i64 j ∧ Aside0 (p ≤ l0.length) ∧ Aside0 (j ≤ l1.length) ∧ Aside0 (IsRd wq N g (l0.drop p)) ∧ Aside0 (Below w.heap.size w wq)) (fun _ v44 _ => l1.length - (intOf v44).toNat)
      case atStart => exact ⟨0, 0, rfl, rfl, ⟨Nat.zero_le _⟩, ⟨Nat.zero_le _⟩, HR, HBR⟩
      case round =>
        obtain ⟨p, j, rfl, rfl, HP, HJ, HR2, HB2⟩ := hrel
        by_cases hlt : j < l1.length
        · have t1 : decide ((j : Int) < (l1.length : Int)) = true := decide_eq_true (by omega)
          obtain ⟨ad1, ea1, hx1⟩ := Kd.at_int (Kd.C_below HR1.out HB2.out) (j : Int) (by omega) (by omega)
          subst ea1
          simp only [Int.toNat_natCast] at hx1
          obtain ⟨n, hn⟩ : ∃ n, rd l1 (j : Int) = n := ⟨_, rfl⟩
          rw [hn] at hx1
          have HNV := Aside0.mk hn
          clear hn
          go_wp2_with fail
          refine (Take_calls wr N g (l0.drop p) n HR2.out).mono ?_
          rintro e w2 ⟨rfl, hRd, hB7, hs7⟩
          obtain ⟨q1, q2, q3, q4, q5⟩ := reads_same l0 p HP.out n
          have hB3 : Below w.heap.size w w2 := HB2.out.trans (hB7.mono (by have := HN.out; omega))
          have hx2 : w2.cell? (ad1.add j) = some (.int .i64 n) := by
            obtain ⟨ad, he, hc⟩ := Kd.at_int (Kd.C_below HR1.out hB3) (j : Int) (by omega) (by omega)
            injection he with he
            subst he
            rw [HNV.out] at hc
            simpa using hc
          have hcr := barscanref01_Take.calls 100 A0 c0 l0 p n (takeR l0 p n).1 (takeR l0 p n).2 w2 (Kd.C_below HR0.out hB3) HC0.out (refTake_is l0 p n 100 (by have := HL.out; omega) (by omega))
          rw [List.drop_drop] at hRd
          rw [q1, q2]
          generalize (rdTake (l0.drop p) n).2.2 = m at *
          generalize (takeR l0 p n).1 = vT at *
          generalize (takeR l0 p n).2 = eT at *
          have HCR := Aside0.mk hcr
          have HRD2 := Aside0.mk hRd
          have HB3 := Aside0.mk hB3
          have Q := Aside0.mk (And.intro q3 (And.intro q4 q5))
          clear hcr hRd hB3 q1 q2 q3 q4 q5 hs7 hB7 hx1
          go_wp2_with fail
          refine HCR.out.mono ?_
          rintro e w3 ⟨rfl, hD⟩
          have HD := Aside0.mk hD
          have HB4 := Aside0.mk (HB3.out.trans ((drawn_below hD).mono HB3.out.size))
          clear hD hx2
          have hx3 : w3.cell? (ad1.add j) = some (.int .i64 n) := by
            obtain ⟨ad, he, hc⟩ := Kd.at_int (Kd.C_below HR1.out HB4.out) (j : Int) (by omega) (by omega)
            injection he with he
            subst he
            rw [HNV.out] at hc
            simpa using hc
          have HR4 := Aside0.mk (HRD2.out.drawn HD.out)
          have hleft := Left_calls w3 N g (l0.drop (p + m)) HR4.out
          have HW1 := Aside0.mk (show wrap64 ((j : Int) + 1) = ((j + 1 : Nat) : Int) by have := HL1.out; unfold wrap64; omega)
          obtain ⟨p', hp'⟩ : ∃ p', p' = p + m := ⟨_, rfl⟩
          have hw2 : wrap64 ((l0.length : Int) - (p' : Int)) = (((l0.drop (p + m)).length : Nat) : Int) := by rw [List.length_drop, hp']; have := HL.out; have := Q.out.2.2; unfold wrap64; omega
          generalize (((l0.drop (p + m)).length : Nat) : Int) = q at *
          have HLEFT := Aside0.mk hleft
          have HP' := Aside0.mk hp'
          clear hleft hp'
          by_cases hE : eT = 0
          · have hm : wrap64 ((p : Int) + n) = (p' : Int) := by have := HP'.out; have := HL.out; have := Q.out.2.2; have := Q.out.1 hE; unfold wrap64; omega
            subst hE
            go_wp2_with (go_at_call 25; refine HLEFT.out.mono ?_; rintro e w4 ⟨rfl, hw_⟩; replace hw_ := hw_.symm; subst hw_)
            rw [HW1.out]
            refine ⟨⟨p', j + 1, rfl, rfl, ⟨by have := HP'.out; have := Q.out.2.2; omega⟩, ⟨by omega⟩, ⟨by rw [HP'.out]; exact HR4.out⟩, HB4⟩, ?_⟩
            simp only [intOf, Int.toNat_natCast]
            omega
          · have hE1 : (eT == 0) = false := beq_eq_false_iff_ne.mpr hE
            have hm0 : m = 0 := Q.out.2.1 hE
            obtain rfl : p' = p := by have := HP'.out; omega
            have HE := Aside0.mk hE
            clear hE
            subst hm0
            go_wp2_with (go_at_call 25; refine HLEFT.out.mono ?_; rintro e w4 ⟨rfl, hw_⟩; replace hw_ := hw_.symm; subst hw_)
            rw [HW1.out]
            refine ⟨⟨p', j + 1, rfl, rfl, HP, ⟨by omega⟩, ⟨by have := HR4.out; simpa using this⟩, HB4⟩, ?_⟩
            simp only [intOf, Int.toNat_natCast]
            omega
        · have t1 : decide ((j : Int) < (l1.length : Int)) = false := decide_eq_false (by omega)
          have t1n : decide (j < l1.length) = false := decide_eq_false hlt
          go_wp2_with (go_at_call 12; refine (barscanlaw01_alive.calls true _ rfl).mono ?_; rintro e w1 ⟨rfl, hB⟩; have HBL := Aside0.mk (bstep HB2.out hB); clear hB)
          go_ret
          exact ⟨rfl, HBL.out⟩
theorem barscanlaw01_BitsReads.calls (A0 : Option Addr) (c0 : Nat) (l0 : List Bool) (A1 : Option Addr) (c1 : Nat) (l1 : List Int) (r : Bool) (w : World) (hr0 : Kd.C Kd.bool w A0 l0.length l0) (hc0 : l0.length ≤ c0) (hr1 : Kd.C (Kd.int .i64) w A1 l1.length l1) (hc1 : l1.length ≤ c1) (h : barscanlaw01_BitsReads.f l0 l1 = some r) :
    Calls Try.prog 5 #[.slice A0 l0.length c0, .slice A1 l1.length c1] w fun e w' => e = .returned (.bool r) ∧ Below w.heap.size w w' := by
  obtain rfl : true = r := Option.some.inj h
  by_cases hg : 2000 < l0.length ∨ 100 < l1.length
  · exact reads_alive A0 c0 l0 A1 c1 l1 w hg
  · exact reads_runs A0 c0 l0 A1 c1 l1 w hr0 hc0 hr1 hc1 (by omega) (by omega)
end Go.Proofs.Ytochccmhcpeioaa.X
