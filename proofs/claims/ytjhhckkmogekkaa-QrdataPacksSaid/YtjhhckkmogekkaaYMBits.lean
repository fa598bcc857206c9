/- modes.Bits: the number of bits of a list of segments, or the error. No condition. -/
import Derived.Test.YtjhhckkmogekkaaYMIndex
import Derived.Deep.RegionWith
namespace Go.Proofs.Ytjhhckkmogekkaa.X
open Go.RowKit Go.Proofs.YtjhhckkmogekkaaW.PrintWords Go.Proofs.YtjhhckkmogekkaaW.PrintLast Go.Proofs.YtjhhckkmogekkaaW.PrintMore
set_option linter.unusedVariables false
set_option linter.unusedSimpArgs false

def segBits (cls : Int) (s : S59) : Int := 4 + cbOf s.f0 cls + dbOf s.f0 s.f1.length
def sumBits (cls : Int) : List S59 → Int
  | [] => 0
  | s :: l => segBits cls s + sumBits cls l
def badMode (cls : Int) (s : S59) : Bool := decide (cbOf s.f0 cls = 0)
def tooLong (cls : Int) (s : S59) : Bool := decide (2 ^ (cbOf s.f0 cls).toNat ≤ s.f1.length)
def badChar (s : S59) : Bool := s.f1.any (fun x => !fitOf s.f0 x)
def mbits (l : List S59) (cls : Int) : Int × Int :=
  if cls < 0 ∨ 2 < cls ∨ l.any (badMode cls) = true then (0, 1)
  else if 4096 < l.length ∨ l.any (tooLong cls) = true then (0, 4)
  else if l.any badChar = true then (0, 6)
  else if 1048576 < sumBits cls l then (0, 4) else (sumBits cls l, 0)
def modes_Bits.f (l0 : List S59) (a1 : Int) : Option (Int × Int) := some (mbits l0 a1)

theorem segBits_range (cls : Int) (s : S59) (h : tooLong cls s = false) : 0 ≤ segBits cls s ∧ segBits cls s ≤ 600000 ∧ s.f1.length ≤ 65536 := by
  unfold tooLong at h
  have h := of_decide_eq_false h
  obtain ⟨h0, h16⟩ := cbOf_range s.f0 cls
  have hp := Nat.pow_le_pow_right (n := 2) (by omega) (show (cbOf s.f0 cls).toNat ≤ 16 by omega)
  have hl : s.f1.length ≤ 65536 := by omega
  have hd := dbOf_range s.f0 s.f1.length (by omega)
  unfold segBits
  omega
theorem sumBits_append (cls : Int) (l m : List S59) : sumBits cls (l ++ m) = sumBits cls l + sumBits cls m := by
  induction l with
  | nil => simp [sumBits]
  | cons s l ih => simp [sumBits, ih]; omega
theorem sumBits_range (cls : Int) (l : List S59) (h : l.any (tooLong cls) = false) : 0 ≤ sumBits cls l ∧ sumBits cls l ≤ 600000 * l.length := by
  induction l with
  | nil => simp [sumBits]
  | cons s l ih =>
    simp only [List.any_cons, Bool.or_eq_false_iff] at h
    have h1 := ih h.2
    have h2 := segBits_range cls s h.1
    simp only [sumBits, List.length_cons]
    omega

set_option maxHeartbeats 4000000 in
set_option maxRecDepth 100000 in
theorem bits_cls (A0 : Option Addr) (c0 : Nat) (l0 : List S59) (cls : Int) (w : World) (h : cls < 0 ∨ 2 < cls) :
    Calls Try.prog 51 #[.slice A0 l0.length c0, .int .i64 cls] w fun e w' => e = .returned (.tuple #[.int .i64 0, .int .i64 1]) ∧ Below w.heap.size w w' := by
  rcases h with h | h
  · have d1 : decide (cls < 0) = true := decide_eq_true h
    clear h
    go_enter Try.func51, Try.ntmps51
    go_wp2_with fail
    go_ret2
    exact ⟨rfl, below_alloc (Below.refl _ _) _⟩
  · have d1 : decide (cls < 0) = false := decide_eq_false (by omega)
    have d2 : decide (2 < cls) = true := decide_eq_true h
    clear h
    go_enter Try.func51, Try.ntmps51
    go_wp2_with fail
    go_ret2
    exact ⟨rfl, below_alloc (Below.refl _ _) _⟩

set_option maxHeartbeats 4000000 in
set_option maxRecDepth 100000 in
theorem bits_walk (A0 : Option Addr) (c0 : Nat) (l0 : List S59) (cls : Int) (w : World) (hr0 : Kd.C k59 w A0 l0.length l0) (hc0 : l0.length ≤ c0) (h0 : 0 ≤ cls) (h2 : cls ≤ 2) :
    Calls Try.prog 51 #[.slice A0 l0.length c0, .int .i64 cls] w fun e w' => e = .returned (.tuple #[.int .i64 (mbits l0 cls).1, .int .i64 (mbits l0 cls).2]) ∧ Below w.heap.size w w' := by
  have d1 : decide (cls < 0) = false := decide_eq_false (by omega)
  have d2 : decide (2 < cls) = false := decide_eq_false (by omega)
  have hl := hr0.2.1
  have HR0 := Aside0.mk hr0
  have HC0 := Aside0.mk hc0
  have HL := Aside0.mk hl
  have hm : mbits l0 cls = if l0.any (badMode cls) = true then (0, 1) else if 4096 < l0.length ∨ l0.any (tooLong cls) = true then (0, 4) else if l0.any badChar = true then (0, 6) else if 1048576 < sumBits cls l0 then (0, 4) else (sumBits cls l0, 0) := by
    unfold mbits
    by_cases hb : l0.any (badMode cls) = true
    · rw [if_pos (by simp [hb]), if_pos hb]
    · rw [if_neg (by rintro (h | h | h); · omega
                     · omega
                     · exact hb h), if_neg hb]
  have HM := Aside0.mk hm
  have HCL := Aside0.mk (And.intro h0 h2)
  clear hr0 hc0 hl h0 h2 hm
  have hcc : ∀ o : Obj, o = .cells #[.int .i64 cls] 3 → (w.alloc o).cell? ⟨w.heap.size, 0, none⟩ = some (.int .i64 cls) := by rintro o rfl; simp
  have hcc := hcc _ rfl
  go_enter Try.func51, Try.ntmps51
  go_wp2_with fail
  have hB0 : Below w.heap.size w (w.alloc (.cells #[.int .i64 cls] 3)) := below_alloc (Below.refl _ _) _
  have hgl : w.heap.size < (w.alloc (.cells #[.int .i64 cls] 3)).heap.size := by simp
  generalize w.alloc (.cells #[.int .i64 cls] 3) = W0 at *
  obtain ⟨g, hg⟩ : ∃ g, g = w.heap.size := ⟨_, rfl⟩
  rw [← hg] at hcc hgl hB0 ⊢
  have hcall := Contains1_calls cls g A0 c0 l0 W0 (Kd.C_below HR0.out (by rw [← hg]; exact hB0)) HC0.out hcc hgl HL.out
  have HB0 := Aside0.mk hB0
  have HG := Aside0.mk (And.intro hcc hgl)
  rw [show (l0.any fun s => decide (cbOf s.f0 cls = 0)) = l0.any (badMode cls) from rfl] at hcall
  have HCALL := Aside0.mk hcall
  have HGW := Aside0.mk hg
  clear hcall hcc hgl hB0 hg
  refine HCALL.out.mono ?_
  rintro e w1 ⟨rfl, hB1⟩
  have HRW := Aside0.mk (Kd.C_below HR0.out (by rw [← HGW.out]; exact HB0.out))
  have HFIN := Aside0.mk (show ∀ W' : World, Below W0.heap.size W0 W' → Below w.heap.size w W' from fun W' h => by rw [← HGW.out]; exact HB0.out.trans (h.mono (by have := HG.out.2; omega)))
  have HB1 := Aside0.mk hB1
  have HG1 := Aside0.mk (And.intro (pw_cell_below hB1 HG.out.1) (Nat.lt_of_lt_of_le HG.out.2 hB1.size))
  clear hB1 HCALL
  cases hbm : l0.any (badMode cls) with
  | true =>
    have HE := Aside0.mk (show mbits l0 cls = (0, 1) by rw [HM.out, if_pos hbm])
    clear hbm
    go_wp2_with fail
    go_ret2
    exact ⟨by rw [HE.out]; rfl, HFIN.out _ HB1.out⟩
  | false =>
    have HBM := Aside0.mk hbm
    clear hbm
    by_cases h4 : 4096 < l0.length
    · have d3 : decide ((4096 : Int) < (l0.length : Int)) = true := decide_eq_true (by omega)
      have d3n : decide (4096 < l0.length) = true := decide_eq_true h4
      have HE := Aside0.mk (show mbits l0 cls = (0, 4) by rw [HM.out, if_neg (by rw [HBM.out]; simp), if_pos (.inl h4)])
      clear h4
      go_wp2_with fail
      go_ret2
      exact ⟨by rw [HE.out]; rfl, HFIN.out _ HB1.out⟩
    · have d3 : decide ((4096 : Int) < (l0.length : Int)) = false := decide_eq_false (by omega)
      have d3n : decide (4096 < l0.length) = false := decide_eq_false h4
      have hcall := Contains2_calls cls g A0 c0 l0 w1 (Kd.C_below HRW.out HB1.out) HC0.out HG1.out.1 HG1.out.2 HL.out
      rw [show (l0.any fun s => decide (2 ^ (cbOf s.f0 cls).toNat ≤ s.f1.length)) = l0.any (tooLong cls) from rfl] at hcall
      have HCALL := Aside0.mk hcall
      have H4 := Aside0.mk h4
      clear hcall h4
      go_wp2_with fail
      refine HCALL.out.mono ?_
      rintro e w2 ⟨rfl, hB2⟩
      have HB2 := Aside0.mk (bstep HB1.out hB2)
      have HG2 := Aside0.mk (And.intro (pw_cell_below hB2 HG1.out.1) (Nat.lt_of_lt_of_le HG1.out.2 hB2.size))
      clear hB2 HCALL
      cases htl : l0.any (tooLong cls) with
      | true =>
        have HE := Aside0.mk (show mbits l0 cls = (0, 4) by rw [HM.out, if_neg (by rw [HBM.out]; simp), if_pos (.inr htl)])
        clear htl
        go_wp2_with fail
        go_ret2
        exact ⟨by rw [HE.out]; rfl, HFIN.out _ HB2.out⟩
      | false =>
        have HM2 := Aside0.mk (show mbits l0 cls = if l0.any badChar = true then (0, 6) else if 1048576 < sumBits cls l0 then (0, 4) else (sumBits cls l0, 0) by rw [HM.out, if_neg (by rw [HBM.out]; simp), if_neg (by have := H4.out; rw [htl]; simp; omega)])
        have HTL := Aside0.mk htl
        clear htl d3 d3n
        clear HB1 HG1 HR0 HB0 HM HBM
        go_wp2_with fail
        go_loopw [6, 30] (fun v6 v30 wr => ∃ i : Nat, v30 = .int .i64 i ∧ v6 = .int .i64 (sumBits cls (l0.take i)) ∧ Aside0 (i ≤ l0.length ∧ (l0.take i).any badChar = false) ∧ Aside0 (Below W0.heap.size W0 wr)) (fun _ v30 _ => l0.length - (intOf v30).toNat)
        case atStart => exact ⟨0, rfl, by simp [sumBits], ⟨Nat.zero_le _, by simp⟩, HB2⟩
        case round =>
          obtain ⟨i, rfl, rfl, HI, HB⟩ := hrel
          by_cases hlt : i < l0.length
          · have t0 : decide ((i : Int) < (l0.length : Int)) = true := decide_eq_true (by omega)
            have t0n : decide (i < l0.length) = true := decide_eq_true hlt
            obtain ⟨ad, A1, c1, rfl, hx0, hx1, hc1, hC1⟩ := at_T59 (Kd.C_below HRW.out HB.out) (i : Int) (by omega) (by omega)
            simp only [Int.toNat_natCast] at hx0 hx1
            have hsi : rd_T59 l0 i = l0[i] := by simp [rd_T59, List.getD_eq_getElem?_getD, List.getElem?_eq_getElem hlt]
            rw [hsi] at hx0 hx1 hc1 hC1
            have hts : tooLong cls l0[i] = false := by
              have h1 := List.any_eq_false.1 HTL.out l0[i] (List.getElem_mem hlt)
              simpa using h1
            have hsr := segBits_range cls l0[i] hts
            have hts2 : sumBits cls (l0.take (i + 1)) = sumBits cls (l0.take i) + segBits cls l0[i] := by
              rw [List.take_succ_eq_append_getElem hlt, sumBits_append]; simp [sumBits]
            have hsum := sumBits_range cls (l0.take i) (by
              refine List.any_eq_false.2 (fun x hx => ?_)
              have := List.any_eq_false.1 HTL.out x (List.mem_of_mem_take hx)
              exact this)
            have hch : (l0.take (i + 1)).any badChar = badChar l0[i] := by
              rw [List.take_succ_eq_append_getElem hlt, List.any_append, HI.out.2]; simp
            have hmem := List.getElem_mem hlt
            have HC1 := Aside0.mk hC1
            have HC1' := Aside0.mk hc1
            have HSR := Aside0.mk hsr
            have HSUM := Aside0.mk (And.intro hts2 (And.intro hsum hch))
            have HMEM := Aside0.mk hmem
            have hsm : segBits cls l0[i] = 4 + cbOf l0[i].f0 cls + dbOf l0[i].f0 l0[i].f1.length := rfl
            have HSM := Aside0.mk hsm
            clear hsi hts hsr hts2 hsum hch hC1 hc1 hmem hsm
            have HLT := Aside0.mk hlt
            generalize hs : l0[i] = s at *
            have hy0 : (wr.alloc (.cells #[.int .i64 s.f0, .slice A1 s.f1.length c1] 59)).cell? ⟨wr.heap.size, 0, none⟩ = some (.int .i64 s.f0) := by simp
            have hy1 : (wr.alloc (.cells #[.int .i64 s.f0, .slice A1 s.f1.length c1] 59)).cell? ⟨wr.heap.size, 1, none⟩ = some (.slice A1 s.f1.length c1) := by simp
            have hBa : Below wr.heap.size wr (wr.alloc (.cells #[.int .i64 s.f0, .slice A1 s.f1.length c1] 59)) := below_alloc (Below.refl _ _) _
            have hgs : wr.heap.size < (wr.alloc (.cells #[.int .i64 s.f0, .slice A1 s.f1.length c1] 59)).heap.size := by simp
            go_wp2_with fail
            generalize wr.alloc (.cells #[.int .i64 s.f0, .slice A1 s.f1.length c1] 59) = W4 at *
            have hcall := Contains3_calls s.f0 wr.heap.size A1 c1 s.f1 W4 (Kd.C_below HC1.out hBa) HC1'.out hy0 hgs HC1.out.2.1
            have HB4 := Aside0.mk (bstep HB.out hBa)
            rw [show (s.f1.any fun x => !fitOf s.f0 x) = badChar s from rfl] at hcall
            clear hBa hx0 hx1
            generalize wr.heap.size = gs at *
            refine hcall.mono ?_
            rintro e w5 ⟨rfl, hB5⟩
            clear hcall
            have hz0 := pw_cell_below hB5 hy0
            have hz1 := pw_cell_below hB5 hy1
            have HB5 := Aside0.mk (bstep HB4.out hB5)
            have hcg := pw_cell_below HB5.out HG.out.1
            clear hB5 hy0 hy1 HB4 hgs
            cases hbc : badChar s with
            | true =>
              have HE := Aside0.mk (show mbits l0 cls = (0, 6) by
                rw [HM2.out, if_pos]
                exact List.any_eq_true.2 ⟨s, HMEM.out, hbc⟩)
              clear hbc
              go_wp2_with fail
              go_ret2
              exact ⟨by rw [HE.out]; rfl, HFIN.out _ HB5.out⟩
            | false =>
              have HBC := Aside0.mk hbc
              clear hbc
              have hcb := countBits_is 0 s.f0 cls
              have hdb := dataBits_is s.f0 s.f1.length (by omega) (by have := HSR.out.2.2; omega)
              have HSZ := Aside0.mk (And.intro (cbOf_range s.f0 cls) (dbOf_range s.f0 s.f1.length (by omega)))
              have HCB := Aside0.mk hcb
              have HDB := Aside0.mk hdb
              clear hcb hdb
              have HW := Aside0.mk (show wrap64 ((i : Int) + 1) = ((i + 1 : Nat) : Int) by have := H4.out; have := HLT.out; unfold wrap64; omega)
              have HN := Aside0.mk (show wrap64 (sumBits cls (List.take i l0) + wrap64 (wrap64 (4 + cbOf s.f0 cls) + dbOf s.f0 s.f1.length)) = sumBits cls (List.take (i + 1) l0) by
                rw [HSUM.out.1, HSM.out]
                have h1 := HSUM.out.2.1
                have h2 := HSZ.out
                have h3 := HSR.out
                have h4 := H4.out
                simp only [List.length_take] at h1
                rw [wrap64_id (4 + cbOf s.f0 cls) (by omega) (by omega), wrap64_id (4 + cbOf s.f0 cls + dbOf s.f0 s.f1.length) (by omega) (by omega), wrap64_id _ (by omega) (by omega)])
              have HCH := Aside0.mk (show (l0.take (i + 1)).any badChar = false by rw [HSUM.out.2.2]; exact HBC.out)
              have hfin : ∀ wz : World, Below W0.heap.size W0 wz → ((∃ i_1 : Nat,
                  Value.int IntKind.i64 (wrap64 ((i : Int) + 1)) = Value.int IntKind.i64 i_1 ∧
                    Value.int IntKind.i64 (wrap64 (sumBits cls (List.take i l0) + wrap64 (wrap64 (4 + cbOf s.f0 cls) + dbOf s.f0 s.f1.length))) = Value.int IntKind.i64 (sumBits cls (List.take i_1 l0)) ∧
                      Aside0 (i_1 ≤ l0.length ∧ (List.take i_1 l0).any badChar = false) ∧ Aside0 (Below W0.heap.size W0 wz)) ∧
                l0.length - (intOf (Value.int IntKind.i64 (wrap64 ((i : Int) + 1)))).toNat < l0.length - (intOf (Value.int IntKind.i64 (i : Int))).toNat) := by
                intro wz hz
                rw [HN.out, HW.out]
                refine ⟨⟨i + 1, rfl, rfl, ⟨HLT.out, HCH.out⟩, ⟨hz⟩⟩, ?_⟩
                have := HLT.out
                simp only [intOf, Int.toNat_natCast]
                omega
              have HF := Aside0.mk hfin
              clear hfin HW HN HCH HBC HSZ HSM HSUM HSR HMEM HC1 HC1' HM2 HTL H4 HI HB HLT hcc HB2 HG2 HRW HL HCL HG HGW d1 d2 t0 t0n
              clear HFIN HC0
              go_upto_region 11 with (fail)
              go_region_with (first | (go_at_call 45; refine (modes_countBits.calls 1 s.f0 cls _ _ HCB.out).mono ?_; rintro e w6 ⟨rfl, hB⟩; have hz0 := pw_cell_below hB hz0; have hz1 := pw_cell_below hB hz1; have hcg := pw_cell_below hB hcg; have HB5 := Aside0.mk (show Below W0.heap.size W0 w6 from by first | exact bstep HB5.out hB | exact bstep (below_drew HB5.out) hB); clear hB) | (go_at_call 67; refine (modes_dataBits.calls s.f0 s.f1.length _ _ HDB.out).mono ?_; rintro e w7 ⟨rfl, hB⟩; have hz0 := pw_cell_below hB hz0; have hz1 := pw_cell_below hB hz1; have hcg := pw_cell_below hB hcg; have HB5 := Aside0.mk (show Below W0.heap.size W0 w7 from by first | exact bstep HB5.out hB | exact bstep (below_drew HB5.out) hB); clear hB))
              all_goals
                go_wp2_with fail
                first | exact HF.out _ HB5.out | exact HF.out _ (below_drew HB5.out)
          · have t0 : decide ((i : Int) < (l0.length : Int)) = false := decide_eq_false (by omega)
            have t0n : decide (i < l0.length) = false := decide_eq_false hlt
            have hi : l0.take i = l0 := List.take_of_length_le (by omega)
            rw [hi] at HI ⊢
            by_cases hbig : 1048576 < sumBits cls l0
            · have b1 : decide (1048576 < sumBits cls l0) = true := decide_eq_true hbig
              have HE := Aside0.mk (show mbits l0 cls = (0, 4) by rw [HM2.out, if_neg (by rw [HI.out.2]; simp), if_pos hbig])
              clear hbig hi hlt
              go_wp2_with fail
              go_ret2
              exact ⟨by rw [HE.out]; rfl, HFIN.out _ HB.out⟩
            · have b1 : decide (1048576 < sumBits cls l0) = false := decide_eq_false hbig
              have HE := Aside0.mk (show mbits l0 cls = (sumBits cls l0, 0) by rw [HM2.out, if_neg (by rw [HI.out.2]; simp), if_neg hbig])
              clear hbig hi hlt
              go_wp2_with fail
              go_ret2
              exact ⟨by rw [HE.out]; rfl, HFIN.out _ HB.out⟩

theorem modes_Bits.calls (A0 : Option Addr) (c0 : Nat) (l0 : List S59) (a1 : Int) (r1 r2 : Int) (w : World) (hr0 : Kd.C k59 w A0 l0.length l0) (hc0 : l0.length ≤ c0) (h : modes_Bits.f l0 a1 = some (r1, r2)) :
    Calls Try.prog 51 #[.slice A0 l0.length c0, .int .i64 a1] w fun e w' => e = .returned (.tuple #[.int .i64 r1, .int .i64 r2]) ∧ Below w.heap.size w w' := by
  have h := Option.some.inj h
  rw [show r1 = (mbits l0 a1).1 by rw [h], show r2 = (mbits l0 a1).2 by rw [h]]
  by_cases hc : a1 < 0 ∨ 2 < a1
  · rw [show mbits l0 a1 = (0, 1) by unfold mbits; rw [if_pos (by rcases hc with hc | hc; · exact .inl hc
                                                                  · exact .inr (.inl hc))]]
    exact bits_cls A0 c0 l0 a1 w hc
  · exact bits_walk A0 c0 l0 a1 w hr0 hc0 (by omega) (by omega)
end Go.Proofs.Ytjhhckkmogekkaa.X
