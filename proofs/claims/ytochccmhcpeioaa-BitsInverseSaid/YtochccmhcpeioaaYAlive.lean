/- The chapter's examples hold. -/
import Derived.Test.YtochccmhcpeioaaYReader
import Derived.Test.YtochccmhcpeioaaXx1
import Derived.Test.YtochccmhcpeioaaXx2
import Derived.Test.YtochccmhcpeioaaXx3
import Derived.Deep.RegionWith
namespace Go.Proofs.Ytochccmhcpeioaa.X
open Go.RowKit Go.Proofs.YtochccmhcpeioaaW.PrintWords Go.Proofs.YtochccmhcpeioaaW.PrintLast Go.Proofs.YtochccmhcpeioaaW.PrintMore
set_option linter.unusedVariables false
set_option linter.unusedSimpArgs false

def barscanlaw01_alive.f : Option Bool := some true

theorem bstep {a b c : World} (h : Below a.heap.size a b) (k : Below b.heap.size b c) : Below a.heap.size a c := h.trans (k.mono h.size)
theorem drawn_below {a b : World} (h : Drawn0 a b) : Below a.heap.size a b := by
  obtain ⟨n, rfl⟩ := h
  exact pw_below_drewN (Below.refl _ _) n
theorem lit_cells {w : World} {t : TypeId} {vs : List Value} (i : Nat) (u : Value) (h : vs[i]? = some u) : (w.alloc (.cells vs.toArray t)).cell? ⟨w.heap.size, i, none⟩ = some u := by
  have hh : (w.alloc (.cells vs.toArray t)).heap[w.heap.size]? = some (.cells vs.toArray t) := World.alloc_heap_new w _
  unfold World.cell?
  simp only [hh]
  simpa using h
theorem lit_bools (w : World) (t : TypeId) (bs : List Bool) (h : bs.length ≤ 9223372036854775807) : Kd.C Kd.bool (w.alloc (.cells (bs.map Value.bool).toArray t)) (some ⟨w.heap.size, 0, none⟩) bs.length bs := by
  refine ⟨rfl, h, fun _ => ⟨_, rfl, fun j p hj => ⟨[.bool p], rfl, rfl, fun i u hu => ?_⟩⟩⟩
  obtain rfl : i = 0 := by
    cases i with
    | zero => rfl
    | succ i => simp at hu
  obtain rfl : Value.bool p = u := by simpa using hu
  have h1 : (bs.map Value.bool)[j]? = some (.bool p) := by rw [List.getElem?_map, hj]; rfl
  have h2 := lit_cells (w := w) (t := t) j _ h1
  rw [show (⟨w.heap.size, 0, none⟩ : Addr).add (j * Kd.bool.sz + 0) = ⟨w.heap.size, j, none⟩ by simp [Addr.add, show Kd.bool.sz = 1 from rfl]; try omega]
  exact h2
theorem lit_ints (w : World) (t : TypeId) (bs : List Int) (h : bs.length ≤ 9223372036854775807) : Kd.C (Kd.int .i64) (w.alloc (.cells (bs.map (Value.int .i64)).toArray t)) (some ⟨w.heap.size, 0, none⟩) bs.length bs := by
  refine ⟨rfl, h, fun _ => ⟨_, rfl, fun j p hj => ⟨[.int .i64 p], rfl, rfl, fun i u hu => ?_⟩⟩⟩
  obtain rfl : i = 0 := by
    cases i with
    | zero => rfl
    | succ i => simp at hu
  obtain rfl : Value.int .i64 p = u := by simpa using hu
  have h1 : (bs.map (Value.int .i64))[j]? = some (.int .i64 p) := by rw [List.getElem?_map, hj]; rfl
  have h2 := lit_cells (w := w) (t := t) j _ h1
  rw [show (⟨w.heap.size, 0, none⟩ : Addr).add (j * (Kd.int .i64).sz + 0) = ⟨w.heap.size, j, none⟩ by simp [Addr.add, show (Kd.int .i64).sz = 1 from rfl]; try omega]
  exact h2

theorem e_append : bits_Append.f 9 [] 11 4 = some ([true, false, true, true], 0) := by decide +kernel
theorem e_parse : bits_Parse.f 9 ⟨#[49, 48, 49, 49]⟩ = some ([true, false, true, true], 0) := by decide +kernel
theorem e_take : bits_Take.f 9 [true, false, true, true] 1 3 = some (3, 0) := by decide +kernel
theorem e_words : bits_Words.f [true, false, true] 2 true = some ([2, 3], 0) := by decide +kernel
theorem e_fromwords : bits_FromWords.f 20 [2, 3] 2 = some ([true, false, true, true], 0) := by decide +kernel
theorem e_bytes : bits_Bytes.f 9 [true] = some [128] := by decide +kernel
theorem e_same : barscanref01_Same.f 9 [true, false, true, true] [true, false, true, true] = some true := by decide +kernel
theorem e_ints : barscanref01_Ints.f 9 [2, 3] [2, 3] = some true := by decide +kernel
theorem e_format : bits_Format.f 9 [true, false, true, true] = some ⟨#[49, 48, 49, 49]⟩ := by decide +kernel
theorem e_weight : bits_Weight.f 9 [true, false, true, true] = some 3 := by decide +kernel

set_option maxHeartbeats 4000000 in
set_option maxRecDepth 100000 in
theorem barscanlaw01_alive.calls (r : Bool) (w : World) (h : barscanlaw01_alive.f = some r) :
    Calls Try.prog 12 #[] w fun e w' => e = .returned (.bool r) ∧ Below w.heap.size w w' := by
  obtain rfl : true = r := Option.some.inj h
  clear h
  go_enter Try.func12, Try.ntmps12
  go_wp2_with fail
  refine (bits_Append.calls 9 none 0 [] 11 4 _ _ _ (Kd.C_nil _ _) (by simp) e_append).mono ?_
  rintro e w1 ⟨v1, rfl, hR1, hB1⟩
  obtain ⟨A1, c1, rfl⟩ := Kd.R_slice hR1
  have H1 := Aside0.mk (And.intro (Kd.R_reads' hR1).2 hB1)
  clear hR1 hB1
  go_wp2_with fail
  refine (bits_Parse.calls 9 ⟨#[49, 48, 49, 49]⟩ _ _ _ e_parse).mono ?_
  rintro e w2 ⟨v2, rfl, hR2, hB2⟩
  obtain ⟨A2, c2, rfl⟩ := Kd.R_slice hR2
  have H2 := Aside0.mk (And.intro (Kd.R_reads' hR2).2 hB2)
  clear hR2 hB2
  go_wp2_with fail
  refine (bits_Take.calls 9 A1 c1 [true, false, true, true] 1 3 _ _ _ (Kd.C_below H1.out.1.2 H2.out.2) H1.out.1.1 e_take).mono ?_
  rintro e w3 ⟨rfl, hB3⟩
  have H3 := Aside0.mk (drawn_below hB3)
  clear hB3
  go_wp2_with fail
  refine (bits_Words.calls (some ⟨_, 0, none⟩) 3 [true, false, true] 2 true _ _ _ (lit_bools w3 _ _ (by simp)) (by simp) e_words).mono ?_
  rintro e w4 ⟨v4, rfl, hR4, hB4⟩
  obtain ⟨A4, c4, rfl⟩ := Kd.R_slice hR4
  have H4 := Aside0.mk (And.intro (Kd.R_reads' hR4).2 (bstep (below_alloc (Below.refl _ _) _) hB4))
  clear hR4 hB4
  go_wp2_with fail
  refine (bits_FromWords.calls 20 (some ⟨_, 0, none⟩) 2 [2, 3] 2 _ _ _ (lit_ints w4 _ _ (by simp)) (by simp) e_fromwords).mono ?_
  rintro e w5 ⟨v5, rfl, hR5, hB5⟩
  obtain ⟨A5, c5, rfl⟩ := Kd.R_slice hR5
  have H5 := Aside0.mk (And.intro (Kd.R_reads' hR5).2 (bstep (below_alloc (Below.refl _ _) _) hB5))
  clear hR5 hB5
  have B25 := Aside0.mk (bstep (bstep H3.out H4.out.2) H5.out.2)
  go_wp2_with fail
  refine (NewReader_calls A2 c2 [true, false, true, true] w5 (Kd.C_below H2.out.1.2 B25.out) H2.out.1.1 (by simp)).mono ?_
  rintro e w6 ⟨g, rfl, hg, hRd, hB6⟩
  have H6 := Aside0.mk (And.intro hRd (And.intro hg hB6))
  clear hRd hB6 hg
  go_wp2_with fail
  refine (Take_calls w6 _ g _ 2 H6.out.1).mono ?_
  rintro e w7 ⟨rfl, hRd, hB7, hs7⟩
  have hB7' : Below w5.heap.size w5 w7 := H6.out.2.2.trans (hB7.mono H6.out.2.1)
  have H7 := Aside0.mk (And.intro hRd hB7')
  clear hRd hB7 hs7 hB7'
  have e7 : rdTake [true, false, true, true] 2 = (2, 0, 2) := by decide +kernel
  rw [e7]
  clear e7
  go_wp2_with fail
  refine (bits_Bytes.calls 9 (some ⟨_, 0, none⟩) 1 [true] _ _ (lit_bools w7 _ _ (by simp)) (by simp) e_bytes).mono ?_
  rintro e w8 ⟨v8, rfl, hR8, hB8⟩
  obtain ⟨A8, c8, rfl⟩ := Kd.R_slice hR8
  have H8 := Aside0.mk (And.intro (Kd.R_reads' hR8).2 (bstep (below_alloc (Below.refl _ _) _) hB8))
  clear hR8 hB8
  have B58 := Aside0.mk (bstep H7.out.2 H8.out.2)
  have B28 := Aside0.mk (bstep B25.out B58.out)
  have B18 := Aside0.mk (bstep H2.out.2 B28.out)
  have B48 := Aside0.mk (bstep H5.out.2 B58.out)
  have B08 := Aside0.mk (bstep H1.out.2 B18.out)
  have C1 := Aside0.mk (Kd.C_below H1.out.1.2 B18.out)
  have C2 := Aside0.mk (Kd.C_below H2.out.1.2 B28.out)
  have C5 := Aside0.mk (Kd.C_below H5.out.1.2 B58.out)
  have C4 := Aside0.mk (Kd.C_below H4.out.1.2 B48.out)
  have RD := Aside0.mk (H7.out.1.below H8.out.2 H7.out.1.lt)
  obtain ⟨ad8, rfl, hx8⟩ := Kd.at_int H8.out.1.2 0 (by decide) (by decide)
  go_wp2_with fail
  refine (barscanref01_Same.calls 9 A1 c1 [true, false, true, true] A2 c2 [true, false, true, true] _ _ C1.out H1.out.1.1 C2.out H2.out.1.1 e_same).mono ?_
  rintro e w9 ⟨rfl, hD⟩
  have D9 := Aside0.mk (drawn_below hD)
  clear hD
  go_wp2_with fail
  refine (barscanref01_Same.calls 9 A5 c5 [true, false, true, true] A2 c2 [true, false, true, true] _ _ (Kd.C_below C5.out D9.out) H5.out.1.1 (Kd.C_below C2.out D9.out) H2.out.1.1 e_same).mono ?_
  rintro e w10 ⟨rfl, hD⟩
  have D10 := Aside0.mk (bstep D9.out (drawn_below hD))
  clear hD D9
  go_wp2_with fail
  refine (barscanref01_Ints.calls 9 A4 c4 [2, 3] (some ⟨_, 0, none⟩) 2 [2, 3] _ _ (Kd.C_below C4.out (below_alloc D10.out _)) H4.out.1.1 (lit_ints w10 _ _ (by simp)) (by simp) e_ints).mono ?_
  rintro e w11 ⟨rfl, hD⟩
  have D11 := Aside0.mk (bstep (below_alloc D10.out _) (drawn_below hD))
  clear hD D10
  go_wp2_with fail
  refine (Left_calls w11 _ g _ (RD.out.below D11.out RD.out.lt)).mono ?_
  rintro e w12 ⟨rfl, hw⟩
  replace hw := hw.symm
  subst hw
  have hx8' : w11.cell? ad8 = some (.int .u8 128) := by
    obtain ⟨ad, he, hc⟩ := Kd.at_int (Kd.C_below H8.out.1.2 D11.out) 0 (by decide) (by decide)
    injection he with he
    subst he
    simpa [Addr.add, rd] using hc
  clear hx8
  go_wp2_with fail
  refine (bits_Format.calls 9 A1 c1 [true, false, true, true] _ _ (Kd.C_below C1.out D11.out) H1.out.1.1 e_format).mono ?_
  rintro e w13 ⟨rfl, hB13⟩
  have D13 := Aside0.mk (bstep D11.out hB13)
  clear hB13 D11 hx8'
  go_wp2_with fail
  refine (bits_Weight.calls 9 A1 c1 [true, false, true, true] _ _ (Kd.C_below C1.out D13.out) H1.out.1.1 e_weight).mono ?_
  rintro e w14 ⟨rfl, hD⟩
  have D14 := Aside0.mk (bstep (bstep B08.out D13.out) (drawn_below hD))
  clear hD D13
  go_wp2_with fail
  go_ret
  exact ⟨rfl, D14.out⟩
end Go.Proofs.Ytochccmhcpeioaa.X
