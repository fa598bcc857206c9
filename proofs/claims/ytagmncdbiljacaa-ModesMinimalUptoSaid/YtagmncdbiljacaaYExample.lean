/- The example of the statements on modes answers true. No condition. -/
import Derived.Test.YtagmncdbiljacaaXx6
import Derived.Test.YtagmncdbiljacaaYMEncode
import Derived.Test.YtagmncdbiljacaaYMDecode
import Derived.Test.YtagmncdbiljacaaYOne
import Derived.Test.YtagmncdbiljacaaXx24
import Derived.Lib.SlBytesConst
import Derived.Test.YtagmncdbiljacaaXx23
import Derived.Test.YtagmncdbiljacaaXx21
namespace Go.Proofs.Ytagmncdbiljacaa.X
open Go.RowKit Go.Shelf Go.Proofs.YtagmncdbiljacaaW.PrintWords Go.Proofs.YtagmncdbiljacaaW.PrintLast Go.Proofs.YtagmncdbiljacaaW.PrintMore
set_option linter.unusedVariables false
set_option linter.unusedSimpArgs false

def barscanlaw16_exampleHolds.f : Option Bool := some true

theorem lit_cells {w : World} {t : TypeId} {vs : List Value} (i : Nat) (u : Value) (h : vs[i]? = some u) (z : Nat × Nat) : (w.alloc (.cells vs.toArray t z)).cell? ⟨w.heap.size, i, none⟩ = some u := by
  have hh : (w.alloc (.cells vs.toArray t z)).heap[w.heap.size]? = some (.cells vs.toArray t z) := World.alloc_heap_new w _
  unfold World.cell?
  simp only [hh]
  simpa using h
theorem lit_bytes (w : World) (t : TypeId) (bs : List Int) (h : bs.length ≤ 9223372036854775807) (z : Nat × Nat) : Kd.C (Kd.int .u8) (w.alloc (.cells (bs.map (Value.int .u8)).toArray t z)) (some ⟨w.heap.size, 0, none⟩) bs.length bs := by
  refine ⟨rfl, h, fun _ => ⟨_, rfl, fun j p hj => ⟨[.int .u8 p], rfl, rfl, fun i u hu => ?_⟩⟩⟩
  obtain rfl : i = 0 := by
    cases i with
    | zero => rfl
    | succ i => simp at hu
  obtain rfl : Value.int .u8 p = u := by simpa using hu
  have h1 : (bs.map (Value.int .u8))[j]? = some (.int .u8 p) := by rw [List.getElem?_map, hj]; rfl
  have h2 := lit_cells (w := w) (t := t) j _ h1 z
  rw [show (⟨w.heap.size, 0, none⟩ : Addr).add (j * (Kd.int .u8).sz + 0) = ⟨w.heap.size, j, none⟩ by simp [Addr.add, show (Kd.int .u8).sz = 1 from rfl]; try omega]
  exact h2

theorem e_best1 : modes_Best.f 500 [72, 69, 76, 76, 79, 32, 87, 79, 82, 76, 68] 0 = some (([⟨2, [72, 69, 76, 76, 79, 32, 87, 79, 82, 76, 68]⟩] : List S33), 74, 0) := by kernel_rfl
theorem e_best2 : modes_Best.f 500 [97, 98, 99, 49, 50, 51] 0 = some (([⟨4, [97, 98, 99, 49, 50, 51]⟩] : List S33), 60, 0) := by kernel_rfl
theorem e_one1 : barscanlaw16_one.f 1 (⟨#[48, 49, 50, 51, 52, 53, 54, 55]⟩ : ByteArray) = some ([⟨1, [48, 49, 50, 51, 52, 53, 54, 55]⟩] : List S33) := by kernel_rfl
theorem e_one2 : barscanlaw16_one.f 2 (⟨#[65, 67, 45, 52, 50]⟩ : ByteArray) = some ([⟨2, [65, 67, 45, 52, 50]⟩] : List S33) := by kernel_rfl
theorem e_enc1 : modes_Encode.f ([⟨1, [48, 49, 50, 51, 52, 53, 54, 55]⟩] : List S33) 0 = some ([false, false, false, true, false, false, false, false, false, false, true, false, false, false, false, false, false, false, false, false, true, true, false, false, false, true, false, true, false, true, true, false, false, true, true, false, false, false, false, true, true], 0) := by kernel_rfl
theorem e_enc2 : modes_Encode.f ([⟨2, [65, 67, 45, 52, 50]⟩] : List S33) 0 = some ([false, false, true, false, false, false, false, false, false, false, true, false, true, false, false, true, true, true, false, false, true, true, true, false, true, true, true, false, false, true, true, true, false, false, true, false, false, false, false, true, false], 0) := by kernel_rfl
theorem e_parse1 : barscanref01_Parse.f 60 (⟨#[48, 48, 48, 49, 48, 48, 48, 48, 48, 48, 49, 48, 48, 48, 48, 48, 48, 48, 48, 48, 49, 49, 48, 48, 48, 49, 48, 49, 48, 49, 49, 48, 48, 49, 49, 48, 48, 48, 48, 49, 49]⟩ : ByteArray) = some ([false, false, false, true, false, false, false, false, false, false, true, false, false, false, false, false, false, false, false, false, true, true, false, false, false, true, false, true, false, true, true, false, false, true, true, false, false, false, false, true, true], 0) := by kernel_rfl
theorem e_parse2 : barscanref01_Parse.f 60 (⟨#[48, 48, 49, 48, 48, 48, 48, 48, 48, 48, 49, 48, 49, 48, 48, 49, 49, 49, 48, 48, 49, 49, 49, 48, 49, 49, 49, 48, 48, 49, 49, 49, 48, 48, 49, 48, 48, 48, 48, 49, 48]⟩ : ByteArray) = some ([false, false, true, false, false, false, false, false, false, false, true, false, true, false, false, true, true, true, false, false, true, true, true, false, true, true, true, false, false, true, true, true, false, false, true, false, false, false, false, true, false], 0) := by kernel_rfl
theorem e_dec : modes_Decode.f [false, false, false, true, false, false, false, false, false, false, true, false, false, false, false, false, false, false, false, false, true, true, false, false, false, true, false, true, false, true, true, false, false, true, true, false, false, false, false, true, true] 0 = some (([⟨1, [48, 49, 50, 51, 52, 53, 54, 55]⟩] : List S33), 0) := by kernel_rfl
theorem e_one3 : barscanlaw16_one.f 2 (⟨#[72, 69, 76, 76, 79, 32, 87, 79, 82, 76, 68]⟩ : ByteArray) = some ([⟨2, [72, 69, 76, 76, 79, 32, 87, 79, 82, 76, 68]⟩] : List S33) := by kernel_rfl
theorem e_one4 : barscanlaw16_one.f 4 (⟨#[97, 98, 99, 49, 50, 51]⟩ : ByteArray) = some ([⟨4, [97, 98, 99, 49, 50, 51]⟩] : List S33) := by kernel_rfl
theorem e_same1 : barscanref16_Same.f 9 ([⟨2, [72, 69, 76, 76, 79, 32, 87, 79, 82, 76, 68]⟩] : List S33) ([⟨2, [72, 69, 76, 76, 79, 32, 87, 79, 82, 76, 68]⟩] : List S33) = some true := by kernel_rfl
theorem e_same2 : barscanref16_Same.f 9 ([⟨4, [97, 98, 99, 49, 50, 51]⟩] : List S33) ([⟨4, [97, 98, 99, 49, 50, 51]⟩] : List S33) = some true := by kernel_rfl
theorem e_same3 : barscanref16_Same.f 9 ([⟨1, [48, 49, 50, 51, 52, 53, 54, 55]⟩] : List S33) ([⟨1, [48, 49, 50, 51, 52, 53, 54, 55]⟩] : List S33) = some true := by kernel_rfl
theorem e_bs1 : barscanref01_Same.f 60 [false, false, false, true, false, false, false, false, false, false, true, false, false, false, false, false, false, false, false, false, true, true, false, false, false, true, false, true, false, true, true, false, false, true, true, false, false, false, false, true, true] [false, false, false, true, false, false, false, false, false, false, true, false, false, false, false, false, false, false, false, false, true, true, false, false, false, true, false, true, false, true, true, false, false, true, true, false, false, false, false, true, true] = some true := by kernel_rfl
theorem e_bs2 : barscanref01_Same.f 60 [false, false, true, false, false, false, false, false, false, false, true, false, true, false, false, true, true, true, false, false, true, true, true, false, true, true, true, false, false, true, true, true, false, false, true, false, false, false, false, true, false] [false, false, true, false, false, false, false, false, false, false, true, false, true, false, false, true, true, true, false, false, true, true, true, false, true, true, true, false, false, true, true, true, false, false, true, false, false, false, false, true, false] = some true := by kernel_rfl

set_option maxHeartbeats 8000000 in
set_option maxRecDepth 100000 in
theorem barscanlaw16_exampleHolds.calls (r : Bool) (w : World) (h : barscanlaw16_exampleHolds.f = some r) :
    Calls Try.prog 20 #[] w fun e w' => e = .returned (.bool r) ∧ Below w.heap.size w w' := by
  obtain rfl : true = r := Option.some.inj h
  clear h
  have kc := fun (w : World) (C : Array Value) (n c : Nat) => Lib.run_convert_bytes_const (P := Try.prog) w 22 5 C n c Try.underlying22 Try.underlying5
  go_enter Try.func20, Try.ntmps20
  go_wp2_with fail
  refine (modes_Best.calls 500 (some ⟨_, 0, none⟩) 11 [72, 69, 76, 76, 79, 32, 87, 79, 82, 76, 68] 0 _ _ _ _ (lit_bytes w _ [72, 69, 76, 76, 79, 32, 87, 79, 82, 76, 68] (by simp) _) (by simp) e_best1).mono ?_
  rintro e w1 ⟨v1, rfl, hR, hB⟩
  obtain ⟨A1, c1, rfl⟩ := Kd.N_slice hR
  have C1 := Aside0.mk (Kd.N_reads' hR).2
  have B1 := Aside0.mk (bstep (below_alloc (Below.refl _ _) _) hB)
  clear hR hB
  go_wp2_with fail
  refine (modes_Best.calls 500 (some ⟨_, 0, none⟩) 6 [97, 98, 99, 49, 50, 51] 0 _ _ _ _ (lit_bytes w1 _ [97, 98, 99, 49, 50, 51] (by simp) _) (by simp) e_best2).mono ?_
  rintro e w2 ⟨v2, rfl, hR, hB⟩
  obtain ⟨A2, c2, rfl⟩ := Kd.N_slice hR
  have C2 := Aside0.mk (Kd.N_reads' hR).2
  have B2 := Aside0.mk (bstep (below_alloc (Below.refl _ _) _) hB)
  clear hR hB
  go_wp2_with fail
  refine (barscanlaw16_one.calls 1 (⟨#[48, 49, 50, 51, 52, 53, 54, 55]⟩ : ByteArray) _ _ e_one1).mono ?_
  rintro e w3 ⟨v3, rfl, hR, hB⟩
  obtain ⟨A3, c3, rfl⟩ := Kd.N_slice hR
  have C3 := Aside0.mk (Kd.N_reads' hR).2
  have B3 := Aside0.mk hB
  clear hR hB
  go_wp2_with fail
  refine (modes_Encode.calls A3 c3 ([⟨1, [48, 49, 50, 51, 52, 53, 54, 55]⟩] : List S33) 0 _ _ _ C3.out.2 C3.out.1 e_enc1).mono ?_
  rintro e w4 ⟨v4, rfl, hR, hB⟩
  obtain ⟨A4, c4, rfl⟩ := Kd.R_slice hR
  have C4 := Aside0.mk (Kd.R_reads' hR).2
  have B4 := Aside0.mk hB
  clear hR hB
  go_wp2_with fail
  refine (barscanlaw16_one.calls 2 (⟨#[65, 67, 45, 52, 50]⟩ : ByteArray) _ _ e_one2).mono ?_
  rintro e w5 ⟨v5, rfl, hR, hB⟩
  obtain ⟨A5, c5, rfl⟩ := Kd.N_slice hR
  have C5 := Aside0.mk (Kd.N_reads' hR).2
  have B5 := Aside0.mk hB
  clear hR hB
  go_wp2_with fail
  refine (modes_Encode.calls A5 c5 ([⟨2, [65, 67, 45, 52, 50]⟩] : List S33) 0 _ _ _ C5.out.2 C5.out.1 e_enc2).mono ?_
  rintro e w6 ⟨v6, rfl, hR, hB⟩
  obtain ⟨A6, c6, rfl⟩ := Kd.R_slice hR
  have C6 := Aside0.mk (Kd.R_reads' hR).2
  have B6 := Aside0.mk hB
  clear hR hB
  go_wp2_with fail
  refine (barscanref01_Parse.calls 60 (⟨#[48, 48, 48, 49, 48, 48, 48, 48, 48, 48, 49, 48, 48, 48, 48, 48, 48, 48, 48, 48, 49, 49, 48, 48, 48, 49, 48, 49, 48, 49, 49, 48, 48, 49, 49, 48, 48, 48, 48, 49, 49]⟩ : ByteArray) _ _ _ e_parse1).mono ?_
  rintro e w7 ⟨v7, rfl, hR, hB⟩
  obtain ⟨A7, c7, rfl⟩ := Kd.R_slice hR
  have C7 := Aside0.mk (Kd.R_reads' hR).2
  have B7 := Aside0.mk hB
  clear hR hB
  go_wp2_with fail
  refine (barscanref01_Parse.calls 60 (⟨#[48, 48, 49, 48, 48, 48, 48, 48, 48, 48, 49, 48, 49, 48, 48, 49, 49, 49, 48, 48, 49, 49, 49, 48, 49, 49, 49, 48, 48, 49, 49, 49, 48, 48, 49, 48, 48, 48, 48, 49, 48]⟩ : ByteArray) _ _ _ e_parse2).mono ?_
  rintro e w8 ⟨v8, rfl, hR, hB⟩
  obtain ⟨A8, c8, rfl⟩ := Kd.R_slice hR
  have C8 := Aside0.mk (Kd.R_reads' hR).2
  have B8 := Aside0.mk hB
  clear hR hB
  go_wp2_with fail
  refine (modes_Decode.calls A7 c7 [false, false, false, true, false, false, false, false, false, false, true, false, false, false, false, false, false, false, false, false, true, true, false, false, false, true, false, true, false, true, true, false, false, true, true, false, false, false, false, true, true] 0 _ _ _ (Kd.C_below C7.out.2 B8.out) C7.out.1 e_dec).mono ?_
  rintro e w9 ⟨v9, rfl, hR, hB⟩
  obtain ⟨A9, c9, rfl⟩ := Kd.S_slice hR
  have C9 := Aside0.mk (Kd.S_reads' hR).2
  have B9 := Aside0.mk hB
  clear hR hB
  go_wp2_with fail
  refine (barscanlaw16_one.calls 2 (⟨#[72, 69, 76, 76, 79, 32, 87, 79, 82, 76, 68]⟩ : ByteArray) _ _ e_one3).mono ?_
  rintro e w10 ⟨v10, rfl, hR, hB⟩
  obtain ⟨A10, c10, rfl⟩ := Kd.N_slice hR
  have C10 := Aside0.mk (Kd.N_reads' hR).2
  have B10 := Aside0.mk hB
  clear hR hB
  go_wp2_with fail
  refine (barscanref16_Same.calls 9 A1 c1 ([⟨2, [72, 69, 76, 76, 79, 32, 87, 79, 82, 76, 68]⟩] : List S33) A10 c10 ([⟨2, [72, 69, 76, 76, 79, 32, 87, 79, 82, 76, 68]⟩] : List S33) _ _ (Kd.C_below C1.out.2 (bstep (bstep (bstep (bstep (bstep (bstep (bstep (bstep B2.out B3.out) B4.out) B5.out) B6.out) B7.out) B8.out) B9.out) B10.out)) C1.out.1 (Kd.C_below C10.out.2 (Below.refl _ _)) C10.out.1 e_same1).mono ?_
  rintro e w11 ⟨rfl, hD⟩
  have B11 := Aside0.mk (drawn_below hD)
  clear hD
  go_wp2_with fail
  refine (barscanlaw16_one.calls 4 (⟨#[97, 98, 99, 49, 50, 51]⟩ : ByteArray) _ _ e_one4).mono ?_
  rintro e w12 ⟨v12, rfl, hR, hB⟩
  obtain ⟨A12, c12, rfl⟩ := Kd.N_slice hR
  have C12 := Aside0.mk (Kd.N_reads' hR).2
  have B12 := Aside0.mk hB
  clear hR hB
  go_wp2_with fail
  refine (barscanref16_Same.calls 9 A2 c2 ([⟨4, [97, 98, 99, 49, 50, 51]⟩] : List S33) A12 c12 ([⟨4, [97, 98, 99, 49, 50, 51]⟩] : List S33) _ _ (Kd.C_below C2.out.2 (bstep (bstep (bstep (bstep (bstep (bstep (bstep (bstep (bstep B3.out B4.out) B5.out) B6.out) B7.out) B8.out) B9.out) B10.out) B11.out) B12.out)) C2.out.1 (Kd.C_below C12.out.2 (Below.refl _ _)) C12.out.1 e_same2).mono ?_
  rintro e w13 ⟨rfl, hD⟩
  have B13 := Aside0.mk (drawn_below hD)
  clear hD
  go_wp2_with fail
  refine (barscanref01_Same.calls 60 A4 c4 [false, false, false, true, false, false, false, false, false, false, true, false, false, false, false, false, false, false, false, false, true, true, false, false, false, true, false, true, false, true, true, false, false, true, true, false, false, false, false, true, true] A7 c7 [false, false, false, true, false, false, false, false, false, false, true, false, false, false, false, false, false, false, false, false, true, true, false, false, false, true, false, true, false, true, true, false, false, true, true, false, false, false, false, true, true] _ _ (Kd.C_below C4.out.2 (bstep (bstep (bstep (bstep (bstep (bstep (bstep (bstep B5.out B6.out) B7.out) B8.out) B9.out) B10.out) B11.out) B12.out) B13.out)) C4.out.1 (Kd.C_below C7.out.2 (bstep (bstep (bstep (bstep (bstep B8.out B9.out) B10.out) B11.out) B12.out) B13.out)) C7.out.1 e_bs1).mono ?_
  rintro e w14 ⟨rfl, hD⟩
  have B14 := Aside0.mk (drawn_below hD)
  clear hD
  go_wp2_with fail
  refine (barscanref01_Same.calls 60 A6 c6 [false, false, true, false, false, false, false, false, false, false, true, false, true, false, false, true, true, true, false, false, true, true, true, false, true, true, true, false, false, true, true, true, false, false, true, false, false, false, false, true, false] A8 c8 [false, false, true, false, false, false, false, false, false, false, true, false, true, false, false, true, true, true, false, false, true, true, true, false, true, true, true, false, false, true, true, true, false, false, true, false, false, false, false, true, false] _ _ (Kd.C_below C6.out.2 (bstep (bstep (bstep (bstep (bstep (bstep (bstep B7.out B8.out) B9.out) B10.out) B11.out) B12.out) B13.out) B14.out)) C6.out.1 (Kd.C_below C8.out.2 (bstep (bstep (bstep (bstep (bstep B9.out B10.out) B11.out) B12.out) B13.out) B14.out)) C8.out.1 e_bs2).mono ?_
  rintro e w15 ⟨rfl, hD⟩
  have B15 := Aside0.mk (drawn_below hD)
  clear hD
  go_wp2_with fail
  refine (barscanlaw16_one.calls 1 (⟨#[48, 49, 50, 51, 52, 53, 54, 55]⟩ : ByteArray) _ _ e_one1).mono ?_
  rintro e w16 ⟨v16, rfl, hR, hB⟩
  obtain ⟨A16, c16, rfl⟩ := Kd.N_slice hR
  have C16 := Aside0.mk (Kd.N_reads' hR).2
  have B16 := Aside0.mk hB
  clear hR hB
  go_wp2_with fail
  refine (barscanref16_Same.calls 9 A9 c9 ([⟨1, [48, 49, 50, 51, 52, 53, 54, 55]⟩] : List S33) A16 c16 ([⟨1, [48, 49, 50, 51, 52, 53, 54, 55]⟩] : List S33) _ _ (Kd.C_below C9.out.2 (bstep (bstep (bstep (bstep (bstep (bstep B10.out B11.out) B12.out) B13.out) B14.out) B15.out) B16.out)) C9.out.1 (Kd.C_below C16.out.2 (Below.refl _ _)) C16.out.1 e_same3).mono ?_
  rintro e w17 ⟨rfl, hD⟩
  have B17 := Aside0.mk (drawn_below hD)
  clear hD
  go_wp2_with fail
  go_ret
  exact ⟨rfl, (bstep (bstep (bstep (bstep (bstep (bstep (bstep (bstep (bstep (bstep (bstep (bstep (bstep (bstep (bstep (bstep B1.out B2.out) B3.out) B4.out) B5.out) B6.out) B7.out) B8.out) B9.out) B10.out) B11.out) B12.out) B13.out) B14.out) B15.out) B16.out) B17.out)⟩
end Go.Proofs.Ytagmncdbiljacaa.X
