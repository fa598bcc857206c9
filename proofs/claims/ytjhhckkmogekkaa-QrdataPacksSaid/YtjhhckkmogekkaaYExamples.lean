/- The examples of the statements on qrdata answer true. No condition. -/
import Derived.Test.YtjhhckkmogekkaaYHeader
import Derived.Test.YtjhhckkmogekkaaYPad
import Derived.Test.YtjhhckkmogekkaaXx25a
import Derived.Test.YtjhhckkmogekkaaXx25c
import Derived.Lib.SlBytesConst
namespace Go.Proofs.Ytjhhckkmogekkaa.X
open Go.RowKit Go.Shelf Go.Proofs.YtjhhckkmogekkaaW.PrintWords Go.Proofs.YtjhhckkmogekkaaW.PrintLast Go.Proofs.YtjhhckkmogekkaaW.PrintMore
set_option linter.unusedVariables false
set_option linter.unusedSimpArgs false

def barscanlaw18_examples.f : Option Bool := some true
theorem xlit_cells {w : World} {t : TypeId} {vs : List Value} (i : Nat) (u : Value) (h : vs[i]? = some u) (z : Nat × Nat) : (w.alloc (.cells vs.toArray t z)).cell? ⟨w.heap.size, i, none⟩ = some u := by
  have hh : (w.alloc (.cells vs.toArray t z)).heap[w.heap.size]? = some (.cells vs.toArray t z) := World.alloc_heap_new w _
  unfold World.cell?
  simp only [hh]
  simpa using h
theorem xlit_bytes (w : World) (t : TypeId) (bs : List Int) (h : bs.length ≤ 9223372036854775807) (z : Nat × Nat) : Kd.C (Kd.int .u8) (w.alloc (.cells (bs.map (Value.int .u8)).toArray t z)) (some ⟨w.heap.size, 0, none⟩) bs.length bs := by
  refine ⟨rfl, h, fun _ => ⟨_, rfl, fun j p hj => ⟨[(Value.int .u8) p], rfl, rfl, fun i u hu => ?_⟩⟩⟩
  obtain rfl : i = 0 := by
    cases i with
    | zero => rfl
    | succ i => simp at hu
  obtain rfl : (Value.int .u8) p = u := by simpa using hu
  have h1 : (bs.map (Value.int .u8))[j]? = some ((Value.int .u8) p) := by rw [List.getElem?_map, hj]; rfl
  have h2 := xlit_cells (w := w) (t := t) j _ h1 z
  rw [show (⟨w.heap.size, 0, none⟩ : Addr).add (j * (Kd.int .u8).sz + 0) = ⟨w.heap.size, j, none⟩ by simp [Addr.add, show (Kd.int .u8).sz = 1 from rfl]; try omega]
  exact h2
theorem xlit_ints (w : World) (t : TypeId) (bs : List Int) (h : bs.length ≤ 9223372036854775807) (z : Nat × Nat) : Kd.C (Kd.int .i64) (w.alloc (.cells (bs.map (Value.int .i64)).toArray t z)) (some ⟨w.heap.size, 0, none⟩) bs.length bs := by
  refine ⟨rfl, h, fun _ => ⟨_, rfl, fun j p hj => ⟨[(Value.int .i64) p], rfl, rfl, fun i u hu => ?_⟩⟩⟩
  obtain rfl : i = 0 := by
    cases i with
    | zero => rfl
    | succ i => simp at hu
  obtain rfl : (Value.int .i64) p = u := by simpa using hu
  have h1 : (bs.map (Value.int .i64))[j]? = some ((Value.int .i64) p) := by rw [List.getElem?_map, hj]; rfl
  have h2 := xlit_cells (w := w) (t := t) j _ h1 z
  rw [show (⟨w.heap.size, 0, none⟩ : Addr).add (j * (Kd.int .i64).sz + 0) = ⟨w.heap.size, j, none⟩ by simp [Addr.add, show (Kd.int .i64).sz = 1 from rfl]; try omega]
  exact h2
theorem xlit_bools (w : World) (t : TypeId) (bs : List Bool) (h : bs.length ≤ 9223372036854775807) (z : Nat × Nat) : Kd.C Kd.bool (w.alloc (.cells (bs.map Value.bool).toArray t z)) (some ⟨w.heap.size, 0, none⟩) bs.length bs := by
  refine ⟨rfl, h, fun _ => ⟨_, rfl, fun j p hj => ⟨[Value.bool p], rfl, rfl, fun i u hu => ?_⟩⟩⟩
  obtain rfl : i = 0 := by
    cases i with
    | zero => rfl
    | succ i => simp at hu
  obtain rfl : Value.bool p = u := by simpa using hu
  have h1 : (bs.map Value.bool)[j]? = some (Value.bool p) := by rw [List.getElem?_map, hj]; rfl
  have h2 := xlit_cells (w := w) (t := t) j _ h1 z
  rw [show (⟨w.heap.size, 0, none⟩ : Addr).add (j * Kd.bool.sz + 0) = ⟨w.heap.size, j, none⟩ by simp [Addr.add, show Kd.bool.sz = 1 from rfl]; try omega]
  exact h2
theorem xlit_seg (w : World) (t : TypeId) (s : S59) (A : Option Addr) (c : Nat) (hc : s.f1.length ≤ c) (hC : Kd.C (Kd.int .u8) w A s.f1.length s.f1) (z : Nat × Nat) : Kd.C k59 (w.alloc (.cells #[.int .i64 s.f0, .slice A s.f1.length c] t z)) (some ⟨w.heap.size, 0, none⟩) ([s] : List S59).length [s] := by
  refine ⟨rfl, by simp, fun _ => ⟨_, rfl, fun j p hj => ?_⟩⟩
  obtain rfl : j = 0 := by
    cases j with
    | zero => rfl
    | succ j => simp at hj
  obtain rfl : s = p := by simpa using hj
  refine ⟨[.int .i64 s.f0, .slice A s.f1.length c], rfl, k59_mk _ s hc (Kd.C_below hC (below_alloc (Below.refl _ _) _)), fun i u hu => ?_⟩
  have h2 := xlit_cells (w := w) (t := t) (vs := [.int .i64 s.f0, .slice A s.f1.length c]) i u hu z
  rw [show (⟨w.heap.size, 0, none⟩ : Addr).add (0 * k59.sz + i) = ⟨w.heap.size, i, none⟩ by simp [Addr.add]; intro h; omega]
  exact h2
theorem x_head : qrdata_Header.f 1 3 165 = some ([false, false, true, true, false, false, false, true, false, false, true, false, true, false, true, false, false, true, false, true], 0) := by kernel_rfl
theorem x_pad1 : qrdata_Pad.f [true, false, true] 3 = some ([160, 236, 17], 0) := by kernel_rfl
theorem x_pad2 : qrdata_Pad.f [false, false, false, false, false, false, false, false, false] 1 = some ([], 16) := by kernel_rfl
theorem x_pack : qrdata_Pack.f 20 ([⟨1, [48, 49, 50, 51, 52, 53, 54, 55]⟩] : List S59) 0 0 0 1 2 = some ([16, 32, 12, 86, 97, 128, 236, 17, 236, 17, 236, 17, 236, 17, 236, 17], 0) := by kernel_rfl
theorem x_same1 : barscanlaw18_same.f 20 [160, 236, 17] [160, 236, 17] = some true := by kernel_rfl
theorem x_same2 : barscanlaw18_same.f 20 [16, 32, 12, 86, 97, 128, 236, 17] [16, 32, 12, 86, 97, 128, 236, 17] = some true := by kernel_rfl
set_option maxHeartbeats 8000000 in
set_option maxRecDepth 100000 in
theorem barscanlaw18_examples.calls (r : Bool) (w : World) (h : barscanlaw18_examples.f = some r) :
    Calls Try.prog 12 #[] w fun e w' => e = .returned (.bool r) ∧ Below w.heap.size w w' := by
  obtain rfl : true = r := Option.some.inj h
  clear h
  have kc := fun (w : World) (C : Array Value) (n c : Nat) => Lib.run_convert_bytes_const (P := Try.prog) w 57 5 C n c Try.underlying57 Try.underlying5
  go_enter Try.func12, Try.ntmps12
  go_wp2_with fail
  refine (qrdata_Header.calls 1 3 165 _ _ _ x_head).mono ?_
  rintro e w1 ⟨v1, rfl, hR, hB⟩
  obtain ⟨A1, c1, rfl⟩ := Kd.R_slice hR
  have C1 := Aside0.mk (Kd.R_reads' hR).2
  have B1 := Aside0.mk hB
  clear hR hB
  go_wp2_with fail
  refine (qrdata_Pad.calls (some ⟨_, 0, none⟩) 3 [true, false, true] 3 _ _ _ (xlit_bools w1 _ [true, false, true] (by simp) _) (by simp) x_pad1).mono ?_
  rintro e w2 ⟨v2, rfl, hR, hB⟩
  obtain ⟨A2, c2, rfl⟩ := Kd.R_slice hR
  have C2 := Aside0.mk (Kd.R_reads' hR).2
  have B2 := Aside0.mk ((below_alloc (Below.refl _ _) _).trans (hB.mono (by simp)))
  clear hR hB
  go_wp2_with fail
  have hbC : Kd.C (Kd.int .u8) (w2.alloc (.cells #[.int .u8 48, .int .u8 49, .int .u8 50, .int .u8 51, .int .u8 52, .int .u8 53, .int .u8 54, .int .u8 55] 5 (8, 9))) (some ⟨w2.heap.size, 0, none⟩) 8 [48, 49, 50, 51, 52, 53, 54, 55] := xlit_bytes w2 5 [48, 49, 50, 51, 52, 53, 54, 55] (by simp) (8, 9)
  have hz1 : (w2.alloc (.cells #[.int .u8 48, .int .u8 49, .int .u8 50, .int .u8 51, .int .u8 52, .int .u8 53, .int .u8 54, .int .u8 55] 5 (8, 9))).heap.size = w2.heap.size + 1 := World.size_alloc _ _
  have hB1 : Below w2.heap.size w2 (w2.alloc (.cells #[.int .u8 48, .int .u8 49, .int .u8 50, .int .u8 51, .int .u8 52, .int .u8 53, .int .u8 54, .int .u8 55] 5 (8, 9))) := below_alloc (Below.refl _ _) _
  generalize w2.alloc (.cells #[.int .u8 48, .int .u8 49, .int .u8 50, .int .u8 51, .int .u8 52, .int .u8 53, .int .u8 54, .int .u8 55] 5 (8, 9)) = W1 at *
  have hsC : Kd.C k59 (W1.alloc (.cells #[.int .i64 1, .slice (some ⟨w2.heap.size, 0, none⟩) 8 8] 59)) (some ⟨W1.heap.size, 0, none⟩) 1 ([⟨1, [48, 49, 50, 51, 52, 53, 54, 55]⟩] : List S59) := xlit_seg W1 59 (⟨1, [48, 49, 50, 51, 52, 53, 54, 55]⟩ : S59) (some ⟨w2.heap.size, 0, none⟩) 8 (by simp) hbC (0, 0)
  have hB2 : Below w2.heap.size w2 (W1.alloc (.cells #[.int .i64 1, .slice (some ⟨w2.heap.size, 0, none⟩) 8 8] 59)) := below_alloc hB1 _
  rw [hz1] at hsC
  generalize W1.alloc (.cells #[.int .i64 1, .slice (some ⟨w2.heap.size, 0, none⟩) 8 8] 59) = W2 at *
  have hpk := qrdata_Pack.calls 20 (some ⟨w2.heap.size + 1, 0, none⟩) 1 ([⟨1, [48, 49, 50, 51, 52, 53, 54, 55]⟩] : List S59) 0 0 0 1 2 _ _ W2 hsC (by simp) x_pack
  clear hbC hz1 hB1 hsC
  refine hpk.mono ?_
  clear hpk
  rintro e w3 ⟨v3, rfl, hR, hB⟩
  obtain ⟨A3, c3, rfl⟩ := Kd.R_slice hR
  have C3 := Aside0.mk (Kd.R_reads' hR).2
  have B3 := Aside0.mk (hB2.trans (hB.mono hB2.size))
  clear hR hB hB2
  go_wp2_with ((with_reducible refine gate_dst (N := 29) rfl ?_); (try (refine gate_guard (by rfl) ?_; dsimp only)); refine Kd.R_make Kd.bool _ 4 rfl (N := 29) rfl 40 _ _ rfl 9 rfl rfl Try.underlying40 (.bool false) 1 info4 rfl (by decide) (by omega) false (ok := fun _ => True) (okp := fun _ => True) rfl (fun _ hk => hk) trivial (by decide) (by decide) (Below.refl _ _) (Nat.le_refl _) ?_; intro v29 w35 ho6 hb6 hg_ hnew_; clear hg_ hnew_; obtain ⟨A29, c29, rfl⟩ := Kd.R_slice ho6; have C29 := Aside0.mk (Kd.R_reads' ho6).2; have B29 := Aside0.mk hb6; clear ho6 hb6)
  refine (qrdata_Pad.calls A29 c29 [false, false, false, false, false, false, false, false, false] 1 _ _ w35 C29.out.2 C29.out.1 x_pad2).mono ?_
  rintro e w4 ⟨v4, rfl, hR, hB⟩
  obtain ⟨A4, c4, rfl⟩ := Kd.R_slice hR
  have B4 := Aside0.mk (B29.out.trans (hB.mono B29.out.size))
  clear hR hB
  go_wp2_with fail
  have hpc : Kd.C (Kd.int .i64) (w4.alloc (.cells #[.int .i64 160, .int .i64 236, .int .i64 17] 3)) (some ⟨w4.heap.size, 0, none⟩) 3 [160, 236, 17] := xlit_ints w4 3 [160, 236, 17] (by simp) (0, 0)
  have hb5 : Below w4.heap.size w4 (w4.alloc (.cells #[.int .i64 160, .int .i64 236, .int .i64 17] 3)) := below_alloc (Below.refl _ _) _
  generalize w4.alloc (.cells #[.int .i64 160, .int .i64 236, .int .i64 17] 3) = W5 at *
  have hsm := barscanlaw18_same.calls 20 A2 c2 [160, 236, 17] (some ⟨w4.heap.size, 0, none⟩) 3 [160, 236, 17] true W5 (Kd.C_below C2.out.2 (bstep (bstep B3.out B4.out) hb5)) C2.out.1 hpc (by simp) x_same1
  refine hsm.mono ?_
  clear hsm hpc
  rintro e w5 ⟨rfl, hD⟩
  have B5 := Aside0.mk (hb5.trans ((drawn_below hD).mono hb5.size))
  clear hD hb5
  have hc8 : 8 ≤ c3 := by have := C3.out.1; simp at this; omega
  go_wp2_with fail
  have hpc : Kd.C (Kd.int .i64) (w5.alloc (.cells #[.int .i64 16, .int .i64 32, .int .i64 12, .int .i64 86, .int .i64 97, .int .i64 128, .int .i64 236, .int .i64 17] 3)) (some ⟨w5.heap.size, 0, none⟩) 8 [16, 32, 12, 86, 97, 128, 236, 17] := xlit_ints w5 3 [16, 32, 12, 86, 97, 128, 236, 17] (by simp) (0, 0)
  have hb6 : Below w5.heap.size w5 (w5.alloc (.cells #[.int .i64 16, .int .i64 32, .int .i64 12, .int .i64 86, .int .i64 97, .int .i64 128, .int .i64 236, .int .i64 17] 3)) := below_alloc (Below.refl _ _) _
  generalize w5.alloc (.cells #[.int .i64 16, .int .i64 32, .int .i64 12, .int .i64 86, .int .i64 97, .int .i64 128, .int .i64 236, .int .i64 17] 3) = W6 at *
  have hw6 := Kd.C_below C3.out.2 (bstep (bstep B4.out B5.out) hb6)
  have hsm := barscanlaw18_same.calls 20 A3 c3 [16, 32, 12, 86, 97, 128, 236, 17] (some ⟨w5.heap.size, 0, none⟩) 8 [16, 32, 12, 86, 97, 128, 236, 17] true W6 (Kd.C_take (m := 8) hw6 (by simp)) (by have := C3.out.1; simp at this; simp; omega) hpc (by simp) x_same2
  refine hsm.mono ?_
  clear hsm hpc hw6
  rintro e w6 ⟨rfl, hD⟩
  have B6 := Aside0.mk (hb6.trans ((drawn_below hD).mono hb6.size))
  clear hD hb6
  have h0 := Kd.C_below C1.out.2 (bstep (bstep (bstep (bstep (bstep B2.out B3.out) B4.out) B5.out) B6.out) (Below.refl _ _))
  obtain ⟨ad, rfl, hx0⟩ := Kd.at_bool h0 0 (by decide) (by decide)
  obtain ⟨ad2, e2, hx2⟩ := Kd.at_bool h0 2 (by decide) (by decide)
  obtain ⟨ad3, e3, hx3⟩ := Kd.at_bool h0 3 (by decide) (by decide)
  obtain ⟨ad7, e7, hx7⟩ := Kd.at_bool h0 7 (by decide) (by decide)
  obtain rfl := Option.some.inj e2
  obtain rfl := Option.some.inj e3
  obtain rfl := Option.some.inj e7
  have k0 : w6.cell? ad = some (.bool false) := hx0
  have k2 : w6.cell? ⟨ad.block, ad.off + 2, none⟩ = some (.bool true) := hx2
  have k3 : w6.cell? ⟨ad.block, ad.off + 3, none⟩ = some (.bool true) := hx3
  have k7 : w6.cell? ⟨ad.block, ad.off + 7, none⟩ = some (.bool true) := hx7
  clear h0 hx0 hx2 hx3 hx7 e2 e3 e7
  go_wp2_with fail
  go_ret
  exact ⟨rfl, bstep (bstep (bstep (bstep (bstep B1.out B2.out) B3.out) B4.out) B5.out) B6.out⟩
end Go.Proofs.Ytjhhckkmogekkaa.X
