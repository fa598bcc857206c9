/- modes.segment: a segment read off a reader, behind its mode; the mode has a count, the bits are at most 2^20. -/
import Derived.Test.YtjhhckkmogekkaaYMSpec
import Derived.Test.YtjhhckkmogekkaaYReader
namespace Go.Proofs.Ytjhhckkmogekkaa.X
open Go.RowKit Go.Shelf Go.Proofs.YtjhhckkmogekkaaW.PrintWords Go.Proofs.YtjhhckkmogekkaaW.PrintLast Go.Proofs.YtjhhckkmogekkaaW.PrintMore
set_option linter.unusedVariables false
set_option linter.unusedSimpArgs false

theorem dbOf_split (m : Int) (n : Nat) (hn : 0 < n) : dbOf m n = dbOf m (min n (szOf m) : Nat) + dbOf m ((n - min n (szOf m) : Nat) : Int) := by
  unfold dbOf szOf
  by_cases h1 : m = 1
  · simp only [h1, if_true]
    by_cases hs : n ≤ 3
    · rw [Nat.min_eq_left hs]; simp
    · rw [Nat.min_eq_right (by omega)]
      have e : (((n - 3 : Nat) : Int)) = (n : Int) - 3 := by omega
      rw [e]
      have e1 : ((n : Int) - 3) % 3 = (n : Int) % 3 := by omega
      have e2 : ((n : Int) - 3) / 3 = (n : Int) / 3 - 1 := by omega
      rw [e1, e2]
      simp
      omega
  rw [if_neg h1, if_neg h1, if_neg h1, if_neg h1]
  by_cases h2 : m = 2
  · simp only [h2, if_true]
    by_cases hs : n ≤ 2
    · rw [Nat.min_eq_left hs]; simp
    · rw [Nat.min_eq_right (by omega)]
      have e : (((n - 2 : Nat) : Int)) = (n : Int) - 2 := by omega
      rw [e]
      have e1 : ((n : Int) - 2) % 2 = (n : Int) % 2 := by omega
      have e2 : ((n : Int) - 2) / 2 = (n : Int) / 2 - 1 := by omega
      rw [e1, e2]
      simp
      omega
  · rw [if_neg h2, if_neg h2, if_neg h2, if_neg h2, Nat.min_eq_right (by omega)]
    omega

/-- What a call that reads on keeps: all but the reader. -/
def RdKeep (g : Nat) (w w' : World) : Prop := Below g w w' ∧ KeepBut w w' g none
theorem RdKeep.refl (g : Nat) (w : World) : RdKeep g w w := ⟨Below.refl _ _, KeepBut.refl _ _ _⟩
theorem RdKeep.trans {g : Nat} {w w1 w2 : World} (h : RdKeep g w w1) (k : RdKeep g w1 w2) : RdKeep g w w2 := ⟨h.1.trans k.1, h.2.trans k.2 (.inl rfl)⟩
theorem RdKeep.of_below {g : Nat} {w w1 : World} (h : Below w.heap.size w w1) (hg : g ≤ w.heap.size) : RdKeep g w w1 := ⟨h.mono hg, KeepBut.of_below h _ _⟩
theorem RdKeep.rd {w w1 : World} {b g : Nat} {l : List Bool} (h : IsRd w b g l) (hb : Below w.heap.size w w1) : IsRd w1 b g l := h.below hb h.lt

theorem cells_two {W : World} {g : Nat} {u v : Value} {t : TypeId} (h : W.heap[g]? = some (.cells #[u, v] t (0, 0))) : W.cell? ⟨g, 0, none⟩ = some u ∧ W.cell? ⟨g, 1, none⟩ = some v ∧ W.frozen? ⟨g, 0, none⟩ = false ∧ W.frozen? ⟨g, 1, none⟩ = false := by
  refine ⟨?_, ?_, ?_, ?_⟩
  · simp [World.cell?, h]
  · simp [World.cell?, h]
  · simp [World.frozen?, h]
  · simp [World.frozen?, h]
theorem set_two {W : World} {g : Nat} {u v : Value} {t : TypeId} (h : W.heap[g]? = some (.cells #[u, v] t (0, 0))) (u' v' : Value) : ((W.setCell ⟨g, 0, none⟩ u').setCell ⟨g, 1, none⟩ v').heap[g]? = some (.cells #[u', v'] t (0, 0)) := by
  simp [World.setCell, Array.getElem?_modify, h]

theorem set_second {W : World} {g : Nat} {u v : Value} {t : TypeId} (h : W.heap[g]? = some (.cells #[u, v] t (0, 0))) (v' : Value) : (W.setCell ⟨g, 1, none⟩ v').heap[g]? = some (.cells #[u, v'] t (0, 0)) := by
  simp [World.setCell, Array.getElem?_modify, h]
theorem rdD_fuel (m : Int) : ∀ (f n : Nat) (l : List Bool) (acc : List Int), n < f → ∀ f', n < f' → rdD m f n l acc = rdD m f' n l acc
  | 0, n, l, acc, h, _, _ => by omega
  | f + 1, n, l, acc, h, f', h' => by
    obtain ⟨f', rfl⟩ : ∃ x, f' = x + 1 := ⟨f' - 1, by omega⟩
    unfold rdD
    by_cases hn : n = 0
    · rw [if_pos hn, if_pos hn]
    · rw [if_neg hn, if_neg hn]
      have hs := szOf_range m
      have ih := rdD_fuel m f (n - min n (szOf m)) (l.drop (dbOf m (min n (szOf m) : Nat)).toNat) (acc ++ (unGrp m (gval (l.take (dbOf m (min n (szOf m) : Nat)).toNat)) (min n (szOf m))).1) (by omega) f' (by omega)
      simp only [ih]
theorem seg_set {w W : World} {g gs : Nat} {u v : Value} (h : RdKeep g w W) (hs : gs < W.heap.size) (hgs : gs = w.heap.size) (hg : g < w.heap.size) : RdKeep g w ((W.setCell ⟨gs, 0, none⟩ u).setCell ⟨gs, 1, none⟩ v) := by
  refine ⟨(h.1.setCell (p := ⟨gs, 0, none⟩) (by show g ≤ gs; omega) u).setCell (p := ⟨gs, 1, none⟩) (by show g ≤ gs; omega) v, ?_, fun i hi hne _ => ?_⟩
  · have := h.2.1
    simpa [World.setCell] using this
  · rw [Below.heap_setCell _ ⟨gs, 1, none⟩ v i (by show i ≠ gs; omega), Below.heap_setCell _ ⟨gs, 0, none⟩ u i (by show i ≠ gs; omega)]
    exact h.2.2 i hi hne (by simp)

theorem seg_keep {w w5 wr : World} {g g2 gs N4 : Nat} (hgl : g < w.heap.size) (hgs : gs = w.heap.size) (hG : gs < g2 ∧ g2 + 1 = N4 ∧ N4 ≤ w5.heap.size) (h : RdKeep g w w5) (hk : (∀ k, k < w5.heap.size → k ≠ g → k ≠ g2 → wr.heap[k]? = w5.heap[k]?) ∧ Below g w5 wr) : RdKeep g w wr := by
  have h2 := hk.2.size
  refine ⟨h.1.trans hk.2, by omega, fun i hi hne hr => ?_⟩
  rw [hk.1 i (by omega) hne (by omega)]
  exact h.2.2 i hi hne hr

set_option maxHeartbeats 4000000 in
set_option maxRecDepth 100000 in
theorem segment_calls (w : World) (b g : Nat) (l : List Bool) (m cls : Int) (h : IsRd w b g l) (hcb : 0 < cbOf m cls) (hl : l.length ≤ 1048576) :
    Calls Try.prog 46 #[.pointer (some ⟨g, 0, none⟩), .int .i64 m, .int .i64 cls] w fun e w' =>
      (∃ x, segD cls m l = .error x ∧ x ≠ 0 ∧ e = .returned (.tuple #[.agg #[.int .i64 0, .slice none 0 0], .int .i64 x]) ∧ RdKeep g w w') ∨
      (∃ d rest v, segD cls m l = .ok (d, rest) ∧ e = .returned (.tuple #[.agg #[.int .i64 m, v], .int .i64 0]) ∧ Kd.R (Kd.int .u8) 5 w' w.heap.size (fun _ => True) v d ∧ IsRd w' b g rest ∧ RdKeep g w w') := by
  have hcr := cbOf_range m cls
  have HCB := Aside0.mk (countBits_is 0 m cls)
  have hgl := h.lt
  have HRD := Aside0.mk h
  have HL := Aside0.mk hl
  have HCP := Aside0.mk (And.intro hcb hcr)
  obtain ⟨cb, hcbn⟩ : ∃ cb : Nat, cbOf m cls = cb := ⟨(cbOf m cls).toNat, by omega⟩
  have HCN := Aside0.mk hcbn
  clear h hl hcb hcr
  have hB0 : Below w.heap.size w (w.alloc (.cells #[.int .i64 0, .slice none 0 0] 59)) := below_alloc (Below.refl _ _) _
  have hR0 : (w.alloc (.cells #[.int .i64 0, .slice none 0 0] 59)).heap[w.heap.size]? = some (.cells #[.int .i64 0, .slice none 0 0] 59 (0, 0)) := World.alloc_heap_new _ _
  have hs0 : w.heap.size < (w.alloc (.cells #[.int .i64 0, .slice none 0 0] 59)).heap.size := by simp
  go_enter Try.func46, Try.ntmps46
  go_wp2_with fail
  generalize w.alloc (.cells #[.int .i64 0, .slice none 0 0] 59) = W0 at *
  obtain ⟨gs, hgs⟩ : ∃ gs, gs = w.heap.size := ⟨_, rfl⟩
  have hgl0 := hgl
  rw [← hgs] at hB0 hR0 hs0 hgl0 ⊢
  have HGS := Aside0.mk hgs
  clear hgs
  refine (modes_countBits.calls 1 m cls _ W0 HCB.out).mono ?_
  rintro e w1 ⟨rfl, hB1⟩
  have hc1 := hB1.block gs hs0
  rw [hR0] at hc1
  have hRd1 := RdKeep.rd (RdKeep.rd HRD.out (by rw [← HGS.out]; exact hB0)) hB1
  have hKp1 : RdKeep g w w1 := RdKeep.trans (RdKeep.of_below (by rw [← HGS.out]; exact hB0) (Nat.le_of_lt hgl)) (RdKeep.of_below hB1 (by omega))
  have hs1 : gs < w1.heap.size := Nat.lt_of_lt_of_le hs0 hB1.size
  clear hB0 hR0 hB1
  rw [hcbn]
  go_wp2_with fail
  refine (Take_all w1 b g l cb hRd1).mono ?_
  rintro e w2 ⟨rfl, hRd2, hB2, hz2, hj2⟩
  have hc2 := (hj2 gs (by omega)).trans hc1
  have hKp2 : RdKeep g w w2 := hKp1.trans ⟨hB2, by rw [hz2]; exact Nat.le_refl _, fun i _ hi _ => hj2 i hi⟩
  have hs2 : gs < w2.heap.size := by rw [hz2]; exact hs1
  clear hc1 hKp1 hs1 hB2 hj2 hRd1 hz2
  by_cases hsh : l.length < cb
  · clear hcbn
    have hrt : rdTake l cb = (0, 10, 0) := by unfold rdTake; rw [if_neg (by have := HCP.out; have := HCN.out; omega), if_pos (by omega)]
    have HE := Aside0.mk (show segD cls m l = .error 10 by unfold segD; rw [HCN.out, if_pos (by omega)])
    rw [hrt]
    have H2 := Aside0.mk hKp2
    clear hrt hsh hRd2 hKp2
    obtain ⟨hx0, hx1, hxf, hxg⟩ := cells_two hc2
    have HX := Aside0.mk (And.intro hc2 hs2)
    clear hc2 hs2
    go_wp2_with fail
    refine bodyPost_ret (results_ct rfl _ _ gs 59 #[.int .i64 0, .slice none 0 0] (0, 0) _ rfl (set_two HX.out.1 _ _) Try.underlying59 rfl (by kernel_rfl)) rfl ?_
    exact .inl ⟨10, HE.out, by decide, rfl, seg_set H2.out HX.out.2 HGS.out hgl⟩
  · have hrt : rdTake l cb = (gval (l.take cb), 0, cb) := by unfold rdTake; rw [if_neg (by have := HCP.out; omega), if_neg (by omega), Int.toNat_natCast]
    rw [hrt] at hRd2 ⊢
    have hgv := gval_small (b := l.take cb) (by have := HCP.out; rw [List.length_take]; omega)
    have hgv2 : gval (l.take cb) ≤ 65535 := by
      have h1 := (gval_bound (l.take cb)).2
      have h2 : (2 : Int) ^ (l.take cb).length ≤ 2 ^ 16 := by
        have : (2 : Nat) ^ (l.take cb).length ≤ 2 ^ 16 := Nat.pow_le_pow_right (by omega) (by have := HCP.out; rw [List.length_take]; omega)
        have h2 : ((2 ^ (l.take cb).length : Nat) : Int) ≤ ((2 ^ 16 : Nat) : Int) := Int.ofNat_le.mpr this
        simpa using h2
      omega
    have hseg : segD cls m l = if (((l.drop cb).length : Nat) : Int) < dbOf m (gval (l.take cb)) then .error 10 else rdEnd (rdD m ((gval (l.take cb)).toNat + 1) (gval (l.take cb)).toNat (l.drop cb) []) := by
      unfold segD
      rw [hcbn, Int.toNat_natCast, if_neg (by omega)]
    have HSEG := Aside0.mk hseg
    dsimp only at hRd2
    clear hrt hseg hsh
    have hlen : (l.drop cb).length ≤ 1048576 := by have := HL.out; rw [List.length_drop]; omega
    generalize l.drop cb = l2 at *
    obtain ⟨n, hn⟩ : ∃ n : Nat, gval (l.take cb) = n := ⟨(gval (l.take cb)).toNat, by omega⟩
    rw [hn] at HSEG hgv2 ⊢
    clear hgv hn hcbn
    have hdb := dataBits_is m n (by omega) (by omega)
    have hdr := dbOf_range m n (by omega)
    have HDB := Aside0.mk hdb
    have HN := Aside0.mk (And.intro hgv2 hdr)
    have HLEN := Aside0.mk hlen
    clear hdb hdr hgv2 hlen
    go_wp2_with fail
    refine (Left_calls w2 b g l2 hRd2).mono ?_
    rintro e w3 ⟨rfl, hw_⟩
    replace hw_ := hw_.symm
    subst hw_
    go_wp2_with fail
    refine (modes_dataBits.calls m n _ w2 HDB.out).mono ?_
    rintro e w3 ⟨rfl, hB3⟩
    have hc3 := (hB3.block gs hs2).trans hc2
    have hRd3 := RdKeep.rd hRd2 hB3
    have hKp3 : RdKeep g w w3 := hKp2.trans (RdKeep.of_below hB3 (by omega))
    have hs3 : gs < w3.heap.size := Nat.lt_of_lt_of_le hs2 hB3.size
    clear hc2 hRd2 hKp2 hs2 hB3
    by_cases hsh : ((l2.length : Nat) : Int) < dbOf m n
    · have HE := Aside0.mk (show segD cls m l = .error 10 by rw [HSEG.out, if_pos hsh])
      have t1 : decide (((l2.length : Nat) : Int) < dbOf m n) = true := decide_eq_true hsh
      have H3 := Aside0.mk hKp3
      obtain ⟨hx0, hx1, hxf, hxg⟩ := cells_two hc3
      have HX := Aside0.mk (And.intro hc3 hs3)
      clear hsh hRd3 hKp3 hc3 hs3
      go_wp2_with fail
      refine bodyPost_ret (results_ct rfl _ _ gs 59 #[.int .i64 0, .slice none 0 0] (0, 0) _ rfl (set_two HX.out.1 _ _) Try.underlying59 rfl (by kernel_rfl)) rfl ?_
      exact .inl ⟨10, HE.out, by decide, rfl, seg_set H3.out HX.out.2 HGS.out hgl⟩
    · have t1 : decide (((l2.length : Nat) : Int) < dbOf m n) = false := decide_eq_false hsh
      have HSG := Aside0.mk (show segD cls m l = rdEnd (rdD m (n + 1) n l2 []) by rw [HSEG.out, if_neg hsh, Int.toNat_natCast])
      have HSH := Aside0.mk (show dbOf m n ≤ l2.length by omega)
      have HX := Aside0.mk (And.intro hc3 (And.intro hs3 (And.intro hRd3 hKp3)))
      clear hsh hRd3 hKp3 hc3 hs3 HSEG
      have hy0 : (w3.alloc (.cells #[.int .i64 m, .slice none 0 0] 59)).heap[w3.heap.size]? = some (.cells #[.int .i64 m, .slice none 0 0] 59 (0, 0)) := World.alloc_heap_new _ _
      have hBa : Below w3.heap.size w3 (w3.alloc (.cells #[.int .i64 m, .slice none 0 0] 59)) := below_alloc (Below.refl _ _) _
      have hza : (w3.alloc (.cells #[.int .i64 m, .slice none 0 0] 59)).heap.size = w3.heap.size + 1 := by simp
      go_wp2_with fail
      generalize w3.alloc (.cells #[.int .i64 m, .slice none 0 0] 59) = w4 at *
      obtain ⟨g2, hg2⟩ : ∃ g2, g2 = w3.heap.size := ⟨_, rfl⟩
      rw [← hg2] at hy0 hBa hza ⊢
      have HG2 := Aside0.mk hg2
      clear hg2
      refine (modes_group.calls m (szOf m) (wids m) w4 (group_is m)).mono ?_
      rintro e w5 ⟨vw, rfl, hRw, hB5⟩
      have hwl := wids_length m
      have hsz := szOf_range m
      obtain ⟨gw, cw, rfl, hgw1, hgw2, cellsw, hcw⟩ := Kd.R_form hRw (by omega)
      have hFw : Kd.F (Kd.int .i64) w5 (fun k => w4.heap.size ≤ k ∧ k < w5.heap.size) (some ⟨gw, 0, none⟩) (wids m).length (wids m) := Kd.F_mono (Kd.R_F (Kd.R_bound hRw)) (fun k hk => ⟨hk.2.1, hk.2.2.1⟩)
      have hc5 := (hB5.block g2 (by omega)).trans hy0
      have hq := HX.out
      have hg2s : gs < g2 := by rw [HG2.out]; exact hq.2.1
      have hc5s : w5.heap[gs]? = some (.cells #[.int .i64 0, .slice none 0 0] 59 (0, 0)) := (hB5.block gs (by omega)).trans ((hBa.block gs (by omega)).trans hq.1)
      have hBq : Below w3.heap.size w3 w5 := by rw [← HG2.out]; exact hBa.trans (hB5.mono (by omega))
      have hRd5 := RdKeep.rd hq.2.2.1 hBq
      have hKp5 : RdKeep g w w5 := hq.2.2.2.trans (RdKeep.of_below hBq (by rw [← HG2.out]; omega))
      have hzz := hB5.size
      have HW := Aside0.mk hFw
      have HSZ := Aside0.mk (And.intro hsz hwl)
      have HG := Aside0.mk (show gs < g2 ∧ g2 + 1 = w4.heap.size ∧ w4.heap.size ≤ w5.heap.size by omega)
      have HR5 := Aside0.mk (And.intro hc5 (And.intro hc5s (And.intro hRd5 hKp5)))
      clear hg2s hRw hFw hc5 hc5s hBq hRd5 hKp5 hzz hB5 hy0 hBa hza hgw1 hgw2 hcw hq hwl HX
      generalize w4.heap.size = N4 at *
      go_wp2_with fail
      go_loopw [8] (fun v8 wr => ∃ (n' : Nat) (l' : List Bool) (acc : List Int) (v : Value), v8 = .int .i64 n' ∧ Aside0 (rdD m (n' + 1) n' l' acc = rdD m (n + 1) n l2 [] ∧ dbOf m n' ≤ l'.length ∧ acc.length + n' = n) ∧ Aside0 (IsRd wr b g l') ∧ Aside0 (wr.heap[g2]? = some (.cells #[.int .i64 m, v] 59 (0, 0))) ∧ Aside0 (Kd.R (Kd.int .u8) 5 wr w5.heap.size (fun _ => True) v acc) ∧ Aside0 ((∀ k, k < w5.heap.size → k ≠ g → k ≠ g2 → wr.heap[k]? = w5.heap[k]?) ∧ Below g w5 wr))
        (fun v8 _ => (intOf v8).toNat)
      case atStart => exact ⟨n, l2, [], _, rfl, ⟨rfl, HSH.out, by simp⟩, ⟨HR5.out.2.2.1⟩, ⟨HR5.out.1⟩, ⟨Kd.R_nil _ _ _ _ _⟩, ⟨fun _ _ _ _ => rfl, Below.refl _ _⟩⟩
      case round =>
        obtain ⟨n', l', acc, v, rfl, HI, HRd, HC2, HO, HK⟩ := hrel
        obtain ⟨Av, cv, rfl⟩ := Kd.R_slice HO.out
        by_cases hpos : 0 < n'
        · have t2 : decide ((0 : Int) < (n' : Int)) = true := decide_eq_true (by omega)
          have t2n : decide (0 < n') = true := decide_eq_true hpos
          have hkk : min n' (szOf m) ≤ n' ∧ min n' (szOf m) ≤ szOf m ∧ 1 ≤ min n' (szOf m) := by have := HSZ.out; omega
          have hif : (if (szOf m : Int) < (n' : Int) then ((szOf m : Nat) : Int) else (n' : Int)) = ((min n' (szOf m) : Nat) : Int) := by split <;> omega
          have hsp := dbOf_split m n' hpos
          have hrdk : rdD m (n' + 1) n' l' acc = if (unGrp m (gval (l'.take (dbOf m (min n' (szOf m) : Nat)).toNat)) (min n' (szOf m))).2 = true then rdD m n' (n' - min n' (szOf m)) (l'.drop (dbOf m (min n' (szOf m) : Nat)).toNat) (acc ++ (unGrp m (gval (l'.take (dbOf m (min n' (szOf m) : Nat)).toNat)) (min n' (szOf m))).1) else none := by
            rw [rdD, if_neg (by omega)]
          obtain ⟨kk, hkn⟩ : ∃ kk, kk = min n' (szOf m) := ⟨_, rfl⟩
          rw [← hkn] at hkk hif hsp hrdk
          have hmin : min (n' : Int) ((szOf m : Nat) : Int) = (kk : Int) := by omega
          have hwk := wids_at m kk hkk.2.1
          have hdk := dbOf_range m kk (by omega)
          have hdk2 := dbOf_range m ((n' - kk : Nat) : Int) (by omega)
          obtain ⟨wd, hwd⟩ : ∃ wd : Nat, dbOf m kk = wd := ⟨(dbOf m kk).toNat, by omega⟩
          have hwl : wd ≤ l'.length ∧ wd ≤ 24 := by have := HI.out.2.1; have := hkk.2.1; have := HSZ.out.1; omega
          have hCw := Kd.F_now (Kd.F_step HW.out (fun k hk _ => HK.out.1 k hk.2 (by have := HG.out; omega) (by have := HG.out; omega)))
          obtain ⟨adw, eaw, hxw⟩ := Kd.at_int hCw (kk : Int) (by omega) (by have := HSZ.out.2; omega)
          injection eaw with eaw
          subst eaw
          rw [hwk, hwd] at hxw
          simp only [Int.toNat_natCast] at hxw
          rw [add_plain] at hxw
          have hkl : decide ((kk : Int) < ((wids m).length : Int)) = true := decide_eq_true (by have := HSZ.out.2; omega)
          have hkl0 : kk < (wids m).length := by have := HSZ.out.2; omega
          have hkln : decide (kk < (wids m).length) = true := decide_eq_true (by have := HSZ.out.2; omega)
          rw [hwd, Int.toNat_natCast] at hrdk
          have HRK := Aside0.mk hrdk
          have HKK := Aside0.mk (And.intro hkk (And.intro hsp (And.intro hdk2 (And.intro hwl hwd))))
          have HPOS := Aside0.mk hpos
          have HKN := Aside0.mk hkn
          clear hkk hsp hrdk hwk hdk hdk2 hwd hwl hCw hpos hkn
          go_wp2_with fail
          refine (Take_all wr b g l' wd HRd.out).mono ?_
          rintro e w7 ⟨rfl, hRd7, hB7, hz7, hj7⟩
          have hrt : rdTake l' wd = (gval (l'.take wd), 0, wd) := by have := HKK.out.2.2.2.1; unfold rdTake; rw [if_neg (by omega), if_neg (by omega), Int.toNat_natCast]
          rw [hrt] at hRd7 ⊢
          dsimp only at hRd7
          have hgv := gval_small (b := l'.take wd) (by have := HKK.out.2.2.2.1; rw [List.length_take]; omega)
          have hlp := unGrp_length m (gval (l'.take wd)) kk HKK.out.1.2.2 HKK.out.1.2.1
          have hbo := bytesOf_is m (gval (l'.take wd)) kk hgv.1 (by omega) HKK.out.1.2.2 (by have := HKK.out.1.2.1; have := HSZ.out; omega)
          have hp := HRK.out
          generalize gval (l'.take wd) = gv at *
          obtain ⟨pl, pb, hpe⟩ : ∃ pl pb, unGrp m gv kk = (pl, pb) := ⟨_, _, rfl⟩
          rw [hpe] at hlp hbo hp
          dsimp only at hlp hp
          have hC7 := (hj7 g2 (by have := HG.out; omega)).trans HC2.out
          have hO7 : Kd.R (Kd.int .u8) 5 w7 w5.heap.size (fun k => w5.heap.size ≤ k) (.slice Av acc.length cv) acc := Kd.R_move (Kd.R_mono (Kd.R_bound HO.out) (fun k hk => hk.2.1)) (fun k hk => hj7 k (by have := HG.out; omega))
          have hK7 : (∀ k, k < w5.heap.size → k ≠ g → k ≠ g2 → w7.heap[k]? = w5.heap[k]?) ∧ Below g w5 w7 := ⟨fun k hk h1 h2 => (hj7 k h1).trans (HK.out.1 k hk h1 h2), HK.out.2.trans hB7⟩
          have HP := Aside0.mk (And.intro hp hlp)
          have HBO := Aside0.mk hbo
          have H7 := Aside0.mk (And.intro hC7 (And.intro hO7 (And.intro hK7 hRd7)))
          clear hrt hgv hlp hbo hp hpe hC7 hO7 hK7 hRd7 hB7 hz7 hj7 HC2 HO HK HRd hxw HRK
          go_wp2_with fail
          refine (modes_bytesOf.calls 10 m gv kk pl pb w7 HBO.out).mono ?_
          rintro e w8 ⟨vp, rfl, hRp, hB8⟩
          obtain ⟨hC7, hO7, hK7, hRd7⟩ := H7.out
          obtain ⟨Ap, cp, rfl⟩ := Kd.R_slice hRp
          have hs7 := hK7.2.size
          have hC8 := (hB8.block g2 (by have := HG.out; omega)).trans hC7
          have hO8 := Kd.R_below hO7 hB8
          have hRd8 := RdKeep.rd hRd7 hB8
          have hs8 := hB8.size
          have hK8 : (∀ k, k < w5.heap.size → k ≠ g → k ≠ g2 → w8.heap[k]? = w5.heap[k]?) ∧ Below g w5 w8 := ⟨fun k hk h1 h2 => (hB8.block k (by omega)).trans (hK7.1 k hk h1 h2), hK7.2.trans (hB8.mono (by have := HG.out; omega))⟩
          have HRP := Aside0.mk hRp
          clear hC7 hO7 hK7 hRd7 hB8 H7 hRp
          cases pb with
          | false =>
            have HE := Aside0.mk (show segD cls m l = .error 9 by rw [HSG.out, ← HI.out.1, HP.out.1, if_neg (by simp)]; rfl)
            have hcs : w8.heap[gs]? = some (.cells #[.int .i64 0, .slice none 0 0] 59 (0, 0)) := by
              rw [hK8.1 gs (by have := HG.out; omega) (by have := HG.out; omega) (by have := HG.out; omega)]
              exact HR5.out.2.1
            obtain ⟨hz0, hz1, hzf, hzg⟩ := cells_two hcs
            have HCS := Aside0.mk hcs
            have H8 := Aside0.mk hK8
            clear hcs hC8 hO8 hRd8 hK8 hs7 hs8
            go_wp2_with fail
            refine bodyPost_ret (results_ct rfl _ _ gs 59 #[.int .i64 0, .slice none 0 0] (0, 0) _ rfl (set_two HCS.out _ _) Try.underlying59 rfl (by kernel_rfl)) rfl ?_
            exact .inl ⟨9, HE.out, by decide, rfl, seg_set (seg_keep hgl HGS.out HG.out HR5.out.2.2.2 H8.out) (by have := H8.out.2.size; have := HG.out; omega) HGS.out hgl⟩
          | true =>
            obtain ⟨hx0, hx1, hxf, hxg⟩ := cells_two hC8
            have H8 := Aside0.mk (And.intro hC8 (And.intro hO8 (And.intro hRd8 (And.intro hK8 (And.intro hs7 hs8)))))
            clear hC8 hO8 hRd8 hK8 hs7 hs8
            have HWN := Aside0.mk (show wrap64 ((n' : Int) - (kk : Int)) = ((n' - kk : Nat) : Int) by have := HKK.out.1; have := HI.out.2.2; have := HN.out; unfold wrap64; omega)
            go_wp2_with ((with_reducible refine gate_builtin (b := .append) (xs := #[.tmp 69, .tmp 70]) rfl ?_); at_builtin; refine Kd.R_append_rows (Kd.int .u8) (w0 := w8) w5.heap.size rfl (.tmp 69) (.tmp 70) 57 5 (.int .u8 0) 1 rfl Try.underlying57 info5 rfl (by decide) (by omega) (.slice Av acc.length cv) acc pl _ _ _ (fun k => w5.heap.size ≤ k) (fun _ => False) rfl rfl ?aO ?aR (fun _ _ h => h) (fun _ h => h.elim) ?aF ?aB ?aS ?aL ?_; (case aR => exact (Kd.R_reads' HRP.out).2.2); (case aB => exact Below.refl _ _); (case aF => exact (fun k hk => by have := H8.out.2.2.2.2; omega)); (case aO => exact H8.out.2.1); (case aS => have := H8.out.2.2.2.2; omega); (case aL => have := HI.out.2.2; have := HN.out; have := HP.out.2; have := HKK.out.1; have := HSZ.out; omega); intro v9 w9 ho hb hg hat; obtain ⟨A9, c9, rfl⟩ := Kd.R_slice ho; have hC9 := (hg.block g2 (by have := H8.out.2.2.2.2; have := HG.out; omega) (fun he => by have h1 := Kd.R_base H8.out.2.1 g2 he.symm; have := HG.out; omega)).trans H8.out.1; obtain ⟨hy0, hy1, hyf, hyg⟩ := cells_two hC9; have HC9 := Aside0.mk hC9; have HO9 := Aside0.mk ho; have HB9 := Aside0.mk hb; clear ho hb hg hat hC9)
            obtain ⟨hC8, hO8, hRd8, hK8, hs7, hs8⟩ := H8.out
            obtain ⟨hg1, hg2, hg3⟩ := HG.out
            obtain ⟨hk0, hk1, hk2, hk3, hk4⟩ := HKK.out
            rw [HWN.out, ← List.length_append]
            refine ⟨⟨n' - kk, l'.drop wd, acc ++ pl, .slice A9 (acc ++ pl).length c9, rfl, ⟨?_, ?_, ?_⟩, ⟨?_⟩, ⟨set_second HC9.out _⟩, ⟨?_⟩, ⟨fun k hk h1 h2 => ?_, ?_⟩⟩, ?_⟩
            · rw [← HI.out.1, HP.out.1]
              simp only [if_true]
              exact rdD_fuel m _ _ _ _ (by omega) _ (by omega)
            · have := HI.out.2.1
              rw [List.length_drop]
              omega
            · have := HI.out.2.2
              have := HP.out.2
              rw [List.length_append]
              omega
            · exact (hRd8.below HB9.out (by omega)).step (fun k _ hk => Below.heap_setCell _ ⟨g2, 1, none⟩ _ k (by show k ≠ g2; omega)) (Below.heap_setCell _ ⟨g2, 1, none⟩ _ g (by show g ≠ g2; omega))
            · exact Kd.R_mono (Kd.R_far HO9.out (p := ⟨g2, 1, none⟩) (fun k hk => by show k ≠ g2; omega) _) (fun _ _ => trivial)
            · rw [Below.heap_setCell _ ⟨g2, 1, none⟩ _ k h2, HB9.out.block k hk]
              exact hK8.1 k hk h1 h2
            · exact (hK8.2.trans (HB9.out.mono (by omega))).setCell (p := ⟨g2, 1, none⟩) (by show g ≤ g2; omega) _
            · simp only [intOf, Int.toNat_natCast]
              omega
        · have t2 : decide ((0 : Int) < (n' : Int)) = false := decide_eq_false (by omega)
          have t2n : decide (0 < n') = false := decide_eq_false hpos
          obtain rfl : n' = 0 := by omega
          have hrd : rdD m (n + 1) n l2 [] = some (acc, l') := by rw [← HI.out.1]; rfl
          have HE := Aside0.mk (show segD cls m l = .ok (acc, l') by rw [HSG.out, hrd]; rfl)
          obtain ⟨hx0, hx1, _, _⟩ := cells_two HC2.out
          have hcs : wr.heap[gs]? = some (.cells #[.int .i64 0, .slice none 0 0] 59 (0, 0)) := by
            rw [HK.out.1 gs (by have := HG.out; omega) (by have := HG.out; omega) (by have := HG.out; omega)]
            exact HR5.out.2.1
          obtain ⟨hz0, hz1, hzf, hzg⟩ := cells_two hcs
          have HCS := Aside0.mk hcs
          clear hrd hcs hpos
          go_wp2_with fail
          refine bodyPost_ret (results_ct rfl _ _ gs 59 #[.int .i64 m, .slice Av acc.length cv] (0, 0) _ rfl (set_two HCS.out _ _) Try.underlying59 rfl (by kernel_rfl)) rfl ?_
          have hgs := HG.out
          have hR1 : Kd.R (Kd.int .u8) 5 wr w5.heap.size (fun k => w5.heap.size ≤ k) (.slice Av acc.length cv) acc := Kd.R_mono (Kd.R_bound HO.out) (fun k hk => hk.2.1)
          have hR2 := Kd.R_far (Kd.R_far hR1 (p := ⟨gs, 0, none⟩) (fun k hk => by show k ≠ gs; omega) (.int .i64 m)) (p := ⟨gs, 1, none⟩) (fun k hk => by show k ≠ gs; omega) (.slice Av acc.length cv)
          refine .inr ⟨acc, l', _, HE.out, rfl, Kd.R_lower (Kd.R_mono hR2 (fun _ _ => trivial)) (by rw [← HGS.out]; omega), ?_, seg_set (seg_keep hgl HGS.out HG.out HR5.out.2.2.2 HK.out) (by have := HK.out.2.size; omega) HGS.out hgl⟩
          refine HRd.out.step (fun k _ hk => ?_) ?_
          · rw [Below.heap_setCell _ ⟨gs, 1, none⟩ _ k (by show k ≠ gs; omega), Below.heap_setCell _ ⟨gs, 0, none⟩ _ k (by show k ≠ gs; omega)]
          · rw [Below.heap_setCell _ ⟨gs, 1, none⟩ _ g (by show g ≠ gs; omega), Below.heap_setCell _ ⟨gs, 0, none⟩ _ g (by show g ≠ gs; omega)]
end Go.Proofs.Ytjhhckkmogekkaa.X
