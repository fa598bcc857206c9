/- modes.Encode: the bits of a list of segments, or the error. No condition. -/
import Derived.Test.YtjhhckkmogekkaaYMEncSpec
import Derived.Test.YtjhhckkmogekkaaYMPut
import Derived.Test.YtjhhckkmogekkaaYInRound
import Derived.Test.YtjhhckkmogekkaaYChunkB
import Derived.Maps.AppendAt
import Derived.Laws.EntriesVeiled
namespace Go.Proofs.Ytjhhckkmogekkaa.X
open Go.RowKit Go.Shelf Go.Proofs.YtjhhckkmogekkaaW.PrintWords Go.Proofs.YtjhhckkmogekkaaW.PrintLast Go.Proofs.YtjhhckkmogekkaaW.PrintMore
set_option linter.unusedVariables false
set_option linter.unusedSimpArgs false
attribute [local go_sem] Oper.semAt_some

set_option maxHeartbeats 4000000 in
set_option maxRecDepth 100000 in
theorem encode_bad (A0 : Option Addr) (c0 : Nat) (l0 : List S59) (cls : Int) (w : World) (hr0 : Kd.C k59 w A0 l0.length l0) (hc0 : l0.length ≤ c0) (h : (mbits l0 cls).2 ≠ 0) :
    Calls Try.prog 31 #[.slice A0 l0.length c0, .int .i64 cls] w fun e w' => e = .returned (.tuple #[.slice none 0 0, .int .i64 (mbits l0 cls).2]) ∧ Below w.heap.size w w' := by
  have hcall := modes_Bits.calls A0 c0 l0 cls (mbits l0 cls).1 (mbits l0 cls).2 w hr0 hc0 rfl
  generalize (mbits l0 cls).1 = x1 at *
  generalize (mbits l0 cls).2 = x2 at *
  have HCALL := Aside0.mk hcall
  have z1 : (x2 == 0) = false := by simp [h]
  have z2 : (x2 != 0) = true := by simp [h]
  clear hcall hr0 hc0 h
  go_enter Try.func31, Try.ntmps31
  go_wp2_with fail
  refine HCALL.out.mono ?_
  rintro e w1 ⟨rfl, hB⟩
  have HB := Aside0.mk hB
  clear hB
  go_wp2_with fail
  go_ret2
  exact ⟨rfl, HB.out⟩

-- THE WALK
/-- A post that asks for the plain end alone. -/
def onlyN (R : Act → World → Prop) : Exit → Act → World → Prop
  | .normal, a, w => R a w
  | _, _, _ => False
theorem wpIn_only {F : Fence} {n : Nat} {P : Program} {c : Code} {a : Act} {w : World} {Q : Exit → Act → World → Prop} (R : Act → World → Prop) (h : c.wpIn F n P (onlyN R) a w) (hq : ∀ a w, R a w → Q .normal a w) : c.wpIn F n P Q a w :=
  wpIn_mono h (fun e a w hr => by cases e <;> first | exact hq _ _ hr | exact hr.elim)
def dfr (D : Nat) : Deferred := { target := .collected D, args := #[] }
theorem block_stays {X Y : World} {row : Option Nat} {Bx n₁ : Nat} {t : TypeId} {cs : Array Value} (h : X.heap[Bx]? = some (.cells cs t (0, 0))) (hg : X.grownBy Y row) (hr : ∀ r, row = some r → n₁ ≤ r ∧ ∃ o : Obj, X.heap[r]? = some o ∧ o.isCells = false) : Y.heap[Bx]? = some (.cells cs t (0, 0)) :=
  (hg.block Bx (Array.getElem?_eq_some_iff.1 h).1 (fun e => by
    obtain ⟨_, o, ho, hc⟩ := hr _ e.symm
    rw [h] at ho
    cases ho
    cases hc)).trans h
/-- What holds between two segments. -/
structure EncInv (w wr : World) (gO : Nat) (v : Value) (bits : List Bool) (Ds : List Nat) : Prop where
  box : wr.heap[gO]? = some (.cells #[v] 40 (0, 0))
  row : Kd.R Kd.bool 4 wr (gO + 2) (fun k => gO + 2 ≤ k) v bits
  fn : wr.heap[gO + 1]? = some (.cells #[(.func (.func 52) #[] #[.pointer (some ⟨gO, 0, none⟩)])] 85 (0, 0))
  bel : Below w.heap.size w wr
  ge : w.heap.size ≤ gO
  size : gO + 2 ≤ wr.heap.size
  nd : Ds.Nodup
  ds : ∀ D ∈ Ds, gO + 2 ≤ D ∧ wr.heap[D]? = some (.deferred (some []))
theorem EncInv.below {w wr w' : World} {gO : Nat} {v : Value} {bits : List Bool} {Ds : List Nat} (h : EncInv w wr gO v bits Ds) (hb : Below wr.heap.size wr w') : EncInv w w' gO v bits Ds := by
  have hsz := h.size
  have hbs := hb.size
  refine ⟨(hb.block gO (by omega)).trans h.box, Kd.R_below h.row hb, (hb.block (gO + 1) (by omega)).trans h.fn, bstep h.bel hb, h.ge, by omega, h.nd, fun D hD => ⟨(h.ds D hD).1, (hb.block D ?_).trans (h.ds D hD).2⟩⟩
  exact (Array.getElem?_eq_some_iff.1 (h.ds D hD).2).1
theorem EncInv.drew {w wr : World} {gO : Nat} {v : Value} {bits : List Bool} {Ds : List Nat} (h : EncInv w wr gO v bits Ds) : EncInv w wr.drew gO v bits Ds := h.below (below_drew (Below.refl _ _))
theorem EncInv.stays {w X Y : World} {gO n₁ : Nat} {v : Value} {bits : List Bool} {Ds : List Nat} {row : Option Nat} (h : EncInv w X gO v bits Ds) (hg : X.grownBy Y row) (hr : ∀ r, row = some r → n₁ ≤ r ∧ ∃ o : Obj, X.heap[r]? = some o ∧ o.isCells = false) (hD : ∀ D ∈ Ds, D < n₁) (hn : w.heap.size ≤ n₁) : EncInv w Y gO v bits Ds := by
  refine ⟨block_stays h.box hg hr, ?_, block_stays h.fn hg hr, h.bel.grown hg h.bel.size (fun k e => by have := (hr k e).1; omega), h.ge, Nat.le_trans h.size hg.size, h.nd, fun D hd => ⟨(h.ds D hd).1, ?_⟩⟩
  · refine Kd.R_mono (Kd.R_step (Kd.R_bound h.row) (fun k hk hlt => ?_)) (fun k hk => hk.1)
    obtain ⟨_, _, _, q, _, cs, hc⟩ := hk
    exact (block_stays hc hg hr).trans hc.symm
  · rw [hg.block D (Array.getElem?_eq_some_iff.1 (h.ds D hd).2).1 (fun e => by have := (hr D e.symm).1; have := hD D hd; omega)]
    exact (h.ds D hd).2
theorem row_cells {W : World} {N : Nat} {v : Value} {bits : List Bool} (h : Kd.R Kd.bool 4 W N (fun k => N ≤ k) v bits) (D : Nat) (o : Obj) (hD : W.heap[D]? = some o) (hne : ∀ cs, o ≠ .cells cs 4 (0, 0)) : some D ≠ v.ownBlock := by
  intro he
  obtain ⟨cs, hc⟩ := Kd.R_typed h D he.symm
  rw [hD] at hc
  injection hc with hc
  exact hne cs hc
theorem EncInv.put {w wr w' : World} {gO : Nat} {v v' : Value} {bits bits' : List Bool} {Ds : List Nat} (h : EncInv w wr gO v bits Ds) (hv : w'.heap[gO]? = some (.cells #[v'] 40 (0, 0))) (hrow : Kd.R Kd.bool 4 w' (gO + 2) (fun k => gO + 2 ≤ k) v' bits') (hk : PutKeep gO (gO + 2) wr w' v v') : EncInv w w' gO v' bits' Ds := by
  have hsz := h.size
  have hks := hk.size
  have hge := h.ge
  refine ⟨hv, hrow, ?_, ?_, h.ge, by omega, h.nd, fun D hD => ⟨(h.ds D hD).1, ?_⟩⟩
  · rw [hk.block (gO + 1) (by omega) (by omega) (row_cells h.row _ _ h.fn (fun cs he => by injection he with h1 h2 _; revert h2; decide))]
    exact h.fn
  · exact h.bel.trans ((hk.below (by omega) (by omega) (fun k hk => Kd.R_base h.row k hk)).mono h.ge)
  · obtain ⟨h1, h2⟩ := h.ds D hD
    rw [hk.block D (Array.getElem?_eq_some_iff.1 h2).1 (by omega) (row_cells h.row _ _ h2 (fun cs he => by cases he))]
    exact h2

theorem grp_reads {W : World} {A : Option Addr} {d : List Int} (h : Kd.C (Kd.int .u8) W A d.length d) {i : Nat} (hi : i < d.length) (size : Nat) : Kd.C (Kd.int .u8) W (A.map (·.add i)) ((d.drop i).take size).length ((d.drop i).take size) := by
  have h1 := Kd.C_drop (c := d.length + i + 1) h (Nat.le_of_lt hi) (by omega)
  rw [if_neg (by omega)] at h1
  have e : (A.map (·.add (i * (Kd.int .u8).sz))) = A.map (·.add i) := by
    show A.map (·.add (i * 1)) = _
    rw [Nat.mul_one]
  rw [e] at h1
  by_cases hm : size ≤ (d.drop i).length
  · exact Kd.C_take h1 hm
  · rw [List.take_of_length_le (by omega)]
    exact h1
theorem flat_len (m : Int) (d : List Int) {n : Nat} : ∀ pre : List (ChunkBAt n), (pre.flatMap (fun x => grpBits m (grpAt m d x.1))).length ≤ pre.length * 24
  | [] => by simp
  | x :: pre => by
    have ih := flat_len m d pre
    have hs := szOf_range m
    have hg : (grpAt m d x.1).length ≤ 3 := by unfold grpAt; rw [List.length_take]; omega
    have hd := dbOf_range m (grpAt m d x.1).length (by omega)
    rw [List.flatMap_cons, List.length_append, List.length_cons]
    have : (grpBits m (grpAt m d x.1)).length ≤ 24 := by unfold grpBits; rw [low_length]; omega
    omega
theorem EncInv.put_block {w W W' : World} {gO b : Nat} {v v' : Value} {bits : List Bool} {Ds : List Nat} {t : TypeId} {cs : Array Value} (h : EncInv w W gO v bits Ds) (hk : PutKeep gO (gO + 2) W W' v v') (hb : W.heap[b]? = some (.cells cs t (0, 0))) (h1 : t ≠ 40) (h2 : t ≠ 4) : W'.heap[b]? = some (.cells cs t (0, 0)) := by
  rw [hk.block b (Array.getElem?_eq_some_iff.1 hb).1 ?_ (row_cells h.row _ _ hb (fun cs he => by injection he with _ he _; exact h2 he))]
  · exact hb
  · rintro rfl
    rw [h.box] at hb
    injection hb with hb
    injection hb with _ hb _
    exact h1 hb.symm
theorem EncInv.put_from {w W W' : World} {gO B : Nat} {v v' : Value} {bits : List Bool} {Ds : List Nat} (h : EncInv w W gO v bits Ds) (hk : PutKeep gO (gO + 2) W W' v v') : KeepsFrom B W W' := by
  refine ⟨hk.size, fun k o _ hko ho => ?_⟩
  rw [hk.block k (Array.getElem?_eq_some_iff.1 hko).1 ?_ (row_cells h.row _ _ hko (fun cs he => by rw [he] at ho; cases ho))]
  · exact hko
  · rintro rfl
    rw [h.box] at hko
    cases hko
    cases ho
theorem leaves_all {n : Nat} {fn : Func} {tmps : Array Value} {R : Ending → World → Prop} {Inv : World → Prop} {N : Nat} (hstep : ∀ W D, N ≤ D → Inv W → W.heap[D]? = some (.deferred (some [])) → Inv (W.putObj D (.deferred none)))
    (hend : ∀ W, Inv W → ∃ v, (results fn tmps).run Try.prog W = .ok v W ∧ R (.returned v) W) : ∀ (Ds : List Nat) (W : World), Ds.Nodup → (∀ D ∈ Ds, N ≤ D ∧ W.heap[D]? = some (.deferred (some []))) → Inv W → LeavesInM Fence.wide n Try.prog fn tmps R (Ds.map dfr) .returning W
  | [], W, _, _, hI => hend W hI
  | D :: Ds, W, hnd, hD, hI => by
    obtain ⟨h1, h2⟩ := hD D List.mem_cons_self
    obtain ⟨hn1, hn2⟩ := List.nodup_cons.1 hnd
    refine ⟨by simp, .inl ⟨_, _, rfl, run_takeDeferred h2, ?_⟩⟩
    refine leaves_all hstep hend Ds _ hn2 (fun D' hD' => ?_) (hstep W D h1 hI h2)
    obtain ⟨h3, h4⟩ := hD D' (List.mem_cons_of_mem _ hD')
    refine ⟨h3, ?_⟩
    rw [← h4]
    simp [World.putObj, Array.getElem?_setIfInBounds, show ¬ D = D' from fun e => hn1 (e ▸ hD')]
set_option maxHeartbeats 8000000 in
set_option maxRecDepth 100000 in
theorem encode_walk (A0 : Option Addr) (c0 : Nat) (l0 : List S59) (cls : Int) (w : World) (hr0 : Kd.C k59 w A0 l0.length l0) (hc0 : l0.length ≤ c0) (h : (mbits l0 cls).2 = 0) :
    Calls Try.prog 31 #[.slice A0 l0.length c0, .int .i64 cls] w fun e w' => ∃ v0_ : Value, e = .returned (.tuple #[v0_, .int .i64 0]) ∧ Kd.R Kd.bool 4 w' w.heap.size (fun _ => True) v0_ (encAll cls l0) ∧ Below w.heap.size w w' := by
  have hcall := modes_Bits.calls A0 c0 l0 cls (mbits l0 cls).1 (mbits l0 cls).2 w hr0 hc0 rfl
  have hok : (0 ≤ cls ∧ cls ≤ 2) ∧ l0.length ≤ 4096 ∧ l0.any (tooLong cls) = false := by
    unfold mbits at h
    split at h
    · cases h
    · split at h
      · cases h
      · rename_i h1 h2
        refine ⟨by omega, by omega, ?_⟩
        cases hx : l0.any (tooLong cls) with
        | false => rfl
        | true => exact absurd (Or.inr hx) h2
  rw [h] at hcall
  generalize (mbits l0 cls).1 = x1 at *
  have HCALL := Aside0.mk hcall
  have HR0 := Aside0.mk hr0
  have HC0 := Aside0.mk hc0
  have HOK := Aside0.mk hok
  clear hcall h hr0 hc0 hok
  refine (callsIn_wide (n := 6)).1 ?_
  refine callsIn_of_wp_marks Try.func31 rfl trivial ?_ rfl
  simp only [Try.ntmps31, List.size_toArray, List.length_cons, List.length_nil, Nat.reduceAdd, Nat.reduceSub, Array.replicate_succ, Array.replicate_zero, List.push_toArray, List.append_toArray, List.nil_append, List.cons_append]
  gi_wp2_with (refine ⟨trivial, ?_⟩; gi_at_call 51; refine (callsIn_wide.2 HCALL.out).mono ?_; rintro e w1 ⟨rfl, hB1⟩; have HB1 := Aside0.mk hB1; clear hB1; have bF := Boxed.new (w1.alloc (.cells #[.slice none 0 0] 40)) 85 .nilFunc; simp only [World.size_alloc] at bF; have hcF := bF.cell; have hfF := bF.frozen)
  have bO := Boxed.new w1 40 (.slice none 0 0)
  have bF2 := Boxed.new (w1.alloc (.cells #[.slice none 0 0] 40)) 85 (.func (.func 52) #[] #[.pointer (some ⟨w1.heap.size, 0, none⟩)])
  simp only [World.size_alloc] at bF2
  have bO2 := bO.alloc (.cells #[.func (.func 52) #[] #[.pointer (some ⟨w1.heap.size, 0, none⟩)]] 85)
  have hBa : Below w1.heap.size w1 ((w1.alloc (.cells #[.slice none 0 0] 40)).alloc (.cells #[.func (.func 52) #[] #[.pointer (some ⟨w1.heap.size, 0, none⟩)]] 85)) := below_alloc (below_alloc (Below.refl _ _) _) _
  have hzs : ((w1.alloc (.cells #[.slice none 0 0] 40)).alloc (.cells #[.func (.func 52) #[] #[.pointer (some ⟨w1.heap.size, 0, none⟩)]] 85)).heap.size = w1.heap.size + 2 := by simp
  clear bF hcF hfF bO
  generalize (w1.alloc (.cells #[.slice none 0 0] 40)).alloc (.cells #[.func (.func 52) #[] #[.pointer (some ⟨w1.heap.size, 0, none⟩)]] 85) = W2 at *
  have hge := HB1.out.size
  have hB2 : Below w.heap.size w W2 := bstep HB1.out hBa
  generalize w1.heap.size = gO at *
  have HE0 : EncInv w W2 gO (.slice none 0 0) (encAll cls (l0.take 0)) [] := ⟨bO2, by simpa [encAll] using Kd.R_nil Kd.bool 4 W2 (gO + 2) (fun k => gO + 2 ≤ k), bF2, hB2, hge, by omega, List.nodup_nil, fun D hD => by cases hD⟩
  clear hBa hzs hge hB2 bO2 bF2 HB1
  refine wpIn_loop (fun a' wr => ∃ (u11 u12 u13 u28 u29 u30 u31 u32 u33 u34 u35 u36 u37 u38 u39 u40 u41 u42 u43 u44 u45 u46 u47 u48 u49 u50 u51 u52 u53 u66 : Value) (i : Nat) (Ds : List Nat) (v : Value), a' = { tmps := #[.slice A0 l0.length c0, .int .i64 cls, undef, undef, .slice none 0 0, .int .i64 0, .int .i64 x1, .int .i64 0, .pointer (some ⟨gO, 0, none⟩), .pointer (some ⟨gO + 1, 0, none⟩), undef, u11, u12, u13, undef, .tuple #[.int .i64 x1, .int .i64 0], .slice A0 l0.length c0, .int .i64 cls, .tuple #[.int .i64 x1, .int .i64 0], .int .i64 x1, .int .i64 0, .int .i64 0, .bool false, undef, (.func (.func 52) #[] #[.pointer (some ⟨gO, 0, none⟩)]), .slice A0 l0.length c0, .int .i64 l0.length, .int .i64 (i : Int), u28, u29, u30, u31, u32, u33, u34, u35, u36, u37, u38, u39, u40, u41, u42, u43, u44, u45, u46, u47, u48, u49, u50, u51, u52, u53, undef, undef, undef, undef, undef, undef, undef, undef, undef, undef, undef, undef, u66, undef], defers := Ds.map dfr } ∧ Aside0 (i ≤ l0.length) ∧ Aside0 (EncInv w wr gO v (encAll cls (l0.take i)) Ds)) (fun a' _ => l0.length - (intOf (a'.tmps.getD 27 undef)).toNat) ?_ ?_
  · exact ⟨undef, undef, undef, undef, undef, undef, undef, undef, undef, undef, undef, undef, undef, undef, undef, undef, undef, undef, undef, undef, undef, undef, undef, undef, undef, undef, undef, undef, undef, undef, 0, [], _, rfl, ⟨Nat.zero_le _⟩, ⟨HE0⟩⟩
  · rintro _ wr ⟨u11, u12, u13, u28, u29, u30, u31, u32, u33, u34, u35, u36, u37, u38, u39, u40, u41, u42, u43, u44, u45, u46, u47, u48, u49, u50, u51, u52, u53, u66, i, Ds, v, rfl, HI, HE⟩
    dsimp only
    by_cases hlt : i < l0.length
    · have t0 : decide ((i : Int) < (l0.length : Int)) = true := decide_eq_true (by omega)
      have t0n : decide (i < l0.length) = true := decide_eq_true hlt
      obtain ⟨ad, A1, c1, rfl, hx0, hx1, hc1, hC1⟩ := at_T59 HR0.out (i : Int) (by omega) (by omega)
      simp only [Int.toNat_natCast] at hx0 hx1
      replace hx0 := pw_cell_below HE.out.bel hx0
      replace hx1 := pw_cell_below HE.out.bel hx1
      have hsi : rd_T59 l0 i = l0[i] := by simp [rd_T59, List.getD_eq_getElem?_getD, List.getElem?_eq_getElem hlt]
      rw [hsi] at hx0 hx1 hc1 hC1
      have hts : tooLong cls l0[i] = false := by
        have h1 := List.any_eq_false.1 HOK.out.2.2 l0[i] (List.getElem_mem hlt)
        simpa using h1
      have hsr := segBits_range cls l0[i] hts
      have htk : encAll cls (l0.take (i + 1)) = encAll cls (l0.take i) ++ encSeg cls l0[i] := by
        unfold encAll
        rw [List.take_succ_eq_append_getElem hlt, List.flatMap_append]
        simp
      have hlen : (encAll cls (l0.take i)).length ≤ 3000000000 := by
        have h1 := encAll_length cls (l0.take i)
        have h2 := sumBits_range cls (l0.take i) (List.any_eq_false.2 (fun x hx => List.any_eq_false.1 HOK.out.2.2 x (List.mem_of_mem_take hx)))
        have h3 := HOK.out.2.1
        rw [List.length_take] at h2
        omega
      generalize l0[i] = sg at *
      obtain ⟨m, d⟩ := sg
      dsimp only at hx0 hx1 hc1 hC1 hsr
      generalize encAll cls (l0.take i) = bits at *
      have HF := Aside0.mk (And.intro hsr (And.intro htk hlen))
      have HCD := Aside0.mk (And.intro hc1 hC1)
      have HLT := Aside0.mk hlt
      clear hsi hts hsr htk hlen hc1 hC1
      have hcb := countBits_is 0 m cls
      have hcr := cbOf_range m cls
      obtain ⟨cb, hcbn⟩ : ∃ cb : Nat, cbOf m cls = cb := ⟨(cbOf m cls).toNat, by omega⟩
      rw [hcbn] at hcb hcr
      have HCB := Aside0.mk (And.intro hcb (And.intro hcr hcbn))
      clear hcb hcr hcbn
      have hE3 := HE.out.below (below_alloc (Below.refl wr.heap.size wr) (.cells #[.int .i64 m, .slice A1 d.length c1] 59))
      have hs3 : (wr.alloc (.cells #[.int .i64 m, .slice A1 d.length c1] 59)).heap[wr.heap.size]? = some (.cells #[.int .i64 m, .slice A1 d.length c1] 59 (0, 0)) := World.alloc_heap_new _ _
      have hge3 : gO + 2 ≤ wr.heap.size := HE.out.size
      have hfn : ∀ W : World, W.heap[gO + 1]? = some (.cells #[(.func (.func 52) #[] #[.pointer (some ⟨gO, 0, none⟩)])] 85 (0, 0)) → W.cell? ⟨gO + 1, 0, none⟩ = some (.func (.func 52) #[] #[.pointer (some ⟨gO, 0, none⟩)]) := fun W h => by simp [World.cell?, h]
      have hcf3 := hfn _ hE3.fn
      obtain ⟨hsa3, hsb3, _, _⟩ := cells_two hs3
      have hp3 := put_calls m 4 gO (gO + 2) bits v _ hE3.box hE3.row (by omega) hE3.size (by omega) (by have := HF.out.2.2; omega)
      have HP3 := Aside0.mk (And.intro hE3 (And.intro hs3 hp3))
      clear hE3 hs3 hp3
      gi_wp2_with (refine ⟨trivial, ?_⟩; gi_at_call 52; refine (callsIn_wide.2 HP3.out.2.2).mono ?_; rintro e w5 ⟨rfl, v5, hv5, hr5, hk5⟩; have H5 := Aside0.mk (And.intro (HP3.out.1.put hv5 hr5 hk5) ((hk5.block _ (by simp) (by omega) (row_cells HP3.out.1.row _ _ HP3.out.2.1 (fun cs he => by injection he with h1 h2 _; revert h2; decide))).trans HP3.out.2.1)); clear hv5 hr5 hk5)
      obtain ⟨hE5, hs5⟩ := H5.out
      generalize wr.heap.size = gs at *
      have hgs5 : gs < w5.heap.size := (Array.getElem?_eq_some_iff.1 hs5).1
      have hcf5 := hfn _ hE5.fn
      obtain ⟨hsa5, hsb5, _, _⟩ := cells_two hs5
      have hmx : Try.prog.follows .mixedOrders = true := by kernel_rfl
      have HE5 := Aside0.mk (And.intro hE5 (And.intro hs5 hgs5))
      clear hE5 hs5 hgs5 H5 HP3 hx0 hx1 hlt t0 t0n hcf3 hsa3 hsb3
      refine wpIn_only (fun a' w7 => a' = { tmps := #[.slice (some ad) l0.length c0, .int .i64 cls, undef, undef, .slice none 0 0, .int .i64 0, .int .i64 x1, .int .i64 0, .pointer (some ⟨gO, 0, none⟩), .pointer (some ⟨gO + 1, 0, none⟩), undef, .pointer (some ⟨gs, 0, none⟩), u12, u13, undef, .tuple #[.int .i64 x1, .int .i64 0], .slice (some ad) l0.length c0, .int .i64 cls, .tuple #[.int .i64 x1, .int .i64 0], .int .i64 x1, .int .i64 0, .int .i64 0, .bool false, undef, (.func (.func 52) #[] #[.pointer (some ⟨gO, 0, none⟩)]), .slice (some ad) l0.length c0, .int .i64 l0.length, .int .i64 (i : Int), .bool true, .pointer (some (ad.add (i * 2))), .agg #[.int .i64 m, .slice A1 d.length c1], (.func (.func 52) #[] #[.pointer (some ⟨gO, 0, none⟩)]), .pointer (some ⟨gs, 0, none⟩), .int .i64 m, .tuple #[], (.func (.func 52) #[] #[.pointer (some ⟨gO, 0, none⟩)]), .pointer (some ⟨gs, 1, none⟩), .slice A1 d.length c1, .int .i64 d.length, .pointer (some ⟨gs, 0, none⟩), .int .i64 m, .int .i64 cls, .int .i64 (cb : Int), .tuple #[], u44, u45, u46, u47, u48, u49, u50, u51, u52, u53, undef, undef, undef, undef, undef, undef, undef, undef, undef, undef, undef, undef, u66, undef], defers := Ds.map dfr } ∧ ∃ v7, EncInv w w7 gO v7 ((bits ++ low m 4) ++ low (d.length : Int) cb) Ds ∧ w7.heap[gs]? = some (.cells #[.int .i64 m, .slice A1 d.length c1] 59 (0, 0))) ?_ ?_
      · refine wpIn_wide.2 ?_
        refine start_ (n := 9) (S := fun w' => w'.cell? ⟨gO + 1, 0, none⟩ = some (.func (.func 52) #[] #[.pointer (some ⟨gO, 0, none⟩)]) ∧ w'.cell? ⟨gs, 1, none⟩ = some (.slice A1 d.length c1) ∧ w'.cell? ⟨gs, 0, none⟩ = some (.int .i64 m)) (ds := [8]) #[false, false, false, false, false, false, false, false, false] (by kernel_rfl) rfl rfl ⟨(show (w5.drew).cell? _ = _ from hcf5), (show (w5.drew).cell? _ = _ from hsb5), (show (w5.drew).cell? _ = _ from hsa5)⟩ (fun hHeld => ?_)
        refine pure_ (i := 1) (N := some 36) (v := ?_) (a' := ?_) #[false, true, false, false, false, false, false, false, false] rfl rfl (by kernel_rfl) (fun _ _ _ h => h) (Or.inl ⟨by rfl, ?_⟩) ?_ ?_
        rotate_left
        · intro w'
          go_simp
          with_reducible rfl
        rotate_left
        · simp only [Act.put, List.setIfInBounds_toArray, List.set_cons_zero, List.set_cons_succ, i64_w, i32_w]
          rfl
        refine pure_ (i := 4) (N := some 39) (v := ?_) (a' := ?_) #[false, true, false, false, true, false, false, false, false] rfl rfl (by kernel_rfl) (fun _ _ _ h => h) (Or.inl ⟨by rfl, ?_⟩) ?_ ?_
        rotate_left
        · intro w'
          go_simp
          with_reducible rfl
        rotate_left
        · simp only [Act.put, List.setIfInBounds_toArray, List.set_cons_zero, List.set_cons_succ, i64_w, i32_w]
          rfl
        refine pure_ (i := 6) (N := some 41) (v := ?_) (a' := ?_) #[false, true, false, false, true, false, true, false, false] rfl rfl (by kernel_rfl) (fun _ _ _ h => h) (Or.inl ⟨by rfl, ?_⟩) ?_ ?_
        rotate_left
        · intro w'
          go_simp
          with_reducible rfl
        rotate_left
        · simp only [Act.put, List.setIfInBounds_toArray, List.set_cons_zero, List.set_cons_succ, i64_w, i32_w]
          rfl
        refine take_ (i := 0) (N := some 35) (v := ?_) (a' := ?_) #[true, true, false, false, true, false, true, false, false] rfl rfl (by kernel_rfl) (fun _ _ _ h => h) (Or.inl ⟨by rfl, ?_⟩) hHeld ?_ ?_
        rotate_left
        · rintro w' ⟨s0, s1, s2⟩
          go_simp
          with_reducible rfl
        rotate_left
        · simp only [Act.put, List.setIfInBounds_toArray, List.set_cons_zero, List.set_cons_succ, i64_w, i32_w]
          rfl
        refine take_ (i := 2) (N := some 37) (v := ?_) (a' := ?_) #[true, true, true, false, true, false, true, false, false] rfl rfl (by kernel_rfl) (fun _ _ _ h => h) (Or.inl ⟨by rfl, ?_⟩) hHeld ?_ ?_
        rotate_left
        · rintro w' ⟨s0, s1, s2⟩
          go_simp
          with_reducible rfl
        rotate_left
        · simp only [Act.put, List.setIfInBounds_toArray, List.set_cons_zero, List.set_cons_succ, i64_w, i32_w]
          rfl
        refine pure_ (i := 3) (N := some 38) (v := ?_) (a' := ?_) #[true, true, true, true, true, false, true, false, false] rfl rfl (by kernel_rfl) (fun _ _ _ h => h) (Or.inl ⟨by rfl, ?_⟩) ?_ ?_
        rotate_left
        · intro w'
          go_simp
          with_reducible rfl
        rotate_left
        · simp only [Act.put, List.setIfInBounds_toArray, List.set_cons_zero, List.set_cons_succ, i64_w, i32_w]
          rfl
        refine take_ (i := 5) (N := some 40) (v := ?_) (a' := ?_) #[true, true, true, true, true, true, true, false, false] rfl rfl (by kernel_rfl) (fun _ _ _ h => h) (Or.inl ⟨by rfl, ?_⟩) hHeld ?_ ?_
        rotate_left
        · rintro w' ⟨s0, s1, s2⟩
          go_simp
          with_reducible rfl
        rotate_left
        · simp only [Act.put, List.setIfInBounds_toArray, List.set_cons_zero, List.set_cons_succ, i64_w, i32_w]
          rfl
        refine one_ (i := 7) (N := some 42) #[true, true, true, true, true, true, true, true, false] rfl rfl (by kernel_rfl) (by decide) (fun K hK => ?_)
        refine goes_ Try.func45 (by kernel_rfl) rfl #[.int .i64 m, .int .i64 cls] (by rfl) rfl rfl (by simp only [List.map_toArray, List.map_cons, List.map_nil]; rfl) ?_
        with_reducible refine (modes_countBits.calls 1 m cls cb _ HCB.out.1).mono ?_
        rintro e w6 ⟨rfl, hB6⟩
        refine ⟨_, rfl, ?_⟩
        have hE6 := HE5.out.1.drew.below hB6
        have hs6 := (hB6.block gs (show gs < w5.heap.size from HE5.out.2.2)).trans (show w5.drew.heap[gs]? = _ from HE5.out.2.1)
        have hcf6 := hfn _ hE6.fn
        obtain ⟨hsa6, hsb6, _, _⟩ := cells_two hs6
        have H6 := Aside0.mk (And.intro hE6 hs6)
        clear hB6 hE6 hs6
        refine hK.out _ _ ⟨hcf6, hsb6, hsa6⟩ (fun hHeld => ?_)
        clear hK K
        refine norm_ (a' := ?_) ?_ ?_
        rotate_left
        · show Act.put _ (some 42) _ = _
          simp only [Act.put, List.setIfInBounds_toArray, List.set_cons_zero, List.set_cons_succ, i64_w, i32_w]
          rfl
        refine last_ (i := 8) (N := some 43) #[true, true, true, true, true, true, true, true, true] rfl rfl (by kernel_rfl) (by decide) (fun K hK => ?_)
        refine call_ 52 #[.int .i64 (d.length : Int), .int .i64 (cb : Int), .pointer (some ⟨gO, 0, none⟩)] (by rfl) rfl ?_ ?_
        · have he := enters_of (P := Try.prog) Try.func52 (by kernel_rfl) rfl #[.int .i64 (d.length : Int), .int .i64 (cb : Int), .pointer (some ⟨gO, 0, none⟩)]
          go_simp
          try first | rfl | exact he _ | simp [he]
        with_reducible refine (put_calls (d.length : Int) cb gO (gO + 2) _ v5 _ H6.out.1.box H6.out.1.row (by omega) H6.out.1.size (by have := HCB.out.2.1; omega) (by have := HF.out.2.2; rw [List.length_append, low_length]; have := HCB.out.2.1; omega)).mono ?_
        rintro e w7 ⟨rfl, v7, hv7, hr7, hk7⟩
        refine ⟨_, rfl, ?_⟩
        have H7 := Aside0.mk (And.intro (H6.out.1.put hv7 hr7 hk7) ((hk7.block gs (Array.getElem?_eq_some_iff.1 H6.out.2).1 (by omega) (row_cells H6.out.1.row _ _ H6.out.2 (fun cs he => by injection he with h1 h2 _; revert h2; decide))).trans H6.out.2))
        clear hv7 hr7 hk7
        refine hK.out _ _ ?_
        clear hK K
        refine norm_ (a' := ?_) ?_ ?_
        rotate_left
        · show Act.put _ (some 43) _ = _
          simp only [Act.put, List.setIfInBounds_toArray, List.set_cons_zero, List.set_cons_succ, i64_w, i32_w]
          rfl
        refine done_ (by kernel_rfl) ?_
        exact ⟨rfl, _, H7.out.1, H7.out.2⟩
      rintro _ w7 ⟨rfl, v7, hE7, hs7⟩
      dsimp only [Exit.then]
      go_at_K
      have hgs7 : gs < w7.heap.size := (Array.getElem?_eq_some_iff.1 hs7).1
      obtain ⟨hsa7, hsb7, _, _⟩ := cells_two hs7
      have hcf7 := hfn _ hE7.fn
      have HE7 := Aside0.mk (And.intro hE7 (And.intro hs7 hgs7))
      clear hE7 hs7 hgs7 hcf5 hsa5 hsb5 HE5
      have hszm := szOf_range m
      have hwl := wids_length m
      have HSZ := Aside0.mk (And.intro hszm hwl)
      gi_wp2_with (first | (refine ⟨trivial, ?_⟩; gi_at_call 53; refine (callsIn_wide.2 (modes_group.calls m (szOf m) (wids m) w7 (group_is m))).mono ?_; rintro e w8 ⟨vw, rfl, hRw, hB8⟩; obtain ⟨gw, cw, rfl, hgw1, hgw2, cellsw, hcw⟩ := Kd.R_form hRw (by omega); have hs8 := (hB8.block gs HE7.out.2.2).trans HE7.out.2.1; have hs8lt : gs < w8.heap.size := (Array.getElem?_eq_some_iff.1 hs8).1; obtain ⟨hsa8, hsb8, _, _⟩ := cells_two hs8; have H8 := Aside0.mk (And.intro (HE7.out.1.below hB8) (And.intro hs8 (And.intro hRw (And.intro hgw1 (And.intro hgw2 hcw))))); clear hRw hB8 hgw1 hgw2 hcw) | (refine ⟨trivial, ?_⟩; gi_at_call 54; refine (ChunkB_in Fence.wide _ trivial rfl A1 d.length c1 (szOf m) HSZ.out.1.1 _).mono ?_; rintro e w' ⟨rfl, rfl⟩))
      obtain ⟨hE8, hs8, hRw, hgw1, hgw2, hcw⟩ := H8.out
      have bx := World.alloc_heap_new w8 (.cells #[.slice (some ⟨gw, 0, none⟩) (szOf m + 1) cw] 22)
      have bs := Boxed.new (w8.alloc (.cells #[.slice (some ⟨gw, 0, none⟩) (szOf m + 1) cw] 22)) 57 (.slice A1 d.length c1)
      have bn := Boxed.new ((w8.alloc (.cells #[.slice (some ⟨gw, 0, none⟩) (szOf m + 1) cw] 22)).alloc (.cells #[.slice A1 d.length c1] 57)) 3 (.int .i64 (szOf m : Int))
      simp only [World.size_alloc] at bs bn
      have hB9 : Below w8.heap.size w8 (((w8.alloc (.cells #[.slice (some ⟨gw, 0, none⟩) (szOf m + 1) cw] 22)).alloc (.cells #[.slice A1 d.length c1] 57)).alloc (.cells #[.int .i64 (szOf m : Int)] 3)) := below_alloc (below_alloc (below_alloc (Below.refl _ _) _) _) _
      have hz9 : (((w8.alloc (.cells #[.slice (some ⟨gw, 0, none⟩) (szOf m + 1) cw] 22)).alloc (.cells #[.slice A1 d.length c1] 57)).alloc (.cells #[.int .i64 (szOf m : Int)] 3)).heap.size = w8.heap.size + 3 := by simp
      have bx9 : (((w8.alloc (.cells #[.slice (some ⟨gw, 0, none⟩) (szOf m + 1) cw] 22)).alloc (.cells #[.slice A1 d.length c1] 57)).alloc (.cells #[.int .i64 (szOf m : Int)] 3)).heap[w8.heap.size]? = some (.cells #[.slice (some ⟨gw, 0, none⟩) (szOf m + 1) cw] 22 (0, 0)) := by
        rw [Below.heap_alloc _ _ _ (by simp; omega), Below.heap_alloc _ _ _ (by simp)]
        exact bx
      have bs9 := bs.alloc (.cells #[.int .i64 (szOf m : Int)] 3)
      clear bx bs
      generalize ((w8.alloc (.cells #[.slice (some ⟨gw, 0, none⟩) (szOf m + 1) cw] 22)).alloc (.cells #[.slice A1 d.length c1] 57)).alloc (.cells #[.int .i64 (szOf m : Int)] 3) = w9 at *
      have hE9 := hE8.below hB9
      have hs9 := (hB9.block gs (Array.getElem?_eq_some_iff.1 hs8).1).trans hs8
      have hw9 := (hB9.block gw hgw2).trans hcw
      have hFw : Kd.F (Kd.int .i64) w8 (fun k => some k = (Value.slice (some ⟨gw, 0, none⟩) (wids m).length cw).ownBlock) (some ⟨gw, 0, none⟩) (wids m).length (wids m) := Kd.R_F (Kd.R_tight rfl hRw)
      have hD9 : ∀ D ∈ Ds, D < w9.heap.size := fun D hD => (Array.getElem?_eq_some_iff.1 (hE9.ds D hD).2).1
      have hA : 0 < d.length → ∃ ad, A1 = some ad := fun h => by obtain ⟨ad, e, _⟩ := HCD.out.2.2.2 h; exact ⟨ad, e⟩
      have hdl : d.length ≤ 65536 := HF.out.1.2.2
      have HW9 := Aside0.mk (And.intro hE9 (And.intro hs9 (And.intro bx9 (And.intro hw9 (And.intro hFw (And.intro hcw (And.intro hD9 hz9)))))))
      have HGW := Aside0.mk hgw2
      have HBS := Aside0.mk (And.intro (show w9.heap[w8.heap.size + 1]? = some (.cells #[.slice A1 d.length c1] 57 (0, 0)) from bs9) (show w9.heap[w8.heap.size + 1 + 1]? = some (.cells #[.int .i64 (szOf m : Int)] 3 (0, 0)) from bn))
      clear hE8 hs8 hRw hgw1 hgw2 hcw hB9 hz9 bx9 hE9 hs9 hw9 hFw hD9 H8 HE7
      refine wpIn_rangeFunc_ownG (F := Fence.wide) rfl (by omega) (gf := 77) (lb := #[.pointer (some ⟨w8.heap.size + 1, 0, none⟩), .pointer (some ⟨w8.heap.size + 1 + 1, 0, none⟩)]) rfl trivial (enters_of Try.func77 (by kernel_rfl) rfl)
        (ChunkB_stops Fence.wide _ trivial rfl (by omega) (w8.heap.size + 1) (w8.heap.size + 1 + 1) w.heap.size A1 d.length c1 (szOf m) hA HSZ.out.1.1 (by have := HSZ.out.1; omega) HCD.out.1 (by omega) w9 bs9 bn) (fun h k => ChunkBKp.trans h k) (fun W l o o' hl ho hcl hw => ChunkBKp_put HW9.out.1.bel.size (by have := HW9.out.2.2.2.2.2.2.2; omega) (by have := HW9.out.2.2.2.2.2.2.2; omega) W l o o' hl ho hcl hw) (Below.refl _ _) (fun _ => rfl)
        (fun pre W => (∃ v, EncInv w W gO v (((bits ++ low m 4) ++ low (d.length : Int) cb) ++ pre.flatMap (fun x => grpBits m (grpAt m d x.1))) Ds) ∧ W.heap[gs]? = some (.cells #[.int .i64 m, .slice A1 d.length c1] 59 (0, 0)) ∧ W.heap[w8.heap.size]? = some (.cells #[.slice (some ⟨gw, 0, none⟩) (szOf m + 1) cw] 22 (0, 0)) ∧ W.heap[gw]? = some (.cells cellsw 3 (0, 0)) ∧ W.heap[w8.heap.size + 1]? = some (.cells #[.slice A1 d.length c1] 57 (0, 0)) ∧ W.heap[w8.heap.size + 1 + 1]? = some (.cells #[.int .i64 (szOf m : Int)] 3 (0, 0)))
        (fun _ _ _ => False)
        ?hI (fun _ _ _ _ _ hs _ _ => hs)
        ⟨⟨v7, by simpa using HW9.out.1⟩, HW9.out.2.1, HW9.out.2.2.1, HW9.out.2.2.2.1, HBS.out.1, HBS.out.2⟩
        (fun x => { tmps := #[.slice (some ad) l0.length c0, .int .i64 cls, undef, undef, .slice none 0 0, .int .i64 0, .int .i64 x1, .int .i64 0, .pointer (some ⟨gO, 0, none⟩), .pointer (some ⟨gO + 1, 0, none⟩), undef, .pointer (some ⟨gs, 0, none⟩), .int .i64 (szOf m : Int), .pointer (some ⟨w8.heap.size, 0, none⟩), .slice (A1.map (·.add x.1)) (ChunkBEnd (szOf m) d.length x.1) (ChunkBEnd (szOf m) d.length x.1), .tuple #[.int .i64 x1, .int .i64 0], .slice (some ad) l0.length c0, .int .i64 cls, .tuple #[.int .i64 x1, .int .i64 0], .int .i64 x1, .int .i64 0, .int .i64 0, .bool false, undef, (.func (.func 52) #[] #[.pointer (some ⟨gO, 0, none⟩)]), .slice (some ad) l0.length c0, .int .i64 l0.length, .int .i64 (i : Int), .bool true, .pointer (some (ad.add (i * 2))), .agg #[.int .i64 m, .slice A1 d.length c1], (.func (.func 52) #[] #[.pointer (some ⟨gO, 0, none⟩)]), .pointer (some ⟨gs, 0, none⟩), .int .i64 m, .tuple #[], (.func (.func 52) #[] #[.pointer (some ⟨gO, 0, none⟩)]), .pointer (some ⟨gs, 1, none⟩), .slice A1 d.length c1, .int .i64 d.length, .pointer (some ⟨gs, 0, none⟩), .int .i64 m, .int .i64 cls, .int .i64 (cb : Int), .tuple #[], .tuple #[.int .i64 (szOf m : Int), .slice (some ⟨gw, 0, none⟩) (szOf m + 1) cw], .pointer (some ⟨gs, 0, none⟩), .int .i64 m, .tuple #[.int .i64 (szOf m : Int), .slice (some ⟨gw, 0, none⟩) (szOf m + 1) cw], .int .i64 (szOf m : Int), .slice (some ⟨gw, 0, none⟩) (szOf m + 1) cw, .pointer (some ⟨gs, 1, none⟩), .slice A1 d.length c1, .int .i64 (szOf m : Int), .func (.func 77) #[] #[.pointer (some ⟨w8.heap.size + 1, 0, none⟩), .pointer (some ⟨w8.heap.size + 1 + 1, 0, none⟩)], .slice (A1.map (·.add x.1)) (ChunkBEnd (szOf m) d.length x.1) (ChunkBEnd (szOf m) d.length x.1), undef, undef, undef, undef, undef, undef, undef, undef, undef, undef, undef, u66, undef], defers := [] }) ?assign ?body ?done ?stop
      case hI =>
        rintro s X Y row ⟨⟨v, h1⟩, h2, h3, h4, h5, h6⟩ hg hr
        exact ⟨⟨v, h1.stays hg hr HW9.out.2.2.2.2.2.2.1 HW9.out.1.bel.size⟩, block_stays h2 hg hr, block_stays h3 hg hr, block_stays h4 hg hr, block_stays h5 hg hr, block_stays h6 hg hr⟩
      case assign =>
        intro l x W K hK
        gi_wp2
        exact hK
      case body =>
        rintro l pre x W ⟨⟨v, hE⟩, hs, hx, hw, hbs, hbn⟩ hlt2
        obtain ⟨p, hp⟩ := x
        dsimp only
        have hgl : (grpAt m d p).length = ChunkBEnd (szOf m) d.length p := by simp [grpAt, ChunkBEnd]
        have he1 : 1 ≤ ChunkBEnd (szOf m) d.length p := by have := HSZ.out.1; unfold ChunkBEnd; omega
        have he2 : ChunkBEnd (szOf m) d.length p ≤ szOf m := by unfold ChunkBEnd; omega
        have hCd : Kd.C (Kd.int .u8) W (A1.map (·.add p)) (grpAt m d p).length (grpAt m d p) := grp_reads (Kd.C_below HCD.out.2 hE.bel) hp (szOf m)
        have hnum : ∀ W', Kd.C (Kd.int .u8) W' (A1.map (·.add p)) (grpAt m d p).length (grpAt m d p) → Calls Try.prog 55 #[.int .i64 m, .slice (A1.map (·.add p)) (ChunkBEnd (szOf m) d.length p) (ChunkBEnd (szOf m) d.length p)] W' fun e w' => e = .returned (.int .i64 (numOf m (grpAt m d p))) ∧ Drawn0 W' w' := by
          intro W' hC
          have h1 := modes_number.calls 10 m (A1.map (·.add p)) (grpAt m d p).length (grpAt m d p) (numOf m (grpAt m d p)) W' hC (Nat.le_refl _) (number_is m _ (by have := HSZ.out.1; omega) 10 (by have := HSZ.out.1; omega))
          rwa [hgl] at h1
        have hsnoc : ((bits ++ low m 4) ++ low (d.length : Int) cb ++ pre.flatMap (fun x => grpBits m (grpAt m d x.1))) ++ grpBits m (grpAt m d p) = (bits ++ low m 4) ++ low (d.length : Int) cb ++ (pre ++ [(⟨p, hp⟩ : ChunkBAt d.length)]).flatMap (fun x => grpBits m (grpAt m d x.1)) := by
          rw [List.flatMap_append, ← List.append_assoc]
          congr 1
          exact (List.append_nil _).symm
        have hplen : ((bits ++ low m 4) ++ low (d.length : Int) cb ++ pre.flatMap (fun x => grpBits m (grpAt m d x.1))).length ≤ 90000000000 := by
          have h1 := flat_len m d pre
          have h2 := HF.out.2.2
          have h3 := HCB.out.2.1
          have h4 := HF.out.1.2.2
          rw [List.length_append, List.length_append, List.length_append, low_length, low_length]
          have h5 : pre.length * 24 ≤ d.length * 24 := Nat.mul_le_mul_right _ (by omega)
          omega
        have hwk := wids_at m (ChunkBEnd (szOf m) d.length p) he2
        have hdk := dbOf_range m (ChunkBEnd (szOf m) d.length p) (by omega)
        have hgb : grpBits m (grpAt m d p) = low (numOf m (grpAt m d p)) (dbOf m (ChunkBEnd (szOf m) d.length p)).toNat := by unfold grpBits; rw [hgl]
        obtain ⟨wd, hwd⟩ : ∃ wd : Nat, dbOf m (ChunkBEnd (szOf m) d.length p) = wd := ⟨(dbOf m (ChunkBEnd (szOf m) d.length p)).toNat, by omega⟩
        have hCw := Kd.F_now (Kd.F_step HW9.out.2.2.2.2.1 (W1 := W) (fun k hk _ => by
          have hk : k = gw := by simpa [Value.ownBlock] using hk
          subst hk
          rw [hw]
          exact HW9.out.2.2.2.2.2.1.symm))
        obtain ⟨adw, eaw, hxw⟩ := Kd.at_int hCw (ChunkBEnd (szOf m) d.length p : Int) (by omega) (by have := HSZ.out.2; omega)
        injection eaw with eaw
        subst eaw
        rw [hwk, hwd] at hxw
        simp only [Int.toNat_natCast] at hxw
        rw [add_plain] at hxw
        rw [hwd, Int.toNat_natCast] at hgb
        rw [hgb] at hsnoc
        generalize ChunkBEnd (szOf m) d.length p = en at *
        generalize numOf m (grpAt m d p) = nv at *
        generalize (bits ++ low m 4) ++ low (d.length : Int) cb ++ pre.flatMap (fun x => grpBits m (grpAt m d x.1)) = acc at *
        have hen : en < szOf m + 1 := by omega
        have heni : decide ((en : Int) < ((szOf m : Nat) : Int) + 1) = true := decide_eq_true (by omega)
        have heq : ((en : Int) < ((szOf m : Nat) : Int) + 1) = True := eq_true (by omega)
        have henn : decide (en < szOf m + 1) = true := decide_eq_true hen
        have hcf := hfn _ hE.fn
        obtain ⟨hsa, hsb, _, _⟩ := cells_two hs
        have hxc : W.cell? ⟨w8.heap.size, 0, none⟩ = some (.slice (some ⟨gw, 0, none⟩) (szOf m + 1) cw) := by simp [World.cell?, hx]
        have HB := Aside0.mk (And.intro hE (And.intro hs (And.intro hx (And.intro hw (And.intro hCd (And.intro hnum (And.intro hsnoc (And.intro hplen (And.intro (show wd ≤ 24 by have := HSZ.out.1; omega) (And.intro hbs hbn))))))))))
        have hd1 : 1 ≤ 6 - 1 - 1 := by omega
        clear hE hs hx hw hbs hbn hCd hnum hsnoc hplen hwk hdk hgb hwd hCw hgl he1 he2
        have HPD := Aside0.mk (fun k : Nat => put_calls nv wd gO (gO + 2) acc v (W.drew.drewN k) HB.out.1.box (Kd.R_move HB.out.1.row (fun _ _ => rfl)) (by omega) HB.out.1.size (by have := HB.out.2.2.2.2.2.2.2.2.1; omega) (by have := HB.out.2.2.2.2.2.2.2.1; have := HB.out.2.2.2.2.2.2.2.2.1; omega))
        gi_wp2
        refine startIn_ (fun ⟨_, _, h⟩ => h) (by kernel_rfl) (n := 11) (S := fun w' => w'.cell? ⟨gO + 1, 0, none⟩ = some (.func (.func 52) #[] #[.pointer (some ⟨gO, 0, none⟩)]) ∧ w'.cell? ⟨gs, 0, none⟩ = some (.int .i64 m) ∧ w'.cell? ⟨w8.heap.size, 0, none⟩ = some (.slice (some ⟨gw, 0, none⟩) (szOf m + 1) cw) ∧ w'.cell? ⟨gw, en, none⟩ = some (.int .i64 (wd : Int))) (ds := [10]) #[false, false, false, false, false, false, false, false, false, false, false] (by kernel_rfl) rfl rfl ⟨(show (W.drew).cell? _ = _ from hcf), (show (W.drew).cell? _ = _ from hsa), (show (W.drew).cell? _ = _ from hxc), (show (W.drew).cell? _ = _ from hxw)⟩ (fun hHeld => ?_)
        refine pure_ (i := 1) (N := some 56) (v := ?_) (a' := ?_) #[false, true, false, false, false, false, false, false, false, false, false] rfl rfl (by kernel_rfl) (fun _ _ _ h => h) (Or.inl ⟨by rfl, ?_⟩) ?_ ?_
        rotate_left
        · intro w'
          go_simp
          with_reducible rfl
        rotate_left
        · simp only [Act.put, List.setIfInBounds_toArray, List.set_cons_zero, List.set_cons_succ, i64_w, i32_w]
          rfl
        refine pure_ (i := 3) (N := some 58) (v := ?_) (a' := ?_) #[false, true, false, true, false, false, false, false, false, false, false] rfl rfl (by kernel_rfl) (fun _ _ _ h => h) (Or.inl ⟨by rfl, ?_⟩) ?_ ?_
        rotate_left
        · intro w'
          go_simp
          with_reducible rfl
        rotate_left
        · simp only [Act.put, List.setIfInBounds_toArray, List.set_cons_zero, List.set_cons_succ, i64_w, i32_w]
          rfl
        refine pure_ (i := 6) (N := some 61) (v := ?_) (a' := ?_) #[false, true, false, true, false, false, true, false, false, false, false] rfl rfl (by kernel_rfl) (fun _ _ _ h => h) (Or.inl ⟨by rfl, ?_⟩) ?_ ?_
        rotate_left
        · intro w'
          go_simp
          with_reducible rfl
        rotate_left
        · simp only [Act.put, List.setIfInBounds_toArray, List.set_cons_zero, List.set_cons_succ, i64_w, i32_w]
          rfl
        refine pure_ (i := 7) (N := some 62) (v := ?_) (a' := ?_) #[false, true, false, true, false, false, true, true, false, false, false] rfl rfl (by kernel_rfl) (fun _ _ _ h => h) (Or.inl ⟨by rfl, ?_⟩) ?_ ?_
        rotate_left
        · intro w'
          go_simp
          with_reducible rfl
        rotate_left
        · simp only [Act.put, List.setIfInBounds_toArray, List.set_cons_zero, List.set_cons_succ, i64_w, i32_w]
          rfl
        refine take_ (i := 0) (N := some 55) (v := ?_) (a' := ?_) #[true, true, false, true, false, false, true, true, false, false, false] rfl rfl (by kernel_rfl) (fun _ _ _ h => h) (Or.inl ⟨by rfl, ?_⟩) hHeld ?_ ?_
        rotate_left
        · rintro w' ⟨s0, s1, s2, s3⟩
          go_simp
          with_reducible rfl
        rotate_left
        · simp only [Act.put, List.setIfInBounds_toArray, List.set_cons_zero, List.set_cons_succ, i64_w, i32_w]
          rfl
        refine take_ (i := 2) (N := some 57) (v := ?_) (a' := ?_) #[true, true, true, true, false, false, true, true, false, false, false] rfl rfl (by kernel_rfl) (fun _ _ _ h => h) (Or.inl ⟨by rfl, ?_⟩) hHeld ?_ ?_
        rotate_left
        · rintro w' ⟨s0, s1, s2, s3⟩
          go_simp
          with_reducible rfl
        rotate_left
        · simp only [Act.put, List.setIfInBounds_toArray, List.set_cons_zero, List.set_cons_succ, i64_w, i32_w]
          rfl
        refine take_ (i := 5) (N := some 60) (v := ?_) (a' := ?_) #[true, true, true, true, false, true, true, true, false, false, false] rfl rfl (by kernel_rfl) (fun _ _ _ h => h) (Or.inl ⟨by rfl, ?_⟩) hHeld ?_ ?_
        rotate_left
        · rintro w' ⟨s0, s1, s2, s3⟩
          go_simp
          with_reducible rfl
        rotate_left
        · simp only [Act.put, List.setIfInBounds_toArray, List.set_cons_zero, List.set_cons_succ, i64_w, i32_w]
          rfl
        refine pure_ (i := 8) (N := some 63) (v := ?_) (a' := ?_) #[true, true, true, true, false, true, true, true, true, false, false] rfl rfl (by kernel_rfl) (fun _ _ _ h => h) (Or.inl ⟨by rfl, ?_⟩) ?_ ?_
        rotate_left
        · intro w'
          go_simp
          with_reducible rfl
        rotate_left
        · simp only [Act.put, List.setIfInBounds_toArray, List.set_cons_zero, List.set_cons_succ, i64_w, i32_w]
          rfl
        refine take_ (i := 9) (N := some 64) (v := ?_) (a' := ?_) #[true, true, true, true, false, true, true, true, true, true, false] rfl rfl (by kernel_rfl) (fun _ _ _ h => h) (Or.inl ⟨by rfl, ?_⟩) hHeld ?_ ?_
        rotate_left
        · rintro w' ⟨s0, s1, s2, s3⟩
          go_simp
          with_reducible rfl
        rotate_left
        · simp only [Act.put, List.setIfInBounds_toArray, List.set_cons_zero, List.set_cons_succ, i64_w, i32_w]
          rfl
        refine one_ (i := 4) (N := some 59) #[true, true, true, true, true, true, true, true, true, true, false] rfl rfl (by kernel_rfl) (by decide) (fun K hK => ?_)
        refine goes_ Try.func55 (by kernel_rfl) rfl #[.int .i64 m, .slice (A1.map (·.add p)) en en] (by rfl) rfl rfl (by simp only [List.map_toArray, List.map_cons, List.map_nil]; rfl) ?_
        with_reducible refine (HB.out.2.2.2.2.2.1 _ (Kd.C_drew HB.out.2.2.2.2.1)).mono ?_
        rintro e w3 ⟨rfl, ⟨nd, rfl⟩⟩
        refine ⟨_, rfl, ?_⟩
        refine hK.out _ _ ⟨(show (W.drew.drewN nd).cell? _ = _ from hcf), (show (W.drew.drewN nd).cell? _ = _ from hsa), (show (W.drew.drewN nd).cell? _ = _ from hxc), (show (W.drew.drewN nd).cell? _ = _ from hxw)⟩ (fun hHeld => ?_)
        clear hK K
        refine norm_ (a' := ?_) ?_ ?_
        rotate_left
        · show Act.put _ (some 59) _ = _
          simp only [Act.put, List.setIfInBounds_toArray, List.set_cons_zero, List.set_cons_succ, i64_w, i32_w]
          rfl
        refine last_ (i := 10) (N := some 65) #[true, true, true, true, true, true, true, true, true, true, true] rfl rfl (by kernel_rfl) (by decide) (fun K hK => ?_)
        refine call_ 52 #[.int .i64 nv, .int .i64 (wd : Int), .pointer (some ⟨gO, 0, none⟩)] (by rfl) rfl ?_ ?_
        · have he := enters_of (P := Try.prog) Try.func52 (by kernel_rfl) rfl #[.int .i64 nv, .int .i64 (wd : Int), .pointer (some ⟨gO, 0, none⟩)]
          go_simp
          try first | rfl | exact he _ | simp [he]
        with_reducible refine (HPD.out nd).mono ?_
        rintro e W2 ⟨rfl, v', hv', hr', hk'⟩
        refine ⟨_, rfl, ?_⟩
        have HX := Aside0.mk (And.intro hv' (And.intro hr' (show PutKeep gO (gO + 2) W W2 v v' from ⟨hk'.os, hk'.tape, hk'.output, hk'.size, hk'.block, hk'.row⟩)))
        clear hv' hr' hk'
        refine hK.out _ _ ?_
        clear hK K
        refine norm_ (a' := ?_) ?_ ?_
        rotate_left
        · show Act.put _ (some 65) _ = _
          simp only [Act.put, List.setIfInBounds_toArray, List.set_cons_zero, List.set_cons_succ, i64_w, i32_w]
          rfl
        refine done_ (by kernel_rfl) ?_
        obtain ⟨hE, hs, hx, hw, hCd, hnum, hsnoc, hplen, hwd24, hbs, hbn⟩ := HB.out
        obtain ⟨hv', hr', hk'⟩ := HX.out
        show KeepsFrom w9.heap.size W W2 ∧ ChunkBKp w.heap.size (w8.heap.size + 1) (w8.heap.size + 1 + 1) W W2 ∧ _
        refine ⟨hE.put_from hk', ⟨?_, (hE.put_block hk' hbs (by decide) (by decide)).trans hbs.symm, (hE.put_block hk' hbn (by decide) (by decide)).trans hbn.symm⟩, ⟨v', ?_⟩, hE.put_block hk' hs (by decide) (by decide), hE.put_block hk' hx (by decide) (by decide), hE.put_block hk' hw (by decide) (by decide), hE.put_block hk' hbs (by decide) (by decide), hE.put_block hk' hbn (by decide) (by decide)⟩
        · exact (hk'.below (by have := hE.size; omega) (by omega) (fun k hk => Kd.R_base hE.row k hk)).mono hE.ge
        · rw [← hsnoc]
          exact hE.put hv' hr' hk'
      case done =>
        rintro D ys W hD ⟨k, hk1, hk2, hk3⟩ ⟨⟨v, hE⟩, _⟩ hK
        have hbits : ((bits ++ low m 4) ++ low (d.length : Int) cb) ++ ys.flatMap (fun x => grpBits m (grpAt m d x.1)) = encAll cls (l0.take (i + 1)) := by
          have hk : (d.length + szOf m - 1) / szOf m = k := groups_count HSZ.out.1.1 hk1 hk2
          have e : ys.flatMap (fun x => grpBits m (grpAt m d x.1)) = (ys.map (·.1)).flatMap (fun i => grpBits m (grpAt m d i)) := by rw [List.flatMap_map]
          have h1 := HF.out.2.1
          rw [h1]
          unfold encSeg encData
          dsimp only
          rw [HCB.out.2.2, Int.toNat_natCast, e, hk3, List.flatMap_map, hk]
          simp only [List.append_assoc]
        rw [hbits] at hE
        have hE2 : EncInv w W gO v (encAll cls (l0.take (i + 1))) (D :: Ds) := ⟨hE.box, hE.row, hE.fn, hE.bel, hE.ge, hE.size, List.nodup_cons.2 ⟨fun hm => by have := HW9.out.2.2.2.2.2.2.1 D hm; omega, hE.nd⟩, fun D' hD' => by
          rcases List.mem_cons.1 hD' with rfl | h
          · exact ⟨by have := HW9.out.1.size; omega, hK⟩
          · exact hE.ds D' h⟩
        have HE2 := Aside0.mk hE2
        have HWI := Aside0.mk (show wrap64 ((i : Int) + 1) = ((i + 1 : Nat) : Int) by have := HOK.out.2.1; have := HLT.out; unfold wrap64; omega)
        clear hE hE2 hbits hk1 hk2 hk3 hK hD
        gi_wp2
        rw [HWI.out]
        refine ⟨⟨_, _, _, _, _, _, _, _, _, _, _, _, _, _, _, _, _, _, _, _, _, _, _, _, _, _, _, _, _, _, i + 1, D :: Ds, v, rfl, ⟨HLT.out⟩, HE2⟩, ?_⟩
        show l0.length - (intOf (.int .i64 ((i + 1 : Nat) : Int))).toNat < l0.length - (intOf (.int .i64 (i : Int))).toNat
        have := HLT.out
        simp only [intOf, Int.toNat_natCast]
        omega
      case stop =>
        rintro D c pre W _ _ h _
        exact h.elim
    · have t0 : decide ((i : Int) < (l0.length : Int)) = false := decide_eq_false (by omega)
      have t0n : decide (i < l0.length) = false := decide_eq_false hlt
      have hil : l0.take i = l0 := List.take_of_length_le (by have := HI.out; omega)
      rw [hil] at HE
      obtain ⟨Av, cv, rfl⟩ := Kd.R_slice HE.out.row
      have hc : wr.cell? ⟨gO, 0, none⟩ = some (.slice Av (encAll cls l0).length cv) := by simp [World.cell?, HE.out.box]
      clear hil hlt
      gi_wp2
      refine leaves_all (Inv := fun W => Kd.R Kd.bool 4 W (gO + 2) (fun k => gO + 2 ≤ k) (.slice Av (encAll cls l0).length cv) (encAll cls l0) ∧ Below w.heap.size w W ∧ gO + 2 ≤ W.heap.size) (N := gO + 2) ?hs ?he Ds wr HE.out.nd HE.out.ds ⟨HE.out.row, HE.out.bel, HE.out.size⟩
      case he =>
        rintro W ⟨h1, h2, _⟩
        exact ⟨_, results_tmp2 rfl _ _ _, _, rfl, Kd.R_lower (Kd.R_mono h1 (fun _ _ => trivial)) (by have := HE.out.ge; omega), h2⟩
      rintro W D hN ⟨h1, h2, h3⟩ hD
      have hge := HE.out.ge
      have hg := grownBy_putObj' W D (.deferred none)
      refine ⟨?_, h2.grown hg h2.size (fun k e => by cases e; omega), Nat.le_trans h3 hg.size⟩
      refine Kd.R_mono (Kd.R_step (Kd.R_bound h1) (fun k hk hlt => ?_)) (fun k hk => hk.1)
      obtain ⟨_, _, _, q, _, cs, hcc⟩ := hk
      refine hg.block k hlt (fun e => ?_)
      injection e with e
      subst e
      rw [hD] at hcc
      cases hcc

theorem modes_Encode.calls (A0 : Option Addr) (c0 : Nat) (l0 : List S59) (a1 : Int) (r1 : List Bool) (r2 : Int) (w : World) (hr0 : Kd.C k59 w A0 l0.length l0) (hc0 : l0.length ≤ c0) (h : modes_Encode.f l0 a1 = some (r1, r2)) :
    Calls Try.prog 31 #[.slice A0 l0.length c0, .int .i64 a1] w fun e w' => ∃ v0_ : Value, e = .returned (.tuple #[v0_, .int .i64 r2]) ∧ Kd.R Kd.bool 4 w' w.heap.size (fun _ => True) v0_ r1 ∧ Below w.heap.size w w' := by
  have h := Option.some.inj h
  rw [show r1 = (encR l0 a1).1 by rw [h], show r2 = (encR l0 a1).2 by rw [h]]
  unfold encR
  by_cases hz : (mbits l0 a1).2 = 0
  · rw [if_pos hz]
    exact encode_walk A0 c0 l0 a1 w hr0 hc0 hz
  · rw [if_neg hz]
    refine (encode_bad A0 c0 l0 a1 w hr0 hc0 hz).mono ?_
    rintro e w' ⟨rfl, hB⟩
    exact ⟨_, rfl, Kd.R_nil _ _ _ _ _, hB⟩
end Go.Proofs.Ytjhhckkmogekkaa.X
