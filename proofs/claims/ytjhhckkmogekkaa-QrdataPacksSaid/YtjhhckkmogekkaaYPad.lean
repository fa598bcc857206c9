/- qrdata.Pad: the codewords of bits, padded, or the error. No condition. -/
import Derived.Test.YtjhhckkmogekkaaYWriterB
import Derived.Test.YtjhhckkmogekkaaYGroups
import Derived.Test.YtjhhckkmogekkaaXx20
namespace Go.Proofs.Ytjhhckkmogekkaa.X
open Go.RowKit Go.Proofs.YtjhhckkmogekkaaW.PrintWords Go.Proofs.YtjhhckkmogekkaaW.PrintLast Go.Proofs.YtjhhckkmogekkaaW.PrintMore
set_option linter.unusedVariables false
set_option linter.unusedSimpArgs false

def words (s : Nat) (fill : Bool) (l : List Bool) : List Int := (List.range ((l.length + s - 1) / s)).map (fun j => gnum s fill (gchunk s l (j * s)))
def wordsR (l : List Bool) (size : Int) (fill : Bool) : List Int × Int := if size < 1 ∨ size > 62 then ([], 3) else (words size.toNat fill l, 0)
theorem Words_is (l : List Bool) (size : Int) (fill : Bool) (hl : l.length ≤ 17592186044415) : bits_Words.f l size fill = some (wordsR l size fill) := by
  unfold bits_Words.f wordsR
  by_cases h1 : size < 1
  · rw [if_pos h1, if_pos (.inl h1)]
  by_cases h2 : size > 62
  · rw [if_neg h1, if_pos h2, if_pos (.inr h2)]
  rw [if_neg h1, if_neg h2, if_neg (by omega)]
  unfold bits_groups.f
  rw [if_pos ⟨by omega, by omega, hl⟩, Option.bind_some]
  rfl


/-- The pad codewords. -/
def altW (i : Nat) : Int := if i % 2 = 0 then 236 else 17
def padM (l : List Bool) (n : Int) : Nat := min 4 (8 * n.toNat - l.length)
def padQ (k : Nat) : Nat := (8 - k % 8) % 8
/-- The bits with their terminator, up to a whole codeword. -/
def padBits (l : List Bool) (n : Int) : List Bool := (l ++ low 0 (padM l n)) ++ low 0 (padQ (l ++ low 0 (padM l n)).length)
def padW (l : List Bool) (n : Int) : List Int := words 8 false (padBits l n) ++ (List.range (n.toNat - (words 8 false (padBits l n)).length)).map altW
def padR (l : List Bool) (n : Int) : List Int × Int := if n < 0 ∨ 4096 < n then ([], 3) else if 8 * n < l.length then ([], 16) else (padW l n, 0)
def qrdata_Pad.f (l0 : List Bool) (a1 : Int) : Option (List Int × Int) := some (padR l0 a1)
theorem padBits_length (l : List Bool) (n : Int) : (padBits l n).length = l.length + padM l n + padQ (l.length + padM l n) := by
  unfold padBits
  rw [List.length_append, List.length_append, low_length, low_length]
theorem words_length (l : List Bool) : (words 8 false l).length = (l.length + 7) / 8 := by
  unfold words
  rw [List.length_map, List.length_range]
  omega
theorem padWords_length (l : List Bool) (n : Int) (h : (l.length : Int) ≤ 8 * n) : (words 8 false (padBits l n)).length ≤ n.toNat := by
  rw [words_length, padBits_length]
  unfold padM padQ
  omega
set_option maxHeartbeats 4000000 in
set_option maxRecDepth 100000 in
theorem pad_bad0 (A0 : Option Addr) (c0 : Nat) (l0 : List Bool) (n : Int) (d0 : decide (n < 0) = true) (w : World) :
    Calls Try.prog 18 #[.slice A0 l0.length c0, .int .i64 n] w fun e w' => ∃ v0_ : Value, e = .returned (.tuple #[v0_, .int .i64 3]) ∧ Kd.R (Kd.int .i64) 3 w' w.heap.size (fun _ => True) v0_ [] ∧ Below w.heap.size w w' := by
  go_enter Try.func18, Try.ntmps18
  go_wp2
  go_ret2
  exact ⟨_, rfl, Kd.R_nil _ _ _ _ _, by repeat (first | exact Below.refl _ _ | apply below_alloc | apply pw_below_drewN | apply below_drew)⟩
set_option maxHeartbeats 4000000 in
set_option maxRecDepth 100000 in
theorem pad_bad1 (A0 : Option Addr) (c0 : Nat) (l0 : List Bool) (n : Int) (d0 : decide (n < 0) = false) (d1 : decide (4096 < n) = true) (w : World) :
    Calls Try.prog 18 #[.slice A0 l0.length c0, .int .i64 n] w fun e w' => ∃ v0_ : Value, e = .returned (.tuple #[v0_, .int .i64 3]) ∧ Kd.R (Kd.int .i64) 3 w' w.heap.size (fun _ => True) v0_ [] ∧ Below w.heap.size w w' := by
  go_enter Try.func18, Try.ntmps18
  go_wp2
  go_ret2
  exact ⟨_, rfl, Kd.R_nil _ _ _ _ _, by repeat (first | exact Below.refl _ _ | apply below_alloc | apply pw_below_drewN | apply below_drew)⟩
set_option maxHeartbeats 4000000 in
set_option maxRecDepth 100000 in
theorem pad_bad2 (A0 : Option Addr) (c0 : Nat) (l0 : List Bool) (n : Int) (d0 : decide (n < 0) = false) (d1 : decide (4096 < n) = false) (hw : wrap64 (8 * n) = 8 * n) (d2 : decide (8 * n < (l0.length : Int)) = true) (w : World) :
    Calls Try.prog 18 #[.slice A0 l0.length c0, .int .i64 n] w fun e w' => ∃ v0_ : Value, e = .returned (.tuple #[v0_, .int .i64 16]) ∧ Kd.R (Kd.int .i64) 3 w' w.heap.size (fun _ => True) v0_ [] ∧ Below w.heap.size w w' := by
  go_enter Try.func18, Try.ntmps18
  go_wp2
  go_ret2
  exact ⟨_, rfl, Kd.R_nil _ _ _ _ _, by repeat (first | exact Below.refl _ _ | apply below_alloc | apply pw_below_drewN | apply below_drew)⟩
set_option maxHeartbeats 4000000 in
set_option maxRecDepth 100000 in
theorem pad_good (A0 : Option Addr) (c0 : Nat) (l0 : List Bool) (n : Int) (hn0 : 0 ≤ n) (hn1 : n ≤ 4096) (hl : (l0.length : Int) ≤ 8 * n) (w : World) (hr0 : Kd.C Kd.bool w A0 l0.length l0) (hc0 : l0.length ≤ c0) (res : List Int) (hres : res = padW l0 n) :
    Calls Try.prog 18 #[.slice A0 l0.length c0, .int .i64 n] w fun e w' => ∃ v0_ : Value, e = .returned (.tuple #[v0_, .int .i64 0]) ∧ Kd.R (Kd.int .i64) 3 w' w.heap.size (fun _ => True) v0_ res ∧ Below w.heap.size w w' := by
  have HRES := Aside0.mk hres
  clear hres
  have d0 : decide (n < 0) = false := decide_eq_false (by omega)
  have d1 : decide (4096 < n) = false := decide_eq_false (by omega)
  have hw : wrap64 (8 * n) = 8 * n := by unfold wrap64; omega
  have d2 : decide (8 * n < (l0.length : Int)) = false := decide_eq_false (by omega)
  have hcl := slices_Clone_bool_bool.calls A0 c0 l0 l0 w hr0 hc0 (by unfold slices_Clone_bool_bool.f; rw [if_pos (by omega)])
  have hm : min 4 (wrap64 (wrap64 (8 * n) - (l0.length : Int))) = (padM l0 n : Int) := by
    rw [hw]
    have : wrap64 (8 * n - (l0.length : Int)) = 8 * n - (l0.length : Int) := by clear hw; unfold wrap64; omega
    rw [this]
    clear this hw
    unfold padM
    omega
  have hq : Go.bits .and .i64 (wrap64 (-((l0 ++ low 0 (padM l0 n)).length : Int))) 7 = (padQ (l0 ++ low 0 (padM l0 n)).length : Int) := by
    have h7 := band_mask (wrap64 (-((l0 ++ low 0 (padM l0 n)).length : Int))) 3 (by decide)
    have e7 : ((2 : Int) ^ 3 - 1) = 7 := by decide
    have e8 : ((2 : Int) ^ 3) = 8 := by decide
    rw [e7, e8] at h7
    rw [h7]
    have hle : (l0 ++ low 0 (padM l0 n)).length ≤ 40000 := by rw [List.length_append, low_length]; unfold padM; clear hw; omega
    generalize (l0 ++ low 0 (padM l0 n)).length = K at *
    clear hw hm h7
    have : wrap64 (-(K : Int)) = -(K : Int) := by unfold wrap64; omega
    rw [this]
    clear this
    unfold padQ
    omega
  have HN := Aside0.mk (And.intro hn0 (And.intro hn1 hl))
  have HCL := Aside0.mk hcl
  have HM := Aside0.mk hm
  have HQ := Aside0.mk hq
  have HP := Aside0.mk (padBits_length l0 n)
  have hM4 : padM l0 n ≤ 4 := by unfold padM; omega
  have hQ7 : padQ (l0 ++ low 0 (padM l0 n)).length ≤ 7 := by unfold padQ; omega
  have HB0 := Aside0.mk (And.intro hM4 hQ7)
  clear hr0 hc0 hn0 hn1 hl hcl hm hq hM4 hQ7
  go_enter Try.func18, Try.ntmps18
  go_wp2_with fail
  refine HCL.out.mono ?_
  rintro e w1 ⟨v, rfl, hR, hB⟩
  obtain ⟨A1, c1, rfl⟩ := Kd.R_slice hR
  have hlt1 := Kd.R_lt hR
  have HX := Aside0.mk (And.intro hR hB)
  clear hR hB
  go_wp2_with fail
  have hg0 : (w1.alloc (.cells #[.slice A1 l0.length c1] 67)).heap[w1.heap.size]? = some (.cells #[.slice A1 l0.length c1] 67 (0, 0)) := World.alloc_heap_new _ _
  have hb2 : Below w1.heap.size w1 (w1.alloc (.cells #[.slice A1 l0.length c1] 67)) := below_alloc (Below.refl _ _) _
  generalize w1.alloc (.cells #[.slice A1 l0.length c1] 67) = w2 at *
  have hwr : IsWr w2 w.heap.size w1.heap.size l0 := ⟨_, hg0, HX.out.2.size, Kd.R_mono (Kd.R_below (Kd.R_bound HX.out.1) hb2) (fun k hk => Nat.ne_of_lt hk.2.2.1)⟩
  have hB2 : Below w.heap.size w w2 := HX.out.2.trans (hb2.mono HX.out.2.size)
  have hge := HX.out.2.size
  clear hg0 hb2 HX hlt1
  generalize w1.heap.size = g at *
  refine (wpad_calls w2 w.heap.size g l0 n hwr HN.out.2.2 HN.out.2.1 (padM l0 n) (padQ (l0 ++ low 0 (padM l0 n)).length) HM.out HB0.out.1 (l0 ++ low 0 (padM l0 n)) rfl HQ.out HB0.out.2).mono ?_
  rintro e w3 ⟨rfl, h3, k3⟩
  have h3 : IsWr w3 w.heap.size g (padBits l0 n) := h3
  have hB3 : Below w.heap.size w w3 := hB2.trans (k3.1.mono hge)
  clear hwr hB2 k3
  have hPL := padWords_length l0 n HN.out.2.2
  have hPB : (padBits l0 n).length ≤ 40000 := by
    have h1 := HP.out
    have h2 := HN.out
    have h3 := HB0.out
    rw [List.length_append, low_length] at h3
    clear hw
    omega
  have HWD := Aside0.mk (show bits_Words.f (padBits l0 n) 8 false = some (words 8 false (padBits l0 n), 0) by rw [Words_is _ _ _ (by omega)]; rfl)
  have hpw : padW l0 n = words 8 false (padBits l0 n) ++ (List.range (n.toNat - (words 8 false (padBits l0 n)).length)).map altW := rfl
  rw [hpw] at HRES
  generalize words 8 false (padBits l0 n) = ws at *
  generalize padBits l0 n = pb at *
  obtain ⟨v, hc, _, hR⟩ := h3
  obtain ⟨A, c, rfl⟩ := Kd.R_slice hR
  have hc0 : w3.cell? ⟨g, 0, none⟩ = some (.slice A pb.length c) := by simp [World.cell?, hc]
  have HR := Aside0.mk (Kd.R_reads' hR)
  have HL := Aside0.mk (And.intro hPL hPB)
  have HB3 := Aside0.mk hB3
  clear hc hR hPL hPB hB3 hge hpw HM HQ HB0 HP HCL
  go_wp2_with fail
  refine (bits_Words.calls A c pb 8 false ws 0 w3 HR.out.2.2 HR.out.2.1 HWD.out).mono ?_
  rintro e w4 ⟨v4, rfl, hR4, hB4⟩
  have HO := Aside0.mk (Kd.R_lower hR4 HB3.out.size)
  have HB := Aside0.mk (HB3.out.trans (hB4.mono HB3.out.size))
  clear hR4 hB4 HR hc0
  obtain ⟨A4, c4, rfl⟩ := Kd.R_slice HO.out
  go_wp2_with fail
  go_loopw [7, 9] (fun v7 v9 wr => ∃ (i : Nat) (cur : Value) (acc : List Int), v7 = cur ∧ v9 = .int .i64 i ∧ Aside0 (acc = ws ++ (List.range i).map altW ∧ i ≤ n.toNat - ws.length) ∧ Aside0 (Kd.R (Kd.int .i64) 3 wr w.heap.size (fun _ => True) cur acc) ∧ Aside0 (Below w.heap.size w wr)) (fun _ v9 _ => n.toNat - (intOf v9).toNat)
  case atStart => exact ⟨0, _, ws, rfl, rfl, ⟨by simp, Nat.zero_le _⟩, HO, HB⟩
  case round =>
    clear HO HB
    obtain ⟨i, cur, acc, rfl, rfl, HI, HO, HB⟩ := hrel
    have HLN := Aside0.mk (show acc.length = ws.length + i by rw [HI.out.1, List.length_append, List.length_map, List.length_range])
    by_cases hlt : i < n.toNat - ws.length
    · have t0 : decide ((acc.length : Int) < n) = true := decide_eq_true (by have := HLN.out; have := HN.out; clear hw; omega)
      rcases (show i % 2 = 0 ∨ i % 2 = 1 by omega) with hpar | hpar
      · have hp : Int.tmod (i : Int) 2 = 0 := by rw [Int.tmod_eq_emod_of_nonneg (by omega)]; omega
        have hval : altW i = 236 := by unfold altW; rw [if_pos hpar]
        obtain ⟨Ac, cc, rfl⟩ := Kd.R_slice HO.out
        have HAL := Aside0.mk (show acc.length < 17592186044416 by have := HLN.out; have := HN.out; have := HI.out.2; have := HL.out.1; clear hw; omega)
        have HPV := Aside0.mk (And.intro hval hlt)
        clear hlt hpar hval
        go_wp2_with (first | ((with_reducible refine gate_dst (N := 43) rfl ?_); (try (refine gate_guard (by rfl) ?_; dsimp only)); refine Kd.R_lit (Kd.int .i64) _ 3 ?hg (N := 43) ?hd (xs := ([236, 17] : List Int)) (inner := [.int .i64 236, .int .i64 17]) (ok := fun _ => True) (okp := fun _ => True) ?hr ?hp (fun _ hk => hk) trivial (Below.refl _ _) (Nat.le_refl _) (by simp) ?_; (case hd => rfl); (case hg => rfl); (case hr => first | (go_simp; done) | (go_simp; rfl)); (case hp => exact (Reps.one (show Kd.M (Kd.int .i64) _ _ _ 236 [.int .i64 236] from rfl) (Reps.one (show Kd.M (Kd.int .i64) _ _ _ 17 [.int .i64 17] from rfl) (Reps.none _ _)))); intro v43 w30 ho hb hg_ hnew_; clear hg_ hnew_; obtain ⟨Al, cl, rfl⟩ := Kd.R_slice ho; obtain ⟨adl, rfl, hxl⟩ := Kd.at_int (Kd.R_reads' ho).2.2 0 (by decide) (by decide); have hxl2 : w30.cell? adl = some (.int .i64 236) := hxl; have n0_ := Aside0.mk (below_step HB.out hb); have n1_ := Aside0.mk (Kd.R_below HO.out hb); clear HB HO hxl ho hb; have HB := n0_; have HO := n1_; clear n0_ n1_) | ((with_reducible refine gate_builtin (b := .append) (xs := #[.tmp 42, .tmp 48]) rfl ?_); (try (refine gate_guard (by rfl) ?_; dsimp only)); at_builtin; refine Kd.R_append (Kd.int .i64) (w0 := w) w.heap.size rfl (.tmp 42) (.tmp 48) 22 3 (.int .i64 0) 8 rfl Try.underlying22 info3 rfl (by decide) (by omega) (.slice Ac acc.length cc) acc 236 [.int .i64 236] (fun _ => True) (fun _ => False) rfl rfl ?aP (fun _ hk => hk.elim) ?aF ?aO ?aB ?aS ?aL ?_; (case aP => exact rfl); (case aB => exact (by repeat (first | (with_reducible first | exact HB.out | apply below_alloc | apply pw_below_drewN | apply below_drew1) | exact HB.out))); (case aF => exact (fun _ _ => trivial)); (case aO => exact (by (with_reducible repeat (first | apply Kd.R_alloc | apply Kd.R_drewN | apply Kd.R_drew)); exact HO.out)); (case aS => exact (below_size (by repeat (first | (with_reducible first | exact HB.out | apply below_alloc | apply pw_below_drewN | apply below_drew1) | exact HB.out)))); (case aL => have := HAL.out; omega); intro v341 w31 ho hb hg hat; have n0_ := Aside0.mk (hb); have n1_ := Aside0.mk (ho); clear HB; clear HO; have HB := n0_; have HO := n1_; clear n0_ n1_; clear ho hb hg hat))
        have hwi : wrap64 ((i : Int) + 1) = ((i + 1 : Nat) : Int) := by have := HI.out.2; have := HN.out; clear hw hp; unfold wrap64; omega
        rw [hwi]
        clear hwi hw
        refine ⟨⟨i + 1, v341, acc ++ [236], rfl, rfl, ⟨?_, by have := HPV.out.2; omega⟩, HO, HB⟩, ?_⟩
        · rw [HI.out.1, List.range_succ, List.map_append, List.append_assoc]
          simp only [List.map_cons, List.map_nil, HPV.out.1]
        · have := HPV.out.2
          simp only [intOf, Int.toNat_natCast]
          omega
      · have hp : Int.tmod (i : Int) 2 = 1 := by rw [Int.tmod_eq_emod_of_nonneg (by omega)]; omega
        have hval : altW i = 17 := by unfold altW; rw [if_neg (by omega)]
        obtain ⟨Ac, cc, rfl⟩ := Kd.R_slice HO.out
        have HAL := Aside0.mk (show acc.length < 17592186044416 by have := HLN.out; have := HN.out; have := HI.out.2; have := HL.out.1; clear hw; omega)
        have HPV := Aside0.mk (And.intro hval hlt)
        clear hlt hpar hval
        go_wp2_with (first | ((with_reducible refine gate_dst (N := 43) rfl ?_); (try (refine gate_guard (by rfl) ?_; dsimp only)); refine Kd.R_lit (Kd.int .i64) _ 3 ?hg (N := 43) ?hd (xs := ([236, 17] : List Int)) (inner := [.int .i64 236, .int .i64 17]) (ok := fun _ => True) (okp := fun _ => True) ?hr ?hp (fun _ hk => hk) trivial (Below.refl _ _) (Nat.le_refl _) (by simp) ?_; (case hd => rfl); (case hg => rfl); (case hr => first | (go_simp; done) | (go_simp; rfl)); (case hp => exact (Reps.one (show Kd.M (Kd.int .i64) _ _ _ 236 [.int .i64 236] from rfl) (Reps.one (show Kd.M (Kd.int .i64) _ _ _ 17 [.int .i64 17] from rfl) (Reps.none _ _)))); intro v43 w30 ho hb hg_ hnew_; clear hg_ hnew_; obtain ⟨Al, cl, rfl⟩ := Kd.R_slice ho; obtain ⟨adl, rfl, hxl⟩ := Kd.at_int (Kd.R_reads' ho).2.2 1 (by decide) (by decide); have hxl2 : w30.cell? { block := adl.block, off := adl.off + 1 } = some (.int .i64 17) := hxl; have n0_ := Aside0.mk (below_step HB.out hb); have n1_ := Aside0.mk (Kd.R_below HO.out hb); clear HB HO hxl ho hb; have HB := n0_; have HO := n1_; clear n0_ n1_) | ((with_reducible refine gate_builtin (b := .append) (xs := #[.tmp 42, .tmp 48]) rfl ?_); (try (refine gate_guard (by rfl) ?_; dsimp only)); at_builtin; refine Kd.R_append (Kd.int .i64) (w0 := w) w.heap.size rfl (.tmp 42) (.tmp 48) 22 3 (.int .i64 0) 8 rfl Try.underlying22 info3 rfl (by decide) (by omega) (.slice Ac acc.length cc) acc 17 [.int .i64 17] (fun _ => True) (fun _ => False) rfl rfl ?aP (fun _ hk => hk.elim) ?aF ?aO ?aB ?aS ?aL ?_; (case aP => exact rfl); (case aB => exact (by repeat (first | (with_reducible first | exact HB.out | apply below_alloc | apply pw_below_drewN | apply below_drew1) | exact HB.out))); (case aF => exact (fun _ _ => trivial)); (case aO => exact (by (with_reducible repeat (first | apply Kd.R_alloc | apply Kd.R_drewN | apply Kd.R_drew)); exact HO.out)); (case aS => exact (below_size (by repeat (first | (with_reducible first | exact HB.out | apply below_alloc | apply pw_below_drewN | apply below_drew1) | exact HB.out)))); (case aL => have := HAL.out; omega); intro v341 w31 ho hb hg hat; have n0_ := Aside0.mk (hb); have n1_ := Aside0.mk (ho); clear HB; clear HO; have HB := n0_; have HO := n1_; clear n0_ n1_; clear ho hb hg hat))
        have hwi : wrap64 ((i : Int) + 1) = ((i + 1 : Nat) : Int) := by have := HI.out.2; have := HN.out; clear hw hp; unfold wrap64; omega
        rw [hwi]
        clear hwi hw
        refine ⟨⟨i + 1, v341, acc ++ [17], rfl, rfl, ⟨?_, by have := HPV.out.2; omega⟩, HO, HB⟩, ?_⟩
        · rw [HI.out.1, List.range_succ, List.map_append, List.append_assoc]
          simp only [List.map_cons, List.map_nil, HPV.out.1]
        · have := HPV.out.2
          simp only [intOf, Int.toNat_natCast]
          omega
    · have t0 : decide ((acc.length : Int) < n) = false := decide_eq_false (by have := HLN.out; have := HN.out; have := HI.out.2; have := HL.out.1; clear hw; omega)
      obtain ⟨Ac, cc, rfl⟩ := Kd.R_slice HO.out
      have he : i = n.toNat - ws.length := by have := HI.out.2; omega
      have HE := Aside0.mk he
      clear hlt he
      go_wp2_with fail
      go_ret2
      refine ⟨_, rfl, ?_, HB.out⟩
      rw [HRES.out, ← HE.out, ← HI.out.1]
      exact HO.out
theorem qrdata_Pad.calls (A0 : Option Addr) (c0 : Nat) (l0 : List Bool) (a1 : Int) (r1 : List Int) (r2 : Int) (w : World) (hr0 : Kd.C Kd.bool w A0 l0.length l0) (hc0 : l0.length ≤ c0) (h : qrdata_Pad.f l0 a1 = some (r1, r2)) :
    Calls Try.prog 18 #[.slice A0 l0.length c0, .int .i64 a1] w fun e w' => ∃ v0_ : Value, e = .returned (.tuple #[v0_, .int .i64 r2]) ∧ Kd.R (Kd.int .i64) 3 w' w.heap.size (fun _ => True) v0_ r1 ∧ Below w.heap.size w w' := by
  have h : padR l0 a1 = (r1, r2) := Option.some.inj h
  unfold padR at h
  by_cases h0 : a1 < 0
  · rw [if_pos (.inl h0)] at h
    obtain ⟨rfl, rfl⟩ := Prod.mk.inj h
    exact pad_bad0 A0 c0 l0 a1 (decide_eq_true h0) w
  by_cases h1 : 4096 < a1
  · rw [if_pos (.inr h1)] at h
    obtain ⟨rfl, rfl⟩ := Prod.mk.inj h
    exact pad_bad1 A0 c0 l0 a1 (decide_eq_false h0) (decide_eq_true h1) w
  rw [if_neg (by omega)] at h
  by_cases h2 : 8 * a1 < l0.length
  · rw [if_pos h2] at h
    obtain ⟨rfl, rfl⟩ := Prod.mk.inj h
    exact pad_bad2 A0 c0 l0 a1 (decide_eq_false h0) (decide_eq_false h1) (by unfold wrap64; omega) (decide_eq_true h2) w
  · rw [if_neg h2] at h
    obtain ⟨rfl, rfl⟩ := Prod.mk.inj h
    exact pad_good A0 c0 l0 a1 (by omega) (by omega) (by omega) w hr0 hc0 _ rfl
end Go.Proofs.Ytjhhckkmogekkaa.X
