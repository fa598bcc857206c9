/- The law BitsInverse answers true. -/
import Derived.Test.YtochccmhcpeioaaYAlive
import Derived.Test.YtochccmhcpeioaaYRefA
import Derived.Test.YtochccmhcpeioaaYOpen
import Derived.Deep.RegionWith
namespace Go.Proofs.Ytochccmhcpeioaa.X
open Go.RowKit Go.Proofs.YtochccmhcpeioaaW.PrintWords Go.Proofs.YtochccmhcpeioaaW.PrintLast Go.Proofs.YtochccmhcpeioaaW.PrintMore
set_option linter.unusedVariables false
set_option linter.unusedSimpArgs false

def good (x : S24) : Bool := decide (0 ≤ x.f1) && decide (x.f1 ≤ 62)
def bitsOf (l : List S24) : List Bool := l.flatMap (fun x => if good x then low x.f0 x.f1.toNat else [])
theorem bitsOf_len : ∀ (l : List S24), (bitsOf l).length ≤ 62 * l.length
  | [] => by simp [bitsOf]
  | x :: l => by
    have ih := bitsOf_len l
    unfold bitsOf at ih ⊢
    rw [List.flatMap_cons, List.length_append, List.length_cons]
    generalize (l.flatMap (fun x => if good x = true then low x.f0 x.f1.toNat else [])).length = m at *
    by_cases h : good x
    · rw [if_pos h, low_length]
      unfold good at h
      simp only [Bool.and_eq_true, decide_eq_true_eq] at h
      omega
    · rw [if_neg h, List.length_nil]
      omega
theorem bitsOf_snoc (l : List S24) (x : S24) : bitsOf (l ++ [x]) = bitsOf l ++ if good x then low x.f0 x.f1.toNat else [] := by simp [bitsOf]

theorem gval_low (v : Int) : ∀ n, gval (low v n) = v % 2 ^ n
  | 0 => by simp [low, gval]
  | n + 1 => by
    simp only [low]
    rw [gval_cons, low_length, gval_low v n, Int.pow_succ]
    unfold bitOf
    have hp : (0 : Int) < 2 ^ n := Int.pow_pos (by decide)
    have h1 := Int.emod_add_mul_ediv v (2 ^ n)
    have h2 := Int.emod_add_mul_ediv (v / 2 ^ n) 2
    have h3 := Int.emod_nonneg v (show (2 : Int) ^ n ≠ 0 by omega)
    have h4 := Int.emod_lt_of_pos v hp
    generalize (2 : Int) ^ n = p at *
    generalize v % p = r at *
    generalize v / p = q at *
    have h5 : q % 2 = 0 ∨ q % 2 = 1 := by omega
    have e : v = (r + p * (q % 2)) + (p * 2) * (q / 2) := by
      rw [Int.add_assoc, Int.mul_assoc, ← Int.mul_add, h2, h1]
    rw [e, Int.add_mul_emod_self_left]
    rcases h5 with h | h
    · rw [h, Int.mul_zero, Int.add_zero, Int.emod_eq_of_lt h3 (by omega)]
      simp
    · rw [h, Int.mul_one, Int.emod_eq_of_lt (by omega) (by omega)]
      simp
      omega
theorem band_mask (v : Int) (n : Nat) (hn : n ≤ 62) : Go.bits .and .i64 v (2 ^ n - 1) = v % 2 ^ n := by
  have hp : (0 : Int) < 2 ^ n := Int.pow_pos (by decide)
  have hp2 : (2 : Int) ^ n ≤ 4611686018427387904 := pow_le62 hn
  have hN : ((2 ^ n : Nat) : Int) = (2 : Int) ^ n := by simp
  have hd : (2 : Nat) ^ n ∣ 2 ^ 64 := Nat.pow_dvd_pow 2 (by omega)
  have h : (BitVec.ofInt 64 v &&& BitVec.ofInt 64 (2 ^ n - 1)).toNat = (v % 2 ^ n).toNat := by
    have e2 : (BitVec.ofInt 64 ((2 : Int) ^ n - 1)).toNat = 2 ^ n - 1 := by
      rw [BitVec.toNat_ofInt]
      omega
    rw [BitVec.toNat_and, e2, BitVec.toNat_ofInt, Nat.and_two_pow_sub_one_eq_mod]
    apply Int.ofNat.inj
    show (((v % ((2 ^ 64 : Nat) : Int)).toNat % 2 ^ n : Nat) : Int) = (((v % 2 ^ n).toNat : Nat) : Int)
    rw [Int.natCast_emod, Int.toNat_of_nonneg (Int.emod_nonneg _ (by decide)), Int.toNat_of_nonneg (Int.emod_nonneg _ (by omega)), hN, ← hN]
    exact Int.emod_emod_of_dvd v (Int.natCast_dvd_natCast.mpr hd)
  have h3 := Int.emod_nonneg v (show (2 : Int) ^ n ≠ 0 by omega)
  have h4 := Int.emod_lt_of_pos v hp
  show IntKind.i64.wrap (((BitVec.ofInt 64 v &&& BitVec.ofInt 64 (2 ^ n - 1)).toNat : Nat) : Int) = v % 2 ^ n
  rw [h, IntKind.wrap_i64]
  omega

set_option maxHeartbeats 4000000 in
set_option maxRecDepth 100000 in
theorem inverse_runs (A0 : Option Addr) (c0 : Nat) (l0 : List S24) (w : World) (hr0 : Kd.C k24 w A0 l0.length l0) (hc0 : l0.length ≤ c0) (hg0 : l0.length ≤ 100) :
    Calls Try.prog 6 #[.slice A0 l0.length c0] w fun e w' => e = .returned (.bool true) ∧ Below w.heap.size w w' := by
  have b1 : decide ((100 : Int) < (l0.length : Int)) = false := decide_eq_false (by omega)
  have HR0 := Aside0.mk hr0
  have HC0 := Aside0.mk hc0
  have HL := Aside0.mk hg0
  clear hr0 hc0 hg0
  go_enter Try.func6, Try.ntmps6
  go_wp2_with fail
  go_loopw [3, 20] (fun v3 v20 wr => ∃ (A : Option Addr) (c i : Nat), v3 = .slice A (bitsOf (l0.take i)).length c ∧ v20 = .int .i64 i ∧ Aside0 (i ≤ l0.length) ∧ Aside0 ((bitsOf (l0.take i)).length ≤ c) ∧ Aside0 (Kd.C Kd.bool wr A (bitsOf (l0.take i)).length (bitsOf (l0.take i))) ∧ Aside0 (Below w.heap.size w wr)) (fun _ v20 _ => l0.length - (intOf v20).toNat)
  case atStart => exact ⟨none, 0, 0, rfl, rfl, ⟨Nat.zero_le _⟩, ⟨Nat.le_refl _⟩, ⟨Kd.C_nil _ _⟩, ⟨Below.refl _ _⟩⟩
  case round =>
    obtain ⟨A, c, i, rfl, rfl, HI, HC, HRB, HB⟩ := hrel
    by_cases hlt : i < l0.length
    · have t1 : decide ((i : Int) < (l0.length : Int)) = true := decide_eq_true (by omega)
      have t1n : decide (i < l0.length) = true := decide_eq_true hlt
      obtain ⟨ad, ea, hx0, hx1⟩ := at_T24 (Kd.C_below HR0.out HB.out) (i : Int) (by omega) (by omega)
      subst ea
      simp only [Int.toNat_natCast] at hx0 hx1
      obtain ⟨x, hx⟩ : ∃ x, rd_T24 l0 (i : Int) = x := ⟨_, rfl⟩
      rw [hx] at hx0 hx1
      have HX := Aside0.mk hx
      clear hx
      have hlen := bitsOf_len (l0.take i)
      rw [List.length_take] at hlen
      have hap := Append_is (bitsOf (l0.take i)) x.f0 x.f1 100 (by have := HL.out; omega) (by omega)
      have HAP := Aside0.mk hap
      have HLEN := Aside0.mk hlen
      clear hap hlen
      have hnext : bitsOf (l0.take (i + 1)) = bitsOf (l0.take i) ++ if good x then low x.f0 x.f1.toNat else [] := by
        rw [List.take_succ_eq_append_getElem hlt, bitsOf_snoc]
        have : l0[i] = x := by
          rw [← HX.out]
          simp [rd_T24, List.getElem?_eq_getElem hlt]
        rw [this]
      have HNX := Aside0.mk hnext
      clear hnext
      generalize bitsOf (l0.take i) = b at *
      go_upto_region 7 with (fail)
      go_cut [5, 6] (fun v5 v6 wc => ∃ (A' : Option Addr) (c' : Nat), v5 = .slice A' (appendR b x.f0 x.f1).1.length c' ∧ v6 = .int .i64 (appendR b x.f0 x.f1).2 ∧ Aside0 ((appendR b x.f0 x.f1).1.length ≤ c') ∧ Aside0 (Kd.C Kd.bool wc A' (appendR b x.f0 x.f1).1.length (appendR b x.f0 x.f1).1) ∧ Aside0 (Below wr.heap.size wr wc))
      case first =>
        go_region_with (go_at_call 13; refine (bits_Append.calls 100 A c b x.f0 x.f1 (appendR b x.f0 x.f1).1 (appendR b x.f0 x.f1).2 _ (by first | exact HRB.out | exact Kd.C_drew HRB.out) HC.out HAP.out).mono ?_; rintro e w2 ⟨v2, rfl, hR2, hB2⟩; obtain ⟨A2, c2, rfl⟩ := Kd.R_slice hR2; have H2 := Aside0.mk (And.intro (Kd.R_reads' hR2).2 hB2); clear hR2 hB2)
        all_goals
          go_wp2_with fail
          go_meet
          case rel => exact ⟨A2, c2, rfl, rfl, ⟨H2.out.1.1⟩, ⟨H2.out.1.2⟩, ⟨by first | exact H2.out.2 | exact (below_drew (Below.refl _ _)).trans H2.out.2⟩⟩
      case rest =>
        obtain ⟨A', c', rfl, rfl, HC', HR', HB'⟩ := hcut
        have hy0 := pw_cell_below HB'.out hx0
        have hy1 := pw_cell_below HB'.out hx1
        have HBB := Aside0.mk (HB.out.trans (HB'.out.mono HB.out.size))
        have HW := Aside0.mk (show wrap64 ((i : Int) + 1) = ((i + 1 : Nat) : Int) by have := HL.out; unfold wrap64; omega)
        clear hx0 hx1
        by_cases hgd : good x = true
        · have hgd2 := hgd
          unfold good at hgd2
          simp only [Bool.and_eq_true, decide_eq_true_eq] at hgd2
          have e : appendR b x.f0 x.f1 = (b ++ low x.f0 x.f1.toNat, 0) := by
            unfold appendR
            rw [if_neg (by omega), if_neg (by have := HLEN.out; have := HL.out; omega)]
          rw [e] at HC' HR' ⊢
          have g1 : decide (0 ≤ x.f1) = true := decide_eq_true hgd2.1
          have g2 : decide (x.f1 ≤ 62) = true := decide_eq_true hgd2.2
          have HG := Aside0.mk hgd
          clear hgd hgd2 e HAP
          go_wp2_with fail
          rw [HW.out]
          have hn := HNX.out
          rw [if_pos HG.out] at hn
          refine ⟨⟨A', c', i + 1, by rw [hn], rfl, ⟨hlt⟩, ⟨by rw [hn]; exact HC'.out⟩, ⟨by rw [hn]; exact HR'.out⟩, HBB⟩, ?_⟩
          simp only [intOf, Int.toNat_natCast]
          omega
        · have hgd2 := hgd
          unfold good at hgd2
          simp only [Bool.and_eq_true, decide_eq_true_eq] at hgd2
          have e : appendR b x.f0 x.f1 = ([], 3) := by
            unfold appendR
            rw [if_pos (by omega)]
          rw [e] at HC' HR' ⊢
          have HG := Aside0.mk hgd
          have HBO := Aside0.mk (And.intro (HRB) (And.intro HC HB'))
          clear hgd e HAP
          by_cases h1 : 0 ≤ x.f1
          · have g1 : decide (0 ≤ x.f1) = true := decide_eq_true h1
            have g2 : decide (x.f1 ≤ 62) = false := decide_eq_false (by omega)
            clear hgd2 h1
            go_wp2_with fail
            rw [HW.out]
            have hn := HNX.out
            rw [if_neg HG.out, List.append_nil] at hn
            refine ⟨⟨A, c, i + 1, by rw [hn], rfl, ⟨hlt⟩, ⟨by rw [hn]; exact HC.out⟩, ⟨by rw [hn]; exact Kd.C_below HRB.out HB'.out⟩, HBB⟩, ?_⟩
            simp only [intOf, Int.toNat_natCast]
            omega
          · have g1 : decide (0 ≤ x.f1) = false := decide_eq_false h1
            clear hgd2 h1
            go_wp2_with fail
            rw [HW.out]
            have hn := HNX.out
            rw [if_neg HG.out, List.append_nil] at hn
            refine ⟨⟨A, c, i + 1, by rw [hn], rfl, ⟨hlt⟩, ⟨by rw [hn]; exact HC.out⟩, ⟨by rw [hn]; exact Kd.C_below HRB.out HB'.out⟩, HBB⟩, ?_⟩
            simp only [intOf, Int.toNat_natCast]
            omega
    · have t1 : decide ((i : Int) < (l0.length : Int)) = false := decide_eq_false (by omega)
      have t1n : decide (i < l0.length) = false := decide_eq_false hlt
      have hil : l0.take i = l0 := List.take_of_length_le (by omega)
      rw [hil] at HC HRB ⊢
      clear hil
      have hlen := bitsOf_len l0
      have HLEN := Aside0.mk hlen
      clear hlen
      go_wp2_with fail
      refine (NewReader_calls A c (bitsOf l0) wr HRB.out HC.out (by have := HLEN.out; have := HL.out; omega)).mono ?_
      rintro e w1 ⟨g, rfl, hg, hRd, hB1⟩
      have HRD := Aside0.mk hRd
      have HB1 := Aside0.mk (bstep HB.out hB1)
      have HN := Aside0.mk (And.intro HB.out.size hg)
      generalize wr.heap.size = N at *
      clear hRd hB1 hg HRB
      go_wp2_with fail
      go_loopw [63] (fun v63 wq => ∃ (j : Nat), v63 = .int .i64 j ∧ Aside0 (j ≤ l0.length) ∧ Aside0 (IsRd wq N g (bitsOf (l0.drop j))) ∧ Aside0 (Below w.heap.size w wq)) (fun v63 _ => l0.length - (intOf v63).toNat)
      case atStart => exact ⟨0, rfl, ⟨Nat.zero_le _⟩, HRD, HB1⟩
      case round =>
        obtain ⟨j, rfl, HJ, HR2, HB2⟩ := hrel
        by_cases hlt : j < l0.length
        · have t2n : decide (j < l0.length) = true := decide_eq_true hlt
          have t2 : decide ((j : Int) < (l0.length : Int)) = true := decide_eq_true (by omega)
          obtain ⟨ad, ea, hx0, hx1⟩ := at_T24 (Kd.C_below HR0.out HB2.out) (j : Int) (by omega) (by omega)
          subst ea
          simp only [Int.toNat_natCast] at hx0 hx1
          obtain ⟨x, hx⟩ : ∃ x, rd_T24 l0 (j : Int) = x := ⟨_, rfl⟩
          rw [hx] at hx0 hx1
          have HX := Aside0.mk hx
          clear hx
          have HW := Aside0.mk (show wrap64 ((j : Int) + 1) = ((j + 1 : Nat) : Int) by have := HL.out; unfold wrap64; omega)
          by_cases hgd : good x = true
          · have hgd2 := hgd
            unfold good at hgd2
            simp only [Bool.and_eq_true, decide_eq_true_eq] at hgd2
            have g1 : decide (x.f1 < 0) = false := decide_eq_false (by omega)
            have g2 : decide (62 < x.f1) = false := decide_eq_false (by omega)
            have hdr : bitsOf (l0.drop j) = low x.f0 x.f1.toNat ++ bitsOf (l0.drop (j + 1)) := by
              rw [List.drop_eq_getElem_cons hlt]
              have hxx : l0[j] = x := by
                rw [← HX.out]
                simp [rd_T24, List.getElem?_eq_getElem hlt]
              rw [hxx]
              unfold bitsOf
              rw [List.flatMap_cons, if_pos hgd]
            obtain ⟨m, hm⟩ : ∃ m : Nat, x.f1 = m := ⟨x.f1.toNat, by omega⟩
            have hm62 : m ≤ 62 := by omega
            have e7 : rdTake (bitsOf (l0.drop j)) x.f1 = (x.f0 % 2 ^ m, 0, m) := by
              rw [hdr, hm, Int.toNat_natCast]
              unfold rdTake
              rw [if_neg (by omega), if_neg (by rw [List.length_append, low_length]; omega), Int.toNat_natCast, List.take_append_of_le_length (by rw [low_length]; exact Nat.le_refl _), List.take_of_length_le (by rw [low_length]; exact Nat.le_refl _), gval_low]
            have hd2 : (bitsOf (l0.drop j)).drop m = bitsOf (l0.drop (j + 1)) := by
              rw [hdr, hm, Int.toNat_natCast, List.drop_append_of_le_length (by rw [low_length]; exact Nat.le_refl _), List.drop_of_length_le (by rw [low_length]; exact Nat.le_refl _), List.nil_append]
            have HE := Aside0.mk (And.intro e7 (And.intro hd2 hm62))
            clear hgd hgd2 hdr e7 hd2
            rw [hm] at hx1 g1 g2
            have HM := Aside0.mk hm
            go_wp2_with fail
            refine (Take_calls wr N g _ m HR2.out).mono ?_
            rintro e w2 ⟨rfl, hRd, hB7, hs7⟩
            have e8 := HE.out.1
            rw [HM.out] at e8
            rw [e8] at hRd ⊢
            rw [HE.out.2.1] at hRd
            have hB3 : Below w.heap.size w w2 := HB2.out.trans (hB7.mono (by have := HN.out; omega))
            have hy0 : w2.cell? (ad.add (j * 2)) = some (.int .i64 x.f0) := by
              obtain ⟨ad', ea', hz0, _⟩ := at_T24 (Kd.C_below HR0.out hB3) (j : Int) (by omega) (by omega)
              injection ea' with ea'
              subst ea'
              rw [HX.out] at hz0
              simpa using hz0
            have HRD3 := Aside0.mk hRd
            have HB3 := Aside0.mk hB3
            clear hRd hB3 hB7 hs7 e8 hx0 hx1
            have hmk : Go.bits .and .i64 x.f0 (wrap64 (wrap64 (2 ^ m) - 1)) = x.f0 % 2 ^ m := by
              have hp : (0 : Int) < 2 ^ m := Int.pow_pos (by decide)
              have hp2 : (2 : Int) ^ m ≤ 4611686018427387904 := pow_le62 HE.out.2.2
              rw [w64 (n := 2 ^ m) (by omega), w64 (by omega)]
              exact band_mask x.f0 m HE.out.2.2
            go_wp2_with fail
            rw [HW.out]
            refine ⟨⟨j + 1, rfl, ⟨hlt⟩, HRD3, HB3⟩, ?_⟩
            simp only [intOf, Int.toNat_natCast]
            omega
          · have hdr : bitsOf (l0.drop j) = bitsOf (l0.drop (j + 1)) := by
              rw [List.drop_eq_getElem_cons hlt]
              have hxx : l0[j] = x := by
                rw [← HX.out]
                simp [rd_T24, List.getElem?_eq_getElem hlt]
              rw [hxx]
              unfold bitsOf
              rw [List.flatMap_cons, if_neg hgd, List.nil_append]
            rw [hdr] at HR2
            have hgd2 := hgd
            unfold good at hgd2
            simp only [Bool.and_eq_true, decide_eq_true_eq] at hgd2
            by_cases h1 : x.f1 < 0
            · have g1 : decide (x.f1 < 0) = true := decide_eq_true h1
              clear hgd hgd2 hdr h1
              go_wp2_with fail
              rw [HW.out]
              refine ⟨⟨j + 1, rfl, ⟨hlt⟩, HR2, HB2⟩, ?_⟩
              simp only [intOf, Int.toNat_natCast]
              omega
            · have g1 : decide (x.f1 < 0) = false := decide_eq_false h1
              have g2 : decide (62 < x.f1) = true := decide_eq_true (by omega)
              clear hgd hgd2 hdr h1
              go_wp2_with fail
              rw [HW.out]
              refine ⟨⟨j + 1, rfl, ⟨hlt⟩, HR2, HB2⟩, ?_⟩
              simp only [intOf, Int.toNat_natCast]
              omega
        · have t2n : decide (j < l0.length) = false := decide_eq_false hlt
          have t2 : decide ((j : Int) < (l0.length : Int)) = false := decide_eq_false (by omega)
          have hjl : l0.drop j = [] := List.drop_of_length_le (by omega)
          rw [hjl] at HR2
          clear hjl
          go_wp2_with fail
          refine (Take_calls wr N g _ 1 HR2.out).mono ?_
          rintro e w2 ⟨rfl, hRd, hB7, hs7⟩
          have e7 : rdTake (bitsOf []) 1 = (0, 10, 0) := by decide +kernel
          rw [e7] at hRd ⊢
          have HRD3 := Aside0.mk hRd
          have HB3 := Aside0.mk (HB2.out.trans (hB7.mono (by have := HN.out; omega)))
          clear hRd hB7 hs7 e7
          go_wp2_with fail
          refine (Left_calls w2 N g _ HRD3.out).mono ?_
          rintro e w3 ⟨rfl, hw_⟩
          replace hw_ := hw_.symm
          subst hw_
          go_wp2_with fail
          refine (barscanlaw01_alive.calls true _ rfl).mono ?_
          rintro e w4 ⟨rfl, hB⟩
          have HB4 := Aside0.mk (bstep HB3.out hB)
          clear hB
          go_wp2_with fail
          go_ret
          exact ⟨rfl, HB4.out⟩

set_option maxHeartbeats 4000000 in
set_option maxRecDepth 100000 in
theorem inverse_alive (A0 : Option Addr) (c0 : Nat) (l0 : List S24) (w : World) (hg : 100 < l0.length) :
    Calls Try.prog 6 #[.slice A0 l0.length c0] w fun e w' => e = .returned (.bool true) ∧ Below w.heap.size w w' := by
  have b1 : decide ((100 : Int) < (l0.length : Int)) = true := decide_eq_true (by omega)
  clear hg
  go_enter Try.func6, Try.ntmps6
  go_wp2_with (go_at_call 12; refine (barscanlaw01_alive.calls true _ rfl).mono ?_; rintro e w1 ⟨rfl, hB⟩; have HB := Aside0.mk hB; clear hB)
  go_ret
  exact ⟨rfl, HB.out⟩
def barscanlaw01_BitsInverse.f (l0 : List S24) : Option Bool := some true
theorem barscanlaw01_BitsInverse.calls (A0 : Option Addr) (c0 : Nat) (l0 : List S24) (r : Bool) (w : World) (hr0 : Kd.C k24 w A0 l0.length l0) (hc0 : l0.length ≤ c0) (h : barscanlaw01_BitsInverse.f l0 = some r) :
    Calls Try.prog 6 #[.slice A0 l0.length c0] w fun e w' => e = .returned (.bool r) ∧ Below w.heap.size w w' := by
  obtain rfl : true = r := Option.some.inj h
  by_cases hg : 100 < l0.length
  · exact inverse_alive A0 c0 l0 w hg
  · exact inverse_runs A0 c0 l0 w hr0 hc0 (by omega)
instance : Inhabited S24 := ⟨z24⟩
theorem opens_Item {H : Type} {enc : TypeId × Value → H} {w : World} {base : Nat} {spare : Nat → Bool} {held : Bool} : Opens enc Try.prog w base spare held k24 (fun _ => True) 24 :=
  opens_imp (opens_iso (g := fun p => ⟨p.1, p.2⟩) (fun _ => rfl) (opens_pair Try.underlying24 rfl rfl (by kernel_rfl) (by kernel_rfl) (by kernel_rfl) (opens_int (k := .i64) Try.underlying3) (opens_int (k := .i64) Try.underlying3))) (fun _ _ => trivial)
end Go.Proofs.Ytochccmhcpeioaa.X
