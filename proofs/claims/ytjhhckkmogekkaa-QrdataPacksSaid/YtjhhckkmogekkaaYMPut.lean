/- The closure of modes.Encode that puts the low bits of a number behind what stands in its box. At most 62 bits. -/
import Derived.Test.YtjhhckkmogekkaaYMSpec
import Derived.RangeFuncBox
import Derived.Shelf.Abstract
import Derived.Maps.AppendAt
namespace Go.Proofs.Ytjhhckkmogekkaa.X
open Go.RowKit Go.Shelf Go.Proofs.YtjhhckkmogekkaaW.PrintWords Go.Proofs.YtjhhckkmogekkaaW.PrintLast Go.Proofs.YtjhhckkmogekkaaW.PrintMore
set_option linter.unusedVariables false
set_option linter.unusedSimpArgs false

theorem low_step (v : Int) (n : Nat) : low v (n + 1) = [bitOf v n] ++ low v n := rfl
/-- What a put keeps: all but the box and the row that grows; the row goes on or is a new one. -/
structure PutKeep (gO N : Nat) (W W' : World) (v v' : Value) : Prop where
  os : W'.os = W.os
  tape : W'.tape = W.tape
  output : W'.output = W.output
  size : W.heap.size ≤ W'.heap.size
  block : ∀ k, k < W.heap.size → k ≠ gO → some k ≠ v.ownBlock → W'.heap[k]? = W.heap[k]?
  row : v'.ownBlock = v.ownBlock ∨ ∃ b, v'.ownBlock = some b ∧ W.heap.size ≤ b
theorem PutKeep.refl (gO N : Nat) (W : World) (v : Value) : PutKeep gO N W W v v := ⟨rfl, rfl, rfl, Nat.le_refl _, fun _ _ _ _ => rfl, .inl rfl⟩
theorem PutKeep.trans {gO N : Nat} {A B C : World} {u v x : Value} (h : PutKeep gO N A B u v) (k : PutKeep gO N B C v x) : PutKeep gO N A C u x := by
  refine ⟨k.os.trans h.os, k.tape.trans h.tape, k.output.trans h.output, Nat.le_trans h.size k.size, fun i hi h1 h2 => ?_, ?_⟩
  · rw [k.block i (Nat.lt_of_lt_of_le hi h.size) h1 ?_, h.block i hi h1 h2]
    rcases h.row with e | ⟨b, e, hb⟩
    · rw [e]; exact h2
    · rw [e]; intro he; injection he with he; omega
  · rcases k.row with e | ⟨b, e, hb⟩
    · rw [e]; exact h.row
    · exact .inr ⟨b, e, Nat.le_trans h.size hb⟩
theorem PutKeep.below {gO N : Nat} {A B : World} {u v : Value} (h : PutKeep gO N A B u v) (hg : gO < A.heap.size) (hN : gO ≤ N) (hu : ∀ k, u.ownBlock = some k → N ≤ k) : Below gO A B :=
  ⟨h.os, h.tape, h.output, h.size, fun k hk => h.block k (by omega) (by omega) (fun he => by have := hu k he.symm; omega)⟩

theorem set_one {W : World} {g : Nat} {u : Value} {t : TypeId} (h : W.heap[g]? = some (.cells #[u] t (0, 0))) (v' : Value) : (W.setCell ⟨g, 0, none⟩ v').heap[g]? = some (.cells #[v'] t (0, 0)) := by
  simp [World.setCell, Array.getElem?_modify, h]
set_option maxHeartbeats 4000000 in
set_option maxRecDepth 100000 in
theorem put_calls (x : Int) (n gO N : Nat) (bits : List Bool) (v : Value) (w : World) (hv : w.heap[gO]? = some (.cells #[v] 40 (0, 0))) (hrow : Kd.R Kd.bool 4 w N (fun k => N ≤ k) v bits) (hg : gO < N) (hN : N ≤ w.heap.size) (hn : n ≤ 62) (hl : bits.length + n ≤ 100000000000) :
    Calls Try.prog 52 #[.int .i64 x, .int .i64 n, .pointer (some ⟨gO, 0, none⟩)] w fun e w' => e = .returned (.tuple #[]) ∧ ∃ v', w'.heap[gO]? = some (.cells #[v'] 40 (0, 0)) ∧ Kd.R Kd.bool 4 w' N (fun k => N ≤ k) v' (bits ++ low x n) ∧ PutKeep gO N w w' v v' := by
  have hw1 : wrap64 ((n : Int) - 1) = (n : Int) - 1 := by unfold wrap64; omega
  have HV := Aside0.mk hv
  have HROW := Aside0.mk hrow
  have HN := Aside0.mk (And.intro hg (And.intro hN (And.intro hn hl)))
  clear hv hrow hg hN hn hl
  go_enter Try.func52, Try.ntmps52
  go_wp2_with fail
  rw [hw1]
  go_loopw [5] (fun v5 wr => ∃ (i : Nat) (cur : Value) (acc : List Bool), v5 = .int .i64 ((i : Int) - 1) ∧ Aside0 (i ≤ n ∧ acc ++ low x i = bits ++ low x n ∧ acc.length + i = bits.length + n) ∧ Aside0 (wr.heap[gO]? = some (.cells #[cur] 40 (0, 0))) ∧ Aside0 (Kd.R Kd.bool 4 wr N (fun k => N ≤ k) cur acc) ∧ Aside0 (PutKeep gO N w wr v cur))
    (fun v5 _ => (intOf v5 + 1).toNat)
  case atStart => exact ⟨n, v, bits, rfl, ⟨Nat.le_refl _, rfl, rfl⟩, HV, HROW, ⟨PutKeep.refl _ _ _ _⟩⟩
  case round =>
    obtain ⟨i, cur, acc, rfl, HI, HC, HO, HK⟩ := hrel
    obtain ⟨Ac, cc, rfl⟩ := Kd.R_slice HO.out
    cases i with
    | zero =>
      have t1 : decide ((0 : Int) ≤ ((0 : Nat) : Int) - 1) = false := by decide
      go_wp2_with fail
      go_end0
      have h1 := HI.out.2.1
      simp only [low, List.append_nil] at h1
      rw [← h1]
      exact ⟨rfl, _, HC.out, HO.out, HK.out⟩
    | succ i =>
      have e1 : (((i + 1 : Nat) : Int) - 1) = (i : Int) := by omega
      have t1 : decide ((0 : Int) ≤ (i : Int)) = true := decide_eq_true (by omega)
      have hbit : (Go.bits .and .i64 (x / 2 ^ min i 64) 1 == 1) = bitOf x i := by
        have h := bit_is x i (by have := HI.out; have := HN.out; omega)
        unfold shr at h
        rw [Int.toNat_natCast] at h
        exact h
      have hc1 : wr.cell? ⟨gO, 0, none⟩ = some (.slice Ac acc.length cc) := by simp [World.cell?, HC.out]
      have hf1 : wr.frozen? ⟨gO, 0, none⟩ = false := by simp [World.frozen?, HC.out]
      have HW := Aside0.mk (show gO < wr.heap.size ∧ N ≤ wr.heap.size by have := HN.out; have := HK.out.size; omega)
      rw [e1]
      go_upto_region 3 with (fail)
      refine start_ (n := 9) (S := fun w' => w'.cell? ⟨gO, 0, none⟩ = some (.slice Ac acc.length cc)) (ds := [7, 8]) #[false, false, false, false, false, false, false, false, false] (by kernel_rfl) rfl rfl ((show (wr.drew).cell? ⟨gO, 0, none⟩ = _ from hc1)) (fun hHeld => ?_)
      refine pure_ (i := 1) (N := some 13) (v := ?_) (a' := ?_) #[false, true, false, false, false, false, false, false, false] rfl rfl (by kernel_rfl) (fun _ _ _ h => h) (Or.inl ⟨by rfl, ?_⟩) ?_ ?_
      rotate_left
      · intro w'
        go_simp
        with_reducible rfl
      rotate_left
      · simp only [Act.put, List.setIfInBounds_toArray, List.set_cons_zero, List.set_cons_succ, i64_w, i32_w]
        rfl
      refine pure_ (i := 2) (N := some 14) (v := ?_) (a' := ?_) #[false, true, true, false, false, false, false, false, false] rfl rfl (by kernel_rfl) (fun _ _ _ h => h) (Or.inl ⟨by rfl, ?_⟩) ?_ ?_
      rotate_left
      · intro w'
        go_simp
        with_reducible rfl
      rotate_left
      · simp only [Act.put, List.setIfInBounds_toArray, List.set_cons_zero, List.set_cons_succ, i64_w, i32_w]
        rfl
      refine pure_ (i := 3) (N := some 15) (v := ?_) (a' := ?_) #[false, true, true, true, false, false, false, false, false] rfl rfl (by kernel_rfl) (fun _ _ _ h => h) (Or.inl ⟨by rfl, ?_⟩) ?_ ?_
      rotate_left
      · intro w'
        go_simp
        with_reducible rfl
      rotate_left
      · simp only [Act.put, List.setIfInBounds_toArray, List.set_cons_zero, List.set_cons_succ, i64_w, i32_w]
        rfl
      refine pure_ (i := 4) (N := some 16) (v := ?_) (a' := ?_) #[false, true, true, true, true, false, false, false, false] rfl rfl (by kernel_rfl) (fun _ _ _ h => h) (Or.inl ⟨by rfl, ?_⟩) ?_ ?_
      rotate_left
      · intro w'
        go_simp
        with_reducible rfl
      rotate_left
      · simp only [Act.put, List.setIfInBounds_toArray, List.set_cons_zero, List.set_cons_succ, i64_w, i32_w]
        rfl
      refine pure_ (i := 5) (N := some 17) (v := ?_) (a' := ?_) #[false, true, true, true, true, true, false, false, false] rfl rfl (by kernel_rfl) (fun _ _ _ h => h) (Or.inl ⟨by rfl, ?_⟩) ?_ ?_
      rotate_left
      · intro w'
        go_simp
        with_reducible rfl
      rotate_left
      · simp only [Act.put, List.setIfInBounds_toArray, List.set_cons_zero, List.set_cons_succ, i64_w, i32_w]
        rfl
      refine take_ (i := 0) (N := some 12) (v := ?_) (a' := ?_) #[true, true, true, true, true, true, false, false, false] rfl rfl (by kernel_rfl) (fun _ _ _ h => h) (Or.inl ⟨by rfl, ?_⟩) hHeld ?_ ?_
      rotate_left
      · intro w' s0
        go_simp
        with_reducible rfl
      rotate_left
      · simp only [Act.put, List.setIfInBounds_toArray, List.set_cons_zero, List.set_cons_succ, i64_w, i32_w]
        rfl
      refine one_ (i := 6) (N := some 18) #[true, true, true, true, true, true, true, false, false] rfl rfl (by kernel_rfl) (by decide) (fun K hK => ?_)
      refine value_ (w1 := ?_) (v := ?_) (by rfl) rfl ?_ ?_
      rotate_left 2
      · go_simp
        constructor
        · rfl
        · rfl
      refine hK.out _ _ ((show (wr.alloc _).cell? _ = _ from by rw [World.cell?_alloc_past _ _ _ HW.out.1]; exact hc1)) (fun hHeld => ?_)
      clear hK K
      refine norm_ (a' := ?_) ?_ ?_
      rotate_left
      · show Act.put _ (some 18) _ = _
        simp only [Act.put, List.setIfInBounds_toArray, List.set_cons_zero, List.set_cons_succ, i64_w, i32_w]
        rfl
      refine last_ (i := 7) (N := some 19) #[true, true, true, true, true, true, true, true, false] rfl rfl (by kernel_rfl) (by decide) (fun K hK => ?_)
      rw [show (wr.alloc (Obj.cells #[Value.bool (bitOf x i)] 4)).drew = (wr.drew).alloc (.cells [Value.bool (bitOf x i)].toArray 4) from rfl]
      refine Kd.R_append_step Kd.bool (w0 := wr.drew) N (by rfl) (.tmp 12) (.tmp 18) 40 4 (.bool false) 1 rfl Try.underlying40 info4 rfl (by decide) (by omega) (.slice Ac acc.length cc) acc (bitOf x i) [.bool (bitOf x i)] (fun k => N ≤ k) (fun _ => False) rfl rfl rfl (fun _ h => h.elim) (fun k hk => Nat.le_trans HW.out.2 hk) (Kd.R_drew HO.out) (Below.refl _ _) HW.out.2 (by have := HI.out; have := HN.out; omega) ?_
      intro v9 w9 ho hb hg9 hat
      obtain ⟨A9, c9, rfl⟩ := Kd.R_slice ho
      have hC9 := (hg9.block gO HW.out.1 (fun he => by have h1 := Kd.R_base HO.out gO he.symm; have := HN.out; omega)).trans HC.out
      have hd1 : w9.cell? ⟨gO, 0, none⟩ = some (.slice Ac acc.length cc) := by simp [World.cell?, hC9]
      have hd2 : w9.frozen? ⟨gO, 0, none⟩ = false := by simp [World.frozen?, hC9]
      have H9 := Aside0.mk (And.intro ho (And.intro hb (And.intro hg9 (And.intro hat hC9))))
      clear ho hb hg9 hat hC9
      refine hK.out _ _ ?_
      clear hK K
      refine norm_ (a' := ?_) ?_ ?_
      rotate_left
      · show Act.put _ (some 19) _ = _
        simp only [Act.put, List.setIfInBounds_toArray, List.set_cons_zero, List.set_cons_succ, i64_w, i32_w]
        rfl
      refine last_ (i := 8) (N := none) #[true, true, true, true, true, true, true, true, true] rfl rfl (by kernel_rfl) (by decide) (fun K hK => ?_)
      refine skip_ (w1 := ?_) (by rfl) rfl ?_ ?_
      rotate_left
      · go_simp
        rfl
      refine hK.out _ _ ?_
      clear hK K
      refine done_ (by kernel_rfl) ?_
      obtain ⟨ho, hb, hg9, hat, hC9⟩ := H9.out
      have hw2 : wrap64 ((i : Int) - 1) = (i : Int) - 1 := by have := HI.out; have := HN.out; unfold wrap64; omega
      clear hd1 hd2 H9
      have H9 := Aside0.mk (And.intro ho (And.intro hb (And.intro hg9 (And.intro hat hC9))))
      clear ho hb hg9 hat hC9
      go_wp2_with fail
      rw [hw2, show acc.length + 1 = (acc ++ [bitOf x i]).length by simp]
      obtain ⟨ho, hb, hg9, hat, hC9⟩ := H9.out
      refine ⟨⟨i, .slice A9 (acc ++ [bitOf x i]).length c9, acc ++ [bitOf x i], rfl, ⟨by have := HI.out; omega, by rw [List.append_assoc]; exact HI.out.2.1, by have := HI.out.2.2; rw [List.length_append]; simp; omega⟩, ⟨set_one hC9 _⟩, ⟨Kd.R_mono (Kd.R_far (Kd.R_mono ho (fun k hk => hk)) (p := ⟨gO, 0, none⟩) (fun k hk => by show k ≠ gO; have := HN.out; omega) _) (fun _ hk => hk)⟩, ⟨HK.out.trans ?_⟩⟩, ?_⟩
      · refine ⟨hb.os, hb.tape, hb.output, ?_, fun k hk h1 h2 => ?_, hat⟩
        · have := hg9.size
          simpa [World.setCell] using this
        · rw [Below.heap_setCell w9 ⟨gO, 0, none⟩ _ k h1]
          exact hg9.block k hk h2
      · simp only [intOf]
        omega
end Go.Proofs.Ytjhhckkmogekkaa.X
