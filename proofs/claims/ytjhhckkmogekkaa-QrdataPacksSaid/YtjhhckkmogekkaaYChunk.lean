/- slices.Chunk over a slice: its closure hands each chunk to the loop's body, in order. The size is at least 1; the slice is not nil. -/
import Derived.RangeFuncNested
import Derived.RangeFuncBound
import Derived.RangeFuncCalls
import Derived.RangeFuncLeaves
import Derived.RangeFuncBox
import Derived.Shelf.Abstract
import Derived.Shelf.RegionOpen
import Derived.WalkKit
import Derived.OwnWalkIn
import Derived.TacticsInMore
import Derived.LoopNIn
import Derived.LoopIn
import Derived.BigFrameIn
import Derived.WalkSpells
import Derived.Test.YtjhhckkmogekkaaXx0
namespace Go.Proofs.Ytjhhckkmogekkaa.X
open Go.RowKit Go.Shelf Go.Proofs.YtjhhckkmogekkaaW.PrintWords Go.Proofs.YtjhhckkmogekkaaW.PrintLast Go.Proofs.YtjhhckkmogekkaaW.PrintMore
set_option linter.unusedVariables false
set_option linter.unusedSimpArgs false
attribute [local go_sem] Oper.semAt_some

/-- A place at which a chunk begins. -/
abbrev ChunkAt (len : Nat) := { i : Nat // i < len }
def ChunkEnd (size len i : Nat) : Nat := min size (len - i)
/-- What a round of the loop keeps: what lay below n₀, and the closure's two boxes. -/
def ChunkKp (n₀ Bs Bn : Nat) (A B : World) : Prop := Below n₀ A B ∧ B.heap[Bs]? = A.heap[Bs]? ∧ B.heap[Bn]? = A.heap[Bn]?
theorem ChunkKp.trans {n₀ Bs Bn : Nat} {A B D : World} (h : ChunkKp n₀ Bs Bn A B) (k : ChunkKp n₀ Bs Bn B D) : ChunkKp n₀ Bs Bn A D := ⟨h.1.trans k.1, k.2.1.trans h.2.1, k.2.2.trans h.2.2⟩

set_option maxRecDepth 100000 in
set_option maxHeartbeats 4000000 in
theorem Chunk1_in (F : Fence) (n : Nat) (hf : F.fn 94) (hro : F.round = none) (hn : 1 ≤ n) (l Bs Bn n₀ : Nat) (ad : Addr) (len cap size : Nat) (hsz : 1 ≤ size) (hs62 : size ≤ 62) (hlc : len ≤ cap) (hbig : len ≤ 140737488355328) (J Jx : List (ChunkAt len) → World → Prop)
    (hY : ∀ (pre : List (ChunkAt len)) (j : ChunkAt len) (W : World), J pre W → pre.length < len → YieldAt F (n - 1) Try.prog l #[.slice (some (ad.add j.1)) (ChunkEnd size len j.1) (ChunkEnd size len j.1)] W fun e W' =>
      (e = .returned (.bool true) ∧ J (pre ++ [j]) W' ∧ ChunkKp n₀ Bs Bn W W') ∨ (e = .returned (.bool false) ∧ Jx (pre ++ [j]) W'))
    (W : World) (hBs : Boxed W Bs 40 (.slice (some ad) len cap)) (hBn : Boxed W Bn 3 (.int .i64 size)) (hJd : ∀ pre W, J pre W → J pre W.drew) (h0 : J [] W) :
    CallsIn F n Try.prog 94 #[.func (.yield l) #[] #[], .pointer (some ⟨Bs, 0, none⟩), .pointer (some ⟨Bn, 0, none⟩)] W fun e W' => (∃ v, e = .returned v) ∧
      ((∃ ys : List (ChunkAt len), (∃ k, len ≤ k * size ∧ (∀ j, j < k → j * size < len) ∧ ys.map (·.1) = (List.range k).map (· * size)) ∧ J ys W') ∨ (∃ pre : List (ChunkAt len), True ∧ Jx pre W')) := by
  refine callsIn_of_wp Try.func94 rfl hf ?_ hro
  simp only [Try.ntmps94, List.size_toArray, List.length_cons, List.length_nil, Nat.reduceAdd, Nat.reduceSub, Array.replicate_succ, Array.replicate_zero, List.push_toArray, List.append_toArray, List.nil_append, List.cons_append]
  gi_wp2
  gi_loopw [4] (fun i wr => ∃ (k iv : Nat) (pre : List (ChunkAt len)), i = .int .i64 (iv : Int) ∧ Aside0 (iv = k * size ∧ k ≤ len ∧ pre.map (·.1) = (List.range k).map (· * size) ∧ ∀ j, j < k → j * size < len) ∧ iv ≤ len + size ∧ J pre wr ∧ Aside0 (ChunkKp n₀ Bs Bn W wr))
    (fun i _ => len + size - (intOf i).toNat)
  case atStart => exact ⟨0, 0, [], by simp, ⟨by simp, by omega, rfl, fun j hj => absurd hj (by omega)⟩, by omega, h0, ⟨Below.refl _ _, rfl, rfl⟩⟩
  case round =>
    obtain ⟨k, i, pre, rfl, HA, hile, hJ, HK⟩ := hrel
    have hb1 := (show Boxed wr Bs 40 (.slice (some ad) len cap) from HK.out.2.1.trans hBs)
    have hb2 := (show Boxed wr Bn 3 (.int .i64 size) from HK.out.2.2.trans hBn)
    have hc1 := hb1.cell
    have hc2 := hb2.cell
    have HB1 := Aside0.mk hb1
    have HB2 := Aside0.mk hb2
    clear hb1 hb2
    by_cases hlt : i < len
    · obtain ⟨fn, tmps, assign, body, hy, hR⟩ := hY pre ⟨i, hlt⟩ wr.drew (hJd _ _ hJ) (by
        have h1 := congrArg List.length HA.out.2.2.1
        simp at h1
        have h2 := Nat.le_mul_of_pos_right k hsz
        have h3 := HA.out.1
        omega)
      dsimp only at hy
      have HJ := Aside0.mk hJ
      clear hJ
      have hend : ChunkEnd size len i = min size (len - i) := rfl
      have hcap : ¬ (cap = i) := by omega
      have he1 : 1 ≤ ChunkEnd size len i := by rw [hend]; omega
      have he2 : i + ChunkEnd size len i ≤ len := by rw [hend]; omega
      have hif : (if len - i < size then ((len - i : Nat) : Int) else (size : Int)) = ((ChunkEnd size len i : Nat) : Int) := by rw [hend]; split <;> omega
      have HE := Aside0.mk hend
      clear hend
      generalize ChunkEnd size len i = en at *
      gi_wp2
      gi_region
      all_goals
        gi_wp2
        refine hR.mono ?_
        rintro e W3 (⟨rfl, hJ3, hk3⟩ | ⟨rfl, hJx3⟩)
        · have HK3 := Aside0.mk (HK.out.trans (ChunkKp.trans (B := wr.drew) ⟨(Below.refl n₀ wr).drew, rfl, rfl⟩ hk3))
          have hc3 := (show Boxed W3 Bn 3 (.int .i64 size) from HK3.out.2.2.trans hBn).cell
          have HB := Aside0.mk hJ3
          clear hJ3 hk3
          gi_wp2
          go_roundw
          case rel =>
            refine ⟨k + 1, i + size, pre ++ [⟨i, hlt⟩], by simp, ⟨?_, ?_, ?_, ?_⟩, by omega, HB.out, HK3⟩
            · rw [HA.out.1, Nat.succ_mul]
            · have h1 := HA.out.1
              have h2 := Nat.le_mul_of_pos_right k hsz
              omega
            · rw [List.map_append, HA.out.2.2.1, List.range_succ, List.map_append]
              simp [HA.out.1]
            · intro j hj
              rcases Nat.lt_or_ge j k with h | h
              · exact HA.out.2.2.2 j h
              · have : j = k := by omega
                rw [this, ← HA.out.1]
                exact hlt
          case measure => simp [intOf]; omega
        · gi_wp2
          refine bodyPost_ret (results_none rfl _ _ _) rfl ?_
          exact ⟨⟨_, rfl⟩, .inr ⟨_, trivial, hJx3⟩⟩
    · gi_wp2
      go_end0
      exact ⟨⟨_, rfl⟩, .inl ⟨pre, ⟨k, by rw [← HA.out.1]; omega, HA.out.2.2.2, HA.out.2.2.1⟩, hJ⟩⟩

set_option maxRecDepth 100000 in
set_option maxHeartbeats 4000000 in
/-- Of a slice of length 0 there is no chunk. -/
theorem Chunk0_in (F : Fence) (n : Nat) (hf : F.fn 94) (hro : F.round = none) (l Bs Bn : Nat) (A : Option Addr) (cap : Nat) (J : List (ChunkAt 0) → World → Prop)
    (W : World) (hBs : Boxed W Bs 40 (.slice A 0 cap)) (h0 : J [] W) :
    CallsIn F n Try.prog 94 #[.func (.yield l) #[] #[], .pointer (some ⟨Bs, 0, none⟩), .pointer (some ⟨Bn, 0, none⟩)] W fun e W' => (∃ v, e = .returned v) ∧ J [] W' := by
  refine callsIn_of_wp Try.func94 rfl hf ?_ hro
  simp only [Try.ntmps94, List.size_toArray, List.length_cons, List.length_nil, Nat.reduceAdd, Nat.reduceSub, Array.replicate_succ, Array.replicate_zero, List.push_toArray, List.append_toArray, List.nil_append, List.cons_append]
  have hc1 := hBs.cell
  gi_wp2
  gi_loopw [4] (fun i wr => i = .int .i64 0 ∧ wr = W) (fun _ _ => 0)
  case atStart => exact ⟨rfl, rfl⟩
  case round =>
    obtain ⟨rfl, rfl⟩ := hrel
    gi_wp2
    go_end0
    exact ⟨⟨_, rfl⟩, h0⟩

theorem ChunkKp_put {n₀ Bs Bn : Nat} {w : World} (h1 : n₀ ≤ w.heap.size) (h2 : Bs < w.heap.size) (h3 : Bn < w.heap.size) (W : World) (l : Nat) (o o' : Obj) (hl : w.heap.size ≤ l) (ho : W.heap[l]? = some o) (hc : o.isCells = false) (hw : o.isWalk = false) : ChunkKp n₀ Bs Bn W (W.putObj l o') :=
  ⟨belowK_b h1 W l o o' hl ho hc hw, by simp [World.putObj, Array.getElem?_setIfInBounds, show ¬ l = Bs by omega], by simp [World.putObj, Array.getElem?_setIfInBounds, show ¬ l = Bn by omega]⟩

/-- What slices.Chunk hands back: over whatever body keeps what lay below n₀ and the two boxes. -/
theorem Chunk_stops (F : Fence) (n : Nat) (hf : F.fn 94) (hro : F.round = none) (hn : 1 ≤ n) (Bs Bn n₀ : Nat) (A : Option Addr) (len cap size : Nat) (hA : 0 < len → ∃ ad, A = some ad) (hsz : 1 ≤ size) (hs62 : size ≤ 62) (hlc : len ≤ cap) (hbig : len ≤ 140737488355328)
    (w : World) (hBs : Boxed w Bs 40 (.slice A len cap)) (hBn : Boxed w Bn 3 (.int .i64 size)) :
    SeqStopsK F n Try.prog 94 #[.pointer (some ⟨Bs, 0, none⟩), .pointer (some ⟨Bn, 0, none⟩)] (fun x : ChunkAt len => #[Value.slice (A.map (·.add x.1)) (ChunkEnd size len x.1) (ChunkEnd size len x.1)]) (ChunkKp n₀ Bs Bn)
      (fun ys => ∃ k, len ≤ k * size ∧ (∀ j, j < k → j * size < len) ∧ ys.map (·.1) = (List.range k).map (· * size)) (fun _ => True) len w := fun l J Jx W hW hJ hJx hY h0 => by
  have b1 : Boxed W Bs 40 (.slice A len cap) := (hW.block Bs hBs.lt).trans hBs
  have b2 : Boxed W Bn 3 (.int .i64 size) := (hW.block Bn hBn.lt).trans hBn
  rcases Nat.eq_zero_or_pos len with h | h
  · subst h
    exact (Chunk0_in F n hf hro l Bs Bn A cap J W b1 h0).mono fun e W' ⟨he, hj⟩ => ⟨he, .inl ⟨[], ⟨0, by omega, fun j hj => absurd hj (by omega), rfl⟩, hj⟩⟩
  · obtain ⟨ad, rfl⟩ := hA h
    exact Chunk1_in F n hf hro hn l Bs Bn n₀ ad len cap size hsz hs62 hlc hbig J Jx hY W b1 b2 (fun pre V hv => hJ pre V V.drew none hv ⟨rfl, rfl, rfl, Nat.le_refl _, fun _ _ _ => rfl⟩ (by simp)) h0

set_option maxHeartbeats 1000000 in
theorem Chunk_in (F : Fence) (n : Nat) (hf : F.fn 80) (hro : F.round = none) (A : Option Addr) (len cap size : Nat) (hsz : 1 ≤ size) (w : World) :
    CallsIn F n Try.prog 80 #[.slice A len cap, .int .i64 size] w fun e w' => e = .returned (.func (.func 94) #[] #[.pointer (some ⟨w.heap.size, 0, none⟩), .pointer (some ⟨w.heap.size + 1, 0, none⟩)]) ∧
      w' = (w.alloc (.cells #[.slice A len cap] 40)).alloc (.cells #[.int .i64 size] 3) := by
  refine callsIn_of_wp Try.func80 rfl hf ?_ hro
  simp only [Try.ntmps80, List.size_toArray, List.length_cons, List.length_nil, Nat.reduceAdd, Nat.reduceSub, Array.replicate_succ, Array.replicate_zero, List.push_toArray, List.append_toArray, List.nil_append, List.cons_append]
  gi_wp2
  go_ret
  exact ⟨rfl, rfl⟩

end Go.Proofs.Ytjhhckkmogekkaa.X
