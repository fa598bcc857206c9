/- The writer of package qrdata: what a writer holds, and put. No condition. -/
import Derived.Test.YtjhhckkmogekkaaYNRefT
import Derived.Test.YtjhhckkmogekkaaYClone
import Derived.Test.YtjhhckkmogekkaaXx42
namespace Go.Proofs.Ytjhhckkmogekkaa.X
open Go.RowKit Go.Proofs.YtjhhckkmogekkaaW.PrintWords Go.Proofs.YtjhhckkmogekkaaW.PrintLast Go.Proofs.YtjhhckkmogekkaaW.PrintMore
set_option linter.unusedVariables false
set_option linter.unusedSimpArgs false

theorem wappend_loop (v : Int) : ∀ (n : Nat) (acc : List Bool) (k : Nat), n ≤ 64 → n < k → acc.length + n < 140737488355328 → bits_Append.l0 k v acc ((n : Int) - 1) = some (acc ++ low v n, 0)
  | 0, acc, k, _, hk, _ => by
    obtain ⟨k, rfl⟩ : ∃ m, k = m + 1 := ⟨k - 1, by omega⟩
    simp only [bits_Append.l0]
    rw [if_neg (by omega)]
    simp [low]
  | n + 1, acc, k, hn, hk, hl => by
    obtain ⟨k, rfl⟩ : ∃ m, k = m + 1 := ⟨k - 1, by omega⟩
    have e : ((n + 1 : Nat) : Int) - 1 = (n : Int) := by omega
    simp only [bits_Append.l0]
    rw [e, if_pos (by omega), if_pos (by omega), if_pos (by omega), w64 (by omega), bit_is v n (by omega), wappend_loop v n _ k (by omega) (by omega) (by simp; omega), List.append_assoc]
    rfl
theorem Append_ok (l : List Bool) (v : Int) (n : Nat) (hn : n ≤ 62) (hl : l.length + n ≤ 1048576) : bits_Append.f 100 l v n = some (l ++ low v n, 0) := by
  unfold bits_Append.f
  rw [if_neg (by omega), decide_eq_false (by omega)]
  simp only [bits_Append.j0]
  rw [if_neg (by simp), w64 (by omega), if_neg (by omega)]
  unfold slices_Clone_bool_bool.f
  rw [if_pos (by omega), Option.bind_some, w64 (by omega)]
  rw [wappend_loop v n l _ (by omega) (by omega) (by omega)]

/-- Block g is a writer that holds the bits l, in blocks of its own, from b on. -/
def IsWr (W : World) (b g : Nat) (l : List Bool) : Prop :=
  ∃ v, W.heap[g]? = some (.cells #[v] 67 (0, 0)) ∧ b ≤ g ∧ Kd.R Kd.bool 4 W b (fun k => k ≠ g) v l
theorem IsWr.lt {W : World} {b g : Nat} {l : List Bool} (h : IsWr W b g l) : g < W.heap.size := by
  obtain ⟨v, h1, _⟩ := h
  exact (Array.getElem?_eq_some_iff.1 h1).1
theorem wr_set {W : World} {g : Nat} {u : Value} {t : TypeId} (h : W.heap[g]? = some (.cells #[u] t (0, 0))) (v' : Value) : (W.setCell ⟨g, 0, none⟩ v').heap[g]? = some (.cells #[v'] t (0, 0)) := by
  simp [World.setCell, Array.getElem?_modify, h]
/-- What put leaves as it was. -/
def WrKeep (g : Nat) (w w' : World) : Prop := Below g w w' ∧ w.heap.size ≤ w'.heap.size ∧ ∀ k, k < w.heap.size → k ≠ g → w'.heap[k]? = w.heap[k]?
theorem WrKeep.refl (g : Nat) (w : World) : WrKeep g w w := ⟨Below.refl _ _, Nat.le_refl _, fun _ _ _ => rfl⟩
theorem WrKeep.trans {g : Nat} {a b c : World} (h : WrKeep g a b) (k : WrKeep g b c) : WrKeep g a c :=
  ⟨h.1.trans k.1, Nat.le_trans h.2.1 k.2.1, fun j hj hg => (k.2.2 j (by have := h.2.1; omega) hg).trans (h.2.2 j hj hg)⟩

theorem WrKeep.of_below {g : Nat} {w w1 : World} (h : Below w.heap.size w w1) (hg : g ≤ w.heap.size) : WrKeep g w w1 := ⟨h.mono hg, h.size, fun k hk _ => h.block k hk⟩
theorem IsWr.below {W W1 : World} {b g : Nat} {l : List Bool} (h : IsWr W b g l) (hb : Below W.heap.size W W1) : IsWr W1 b g l := by
  have hlt := h.lt
  obtain ⟨v, h1, h2, h3⟩ := h
  exact ⟨v, (hb.block g hlt).trans h1, h2, Kd.R_below h3 hb⟩
theorem IsWr.drew {W : World} {b g : Nat} {l : List Bool} (h : IsWr W b g l) : IsWr W.drew b g l := h.below (below_drew (Below.refl _ _))
theorem WrKeep.drew {W W1 : World} {g : Nat} (h : WrKeep g W W1) : WrKeep g W W1.drew := ⟨below_drew h.1, h.2.1, h.2.2⟩
set_option maxHeartbeats 2000000 in
set_option maxRecDepth 100000 in
theorem wput_calls0 (w : World) (b g : Nat) (l : List Bool) (x : Int) (n : Nat) (h : IsWr w b g l) (hn : n ≤ 62) (hl : l.length + n ≤ 1048576) :
    Calls Try.prog 59 #[.pointer (some ⟨g, 0, none⟩), .int .i64 x, .int .i64 n] w fun e w' => e = .returned (.tuple #[]) ∧ IsWr w' b g (l ++ low x n) ∧ WrKeep g w w' := by
  have hlt := h.lt
  obtain ⟨v, hh, hbg, hR⟩ := h
  obtain ⟨A, c, rfl⟩ := Kd.R_slice hR
  have hr := Kd.R_reads' hR
  have hcall := bits_Append.calls 100 A c l x n (l ++ low x n) 0 w hr.2.2 hr.2.1 (Append_ok l x n hn hl)
  have HCALL := Aside0.mk hcall
  have hc0 : w.cell? ⟨g, 0, none⟩ = some (.slice A l.length c) := by simp [World.cell?, hh]
  have hf0 : w.frozen? ⟨g, 0, none⟩ = false := by simp [World.frozen?, hh]
  have HH := Aside0.mk hh
  have HLT := Aside0.mk hlt
  clear hcall hr hR hh hlt
  go_enter Try.func59, Try.ntmps59
  go_wp2_with fail
  refine HCALL.out.mono ?_
  rintro e W1 ⟨v1, rfl, hR1, hB1⟩
  obtain ⟨A1, c1, rfl⟩ := Kd.R_slice hR1
  have hc1 : W1.cell? ⟨g, 0, none⟩ = some (.slice A l.length c) := pw_cell_below hB1 hc0
  have hb_ := (hB1.block g HLT.out).trans HH.out
  have hf1 : W1.frozen? ⟨g, 0, none⟩ = false := by simp [World.frozen?, hb_]
  have HB_ := Aside0.mk hb_
  have HX := Aside0.mk (And.intro hR1 hB1)
  clear hR1 hB1 hb_
  go_wp2_with fail
  go_end0
  obtain ⟨hR1, hB1⟩ := HX.out
  refine ⟨rfl, ⟨_, wr_set HB_.out _, hbg, ?_⟩, (hB1.mono (Nat.le_of_lt HLT.out)).setCell (p := ⟨g, 0, none⟩) (Nat.le_refl _) _, ?_, fun k hk hg => (Below.heap_setCell W1 ⟨g, 0, none⟩ _ k hg).trans (hB1.block k hk)⟩
  · rw [List.length_append] at *
    exact Kd.R_lower (Kd.R_mono (Kd.R_far (Kd.R_bound hR1) (fun k hk => by have := hk.2.1; have := HLT.out; show k ≠ g; omega) _) (fun k hk => by have := hk.2.1; have := HLT.out; omega)) (by have := HLT.out; omega)
  · have := hB1.size
    simp [World.setCell]
    exact this
theorem wput_calls (w : World) (b g : Nat) (l : List Bool) (x n : Int) (m : Nat) (hm : n = m) (h : IsWr w b g l) (hn : m ≤ 62) (hl : l.length + m ≤ 1048576) :
    Calls Try.prog 59 #[.pointer (some ⟨g, 0, none⟩), .int .i64 x, .int .i64 n] w fun e w' => e = .returned (.tuple #[]) ∧ IsWr w' b g (l ++ low x m) ∧ WrKeep g w w' := by
  subst hm
  exact wput_calls0 w b g l x m h hn hl
end Go.Proofs.Ytjhhckkmogekkaa.X
