/- barscanlaw16.one: a list of one segment whose data are a string's bytes. The string is no longer than a Go string can be. -/
import Derived.Test.YtagmncdbiljacaaXx0
import Derived.Lib.ConvBytes
import Derived.WalkSpells
namespace Go.Proofs.Ytagmncdbiljacaa.X
open Go.RowKit Go.Proofs.YtagmncdbiljacaaW.PrintWords Go.Proofs.YtagmncdbiljacaaW.PrintLast Go.Proofs.YtagmncdbiljacaaW.PrintMore
set_option linter.unusedVariables false
set_option linter.unusedSimpArgs false

def barscanlaw16_one.f (a0 : Int) (s : ByteArray) : Option (List S33) := if s.size ≤ 9223372036854775807 then some [⟨a0, bytesOf s⟩] else none

/-- The bytes of a string, in whatever world holds the block of the conversion. -/
theorem bytes_C (w : World) (e : TypeId) (s : ByteArray) (hs : s.size ≤ 9223372036854775807) (W' : World) (hW : W'.heap[w.heap.size]? = (Lib.bytesWorld w e s).heap[w.heap.size]?) :
    (Kd.int .u8).C W' (some ⟨w.heap.size, 0, none⟩) (bytesOf s).length (bytesOf s) := by
  rw [bytesOf_length]
  refine Kd.C_of_reads (enc := Value.int .u8) (d := (0 : Int)) (h1 := fun _ => rfl) ?_
  have h := bytes_reads w e s hs
  refine ⟨h.1, h.2.1, fun hp => ?_⟩
  obtain ⟨ad, he, hc⟩ := h.2.2 hp
  refine ⟨ad, he, fun j hj => ?_⟩
  have := hc j hj
  injection he with he
  subst he
  rw [add_plain] at this ⊢
  simp only [World.cell?, hW] at this ⊢
  exact this

set_option maxHeartbeats 1000000 in
set_option maxRecDepth 100000 in
theorem barscanlaw16_one.calls (a0 : Int) (s : ByteArray) (r : List S33) (w : World) (h : barscanlaw16_one.f a0 s = some r) :
    Calls Try.prog 31 #[.int .i64 a0, .string s] w fun e w' => ∃ v0_ : Value, e = .returned (v0_) ∧ Kd.N k33 33 w' w.heap.size (fun k_ => w.heap.size ≤ k_) v0_ r ∧ Below w.heap.size w w' := by
  unfold barscanlaw16_one.f at h
  split at h
  case isFalse => exact absurd h (by simp)
  rename_i hs
  obtain rfl := Option.some.inj h
  have kb := fun W => print_bytes (P := Try.prog) 9 22 5 Try.underlying9 Try.underlying22 Try.underlying5 s W
  have hC := bytes_C w 5 s hs
  have hB := bytes_below (Below.refl w.heap.size w) (Nat.le_refl _) 5 s
  have hsz := Lib.bytesWorld_size w 5 s
  have HB := Aside0.mk (And.intro hB (show w.heap.size < (Lib.bytesWorld w 5 s).heap.size by omega))
  have hE : Kd.FK k33 (Lib.bytesWorld w 5 s) (fun k_ => k_ = w.heap.size) (⟨a0, bytesOf s⟩ : S33) [.int .i64 a0, .slice (some ⟨w.heap.size, 0, none⟩) s.size (grownCap w s.size 0 5)] := by
    have hcap : (bytesOf s).length ≤ grownCap w s.size 0 5 := by rw [bytesOf_length]; exact grownCap_ge _ _ _ _
    have h1 : Kd.FK k33 (Lib.bytesWorld w 5 s) (fun k_ => k_ = w.heap.size) (⟨a0, bytesOf s⟩ : S33) [.int .i64 a0, .slice (some ⟨w.heap.size, 0, none⟩) (bytesOf s).length (grownCap w s.size 0 5)] := k33_mkF _ _ _ hcap (fun W' hW => hC W' (hW _ rfl (by omega)))
    rw [bytesOf_length] at h1
    exact h1
  have HE := Aside0.mk hE
  clear hC hB hsz hs h hE
  go_enter Try.func31, Try.ntmps31
  go_wp2_with ((with_reducible refine gate_dst (N := 9) rfl ?_); refine Kd.N_lit k33 (w0 := w) w.heap.size 33 ?hg (N' := 9) ?hd (xs := ([(⟨a0, bytesOf s⟩ : S33)] : List (S33))) (inner := [.int .i64 a0, .slice (some ⟨w.heap.size, 0, none⟩) s.size (grownCap w s.size 0 5)]) (ok := (fun k_ => w.heap.size ≤ k_)) (okp := (fun k_ => k_ = w.heap.size)) ?hr ?hp (fun k_ (hk : k_ = w.heap.size) => Nat.le_of_eq hk.symm) (Nat.le_of_lt HB.out.2) HB.out.1 (Nat.le_of_lt HB.out.2) (by simp) ?_; (case hd => rfl); (case hg => rfl); (case hr => first | (go_simp; done) | (go_simp; rfl)); (case hp => exact (Reps.c2 HE.out (Reps.none _ _))); intro v1 w1 ho hb hg hat; have HO := Aside0.mk ho; have HB1 := Aside0.mk hb; clear ho hb hg hat)
  go_ret
  exact ⟨_, rfl, HO.out, HB1.out⟩
end Go.Proofs.Ytagmncdbiljacaa.X
