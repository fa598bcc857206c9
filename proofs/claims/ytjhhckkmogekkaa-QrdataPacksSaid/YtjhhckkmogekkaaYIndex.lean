/- What an index into an array gives. No condition beyond the index's own. -/
import Derived.Test.YtjhhckkmogekkaaXx0
namespace Go.Proofs.Ytjhhckkmogekkaa.X
set_option linter.unusedVariables false
set_option linter.unusedSimpArgs false

/-- One value out of an array of values of one cell. -/
theorem run_index_part {P : Program} {t e : TypeId} {n : Nat} {cs : Array Value} {d : TypeDesc} {v : Value} (h : P.underlying t = some (.array n e)) (he : P.underlying e = some d) (hd : (match d with | .struct _ | .array _ _ => true | _ => false) = false)
    (hs : (P.info? e).map (·.size) = some 1) (i : Int) (h0 : 0 ≤ i) (hn : i < n) (hv : cs[i.toNat]? = some v) (w : World) : (Instr.index t (.agg cs) (.int .i64 i)).run P w = .ok v w := by
  have hagg : (isAgg e).run P w = .ok false w := by
    unfold isAgg
    rw [Sem.run_bind, run_underlying he w]
    cases d <;> simp_all
  cases hq : P.info? e with
  | none => simp [hq] at hs
  | some inf =>
    have hs1 : inf.size = 1 := by simpa [hq] using hs
    simp [Instr.index, asIntOf, run_underlying h, h0, hn, sizeOf, typeInfo, hq, hs1, part, hagg, hv]

/-- A struct or array out of an array. -/
theorem run_index_agg {P : Program} {t e : TypeId} {n sz : Nat} {cs : Array Value} {d : TypeDesc} (h : P.underlying t = some (.array n e)) (he : P.underlying e = some d) (hd : (match d with | .struct _ | .array _ _ => true | _ => false) = true)
    (hs : (P.info? e).map (·.size) = some sz) (i : Int) (h0 : 0 ≤ i) (hn : i < n) (w : World) : (Instr.index t (.agg cs) (.int .i64 i)).run P w = .ok (.agg (cs.extract (i.toNat * sz) (i.toNat * sz + sz))) w := by
  have hagg : (isAgg e).run P w = .ok true w := by
    unfold isAgg
    rw [Sem.run_bind, run_underlying he w]
    cases d <;> simp_all
  cases hq : P.info? e with
  | none => simp [hq] at hs
  | some inf =>
    have hs1 : inf.size = sz := by simpa [hq] using hs
    simp [Instr.index, asIntOf, run_underlying h, h0, hn, sizeOf, typeInfo, hq, hs1, part, hagg]

end Go.Proofs.Ytjhhckkmogekkaa.X
