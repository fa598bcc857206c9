/-
  No cell of these rows narrows 'for every input' (looked for: loops, veiled, ifaces, maps, wideKeys, modest, calm, conditions, laid).
  DERIVED. THE GIVEN ROWS OF THIS SEAT. 9 by the template 'for every input the law returns true; each argument reads behind the call as it read before'; 0 by the template 'total and deterministic' (their statements: YtochccmhcpeioaaTotals.lean).
  GIVEN WITH THE SEED: the statements are not yours to turn. If you find one false, say at which input.
  Laid BY PROGRAM, IN A SANDBOX (cutbox-rows.mjs): the forced cells as the released guide's own fill.sh prints them over the translation 6314bf4c23e960b6… (all of the seat's roots in one cut). By AI agents, Wed Nov 11 2026. No macro, syntax, notation, axiom, sorry.
-/
import Derived.Test.YtochccmhcpeioaaChecked
import GoSem.Claim
import GoSem.ClaimJoined
import GoSem.ClaimMapViews
import Derived.JoinedTies
import Derived.KernelRfl
namespace Go.Proofs.Ytochccmhcpeioaa
/- THE CELL 'sum', in the pinned program and in every row, IS THE sha256 OF THE DUMP (.gsa) THAT YtochccmhcpeioaaProg.lean LOADS. Nothing in Lean hashes anything: it is a label: what it is worth is what the hold of that sum in a sandbox is worth. -/
noncomputable def Try.pinned : Pinned := { name := "ytochccmhcpeioaa", sum := "6314bf4c23e960b67b6b15246dc0674aa6ac9080c607f432f24339eca867fb4c", checked := Try.checked }
namespace Rows
def none {H : Type} : Left H := { results := [], args := [] }

/-- 'barscanlaw01.BitsAppends': WHATEVER THE INPUT: true; the input reads as it did. -/
def bitsAppendsSpec : ChangeSpec := { name := "bitsAppends", fn := fun _ => fun
  | [d1, d2, d3] => { results := [.lit (.bool true)], args := [d1, d2, d3] }
  | _ => none }
def bitsAppendsRow : OpenClaim := { program := "ytochccmhcpeioaa", sum := "6314bf4c23e960b67b6b15246dc0674aa6ac9080c607f432f24339eca867fb4c", func := "barscan/barscanlaw01.BitsAppends", spec := "bitsAppends", unfollowed := true, recurses := true, apart := false }
def BitsAppendsSaid : Prop := bitsAppendsRow.holds Try.pinned (OpenSpec.ofChange bitsAppendsSpec)

/-- ITS FALSE NEIGHBOUR: 'it returns false'. Refute it at one input. -/
def bitsAppendsWrong : ChangeSpec := { name := "bitsAppends", fn := fun _ => fun
  | [d1, d2, d3] => { results := [.lit (.bool false)], args := [d1, d2, d3] }
  | _ => none }
def BitsAppendsWrongFalsely : Prop := bitsAppendsRow.holds Try.pinned (OpenSpec.ofChange bitsAppendsWrong)

/-- 'barscanlaw01.BitsWords': WHATEVER THE INPUT: true; the input reads as it did. -/
def bitsWordsSpec : ChangeSpec := { name := "bitsWords", fn := fun _ => fun
  | [d] => { results := [.lit (.bool true)], args := [d] }
  | _ => none }
def bitsWordsRow : OpenClaim := { program := "ytochccmhcpeioaa", sum := "6314bf4c23e960b67b6b15246dc0674aa6ac9080c607f432f24339eca867fb4c", func := "barscan/barscanlaw01.BitsWords", spec := "bitsWords", unfollowed := true, recurses := true, apart := false }
def BitsWordsSaid : Prop := bitsWordsRow.holds Try.pinned (OpenSpec.ofChange bitsWordsSpec)

/-- ITS FALSE NEIGHBOUR: 'it returns false'. Refute it at one input. -/
def bitsWordsWrong : ChangeSpec := { name := "bitsWords", fn := fun _ => fun
  | [d] => { results := [.lit (.bool false)], args := [d] }
  | _ => none }
def BitsWordsWrongFalsely : Prop := bitsWordsRow.holds Try.pinned (OpenSpec.ofChange bitsWordsWrong)

/-- 'barscanlaw01.BitsReads': WHATEVER THE INPUT: true; the input reads as it did. -/
def bitsReadsSpec : ChangeSpec := { name := "bitsReads", fn := fun _ => fun
  | [d1, d2] => { results := [.lit (.bool true)], args := [d1, d2] }
  | _ => none }
def bitsReadsRow : OpenClaim := { program := "ytochccmhcpeioaa", sum := "6314bf4c23e960b67b6b15246dc0674aa6ac9080c607f432f24339eca867fb4c", func := "barscan/barscanlaw01.BitsReads", spec := "bitsReads", unfollowed := true, recurses := true, apart := false }
def BitsReadsSaid : Prop := bitsReadsRow.holds Try.pinned (OpenSpec.ofChange bitsReadsSpec)

/-- ITS FALSE NEIGHBOUR: 'it returns false'. Refute it at one input. -/
def bitsReadsWrong : ChangeSpec := { name := "bitsReads", fn := fun _ => fun
  | [d1, d2] => { results := [.lit (.bool false)], args := [d1, d2] }
  | _ => none }
def BitsReadsWrongFalsely : Prop := bitsReadsRow.holds Try.pinned (OpenSpec.ofChange bitsReadsWrong)

/-- 'barscanlaw01.BitsInverse': WHATEVER THE INPUT: true; the input reads as it did. -/
def bitsInverseSpec : ChangeSpec := { name := "bitsInverse", fn := fun _ => fun
  | [d] => { results := [.lit (.bool true)], args := [d] }
  | _ => none }
def bitsInverseRow : OpenClaim := { program := "ytochccmhcpeioaa", sum := "6314bf4c23e960b67b6b15246dc0674aa6ac9080c607f432f24339eca867fb4c", func := "barscan/barscanlaw01.BitsInverse", spec := "bitsInverse", unfollowed := true, recurses := true, apart := false }
def BitsInverseSaid : Prop := bitsInverseRow.holds Try.pinned (OpenSpec.ofChange bitsInverseSpec)

/-- ITS FALSE NEIGHBOUR: 'it returns false'. Refute it at one input. -/
def bitsInverseWrong : ChangeSpec := { name := "bitsInverse", fn := fun _ => fun
  | [d] => { results := [.lit (.bool false)], args := [d] }
  | _ => none }
def BitsInverseWrongFalsely : Prop := bitsInverseRow.holds Try.pinned (OpenSpec.ofChange bitsInverseWrong)

/-- 'barscanlaw01.BitsNobody': WHATEVER THE INPUT: true; the input reads as it did. -/
def bitsNobodySpec : ChangeSpec := { name := "bitsNobody", fn := fun _ => fun
  | [d] => { results := [.lit (.bool true)], args := [d] }
  | _ => none }
def bitsNobodyRow : OpenClaim := { program := "ytochccmhcpeioaa", sum := "6314bf4c23e960b67b6b15246dc0674aa6ac9080c607f432f24339eca867fb4c", func := "barscan/barscanlaw01.BitsNobody", spec := "bitsNobody", unfollowed := true, recurses := true, apart := false }
def BitsNobodySaid : Prop := bitsNobodyRow.holds Try.pinned (OpenSpec.ofChange bitsNobodySpec)

/-- ITS FALSE NEIGHBOUR: 'it returns false'. Refute it at one input. -/
def bitsNobodyWrong : ChangeSpec := { name := "bitsNobody", fn := fun _ => fun
  | [d] => { results := [.lit (.bool false)], args := [d] }
  | _ => none }
def BitsNobodyWrongFalsely : Prop := bitsNobodyRow.holds Try.pinned (OpenSpec.ofChange bitsNobodyWrong)

/-- 'barscanlaw01.BitsTexts': WHATEVER THE INPUT: true; the input reads as it did. -/
def bitsTextsSpec : ChangeSpec := { name := "bitsTexts", fn := fun _ => fun
  | [d1, d2, d3] => { results := [.lit (.bool true)], args := [d1, d2, d3] }
  | _ => none }
def bitsTextsRow : OpenClaim := { program := "ytochccmhcpeioaa", sum := "6314bf4c23e960b67b6b15246dc0674aa6ac9080c607f432f24339eca867fb4c", func := "barscan/barscanlaw01.BitsTexts", spec := "bitsTexts", unfollowed := true, recurses := true, apart := false }
def BitsTextsSaid : Prop := bitsTextsRow.holds Try.pinned (OpenSpec.ofChange bitsTextsSpec)

/-- ITS FALSE NEIGHBOUR: 'it returns false'. Refute it at one input. -/
def bitsTextsWrong : ChangeSpec := { name := "bitsTexts", fn := fun _ => fun
  | [d1, d2, d3] => { results := [.lit (.bool false)], args := [d1, d2, d3] }
  | _ => none }
def BitsTextsWrongFalsely : Prop := bitsTextsRow.holds Try.pinned (OpenSpec.ofChange bitsTextsWrong)

/-- 'barscanlaw01.BitsMetric': WHATEVER THE INPUT: true; the input reads as it did. -/
def bitsMetricSpec : ChangeSpec := { name := "bitsMetric", fn := fun _ => fun
  | [d1, d2, d3] => { results := [.lit (.bool true)], args := [d1, d2, d3] }
  | _ => none }
def bitsMetricRow : OpenClaim := { program := "ytochccmhcpeioaa", sum := "6314bf4c23e960b67b6b15246dc0674aa6ac9080c607f432f24339eca867fb4c", func := "barscan/barscanlaw01.BitsMetric", spec := "bitsMetric", unfollowed := true, recurses := true, apart := false }
def BitsMetricSaid : Prop := bitsMetricRow.holds Try.pinned (OpenSpec.ofChange bitsMetricSpec)

/-- ITS FALSE NEIGHBOUR: 'it returns false'. Refute it at one input. -/
def bitsMetricWrong : ChangeSpec := { name := "bitsMetric", fn := fun _ => fun
  | [d1, d2, d3] => { results := [.lit (.bool false)], args := [d1, d2, d3] }
  | _ => none }
def BitsMetricWrongFalsely : Prop := bitsMetricRow.holds Try.pinned (OpenSpec.ofChange bitsMetricWrong)

/-- 'barscanlaw01.BitsBytes': WHATEVER THE INPUT: true; the input reads as it did. -/
def bitsBytesSpec : ChangeSpec := { name := "bitsBytes", fn := fun _ => fun
  | [d1, d2, d3] => { results := [.lit (.bool true)], args := [d1, d2, d3] }
  | _ => none }
def bitsBytesRow : OpenClaim := { program := "ytochccmhcpeioaa", sum := "6314bf4c23e960b67b6b15246dc0674aa6ac9080c607f432f24339eca867fb4c", func := "barscan/barscanlaw01.BitsBytes", spec := "bitsBytes", unfollowed := true, recurses := true, apart := false }
def BitsBytesSaid : Prop := bitsBytesRow.holds Try.pinned (OpenSpec.ofChange bitsBytesSpec)

/-- ITS FALSE NEIGHBOUR: 'it returns false'. Refute it at one input. -/
def bitsBytesWrong : ChangeSpec := { name := "bitsBytes", fn := fun _ => fun
  | [d1, d2, d3] => { results := [.lit (.bool false)], args := [d1, d2, d3] }
  | _ => none }
def BitsBytesWrongFalsely : Prop := bitsBytesRow.holds Try.pinned (OpenSpec.ofChange bitsBytesWrong)

/-- 'barscanlaw01.BitsReturns': WHATEVER THE INPUT: true; the input reads as it did. -/
def bitsReturnsSpec : ChangeSpec := { name := "bitsReturns", fn := fun _ => fun
  | [d1, d2, d3] => { results := [.lit (.bool true)], args := [d1, d2, d3] }
  | _ => none }
def bitsReturnsRow : OpenClaim := { program := "ytochccmhcpeioaa", sum := "6314bf4c23e960b67b6b15246dc0674aa6ac9080c607f432f24339eca867fb4c", func := "barscan/barscanlaw01.BitsReturns", spec := "bitsReturns", unfollowed := true, recurses := true, apart := false }
def BitsReturnsSaid : Prop := bitsReturnsRow.holds Try.pinned (OpenSpec.ofChange bitsReturnsSpec)

/-- ITS FALSE NEIGHBOUR: 'it returns false'. Refute it at one input. -/
def bitsReturnsWrong : ChangeSpec := { name := "bitsReturns", fn := fun _ => fun
  | [d1, d2, d3] => { results := [.lit (.bool false)], args := [d1, d2, d3] }
  | _ => none }
def BitsReturnsWrongFalsely : Prop := bitsReturnsRow.holds Try.pinned (OpenSpec.ofChange bitsReturnsWrong)

/- THE SECOND FORM. 'bulk': how many values and letters a reading holds, each counted each time it is reached (what is shared counts as often as it is met; a slice's spare places count too). A statement '..UptoSaid' is the law's where the arguments, and the package variables that the reading takes, are together of bulk at most 1048576: NARROWER than '..Said'. Prove '..Said' where nothing that the law and all that it calls make is longer than what came in: it says more and counts as full. Else prove '..UptoSaid'. A law counts once. -/
mutual
def uptoBulk {H : Type} : DataW H → Nat
  | .lit (.string bytes) => bytes.length + 1
  | .lit _ => 1
  | .nil => 1
  | .ptr d => uptoBulk d + 1
  | .slice elems spare => uptoBulkAll elems + uptoBulkAll spare + 1
  | .agg parts => uptoBulkAll parts + 1
  | .iface _ d => uptoBulk d + 1
  | .map entries => uptoBulkEntries entries + 1
  | .held _ => 1
def uptoBulkAll {H : Type} : List (DataW H) → Nat
  | [] => 0
  | d :: r => uptoBulk d + uptoBulkAll r
def uptoBulkEntries {H : Type} : List (Lit × DataW H) → Nat
  | [] => 0
  | x :: r => uptoBulkEntry x + uptoBulkEntries r
def uptoBulkEntry {H : Type} : Lit × DataW H → Nat
  | (.string bytes, d) => bytes.length + uptoBulk d + 1
  | (_, d) => uptoBulk d + 1
 end
def uptoSmall : (H : Type) → List (DataW H) → Bool := fun _ ds => decide (uptoBulkAll ds ≤ 1048576)
def OpenSpec.upto (s : _root_.Go.ChangeSpec) : _root_.Go.OpenSpec := { _root_.Go.OpenSpec.ofChange s with cond := some uptoSmall }

/-- 'barscanlaw01.BitsAppends', WHERE WHAT IT READS IS OF BULK AT MOST 1048576: true; the input reads as it did. -/
def bitsAppendsUptoRow : OpenClaim := { program := "ytochccmhcpeioaa", sum := "6314bf4c23e960b67b6b15246dc0674aa6ac9080c607f432f24339eca867fb4c", func := "barscan/barscanlaw01.BitsAppends", spec := "bitsAppends", unfollowed := true, recurses := true, apart := false, narrowed := true }
def BitsAppendsUptoSaid : Prop := bitsAppendsUptoRow.holds Try.pinned (OpenSpec.upto bitsAppendsSpec)

/-- 'barscanlaw01.BitsWords', WHERE WHAT IT READS IS OF BULK AT MOST 1048576: true; the input reads as it did. -/
def bitsWordsUptoRow : OpenClaim := { program := "ytochccmhcpeioaa", sum := "6314bf4c23e960b67b6b15246dc0674aa6ac9080c607f432f24339eca867fb4c", func := "barscan/barscanlaw01.BitsWords", spec := "bitsWords", unfollowed := true, recurses := true, apart := false, narrowed := true }
def BitsWordsUptoSaid : Prop := bitsWordsUptoRow.holds Try.pinned (OpenSpec.upto bitsWordsSpec)

/-- 'barscanlaw01.BitsReads', WHERE WHAT IT READS IS OF BULK AT MOST 1048576: true; the input reads as it did. -/
def bitsReadsUptoRow : OpenClaim := { program := "ytochccmhcpeioaa", sum := "6314bf4c23e960b67b6b15246dc0674aa6ac9080c607f432f24339eca867fb4c", func := "barscan/barscanlaw01.BitsReads", spec := "bitsReads", unfollowed := true, recurses := true, apart := false, narrowed := true }
def BitsReadsUptoSaid : Prop := bitsReadsUptoRow.holds Try.pinned (OpenSpec.upto bitsReadsSpec)

/-- 'barscanlaw01.BitsInverse', WHERE WHAT IT READS IS OF BULK AT MOST 1048576: true; the input reads as it did. -/
def bitsInverseUptoRow : OpenClaim := { program := "ytochccmhcpeioaa", sum := "6314bf4c23e960b67b6b15246dc0674aa6ac9080c607f432f24339eca867fb4c", func := "barscan/barscanlaw01.BitsInverse", spec := "bitsInverse", unfollowed := true, recurses := true, apart := false, narrowed := true }
def BitsInverseUptoSaid : Prop := bitsInverseUptoRow.holds Try.pinned (OpenSpec.upto bitsInverseSpec)

/-- 'barscanlaw01.BitsNobody', WHERE WHAT IT READS IS OF BULK AT MOST 1048576: true; the input reads as it did. -/
def bitsNobodyUptoRow : OpenClaim := { program := "ytochccmhcpeioaa", sum := "6314bf4c23e960b67b6b15246dc0674aa6ac9080c607f432f24339eca867fb4c", func := "barscan/barscanlaw01.BitsNobody", spec := "bitsNobody", unfollowed := true, recurses := true, apart := false, narrowed := true }
def BitsNobodyUptoSaid : Prop := bitsNobodyUptoRow.holds Try.pinned (OpenSpec.upto bitsNobodySpec)

/-- 'barscanlaw01.BitsTexts', WHERE WHAT IT READS IS OF BULK AT MOST 1048576: true; the input reads as it did. -/
def bitsTextsUptoRow : OpenClaim := { program := "ytochccmhcpeioaa", sum := "6314bf4c23e960b67b6b15246dc0674aa6ac9080c607f432f24339eca867fb4c", func := "barscan/barscanlaw01.BitsTexts", spec := "bitsTexts", unfollowed := true, recurses := true, apart := false, narrowed := true }
def BitsTextsUptoSaid : Prop := bitsTextsUptoRow.holds Try.pinned (OpenSpec.upto bitsTextsSpec)

/-- 'barscanlaw01.BitsMetric', WHERE WHAT IT READS IS OF BULK AT MOST 1048576: true; the input reads as it did. -/
def bitsMetricUptoRow : OpenClaim := { program := "ytochccmhcpeioaa", sum := "6314bf4c23e960b67b6b15246dc0674aa6ac9080c607f432f24339eca867fb4c", func := "barscan/barscanlaw01.BitsMetric", spec := "bitsMetric", unfollowed := true, recurses := true, apart := false, narrowed := true }
def BitsMetricUptoSaid : Prop := bitsMetricUptoRow.holds Try.pinned (OpenSpec.upto bitsMetricSpec)

/-- 'barscanlaw01.BitsBytes', WHERE WHAT IT READS IS OF BULK AT MOST 1048576: true; the input reads as it did. -/
def bitsBytesUptoRow : OpenClaim := { program := "ytochccmhcpeioaa", sum := "6314bf4c23e960b67b6b15246dc0674aa6ac9080c607f432f24339eca867fb4c", func := "barscan/barscanlaw01.BitsBytes", spec := "bitsBytes", unfollowed := true, recurses := true, apart := false, narrowed := true }
def BitsBytesUptoSaid : Prop := bitsBytesUptoRow.holds Try.pinned (OpenSpec.upto bitsBytesSpec)

/-- 'barscanlaw01.BitsReturns', WHERE WHAT IT READS IS OF BULK AT MOST 1048576: true; the input reads as it did. -/
def bitsReturnsUptoRow : OpenClaim := { program := "ytochccmhcpeioaa", sum := "6314bf4c23e960b67b6b15246dc0674aa6ac9080c607f432f24339eca867fb4c", func := "barscan/barscanlaw01.BitsReturns", spec := "bitsReturns", unfollowed := true, recurses := true, apart := false, narrowed := true }
def BitsReturnsUptoSaid : Prop := bitsReturnsUptoRow.holds Try.pinned (OpenSpec.upto bitsReturnsSpec)

end Rows
end Go.Proofs.Ytochccmhcpeioaa
