/-
  No cell of these rows narrows 'for every input' (looked for: loops, veiled, ifaces, maps, wideKeys, modest, calm, conditions, laid).
  DERIVED. THE GIVEN ROWS OF THIS SEAT. 12 by the template 'for every input the law returns true; each argument reads behind the call as it read before'; 0 by the template 'total and deterministic' (their statements: YthgenpcoelihiaaTotals.lean).
  GIVEN WITH THE SEED: the statements are not yours to turn. If you find one false, say at which input.
  Laid BY PROGRAM, IN A SANDBOX (cutbox-rows.mjs): the forced cells as the released guide's own fill.sh prints them over the translation 11bf723c7cfbed76… (all of the seat's roots in one cut). By AI agents, Wed Nov 11 2026. No macro, syntax, notation, axiom, sorry.
-/
import Derived.Test.YthgenpcoelihiaaChecked
import GoSem.Claim
import GoSem.ClaimJoined
import GoSem.ClaimMapViews
import Derived.JoinedTies
import Derived.KernelRfl
namespace Go.Proofs.Ythgenpcoelihiaa
/- THE CELL 'sum', in the pinned program and in every row, IS THE sha256 OF THE DUMP (.gsa) THAT YthgenpcoelihiaaProg.lean LOADS. Nothing in Lean hashes anything: it is a label: what it is worth is what the hold of that sum in a sandbox is worth. -/
noncomputable def Try.pinned : Pinned := { name := "ythgenpcoelihiaa", sum := "11bf723c7cfbed766e7cbba9341054d304f3bdc07f519cb5eb15a25c0f5b68a1", checked := Try.checked }
namespace Rows
def none {H : Type} : Left H := { results := [], args := [] }

/-- 'laws.FnNarrowed': WHATEVER THE INPUT: true; the input reads as it did. -/
def fnNarrowedSpec : ChangeSpec := { name := "fnNarrowed", fn := fun _ => fun
  | [d1, d2] => { results := [.lit (.bool true)], args := [d1, d2] }
  | _ => none }
def fnNarrowedRow : OpenClaim := { program := "ythgenpcoelihiaa", sum := "11bf723c7cfbed766e7cbba9341054d304f3bdc07f519cb5eb15a25c0f5b68a1", func := "loop.example/g01170/laws.FnNarrowed", spec := "fnNarrowed", inPlace := ["math.Float32frombits", "math.Float32bits"], apart := false }
def FnNarrowedSaid : Prop := fnNarrowedRow.holds Try.pinned (OpenSpec.ofChange fnNarrowedSpec)

/-- ITS FALSE NEIGHBOUR: 'it returns false'. Refute it at one input. -/
def fnNarrowedWrong : ChangeSpec := { name := "fnNarrowed", fn := fun _ => fun
  | [d1, d2] => { results := [.lit (.bool false)], args := [d1, d2] }
  | _ => none }
def FnNarrowedWrongFalsely : Prop := fnNarrowedRow.holds Try.pinned (OpenSpec.ofChange fnNarrowedWrong)

/-- 'laws.FnPitch': WHATEVER THE INPUT: true; the input reads as it did. -/
def fnPitchSpec : ChangeSpec := { name := "fnPitch", fn := fun _ => fun
  | [d1, d2] => { results := [.lit (.bool true)], args := [d1, d2] }
  | _ => none }
def fnPitchRow : OpenClaim := { program := "ythgenpcoelihiaa", sum := "11bf723c7cfbed766e7cbba9341054d304f3bdc07f519cb5eb15a25c0f5b68a1", func := "loop.example/g01170/laws.FnPitch", spec := "fnPitch", apart := false }
def FnPitchSaid : Prop := fnPitchRow.holds Try.pinned (OpenSpec.ofChange fnPitchSpec)

/-- ITS FALSE NEIGHBOUR: 'it returns false'. Refute it at one input. -/
def fnPitchWrong : ChangeSpec := { name := "fnPitch", fn := fun _ => fun
  | [d1, d2] => { results := [.lit (.bool false)], args := [d1, d2] }
  | _ => none }
def FnPitchWrongFalsely : Prop := fnPitchRow.holds Try.pinned (OpenSpec.ofChange fnPitchWrong)

/-- 'laws.FnLoudness': WHATEVER THE INPUT: true; the input reads as it did. -/
def fnLoudnessSpec : ChangeSpec := { name := "fnLoudness", fn := fun _ => fun
  | [d1, d2] => { results := [.lit (.bool true)], args := [d1, d2] }
  | _ => none }
def fnLoudnessRow : OpenClaim := { program := "ythgenpcoelihiaa", sum := "11bf723c7cfbed766e7cbba9341054d304f3bdc07f519cb5eb15a25c0f5b68a1", func := "loop.example/g01170/laws.FnLoudness", spec := "fnLoudness", inPlace := ["math.Float32bits"], apart := false }
def FnLoudnessSaid : Prop := fnLoudnessRow.holds Try.pinned (OpenSpec.ofChange fnLoudnessSpec)

/-- ITS FALSE NEIGHBOUR: 'it returns false'. Refute it at one input. -/
def fnLoudnessWrong : ChangeSpec := { name := "fnLoudness", fn := fun _ => fun
  | [d1, d2] => { results := [.lit (.bool false)], args := [d1, d2] }
  | _ => none }
def FnLoudnessWrongFalsely : Prop := fnLoudnessRow.holds Try.pinned (OpenSpec.ofChange fnLoudnessWrong)

/-- 'laws.FnExactTenthsOf': WHATEVER THE INPUT: true; the input reads as it did. -/
def fnExactTenthsOfSpec : ChangeSpec := { name := "fnExactTenthsOf", fn := fun _ => fun
  | [d] => { results := [.lit (.bool true)], args := [d] }
  | _ => none }
def fnExactTenthsOfRow : OpenClaim := { program := "ythgenpcoelihiaa", sum := "11bf723c7cfbed766e7cbba9341054d304f3bdc07f519cb5eb15a25c0f5b68a1", func := "loop.example/g01170/laws.FnExactTenthsOf", spec := "fnExactTenthsOf", inPlace := ["math.Float64frombits", "math.Float64bits", "math.RoundToEven"], apart := false }
def FnExactTenthsOfSaid : Prop := fnExactTenthsOfRow.holds Try.pinned (OpenSpec.ofChange fnExactTenthsOfSpec)

/-- ITS FALSE NEIGHBOUR: 'it returns false'. Refute it at one input. -/
def fnExactTenthsOfWrong : ChangeSpec := { name := "fnExactTenthsOf", fn := fun _ => fun
  | [d] => { results := [.lit (.bool false)], args := [d] }
  | _ => none }
def FnExactTenthsOfWrongFalsely : Prop := fnExactTenthsOfRow.holds Try.pinned (OpenSpec.ofChange fnExactTenthsOfWrong)

/-- 'laws.FnGated': WHATEVER THE INPUT: true; the input reads as it did. -/
def fnGatedSpec : ChangeSpec := { name := "fnGated", fn := fun _ => fun
  | [d1, d2] => { results := [.lit (.bool true)], args := [d1, d2] }
  | _ => none }
def fnGatedRow : OpenClaim := { program := "ythgenpcoelihiaa", sum := "11bf723c7cfbed766e7cbba9341054d304f3bdc07f519cb5eb15a25c0f5b68a1", func := "loop.example/g01170/laws.FnGated", spec := "fnGated", inPlace := ["math.Float32frombits", "math.Float64bits", "math.Float64frombits", "math.Float32bits"], apart := false }
def FnGatedSaid : Prop := fnGatedRow.holds Try.pinned (OpenSpec.ofChange fnGatedSpec)

/-- ITS FALSE NEIGHBOUR: 'it returns false'. Refute it at one input. -/
def fnGatedWrong : ChangeSpec := { name := "fnGated", fn := fun _ => fun
  | [d1, d2] => { results := [.lit (.bool false)], args := [d1, d2] }
  | _ => none }
def FnGatedWrongFalsely : Prop := fnGatedRow.holds Try.pinned (OpenSpec.ofChange fnGatedWrong)

/-- 'laws.FnBits': WHATEVER THE INPUT: true; the input reads as it did. -/
def fnBitsSpec : ChangeSpec := { name := "fnBits", fn := fun _ => fun
  | [d1, d2] => { results := [.lit (.bool true)], args := [d1, d2] }
  | _ => none }
def fnBitsRow : OpenClaim := { program := "ythgenpcoelihiaa", sum := "11bf723c7cfbed766e7cbba9341054d304f3bdc07f519cb5eb15a25c0f5b68a1", func := "loop.example/g01170/laws.FnBits", spec := "fnBits", inPlace := ["math.Float32frombits", "math.Float32bits", "math.Float64frombits", "math.Float64bits"], apart := false }
def FnBitsSaid : Prop := fnBitsRow.holds Try.pinned (OpenSpec.ofChange fnBitsSpec)

/-- ITS FALSE NEIGHBOUR: 'it returns false'. Refute it at one input. -/
def fnBitsWrong : ChangeSpec := { name := "fnBits", fn := fun _ => fun
  | [d1, d2] => { results := [.lit (.bool false)], args := [d1, d2] }
  | _ => none }
def FnBitsWrongFalsely : Prop := fnBitsRow.holds Try.pinned (OpenSpec.ofChange fnBitsWrong)

/-- 'laws.FnSqueezed': WHATEVER THE INPUT: true; the input reads as it did. -/
def fnSqueezedSpec : ChangeSpec := { name := "fnSqueezed", fn := fun _ => fun
  | [d1, d2] => { results := [.lit (.bool true)], args := [d1, d2] }
  | _ => none }
def fnSqueezedRow : OpenClaim := { program := "ythgenpcoelihiaa", sum := "11bf723c7cfbed766e7cbba9341054d304f3bdc07f519cb5eb15a25c0f5b68a1", func := "loop.example/g01170/laws.FnSqueezed", spec := "fnSqueezed", inPlace := ["math.Float64bits", "math.Float64frombits", "math.Float32bits"], apart := false }
def FnSqueezedSaid : Prop := fnSqueezedRow.holds Try.pinned (OpenSpec.ofChange fnSqueezedSpec)

/-- ITS FALSE NEIGHBOUR: 'it returns false'. Refute it at one input. -/
def fnSqueezedWrong : ChangeSpec := { name := "fnSqueezed", fn := fun _ => fun
  | [d1, d2] => { results := [.lit (.bool false)], args := [d1, d2] }
  | _ => none }
def FnSqueezedWrongFalsely : Prop := fnSqueezedRow.holds Try.pinned (OpenSpec.ofChange fnSqueezedWrong)

/-- 'laws.FnLevels': WHATEVER THE INPUT: true; the input reads as it did. -/
def fnLevelsSpec : ChangeSpec := { name := "fnLevels", fn := fun _ => fun
  | [d1, d2] => { results := [.lit (.bool true)], args := [d1, d2] }
  | _ => none }
def fnLevelsRow : OpenClaim := { program := "ythgenpcoelihiaa", sum := "11bf723c7cfbed766e7cbba9341054d304f3bdc07f519cb5eb15a25c0f5b68a1", func := "loop.example/g01170/laws.FnLevels", spec := "fnLevels", inPlace := ["math.Float64bits", "math.Float64frombits", "math.Float32bits"], apart := false }
def FnLevelsSaid : Prop := fnLevelsRow.holds Try.pinned (OpenSpec.ofChange fnLevelsSpec)

/-- ITS FALSE NEIGHBOUR: 'it returns false'. Refute it at one input. -/
def fnLevelsWrong : ChangeSpec := { name := "fnLevels", fn := fun _ => fun
  | [d1, d2] => { results := [.lit (.bool false)], args := [d1, d2] }
  | _ => none }
def FnLevelsWrongFalsely : Prop := fnLevelsRow.holds Try.pinned (OpenSpec.ofChange fnLevelsWrong)

/-- 'laws.FnExactClippedRuns': WHATEVER THE INPUT: true; the input reads as it did. -/
def fnExactClippedRunsSpec : ChangeSpec := { name := "fnExactClippedRuns", fn := fun _ => fun
  | [d1, d2, d3] => { results := [.lit (.bool true)], args := [d1, d2, d3] }
  | _ => none }
def fnExactClippedRunsRow : OpenClaim := { program := "ythgenpcoelihiaa", sum := "11bf723c7cfbed766e7cbba9341054d304f3bdc07f519cb5eb15a25c0f5b68a1", func := "loop.example/g01170/laws.FnExactClippedRuns", spec := "fnExactClippedRuns", inPlace := ["math.Float32bits", "math.Float64bits", "math.Float64frombits"], apart := false }
def FnExactClippedRunsSaid : Prop := fnExactClippedRunsRow.holds Try.pinned (OpenSpec.ofChange fnExactClippedRunsSpec)

/-- ITS FALSE NEIGHBOUR: 'it returns false'. Refute it at one input. -/
def fnExactClippedRunsWrong : ChangeSpec := { name := "fnExactClippedRuns", fn := fun _ => fun
  | [d1, d2, d3] => { results := [.lit (.bool false)], args := [d1, d2, d3] }
  | _ => none }
def FnExactClippedRunsWrongFalsely : Prop := fnExactClippedRunsRow.holds Try.pinned (OpenSpec.ofChange fnExactClippedRunsWrong)

/-- 'laws.FnSums': WHATEVER THE INPUT: true; the input reads as it did. -/
def fnSumsSpec : ChangeSpec := { name := "fnSums", fn := fun _ => fun
  | [d1, d2] => { results := [.lit (.bool true)], args := [d1, d2] }
  | _ => none }
def fnSumsRow : OpenClaim := { program := "ythgenpcoelihiaa", sum := "11bf723c7cfbed766e7cbba9341054d304f3bdc07f519cb5eb15a25c0f5b68a1", func := "loop.example/g01170/laws.FnSums", spec := "fnSums", inPlace := ["math.Float32frombits", "math.Float32bits"], recurses := true, apart := false }
def FnSumsSaid : Prop := fnSumsRow.holds Try.pinned (OpenSpec.ofChange fnSumsSpec)

/-- ITS FALSE NEIGHBOUR: 'it returns false'. Refute it at one input. -/
def fnSumsWrong : ChangeSpec := { name := "fnSums", fn := fun _ => fun
  | [d1, d2] => { results := [.lit (.bool false)], args := [d1, d2] }
  | _ => none }
def FnSumsWrongFalsely : Prop := fnSumsRow.holds Try.pinned (OpenSpec.ofChange fnSumsWrong)

/-- 'laws.FnFlushed': WHATEVER THE INPUT: true; the input reads as it did. -/
def fnFlushedSpec : ChangeSpec := { name := "fnFlushed", fn := fun _ => fun
  | [d1, d2] => { results := [.lit (.bool true)], args := [d1, d2] }
  | _ => none }
def fnFlushedRow : OpenClaim := { program := "ythgenpcoelihiaa", sum := "11bf723c7cfbed766e7cbba9341054d304f3bdc07f519cb5eb15a25c0f5b68a1", func := "loop.example/g01170/laws.FnFlushed", spec := "fnFlushed", inPlace := ["math.Float32frombits", "math.Float64bits", "math.Float64frombits", "math.Float32bits"], apart := false }
def FnFlushedSaid : Prop := fnFlushedRow.holds Try.pinned (OpenSpec.ofChange fnFlushedSpec)

/-- ITS FALSE NEIGHBOUR: 'it returns false'. Refute it at one input. -/
def fnFlushedWrong : ChangeSpec := { name := "fnFlushed", fn := fun _ => fun
  | [d1, d2] => { results := [.lit (.bool false)], args := [d1, d2] }
  | _ => none }
def FnFlushedWrongFalsely : Prop := fnFlushedRow.holds Try.pinned (OpenSpec.ofChange fnFlushedWrong)

/-- 'laws.FnExactPeakBetween': WHATEVER THE INPUT: true; the input reads as it did. -/
def fnExactPeakBetweenSpec : ChangeSpec := { name := "fnExactPeakBetween", fn := fun _ => fun
  | [d] => { results := [.lit (.bool true)], args := [d] }
  | _ => none }
def fnExactPeakBetweenRow : OpenClaim := { program := "ythgenpcoelihiaa", sum := "11bf723c7cfbed766e7cbba9341054d304f3bdc07f519cb5eb15a25c0f5b68a1", func := "loop.example/g01170/laws.FnExactPeakBetween", spec := "fnExactPeakBetween", inPlace := ["math.Float32bits", "math.archFloor", "math.Float64bits", "math.Float64frombits", "math.archTrunc"], unfollowed := true, recurses := true, apart := false }
def FnExactPeakBetweenSaid : Prop := fnExactPeakBetweenRow.holds Try.pinned (OpenSpec.ofChange fnExactPeakBetweenSpec)

/-- ITS FALSE NEIGHBOUR: 'it returns false'. Refute it at one input. -/
def fnExactPeakBetweenWrong : ChangeSpec := { name := "fnExactPeakBetween", fn := fun _ => fun
  | [d] => { results := [.lit (.bool false)], args := [d] }
  | _ => none }
def FnExactPeakBetweenWrongFalsely : Prop := fnExactPeakBetweenRow.holds Try.pinned (OpenSpec.ofChange fnExactPeakBetweenWrong)

/- THE SECOND FORM. 'bulk': how many values and letters a reading holds, each counted each time it is reached (what is shared counts as often as it is met; a slice's spare places count too). A statement '..UptoSaid' is the law's where the arguments, and the package variables that the reading takes, are together of bulk at most 1048576: NARROWER than '..Said'. Prove '..Said' where nothing that the law and all that it calls make is longer than what came in: it says more and counts as full. Else prove '..UptoSaid'. A law counts once. -/
mutual
def uptoBulk {H : Type} : DataW H → Nat
  | .lit (.string bytes) => bytes.length + 1
  | .lit _ => 1
  | .nil => 1
  | .ptr d => uptoBulk d + 1
  | .slice elems spare => uptoBulkAll elems + uptoBulkAll spare + 1
  | .agg parts => uptoBulkAll parts + 1
  | .iface _ d => uptoBulk d + 1
  | .map entries => uptoBulkEntries entries + 1
  | .held _ => 1
def uptoBulkAll {H : Type} : List (DataW H) → Nat
  | [] => 0
  | d :: r => uptoBulk d + uptoBulkAll r
def uptoBulkEntries {H : Type} : List (Lit × DataW H) → Nat
  | [] => 0
  | x :: r => uptoBulkEntry x + uptoBulkEntries r
def uptoBulkEntry {H : Type} : Lit × DataW H → Nat
  | (.string bytes, d) => bytes.length + uptoBulk d + 1
  | (_, d) => uptoBulk d + 1
 end
def uptoSmall : (H : Type) → List (DataW H) → Bool := fun _ ds => decide (uptoBulkAll ds ≤ 1048576)
def OpenSpec.upto (s : _root_.Go.ChangeSpec) : _root_.Go.OpenSpec := { _root_.Go.OpenSpec.ofChange s with cond := some uptoSmall }

/-- 'laws.FnNarrowed', WHERE WHAT IT READS IS OF BULK AT MOST 1048576: true; the input reads as it did. -/
def fnNarrowedUptoRow : OpenClaim := { program := "ythgenpcoelihiaa", sum := "11bf723c7cfbed766e7cbba9341054d304f3bdc07f519cb5eb15a25c0f5b68a1", func := "loop.example/g01170/laws.FnNarrowed", spec := "fnNarrowed", inPlace := ["math.Float32frombits", "math.Float32bits"], apart := false, narrowed := true }
def FnNarrowedUptoSaid : Prop := fnNarrowedUptoRow.holds Try.pinned (OpenSpec.upto fnNarrowedSpec)

/-- 'laws.FnPitch', WHERE WHAT IT READS IS OF BULK AT MOST 1048576: true; the input reads as it did. -/
def fnPitchUptoRow : OpenClaim := { program := "ythgenpcoelihiaa", sum := "11bf723c7cfbed766e7cbba9341054d304f3bdc07f519cb5eb15a25c0f5b68a1", func := "loop.example/g01170/laws.FnPitch", spec := "fnPitch", apart := false, narrowed := true }
def FnPitchUptoSaid : Prop := fnPitchUptoRow.holds Try.pinned (OpenSpec.upto fnPitchSpec)

/-- 'laws.FnLoudness', WHERE WHAT IT READS IS OF BULK AT MOST 1048576: true; the input reads as it did. -/
def fnLoudnessUptoRow : OpenClaim := { program := "ythgenpcoelihiaa", sum := "11bf723c7cfbed766e7cbba9341054d304f3bdc07f519cb5eb15a25c0f5b68a1", func := "loop.example/g01170/laws.FnLoudness", spec := "fnLoudness", inPlace := ["math.Float32bits"], apart := false, narrowed := true }
def FnLoudnessUptoSaid : Prop := fnLoudnessUptoRow.holds Try.pinned (OpenSpec.upto fnLoudnessSpec)

/-- 'laws.FnExactTenthsOf', WHERE WHAT IT READS IS OF BULK AT MOST 1048576: true; the input reads as it did. -/
def fnExactTenthsOfUptoRow : OpenClaim := { program := "ythgenpcoelihiaa", sum := "11bf723c7cfbed766e7cbba9341054d304f3bdc07f519cb5eb15a25c0f5b68a1", func := "loop.example/g01170/laws.FnExactTenthsOf", spec := "fnExactTenthsOf", inPlace := ["math.Float64frombits", "math.Float64bits", "math.RoundToEven"], apart := false, narrowed := true }
def FnExactTenthsOfUptoSaid : Prop := fnExactTenthsOfUptoRow.holds Try.pinned (OpenSpec.upto fnExactTenthsOfSpec)

/-- 'laws.FnGated', WHERE WHAT IT READS IS OF BULK AT MOST 1048576: true; the input reads as it did. -/
def fnGatedUptoRow : OpenClaim := { program := "ythgenpcoelihiaa", sum := "11bf723c7cfbed766e7cbba9341054d304f3bdc07f519cb5eb15a25c0f5b68a1", func := "loop.example/g01170/laws.FnGated", spec := "fnGated", inPlace := ["math.Float32frombits", "math.Float64bits", "math.Float64frombits", "math.Float32bits"], apart := false, narrowed := true }
def FnGatedUptoSaid : Prop := fnGatedUptoRow.holds Try.pinned (OpenSpec.upto fnGatedSpec)

/-- 'laws.FnBits', WHERE WHAT IT READS IS OF BULK AT MOST 1048576: true; the input reads as it did. -/
def fnBitsUptoRow : OpenClaim := { program := "ythgenpcoelihiaa", sum := "11bf723c7cfbed766e7cbba9341054d304f3bdc07f519cb5eb15a25c0f5b68a1", func := "loop.example/g01170/laws.FnBits", spec := "fnBits", inPlace := ["math.Float32frombits", "math.Float32bits", "math.Float64frombits", "math.Float64bits"], apart := false, narrowed := true }
def FnBitsUptoSaid : Prop := fnBitsUptoRow.holds Try.pinned (OpenSpec.upto fnBitsSpec)

/-- 'laws.FnSqueezed', WHERE WHAT IT READS IS OF BULK AT MOST 1048576: true; the input reads as it did. -/
def fnSqueezedUptoRow : OpenClaim := { program := "ythgenpcoelihiaa", sum := "11bf723c7cfbed766e7cbba9341054d304f3bdc07f519cb5eb15a25c0f5b68a1", func := "loop.example/g01170/laws.FnSqueezed", spec := "fnSqueezed", inPlace := ["math.Float64bits", "math.Float64frombits", "math.Float32bits"], apart := false, narrowed := true }
def FnSqueezedUptoSaid : Prop := fnSqueezedUptoRow.holds Try.pinned (OpenSpec.upto fnSqueezedSpec)

/-- 'laws.FnLevels', WHERE WHAT IT READS IS OF BULK AT MOST 1048576: true; the input reads as it did. -/
def fnLevelsUptoRow : OpenClaim := { program := "ythgenpcoelihiaa", sum := "11bf723c7cfbed766e7cbba9341054d304f3bdc07f519cb5eb15a25c0f5b68a1", func := "loop.example/g01170/laws.FnLevels", spec := "fnLevels", inPlace := ["math.Float64bits", "math.Float64frombits", "math.Float32bits"], apart := false, narrowed := true }
def FnLevelsUptoSaid : Prop := fnLevelsUptoRow.holds Try.pinned (OpenSpec.upto fnLevelsSpec)

/-- 'laws.FnExactClippedRuns', WHERE WHAT IT READS IS OF BULK AT MOST 1048576: true; the input reads as it did. -/
def fnExactClippedRunsUptoRow : OpenClaim := { program := "ythgenpcoelihiaa", sum := "11bf723c7cfbed766e7cbba9341054d304f3bdc07f519cb5eb15a25c0f5b68a1", func := "loop.example/g01170/laws.FnExactClippedRuns", spec := "fnExactClippedRuns", inPlace := ["math.Float32bits", "math.Float64bits", "math.Float64frombits"], apart := false, narrowed := true }
def FnExactClippedRunsUptoSaid : Prop := fnExactClippedRunsUptoRow.holds Try.pinned (OpenSpec.upto fnExactClippedRunsSpec)

/-- 'laws.FnSums', WHERE WHAT IT READS IS OF BULK AT MOST 1048576: true; the input reads as it did. -/
def fnSumsUptoRow : OpenClaim := { program := "ythgenpcoelihiaa", sum := "11bf723c7cfbed766e7cbba9341054d304f3bdc07f519cb5eb15a25c0f5b68a1", func := "loop.example/g01170/laws.FnSums", spec := "fnSums", inPlace := ["math.Float32frombits", "math.Float32bits"], recurses := true, apart := false, narrowed := true }
def FnSumsUptoSaid : Prop := fnSumsUptoRow.holds Try.pinned (OpenSpec.upto fnSumsSpec)

/-- 'laws.FnFlushed', WHERE WHAT IT READS IS OF BULK AT MOST 1048576: true; the input reads as it did. -/
def fnFlushedUptoRow : OpenClaim := { program := "ythgenpcoelihiaa", sum := "11bf723c7cfbed766e7cbba9341054d304f3bdc07f519cb5eb15a25c0f5b68a1", func := "loop.example/g01170/laws.FnFlushed", spec := "fnFlushed", inPlace := ["math.Float32frombits", "math.Float64bits", "math.Float64frombits", "math.Float32bits"], apart := false, narrowed := true }
def FnFlushedUptoSaid : Prop := fnFlushedUptoRow.holds Try.pinned (OpenSpec.upto fnFlushedSpec)

/-- 'laws.FnExactPeakBetween', WHERE WHAT IT READS IS OF BULK AT MOST 1048576: true; the input reads as it did. -/
def fnExactPeakBetweenUptoRow : OpenClaim := { program := "ythgenpcoelihiaa", sum := "11bf723c7cfbed766e7cbba9341054d304f3bdc07f519cb5eb15a25c0f5b68a1", func := "loop.example/g01170/laws.FnExactPeakBetween", spec := "fnExactPeakBetween", inPlace := ["math.Float32bits", "math.archFloor", "math.Float64bits", "math.Float64frombits", "math.archTrunc"], unfollowed := true, recurses := true, apart := false, narrowed := true }
def FnExactPeakBetweenUptoSaid : Prop := fnExactPeakBetweenUptoRow.holds Try.pinned (OpenSpec.upto fnExactPeakBetweenSpec)

end Rows
end Go.Proofs.Ythgenpcoelihiaa
