/-
  No cell of these rows narrows 'for every input' (looked for: loops, veiled, ifaces, maps, wideKeys, modest, calm, conditions, laid).
  DERIVED. THE GIVEN ROWS OF THIS SEAT. 12 by the template 'for every input the law returns true; each argument reads behind the call as it read before'; 0 by the template 'total and deterministic' (their statements: YtdejjalkfekjiaaTotals.lean).
  GIVEN WITH THE SEED: the statements are not yours to turn. If you find one false, say at which input.
  Laid BY PROGRAM, IN A SANDBOX (cutbox-rows.mjs): the forced cells as the released guide's own fill.sh prints them over the translation 9404caf2b88d456b… (all of the seat's roots in one cut). By AI agents, Wed Nov 11 2026. No macro, syntax, notation, axiom, sorry.
-/
import Derived.Test.YtdejjalkfekjiaaChecked
import GoSem.Claim
import GoSem.ClaimJoined
import GoSem.ClaimMapViews
import Derived.JoinedTies
import Derived.KernelRfl
namespace Go.Proofs.Ytdejjalkfekjiaa
/- THE CELL 'sum', in the pinned program and in every row, IS THE sha256 OF THE DUMP (.gsa) THAT YtdejjalkfekjiaaProg.lean LOADS. Nothing in Lean hashes anything: it is a label: what it is worth is what the hold of that sum in a sandbox is worth. -/
noncomputable def Try.pinned : Pinned := { name := "ytdejjalkfekjiaa", sum := "9404caf2b88d456bcc78bececbe15165ab584c714c3a821f1a99898ecc6de0dd", checked := Try.checked }
namespace Rows
def none {H : Type} : Left H := { results := [], args := [] }

/-- 'laws.FnLanes': WHATEVER THE INPUT: true; the input reads as it did. -/
def fnLanesSpec : ChangeSpec := { name := "fnLanes", fn := fun _ => fun
  | [d1, d2] => { results := [.lit (.bool true)], args := [d1, d2] }
  | _ => none }
def fnLanesRow : OpenClaim := { program := "ytdejjalkfekjiaa", sum := "9404caf2b88d456bcc78bececbe15165ab584c714c3a821f1a99898ecc6de0dd", func := "loop.example/g01170/laws.FnLanes", spec := "fnLanes", inPlace := ["math.Float32frombits", "math.Float32bits"], apart := false }
def FnLanesSaid : Prop := fnLanesRow.holds Try.pinned (OpenSpec.ofChange fnLanesSpec)

/-- ITS FALSE NEIGHBOUR: 'it returns false'. Refute it at one input. -/
def fnLanesWrong : ChangeSpec := { name := "fnLanes", fn := fun _ => fun
  | [d1, d2] => { results := [.lit (.bool false)], args := [d1, d2] }
  | _ => none }
def FnLanesWrongFalsely : Prop := fnLanesRow.holds Try.pinned (OpenSpec.ofChange fnLanesWrong)

/-- 'laws.FnPlayers': WHATEVER THE INPUT: true; the input reads as it did. -/
def fnPlayersSpec : ChangeSpec := { name := "fnPlayers", fn := fun _ => fun
  | [d1, d2] => { results := [.lit (.bool true)], args := [d1, d2] }
  | _ => none }
def fnPlayersRow : OpenClaim := { program := "ytdejjalkfekjiaa", sum := "9404caf2b88d456bcc78bececbe15165ab584c714c3a821f1a99898ecc6de0dd", func := "loop.example/g01170/laws.FnPlayers", spec := "fnPlayers", inPlace := ["math.Float32frombits", "math.Float32bits"], unfollowed := true, recurses := true, apart := false }
def FnPlayersSaid : Prop := fnPlayersRow.holds Try.pinned (OpenSpec.ofChange fnPlayersSpec)

/-- ITS FALSE NEIGHBOUR: 'it returns false'. Refute it at one input. -/
def fnPlayersWrong : ChangeSpec := { name := "fnPlayers", fn := fun _ => fun
  | [d1, d2] => { results := [.lit (.bool false)], args := [d1, d2] }
  | _ => none }
def FnPlayersWrongFalsely : Prop := fnPlayersRow.holds Try.pinned (OpenSpec.ofChange fnPlayersWrong)

/-- 'laws.FnLimited': WHATEVER THE INPUT: true; the input reads as it did. -/
def fnLimitedSpec : ChangeSpec := { name := "fnLimited", fn := fun _ => fun
  | [d1, d2] => { results := [.lit (.bool true)], args := [d1, d2] }
  | _ => none }
def fnLimitedRow : OpenClaim := { program := "ytdejjalkfekjiaa", sum := "9404caf2b88d456bcc78bececbe15165ab584c714c3a821f1a99898ecc6de0dd", func := "loop.example/g01170/laws.FnLimited", spec := "fnLimited", inPlace := ["math.Float32frombits", "math.Float64bits", "math.Float64frombits", "math.Float32bits"], apart := false }
def FnLimitedSaid : Prop := fnLimitedRow.holds Try.pinned (OpenSpec.ofChange fnLimitedSpec)

/-- ITS FALSE NEIGHBOUR: 'it returns false'. Refute it at one input. -/
def fnLimitedWrong : ChangeSpec := { name := "fnLimited", fn := fun _ => fun
  | [d1, d2] => { results := [.lit (.bool false)], args := [d1, d2] }
  | _ => none }
def FnLimitedWrongFalsely : Prop := fnLimitedRow.holds Try.pinned (OpenSpec.ofChange fnLimitedWrong)

/-- 'laws.FnTaps': WHATEVER THE INPUT: true; the input reads as it did. -/
def fnTapsSpec : ChangeSpec := { name := "fnTaps", fn := fun _ => fun
  | [d1, d2] => { results := [.lit (.bool true)], args := [d1, d2] }
  | _ => none }
def fnTapsRow : OpenClaim := { program := "ytdejjalkfekjiaa", sum := "9404caf2b88d456bcc78bececbe15165ab584c714c3a821f1a99898ecc6de0dd", func := "loop.example/g01170/laws.FnTaps", spec := "fnTaps", inPlace := ["math.Float32frombits", "math.Float32bits"], apart := false }
def FnTapsSaid : Prop := fnTapsRow.holds Try.pinned (OpenSpec.ofChange fnTapsSpec)

/-- ITS FALSE NEIGHBOUR: 'it returns false'. Refute it at one input. -/
def fnTapsWrong : ChangeSpec := { name := "fnTaps", fn := fun _ => fun
  | [d1, d2] => { results := [.lit (.bool false)], args := [d1, d2] }
  | _ => none }
def FnTapsWrongFalsely : Prop := fnTapsRow.holds Try.pinned (OpenSpec.ofChange fnTapsWrong)

/-- 'laws.FnNoise': WHATEVER THE INPUT: true; the input reads as it did. -/
def fnNoiseSpec : ChangeSpec := { name := "fnNoise", fn := fun _ => fun
  | [d1, d2] => { results := [.lit (.bool true)], args := [d1, d2] }
  | _ => none }
def fnNoiseRow : OpenClaim := { program := "ytdejjalkfekjiaa", sum := "9404caf2b88d456bcc78bececbe15165ab584c714c3a821f1a99898ecc6de0dd", func := "loop.example/g01170/laws.FnNoise", spec := "fnNoise", inPlace := ["math.Float32frombits", "math.RoundToEven"], apart := false }
def FnNoiseSaid : Prop := fnNoiseRow.holds Try.pinned (OpenSpec.ofChange fnNoiseSpec)

/-- ITS FALSE NEIGHBOUR: 'it returns false'. Refute it at one input. -/
def fnNoiseWrong : ChangeSpec := { name := "fnNoise", fn := fun _ => fun
  | [d1, d2] => { results := [.lit (.bool false)], args := [d1, d2] }
  | _ => none }
def FnNoiseWrongFalsely : Prop := fnNoiseRow.holds Try.pinned (OpenSpec.ofChange fnNoiseWrong)

/-- 'laws.FnFolds': WHATEVER THE INPUT: true; the input reads as it did. -/
def fnFoldsSpec : ChangeSpec := { name := "fnFolds", fn := fun _ => fun
  | [d1, d2] => { results := [.lit (.bool true)], args := [d1, d2] }
  | _ => none }
def fnFoldsRow : OpenClaim := { program := "ytdejjalkfekjiaa", sum := "9404caf2b88d456bcc78bececbe15165ab584c714c3a821f1a99898ecc6de0dd", func := "loop.example/g01170/laws.FnFolds", spec := "fnFolds", inPlace := ["math.Float32frombits", "math.Float32bits"], apart := false }
def FnFoldsSaid : Prop := fnFoldsRow.holds Try.pinned (OpenSpec.ofChange fnFoldsSpec)

/-- ITS FALSE NEIGHBOUR: 'it returns false'. Refute it at one input. -/
def fnFoldsWrong : ChangeSpec := { name := "fnFolds", fn := fun _ => fun
  | [d1, d2] => { results := [.lit (.bool false)], args := [d1, d2] }
  | _ => none }
def FnFoldsWrongFalsely : Prop := fnFoldsRow.holds Try.pinned (OpenSpec.ofChange fnFoldsWrong)

/-- 'laws.FnSpreads': WHATEVER THE INPUT: true; the input reads as it did. -/
def fnSpreadsSpec : ChangeSpec := { name := "fnSpreads", fn := fun _ => fun
  | [d1, d2] => { results := [.lit (.bool true)], args := [d1, d2] }
  | _ => none }
def fnSpreadsRow : OpenClaim := { program := "ytdejjalkfekjiaa", sum := "9404caf2b88d456bcc78bececbe15165ab584c714c3a821f1a99898ecc6de0dd", func := "loop.example/g01170/laws.FnSpreads", spec := "fnSpreads", inPlace := ["math.Float32frombits", "math.Float64frombits", "math.RoundToEven"], apart := false }
def FnSpreadsSaid : Prop := fnSpreadsRow.holds Try.pinned (OpenSpec.ofChange fnSpreadsSpec)

/-- ITS FALSE NEIGHBOUR: 'it returns false'. Refute it at one input. -/
def fnSpreadsWrong : ChangeSpec := { name := "fnSpreads", fn := fun _ => fun
  | [d1, d2] => { results := [.lit (.bool false)], args := [d1, d2] }
  | _ => none }
def FnSpreadsWrongFalsely : Prop := fnSpreadsRow.holds Try.pinned (OpenSpec.ofChange fnSpreadsWrong)

/-- 'laws.FnChannels': WHATEVER THE INPUT: true; the input reads as it did. -/
def fnChannelsSpec : ChangeSpec := { name := "fnChannels", fn := fun _ => fun
  | [d1, d2] => { results := [.lit (.bool true)], args := [d1, d2] }
  | _ => none }
def fnChannelsRow : OpenClaim := { program := "ytdejjalkfekjiaa", sum := "9404caf2b88d456bcc78bececbe15165ab584c714c3a821f1a99898ecc6de0dd", func := "loop.example/g01170/laws.FnChannels", spec := "fnChannels", inPlace := ["math.sqrt", "math.Float64bits", "math.Float64frombits", "math.Float32bits"], apart := false }
def FnChannelsSaid : Prop := fnChannelsRow.holds Try.pinned (OpenSpec.ofChange fnChannelsSpec)

/-- ITS FALSE NEIGHBOUR: 'it returns false'. Refute it at one input. -/
def fnChannelsWrong : ChangeSpec := { name := "fnChannels", fn := fun _ => fun
  | [d1, d2] => { results := [.lit (.bool false)], args := [d1, d2] }
  | _ => none }
def FnChannelsWrongFalsely : Prop := fnChannelsRow.holds Try.pinned (OpenSpec.ofChange fnChannelsWrong)

/-- 'laws.FnSteps': WHATEVER THE INPUT: true; the input reads as it did. -/
def fnStepsSpec : ChangeSpec := { name := "fnSteps", fn := fun _ => fun
  | [d1, d2] => { results := [.lit (.bool true)], args := [d1, d2] }
  | _ => none }
def fnStepsRow : OpenClaim := { program := "ytdejjalkfekjiaa", sum := "9404caf2b88d456bcc78bececbe15165ab584c714c3a821f1a99898ecc6de0dd", func := "loop.example/g01170/laws.FnSteps", spec := "fnSteps", inPlace := ["math.Float32frombits", "math.RoundToEven"], apart := false }
def FnStepsSaid : Prop := fnStepsRow.holds Try.pinned (OpenSpec.ofChange fnStepsSpec)

/-- ITS FALSE NEIGHBOUR: 'it returns false'. Refute it at one input. -/
def fnStepsWrong : ChangeSpec := { name := "fnSteps", fn := fun _ => fun
  | [d1, d2] => { results := [.lit (.bool false)], args := [d1, d2] }
  | _ => none }
def FnStepsWrongFalsely : Prop := fnStepsRow.holds Try.pinned (OpenSpec.ofChange fnStepsWrong)

/-- 'laws.FnNodes': WHATEVER THE INPUT: true; the input reads as it did. -/
def fnNodesSpec : ChangeSpec := { name := "fnNodes", fn := fun _ => fun
  | [d1, d2] => { results := [.lit (.bool true)], args := [d1, d2] }
  | _ => none }
def fnNodesRow : OpenClaim := { program := "ytdejjalkfekjiaa", sum := "9404caf2b88d456bcc78bececbe15165ab584c714c3a821f1a99898ecc6de0dd", func := "loop.example/g01170/laws.FnNodes", spec := "fnNodes", inPlace := ["math.Float32frombits", "math.Float32bits"], apart := false }
def FnNodesSaid : Prop := fnNodesRow.holds Try.pinned (OpenSpec.ofChange fnNodesSpec)

/-- ITS FALSE NEIGHBOUR: 'it returns false'. Refute it at one input. -/
def fnNodesWrong : ChangeSpec := { name := "fnNodes", fn := fun _ => fun
  | [d1, d2] => { results := [.lit (.bool false)], args := [d1, d2] }
  | _ => none }
def FnNodesWrongFalsely : Prop := fnNodesRow.holds Try.pinned (OpenSpec.ofChange fnNodesWrong)

/-- 'laws.FnFilterBlocks': WHATEVER THE INPUT: true; the input reads as it did. -/
def fnFilterBlocksSpec : ChangeSpec := { name := "fnFilterBlocks", fn := fun _ => fun
  | [d1, d2] => { results := [.lit (.bool true)], args := [d1, d2] }
  | _ => none }
def fnFilterBlocksRow : OpenClaim := { program := "ytdejjalkfekjiaa", sum := "9404caf2b88d456bcc78bececbe15165ab584c714c3a821f1a99898ecc6de0dd", func := "loop.example/g01170/laws.FnFilterBlocks", spec := "fnFilterBlocks", inPlace := ["math.Float32frombits", "math.Float64bits", "math.Float64frombits", "math.Float32bits"], apart := false }
def FnFilterBlocksSaid : Prop := fnFilterBlocksRow.holds Try.pinned (OpenSpec.ofChange fnFilterBlocksSpec)

/-- ITS FALSE NEIGHBOUR: 'it returns false'. Refute it at one input. -/
def fnFilterBlocksWrong : ChangeSpec := { name := "fnFilterBlocks", fn := fun _ => fun
  | [d1, d2] => { results := [.lit (.bool false)], args := [d1, d2] }
  | _ => none }
def FnFilterBlocksWrongFalsely : Prop := fnFilterBlocksRow.holds Try.pinned (OpenSpec.ofChange fnFilterBlocksWrong)

/-- 'laws.FnPeaks': WHATEVER THE INPUT: true; the input reads as it did. -/
def fnPeaksSpec : ChangeSpec := { name := "fnPeaks", fn := fun _ => fun
  | [d1, d2] => { results := [.lit (.bool true)], args := [d1, d2] }
  | _ => none }
def fnPeaksRow : OpenClaim := { program := "ytdejjalkfekjiaa", sum := "9404caf2b88d456bcc78bececbe15165ab584c714c3a821f1a99898ecc6de0dd", func := "loop.example/g01170/laws.FnPeaks", spec := "fnPeaks", inPlace := ["math.Float64bits", "math.Float64frombits", "math.archFloor", "math.archTrunc"], unfollowed := true, recurses := true, apart := false }
def FnPeaksSaid : Prop := fnPeaksRow.holds Try.pinned (OpenSpec.ofChange fnPeaksSpec)

/-- ITS FALSE NEIGHBOUR: 'it returns false'. Refute it at one input. -/
def fnPeaksWrong : ChangeSpec := { name := "fnPeaks", fn := fun _ => fun
  | [d1, d2] => { results := [.lit (.bool false)], args := [d1, d2] }
  | _ => none }
def FnPeaksWrongFalsely : Prop := fnPeaksRow.holds Try.pinned (OpenSpec.ofChange fnPeaksWrong)

/- THE SECOND FORM. 'bulk': how many values and letters a reading holds, each counted each time it is reached (what is shared counts as often as it is met; a slice's spare places count too). A statement '..UptoSaid' is the law's where the arguments, and the package variables that the reading takes, are together of bulk at most 1048576: NARROWER than '..Said'. Prove '..Said' where nothing that the law and all that it calls make is longer than what came in: it says more and counts as full. Else prove '..UptoSaid'. A law counts once. -/
mutual
def uptoBulk {H : Type} : DataW H → Nat
  | .lit (.string bytes) => bytes.length + 1
  | .lit _ => 1
  | .nil => 1
  | .ptr d => uptoBulk d + 1
  | .slice elems spare => uptoBulkAll elems + uptoBulkAll spare + 1
  | .agg parts => uptoBulkAll parts + 1
  | .iface _ d => uptoBulk d + 1
  | .map entries => uptoBulkEntries entries + 1
  | .held _ => 1
def uptoBulkAll {H : Type} : List (DataW H) → Nat
  | [] => 0
  | d :: r => uptoBulk d + uptoBulkAll r
def uptoBulkEntries {H : Type} : List (Lit × DataW H) → Nat
  | [] => 0
  | x :: r => uptoBulkEntry x + uptoBulkEntries r
def uptoBulkEntry {H : Type} : Lit × DataW H → Nat
  | (.string bytes, d) => bytes.length + uptoBulk d + 1
  | (_, d) => uptoBulk d + 1
 end
def uptoSmall : (H : Type) → List (DataW H) → Bool := fun _ ds => decide (uptoBulkAll ds ≤ 1048576)
def OpenSpec.upto (s : _root_.Go.ChangeSpec) : _root_.Go.OpenSpec := { _root_.Go.OpenSpec.ofChange s with cond := some uptoSmall }

/-- 'laws.FnLanes', WHERE WHAT IT READS IS OF BULK AT MOST 1048576: true; the input reads as it did. -/
def fnLanesUptoRow : OpenClaim := { program := "ytdejjalkfekjiaa", sum := "9404caf2b88d456bcc78bececbe15165ab584c714c3a821f1a99898ecc6de0dd", func := "loop.example/g01170/laws.FnLanes", spec := "fnLanes", inPlace := ["math.Float32frombits", "math.Float32bits"], apart := false, narrowed := true }
def FnLanesUptoSaid : Prop := fnLanesUptoRow.holds Try.pinned (OpenSpec.upto fnLanesSpec)

/-- 'laws.FnPlayers', WHERE WHAT IT READS IS OF BULK AT MOST 1048576: true; the input reads as it did. -/
def fnPlayersUptoRow : OpenClaim := { program := "ytdejjalkfekjiaa", sum := "9404caf2b88d456bcc78bececbe15165ab584c714c3a821f1a99898ecc6de0dd", func := "loop.example/g01170/laws.FnPlayers", spec := "fnPlayers", inPlace := ["math.Float32frombits", "math.Float32bits"], unfollowed := true, recurses := true, apart := false, narrowed := true }
def FnPlayersUptoSaid : Prop := fnPlayersUptoRow.holds Try.pinned (OpenSpec.upto fnPlayersSpec)

/-- 'laws.FnLimited', WHERE WHAT IT READS IS OF BULK AT MOST 1048576: true; the input reads as it did. -/
def fnLimitedUptoRow : OpenClaim := { program := "ytdejjalkfekjiaa", sum := "9404caf2b88d456bcc78bececbe15165ab584c714c3a821f1a99898ecc6de0dd", func := "loop.example/g01170/laws.FnLimited", spec := "fnLimited", inPlace := ["math.Float32frombits", "math.Float64bits", "math.Float64frombits", "math.Float32bits"], apart := false, narrowed := true }
def FnLimitedUptoSaid : Prop := fnLimitedUptoRow.holds Try.pinned (OpenSpec.upto fnLimitedSpec)

/-- 'laws.FnTaps', WHERE WHAT IT READS IS OF BULK AT MOST 1048576: true; the input reads as it did. -/
def fnTapsUptoRow : OpenClaim := { program := "ytdejjalkfekjiaa", sum := "9404caf2b88d456bcc78bececbe15165ab584c714c3a821f1a99898ecc6de0dd", func := "loop.example/g01170/laws.FnTaps", spec := "fnTaps", inPlace := ["math.Float32frombits", "math.Float32bits"], apart := false, narrowed := true }
def FnTapsUptoSaid : Prop := fnTapsUptoRow.holds Try.pinned (OpenSpec.upto fnTapsSpec)

/-- 'laws.FnNoise', WHERE WHAT IT READS IS OF BULK AT MOST 1048576: true; the input reads as it did. -/
def fnNoiseUptoRow : OpenClaim := { program := "ytdejjalkfekjiaa", sum := "9404caf2b88d456bcc78bececbe15165ab584c714c3a821f1a99898ecc6de0dd", func := "loop.example/g01170/laws.FnNoise", spec := "fnNoise", inPlace := ["math.Float32frombits", "math.RoundToEven"], apart := false, narrowed := true }
def FnNoiseUptoSaid : Prop := fnNoiseUptoRow.holds Try.pinned (OpenSpec.upto fnNoiseSpec)

/-- 'laws.FnFolds', WHERE WHAT IT READS IS OF BULK AT MOST 1048576: true; the input reads as it did. -/
def fnFoldsUptoRow : OpenClaim := { program := "ytdejjalkfekjiaa", sum := "9404caf2b88d456bcc78bececbe15165ab584c714c3a821f1a99898ecc6de0dd", func := "loop.example/g01170/laws.FnFolds", spec := "fnFolds", inPlace := ["math.Float32frombits", "math.Float32bits"], apart := false, narrowed := true }
def FnFoldsUptoSaid : Prop := fnFoldsUptoRow.holds Try.pinned (OpenSpec.upto fnFoldsSpec)

/-- 'laws.FnSpreads', WHERE WHAT IT READS IS OF BULK AT MOST 1048576: true; the input reads as it did. -/
def fnSpreadsUptoRow : OpenClaim := { program := "ytdejjalkfekjiaa", sum := "9404caf2b88d456bcc78bececbe15165ab584c714c3a821f1a99898ecc6de0dd", func := "loop.example/g01170/laws.FnSpreads", spec := "fnSpreads", inPlace := ["math.Float32frombits", "math.Float64frombits", "math.RoundToEven"], apart := false, narrowed := true }
def FnSpreadsUptoSaid : Prop := fnSpreadsUptoRow.holds Try.pinned (OpenSpec.upto fnSpreadsSpec)

/-- 'laws.FnChannels', WHERE WHAT IT READS IS OF BULK AT MOST 1048576: true; the input reads as it did. -/
def fnChannelsUptoRow : OpenClaim := { program := "ytdejjalkfekjiaa", sum := "9404caf2b88d456bcc78bececbe15165ab584c714c3a821f1a99898ecc6de0dd", func := "loop.example/g01170/laws.FnChannels", spec := "fnChannels", inPlace := ["math.sqrt", "math.Float64bits", "math.Float64frombits", "math.Float32bits"], apart := false, narrowed := true }
def FnChannelsUptoSaid : Prop := fnChannelsUptoRow.holds Try.pinned (OpenSpec.upto fnChannelsSpec)

/-- 'laws.FnSteps', WHERE WHAT IT READS IS OF BULK AT MOST 1048576: true; the input reads as it did. -/
def fnStepsUptoRow : OpenClaim := { program := "ytdejjalkfekjiaa", sum := "9404caf2b88d456bcc78bececbe15165ab584c714c3a821f1a99898ecc6de0dd", func := "loop.example/g01170/laws.FnSteps", spec := "fnSteps", inPlace := ["math.Float32frombits", "math.RoundToEven"], apart := false, narrowed := true }
def FnStepsUptoSaid : Prop := fnStepsUptoRow.holds Try.pinned (OpenSpec.upto fnStepsSpec)

/-- 'laws.FnNodes', WHERE WHAT IT READS IS OF BULK AT MOST 1048576: true; the input reads as it did. -/
def fnNodesUptoRow : OpenClaim := { program := "ytdejjalkfekjiaa", sum := "9404caf2b88d456bcc78bececbe15165ab584c714c3a821f1a99898ecc6de0dd", func := "loop.example/g01170/laws.FnNodes", spec := "fnNodes", inPlace := ["math.Float32frombits", "math.Float32bits"], apart := false, narrowed := true }
def FnNodesUptoSaid : Prop := fnNodesUptoRow.holds Try.pinned (OpenSpec.upto fnNodesSpec)

/-- 'laws.FnFilterBlocks', WHERE WHAT IT READS IS OF BULK AT MOST 1048576: true; the input reads as it did. -/
def fnFilterBlocksUptoRow : OpenClaim := { program := "ytdejjalkfekjiaa", sum := "9404caf2b88d456bcc78bececbe15165ab584c714c3a821f1a99898ecc6de0dd", func := "loop.example/g01170/laws.FnFilterBlocks", spec := "fnFilterBlocks", inPlace := ["math.Float32frombits", "math.Float64bits", "math.Float64frombits", "math.Float32bits"], apart := false, narrowed := true }
def FnFilterBlocksUptoSaid : Prop := fnFilterBlocksUptoRow.holds Try.pinned (OpenSpec.upto fnFilterBlocksSpec)

/-- 'laws.FnPeaks', WHERE WHAT IT READS IS OF BULK AT MOST 1048576: true; the input reads as it did. -/
def fnPeaksUptoRow : OpenClaim := { program := "ytdejjalkfekjiaa", sum := "9404caf2b88d456bcc78bececbe15165ab584c714c3a821f1a99898ecc6de0dd", func := "loop.example/g01170/laws.FnPeaks", spec := "fnPeaks", inPlace := ["math.Float64bits", "math.Float64frombits", "math.archFloor", "math.archTrunc"], unfollowed := true, recurses := true, apart := false, narrowed := true }
def FnPeaksUptoSaid : Prop := fnPeaksUptoRow.holds Try.pinned (OpenSpec.upto fnPeaksSpec)

end Rows
end Go.Proofs.Ytdejjalkfekjiaa
