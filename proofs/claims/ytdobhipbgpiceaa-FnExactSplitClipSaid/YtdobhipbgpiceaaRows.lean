/-
  No cell of these rows narrows 'for every input' (looked for: loops, veiled, ifaces, maps, wideKeys, modest, calm, conditions, laid).
  DERIVED. THE GIVEN ROWS OF THIS SEAT. 9 by the template 'for every input the law returns true; each argument reads behind the call as it read before'; 0 by the template 'total and deterministic' (their statements: YtdobhipbgpiceaaTotals.lean).
  GIVEN WITH THE SEED: the statements are not yours to turn. If you find one false, say at which input.
  Laid BY PROGRAM, IN A SANDBOX (cutbox-rows.mjs): the forced cells as the released guide's own fill.sh prints them over the translation ba0081e1466bb9ff… (all of the seat's roots in one cut). By AI agents, Wed Nov 11 2026. No macro, syntax, notation, axiom, sorry.
-/
import Derived.Test.YtdobhipbgpiceaaChecked
import GoSem.Claim
import GoSem.ClaimJoined
import GoSem.ClaimMapViews
import Derived.JoinedTies
import Derived.KernelRfl
namespace Go.Proofs.Ytdobhipbgpiceaa
/- THE CELL 'sum', in the pinned program and in every row, IS THE sha256 OF THE DUMP (.gsa) THAT YtdobhipbgpiceaaProg.lean LOADS. Nothing in Lean hashes anything: it is a label: what it is worth is what the hold of that sum in a sandbox is worth. -/
noncomputable def Try.pinned : Pinned := { name := "ytdobhipbgpiceaa", sum := "ba0081e1466bb9ff8294da0642260232da54ebccc30b4b0daec50d975698fc8f", checked := Try.checked }
namespace Rows
def none {H : Type} : Left H := { results := [], args := [] }

/-- 'laws.FnLoudness': WHATEVER THE INPUT: true; the input reads as it did. -/
def fnLoudnessSpec : ChangeSpec := { name := "fnLoudness", fn := fun _ => fun
  | [d1, d2] => { results := [.lit (.bool true)], args := [d1, d2] }
  | _ => none }
def fnLoudnessRow : OpenClaim := { program := "ytdobhipbgpiceaa", sum := "ba0081e1466bb9ff8294da0642260232da54ebccc30b4b0daec50d975698fc8f", func := "loop.example/g01170/laws.FnLoudness", spec := "fnLoudness", inPlace := ["math.Float32bits"], apart := false }
def FnLoudnessSaid : Prop := fnLoudnessRow.holds Try.pinned (OpenSpec.ofChange fnLoudnessSpec)

/-- ITS FALSE NEIGHBOUR: 'it returns false'. Refute it at one input. -/
def fnLoudnessWrong : ChangeSpec := { name := "fnLoudness", fn := fun _ => fun
  | [d1, d2] => { results := [.lit (.bool false)], args := [d1, d2] }
  | _ => none }
def FnLoudnessWrongFalsely : Prop := fnLoudnessRow.holds Try.pinned (OpenSpec.ofChange fnLoudnessWrong)

/-- 'laws.FnChainBlocks': WHATEVER THE INPUT: true; the input reads as it did. -/
def fnChainBlocksSpec : ChangeSpec := { name := "fnChainBlocks", fn := fun _ => fun
  | [d1, d2] => { results := [.lit (.bool true)], args := [d1, d2] }
  | _ => none }
def fnChainBlocksRow : OpenClaim := { program := "ytdobhipbgpiceaa", sum := "ba0081e1466bb9ff8294da0642260232da54ebccc30b4b0daec50d975698fc8f", func := "loop.example/g01170/laws.FnChainBlocks", spec := "fnChainBlocks", inPlace := ["math.Float32frombits", "math.Float64bits", "math.Float64frombits", "math.Float32bits"], apart := false }
def FnChainBlocksSaid : Prop := fnChainBlocksRow.holds Try.pinned (OpenSpec.ofChange fnChainBlocksSpec)

/-- ITS FALSE NEIGHBOUR: 'it returns false'. Refute it at one input. -/
def fnChainBlocksWrong : ChangeSpec := { name := "fnChainBlocks", fn := fun _ => fun
  | [d1, d2] => { results := [.lit (.bool false)], args := [d1, d2] }
  | _ => none }
def FnChainBlocksWrongFalsely : Prop := fnChainBlocksRow.holds Try.pinned (OpenSpec.ofChange fnChainBlocksWrong)

/-- 'laws.FnChainParts': WHATEVER THE INPUT: true; the input reads as it did. -/
def fnChainPartsSpec : ChangeSpec := { name := "fnChainParts", fn := fun _ => fun
  | [d1, d2] => { results := [.lit (.bool true)], args := [d1, d2] }
  | _ => none }
def fnChainPartsRow : OpenClaim := { program := "ytdobhipbgpiceaa", sum := "ba0081e1466bb9ff8294da0642260232da54ebccc30b4b0daec50d975698fc8f", func := "loop.example/g01170/laws.FnChainParts", spec := "fnChainParts", inPlace := ["math.Float32frombits", "math.Float64bits", "math.Float64frombits", "math.Float32bits"], apart := false }
def FnChainPartsSaid : Prop := fnChainPartsRow.holds Try.pinned (OpenSpec.ofChange fnChainPartsSpec)

/-- ITS FALSE NEIGHBOUR: 'it returns false'. Refute it at one input. -/
def fnChainPartsWrong : ChangeSpec := { name := "fnChainParts", fn := fun _ => fun
  | [d1, d2] => { results := [.lit (.bool false)], args := [d1, d2] }
  | _ => none }
def FnChainPartsWrongFalsely : Prop := fnChainPartsRow.holds Try.pinned (OpenSpec.ofChange fnChainPartsWrong)

/-- 'laws.FnNodes': WHATEVER THE INPUT: true; the input reads as it did. -/
def fnNodesSpec : ChangeSpec := { name := "fnNodes", fn := fun _ => fun
  | [d1, d2] => { results := [.lit (.bool true)], args := [d1, d2] }
  | _ => none }
def fnNodesRow : OpenClaim := { program := "ytdobhipbgpiceaa", sum := "ba0081e1466bb9ff8294da0642260232da54ebccc30b4b0daec50d975698fc8f", func := "loop.example/g01170/laws.FnNodes", spec := "fnNodes", inPlace := ["math.Float32frombits", "math.Float32bits"], apart := false }
def FnNodesSaid : Prop := fnNodesRow.holds Try.pinned (OpenSpec.ofChange fnNodesSpec)

/-- ITS FALSE NEIGHBOUR: 'it returns false'. Refute it at one input. -/
def fnNodesWrong : ChangeSpec := { name := "fnNodes", fn := fun _ => fun
  | [d1, d2] => { results := [.lit (.bool false)], args := [d1, d2] }
  | _ => none }
def FnNodesWrongFalsely : Prop := fnNodesRow.holds Try.pinned (OpenSpec.ofChange fnNodesWrong)

/-- 'laws.FnFilterRows': WHATEVER THE INPUT: true; the input reads as it did. -/
def fnFilterRowsSpec : ChangeSpec := { name := "fnFilterRows", fn := fun _ => fun
  | [d1, d2] => { results := [.lit (.bool true)], args := [d1, d2] }
  | _ => none }
def fnFilterRowsRow : OpenClaim := { program := "ytdobhipbgpiceaa", sum := "ba0081e1466bb9ff8294da0642260232da54ebccc30b4b0daec50d975698fc8f", func := "loop.example/g01170/laws.FnFilterRows", spec := "fnFilterRows", inPlace := ["math.Float32frombits", "math.Float64bits", "math.Float64frombits", "math.Float32bits"], apart := false }
def FnFilterRowsSaid : Prop := fnFilterRowsRow.holds Try.pinned (OpenSpec.ofChange fnFilterRowsSpec)

/-- ITS FALSE NEIGHBOUR: 'it returns false'. Refute it at one input. -/
def fnFilterRowsWrong : ChangeSpec := { name := "fnFilterRows", fn := fun _ => fun
  | [d1, d2] => { results := [.lit (.bool false)], args := [d1, d2] }
  | _ => none }
def FnFilterRowsWrongFalsely : Prop := fnFilterRowsRow.holds Try.pinned (OpenSpec.ofChange fnFilterRowsWrong)

/-- 'laws.FnClips': WHATEVER THE INPUT: true; the input reads as it did. -/
def fnClipsSpec : ChangeSpec := { name := "fnClips", fn := fun _ => fun
  | [d1, d2] => { results := [.lit (.bool true)], args := [d1, d2] }
  | _ => none }
def fnClipsRow : OpenClaim := { program := "ytdobhipbgpiceaa", sum := "ba0081e1466bb9ff8294da0642260232da54ebccc30b4b0daec50d975698fc8f", func := "loop.example/g01170/laws.FnClips", spec := "fnClips", inPlace := ["math.Float32frombits", "math.Float32bits"], apart := false }
def FnClipsSaid : Prop := fnClipsRow.holds Try.pinned (OpenSpec.ofChange fnClipsSpec)

/-- ITS FALSE NEIGHBOUR: 'it returns false'. Refute it at one input. -/
def fnClipsWrong : ChangeSpec := { name := "fnClips", fn := fun _ => fun
  | [d1, d2] => { results := [.lit (.bool false)], args := [d1, d2] }
  | _ => none }
def FnClipsWrongFalsely : Prop := fnClipsRow.holds Try.pinned (OpenSpec.ofChange fnClipsWrong)

/-- 'laws.FnExactRepeatClip': WHATEVER THE INPUT: true; the input reads as it did. -/
def fnExactRepeatClipSpec : ChangeSpec := { name := "fnExactRepeatClip", fn := fun _ => fun
  | [d1, d2, d3] => { results := [.lit (.bool true)], args := [d1, d2, d3] }
  | _ => none }
def fnExactRepeatClipRow : OpenClaim := { program := "ytdobhipbgpiceaa", sum := "ba0081e1466bb9ff8294da0642260232da54ebccc30b4b0daec50d975698fc8f", func := "loop.example/g01170/laws.FnExactRepeatClip", spec := "fnExactRepeatClip", apart := false }
def FnExactRepeatClipSaid : Prop := fnExactRepeatClipRow.holds Try.pinned (OpenSpec.ofChange fnExactRepeatClipSpec)

/-- ITS FALSE NEIGHBOUR: 'it returns false'. Refute it at one input. -/
def fnExactRepeatClipWrong : ChangeSpec := { name := "fnExactRepeatClip", fn := fun _ => fun
  | [d1, d2, d3] => { results := [.lit (.bool false)], args := [d1, d2, d3] }
  | _ => none }
def FnExactRepeatClipWrongFalsely : Prop := fnExactRepeatClipRow.holds Try.pinned (OpenSpec.ofChange fnExactRepeatClipWrong)

/-- 'laws.FnExactSplitClip': WHATEVER THE INPUT: true; the input reads as it did. -/
def fnExactSplitClipSpec : ChangeSpec := { name := "fnExactSplitClip", fn := fun _ => fun
  | [d1, d2, d3] => { results := [.lit (.bool true)], args := [d1, d2, d3] }
  | _ => none }
def fnExactSplitClipRow : OpenClaim := { program := "ytdobhipbgpiceaa", sum := "ba0081e1466bb9ff8294da0642260232da54ebccc30b4b0daec50d975698fc8f", func := "loop.example/g01170/laws.FnExactSplitClip", spec := "fnExactSplitClip", inPlace := ["slices.overlaps[loop.example/g01170/impl.Clip]"], apart := false }
def FnExactSplitClipSaid : Prop := fnExactSplitClipRow.holds Try.pinned (OpenSpec.ofChange fnExactSplitClipSpec)

/-- ITS FALSE NEIGHBOUR: 'it returns false'. Refute it at one input. -/
def fnExactSplitClipWrong : ChangeSpec := { name := "fnExactSplitClip", fn := fun _ => fun
  | [d1, d2, d3] => { results := [.lit (.bool false)], args := [d1, d2, d3] }
  | _ => none }
def FnExactSplitClipWrongFalsely : Prop := fnExactSplitClipRow.holds Try.pinned (OpenSpec.ofChange fnExactSplitClipWrong)

/-- 'laws.FnExactCompileSession': WHATEVER THE INPUT: true; the input reads as it did. -/
def fnExactCompileSessionSpec : ChangeSpec := { name := "fnExactCompileSession", fn := fun _ => fun
  | [d] => { results := [.lit (.bool true)], args := [d] }
  | _ => none }
def fnExactCompileSessionRow : OpenClaim := { program := "ytdobhipbgpiceaa", sum := "ba0081e1466bb9ff8294da0642260232da54ebccc30b4b0daec50d975698fc8f", func := "loop.example/g01170/laws.FnExactCompileSession", spec := "fnExactCompileSession", unfollowed := true, recurses := true, apart := false }
def FnExactCompileSessionSaid : Prop := fnExactCompileSessionRow.holds Try.pinned (OpenSpec.ofChange fnExactCompileSessionSpec)

/-- ITS FALSE NEIGHBOUR: 'it returns false'. Refute it at one input. -/
def fnExactCompileSessionWrong : ChangeSpec := { name := "fnExactCompileSession", fn := fun _ => fun
  | [d] => { results := [.lit (.bool false)], args := [d] }
  | _ => none }
def FnExactCompileSessionWrongFalsely : Prop := fnExactCompileSessionRow.holds Try.pinned (OpenSpec.ofChange fnExactCompileSessionWrong)

/- THE SECOND FORM. 'bulk': how many values and letters a reading holds, each counted each time it is reached (what is shared counts as often as it is met; a slice's spare places count too). A statement '..UptoSaid' is the law's where the arguments, and the package variables that the reading takes, are together of bulk at most 1048576: NARROWER than '..Said'. Prove '..Said' where nothing that the law and all that it calls make is longer than what came in: it says more and counts as full. Else prove '..UptoSaid'. A law counts once. -/
mutual
def uptoBulk {H : Type} : DataW H → Nat
  | .lit (.string bytes) => bytes.length + 1
  | .lit _ => 1
  | .nil => 1
  | .ptr d => uptoBulk d + 1
  | .slice elems spare => uptoBulkAll elems + uptoBulkAll spare + 1
  | .agg parts => uptoBulkAll parts + 1
  | .iface _ d => uptoBulk d + 1
  | .map entries => uptoBulkEntries entries + 1
  | .held _ => 1
def uptoBulkAll {H : Type} : List (DataW H) → Nat
  | [] => 0
  | d :: r => uptoBulk d + uptoBulkAll r
def uptoBulkEntries {H : Type} : List (Lit × DataW H) → Nat
  | [] => 0
  | x :: r => uptoBulkEntry x + uptoBulkEntries r
def uptoBulkEntry {H : Type} : Lit × DataW H → Nat
  | (.string bytes, d) => bytes.length + uptoBulk d + 1
  | (_, d) => uptoBulk d + 1
 end
def uptoSmall : (H : Type) → List (DataW H) → Bool := fun _ ds => decide (uptoBulkAll ds ≤ 1048576)
def OpenSpec.upto (s : _root_.Go.ChangeSpec) : _root_.Go.OpenSpec := { _root_.Go.OpenSpec.ofChange s with cond := some uptoSmall }

/-- 'laws.FnLoudness', WHERE WHAT IT READS IS OF BULK AT MOST 1048576: true; the input reads as it did. -/
def fnLoudnessUptoRow : OpenClaim := { program := "ytdobhipbgpiceaa", sum := "ba0081e1466bb9ff8294da0642260232da54ebccc30b4b0daec50d975698fc8f", func := "loop.example/g01170/laws.FnLoudness", spec := "fnLoudness", inPlace := ["math.Float32bits"], apart := false, narrowed := true }
def FnLoudnessUptoSaid : Prop := fnLoudnessUptoRow.holds Try.pinned (OpenSpec.upto fnLoudnessSpec)

/-- 'laws.FnChainBlocks', WHERE WHAT IT READS IS OF BULK AT MOST 1048576: true; the input reads as it did. -/
def fnChainBlocksUptoRow : OpenClaim := { program := "ytdobhipbgpiceaa", sum := "ba0081e1466bb9ff8294da0642260232da54ebccc30b4b0daec50d975698fc8f", func := "loop.example/g01170/laws.FnChainBlocks", spec := "fnChainBlocks", inPlace := ["math.Float32frombits", "math.Float64bits", "math.Float64frombits", "math.Float32bits"], apart := false, narrowed := true }
def FnChainBlocksUptoSaid : Prop := fnChainBlocksUptoRow.holds Try.pinned (OpenSpec.upto fnChainBlocksSpec)

/-- 'laws.FnChainParts', WHERE WHAT IT READS IS OF BULK AT MOST 1048576: true; the input reads as it did. -/
def fnChainPartsUptoRow : OpenClaim := { program := "ytdobhipbgpiceaa", sum := "ba0081e1466bb9ff8294da0642260232da54ebccc30b4b0daec50d975698fc8f", func := "loop.example/g01170/laws.FnChainParts", spec := "fnChainParts", inPlace := ["math.Float32frombits", "math.Float64bits", "math.Float64frombits", "math.Float32bits"], apart := false, narrowed := true }
def FnChainPartsUptoSaid : Prop := fnChainPartsUptoRow.holds Try.pinned (OpenSpec.upto fnChainPartsSpec)

/-- 'laws.FnNodes', WHERE WHAT IT READS IS OF BULK AT MOST 1048576: true; the input reads as it did. -/
def fnNodesUptoRow : OpenClaim := { program := "ytdobhipbgpiceaa", sum := "ba0081e1466bb9ff8294da0642260232da54ebccc30b4b0daec50d975698fc8f", func := "loop.example/g01170/laws.FnNodes", spec := "fnNodes", inPlace := ["math.Float32frombits", "math.Float32bits"], apart := false, narrowed := true }
def FnNodesUptoSaid : Prop := fnNodesUptoRow.holds Try.pinned (OpenSpec.upto fnNodesSpec)

/-- 'laws.FnFilterRows', WHERE WHAT IT READS IS OF BULK AT MOST 1048576: true; the input reads as it did. -/
def fnFilterRowsUptoRow : OpenClaim := { program := "ytdobhipbgpiceaa", sum := "ba0081e1466bb9ff8294da0642260232da54ebccc30b4b0daec50d975698fc8f", func := "loop.example/g01170/laws.FnFilterRows", spec := "fnFilterRows", inPlace := ["math.Float32frombits", "math.Float64bits", "math.Float64frombits", "math.Float32bits"], apart := false, narrowed := true }
def FnFilterRowsUptoSaid : Prop := fnFilterRowsUptoRow.holds Try.pinned (OpenSpec.upto fnFilterRowsSpec)

/-- 'laws.FnClips', WHERE WHAT IT READS IS OF BULK AT MOST 1048576: true; the input reads as it did. -/
def fnClipsUptoRow : OpenClaim := { program := "ytdobhipbgpiceaa", sum := "ba0081e1466bb9ff8294da0642260232da54ebccc30b4b0daec50d975698fc8f", func := "loop.example/g01170/laws.FnClips", spec := "fnClips", inPlace := ["math.Float32frombits", "math.Float32bits"], apart := false, narrowed := true }
def FnClipsUptoSaid : Prop := fnClipsUptoRow.holds Try.pinned (OpenSpec.upto fnClipsSpec)

/-- 'laws.FnExactRepeatClip', WHERE WHAT IT READS IS OF BULK AT MOST 1048576: true; the input reads as it did. -/
def fnExactRepeatClipUptoRow : OpenClaim := { program := "ytdobhipbgpiceaa", sum := "ba0081e1466bb9ff8294da0642260232da54ebccc30b4b0daec50d975698fc8f", func := "loop.example/g01170/laws.FnExactRepeatClip", spec := "fnExactRepeatClip", apart := false, narrowed := true }
def FnExactRepeatClipUptoSaid : Prop := fnExactRepeatClipUptoRow.holds Try.pinned (OpenSpec.upto fnExactRepeatClipSpec)

/-- 'laws.FnExactSplitClip', WHERE WHAT IT READS IS OF BULK AT MOST 1048576: true; the input reads as it did. -/
def fnExactSplitClipUptoRow : OpenClaim := { program := "ytdobhipbgpiceaa", sum := "ba0081e1466bb9ff8294da0642260232da54ebccc30b4b0daec50d975698fc8f", func := "loop.example/g01170/laws.FnExactSplitClip", spec := "fnExactSplitClip", inPlace := ["slices.overlaps[loop.example/g01170/impl.Clip]"], apart := false, narrowed := true }
def FnExactSplitClipUptoSaid : Prop := fnExactSplitClipUptoRow.holds Try.pinned (OpenSpec.upto fnExactSplitClipSpec)

/-- 'laws.FnExactCompileSession', WHERE WHAT IT READS IS OF BULK AT MOST 1048576: true; the input reads as it did. -/
def fnExactCompileSessionUptoRow : OpenClaim := { program := "ytdobhipbgpiceaa", sum := "ba0081e1466bb9ff8294da0642260232da54ebccc30b4b0daec50d975698fc8f", func := "loop.example/g01170/laws.FnExactCompileSession", spec := "fnExactCompileSession", unfollowed := true, recurses := true, apart := false, narrowed := true }
def FnExactCompileSessionUptoSaid : Prop := fnExactCompileSessionUptoRow.holds Try.pinned (OpenSpec.upto fnExactCompileSessionSpec)

end Rows
end Go.Proofs.Ytdobhipbgpiceaa
