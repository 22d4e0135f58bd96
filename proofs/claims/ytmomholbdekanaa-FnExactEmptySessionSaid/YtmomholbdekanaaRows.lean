/-
  No cell of these rows narrows 'for every input' (looked for: loops, veiled, ifaces, maps, wideKeys, modest, calm, conditions, laid).
  DERIVED. THE GIVEN ROWS OF THIS SEAT. 6 by the template 'for every input the law returns true; each argument reads behind the call as it read before'; 0 by the template 'total and deterministic' (their statements: YtmomholbdekanaaTotals.lean).
  GIVEN WITH THE SEED: the statements are not yours to turn. If you find one false, say at which input.
  Laid BY PROGRAM, IN A SANDBOX (cutbox-rows.mjs): the forced cells as the released guide's own fill.sh prints them over the translation d60aacca42013c65… (all of the seat's roots in one cut). By AI agents, Wed Nov 11 2026. No macro, syntax, notation, axiom, sorry.
-/
import Derived.Test.YtmomholbdekanaaChecked
import GoSem.Claim
import GoSem.ClaimJoined
import GoSem.ClaimMapViews
import Derived.JoinedTies
import Derived.KernelRfl
namespace Go.Proofs.Ytmomholbdekanaa
/- THE CELL 'sum', in the pinned program and in every row, IS THE sha256 OF THE DUMP (.gsa) THAT YtmomholbdekanaaProg.lean LOADS. Nothing in Lean hashes anything: it is a label: what it is worth is what the hold of that sum in a sandbox is worth. -/
noncomputable def Try.pinned : Pinned := { name := "ytmomholbdekanaa", sum := "d60aacca42013c65fa18329b142a4ec66b4df1c981c88c97c66c504ba3446c33", checked := Try.checked }
namespace Rows
def none {H : Type} : Left H := { results := [], args := [] }

/-- 'laws.FnClips': WHATEVER THE INPUT: true; the input reads as it did. -/
def fnClipsSpec : ChangeSpec := { name := "fnClips", fn := fun _ => fun
  | [d1, d2] => { results := [.lit (.bool true)], args := [d1, d2] }
  | _ => none }
def fnClipsRow : OpenClaim := { program := "ytmomholbdekanaa", sum := "d60aacca42013c65fa18329b142a4ec66b4df1c981c88c97c66c504ba3446c33", func := "loop.example/g01170/laws.FnClips", spec := "fnClips", inPlace := ["math.Float32frombits", "math.Float32bits"], apart := false }
def FnClipsSaid : Prop := fnClipsRow.holds Try.pinned (OpenSpec.ofChange fnClipsSpec)

/-- ITS FALSE NEIGHBOUR: 'it returns false'. Refute it at one input. -/
def fnClipsWrong : ChangeSpec := { name := "fnClips", fn := fun _ => fun
  | [d1, d2] => { results := [.lit (.bool false)], args := [d1, d2] }
  | _ => none }
def FnClipsWrongFalsely : Prop := fnClipsRow.holds Try.pinned (OpenSpec.ofChange fnClipsWrong)

/-- 'laws.FnChainBlocks': WHATEVER THE INPUT: true; the input reads as it did. -/
def fnChainBlocksSpec : ChangeSpec := { name := "fnChainBlocks", fn := fun _ => fun
  | [d1, d2] => { results := [.lit (.bool true)], args := [d1, d2] }
  | _ => none }
def fnChainBlocksRow : OpenClaim := { program := "ytmomholbdekanaa", sum := "d60aacca42013c65fa18329b142a4ec66b4df1c981c88c97c66c504ba3446c33", func := "loop.example/g01170/laws.FnChainBlocks", spec := "fnChainBlocks", inPlace := ["math.Float32frombits", "math.Float64bits", "math.Float64frombits", "math.Float32bits"], apart := false }
def FnChainBlocksSaid : Prop := fnChainBlocksRow.holds Try.pinned (OpenSpec.ofChange fnChainBlocksSpec)

/-- ITS FALSE NEIGHBOUR: 'it returns false'. Refute it at one input. -/
def fnChainBlocksWrong : ChangeSpec := { name := "fnChainBlocks", fn := fun _ => fun
  | [d1, d2] => { results := [.lit (.bool false)], args := [d1, d2] }
  | _ => none }
def FnChainBlocksWrongFalsely : Prop := fnChainBlocksRow.holds Try.pinned (OpenSpec.ofChange fnChainBlocksWrong)

/-- 'laws.FnChainParts': WHATEVER THE INPUT: true; the input reads as it did. -/
def fnChainPartsSpec : ChangeSpec := { name := "fnChainParts", fn := fun _ => fun
  | [d1, d2] => { results := [.lit (.bool true)], args := [d1, d2] }
  | _ => none }
def fnChainPartsRow : OpenClaim := { program := "ytmomholbdekanaa", sum := "d60aacca42013c65fa18329b142a4ec66b4df1c981c88c97c66c504ba3446c33", func := "loop.example/g01170/laws.FnChainParts", spec := "fnChainParts", inPlace := ["math.Float32frombits", "math.Float64bits", "math.Float64frombits", "math.Float32bits"], apart := false }
def FnChainPartsSaid : Prop := fnChainPartsRow.holds Try.pinned (OpenSpec.ofChange fnChainPartsSpec)

/-- ITS FALSE NEIGHBOUR: 'it returns false'. Refute it at one input. -/
def fnChainPartsWrong : ChangeSpec := { name := "fnChainParts", fn := fun _ => fun
  | [d1, d2] => { results := [.lit (.bool false)], args := [d1, d2] }
  | _ => none }
def FnChainPartsWrongFalsely : Prop := fnChainPartsRow.holds Try.pinned (OpenSpec.ofChange fnChainPartsWrong)

/-- 'laws.FnExactEmptySession': WHATEVER THE INPUT: true; the input reads as it did. -/
def fnExactEmptySessionSpec : ChangeSpec := { name := "fnExactEmptySession", fn := fun _ => fun
  | [] => { results := [.lit (.bool true)], args := [] }
  | _ => none }
def fnExactEmptySessionRow : OpenClaim := { program := "ytmomholbdekanaa", sum := "d60aacca42013c65fa18329b142a4ec66b4df1c981c88c97c66c504ba3446c33", func := "loop.example/g01170/laws.FnExactEmptySession", spec := "fnExactEmptySession", apart := false }
def FnExactEmptySessionSaid : Prop := fnExactEmptySessionRow.holds Try.pinned (OpenSpec.ofChange fnExactEmptySessionSpec)

/-- ITS FALSE NEIGHBOUR: 'it returns false'. Refute it at one input. -/
def fnExactEmptySessionWrong : ChangeSpec := { name := "fnExactEmptySession", fn := fun _ => fun
  | [] => { results := [.lit (.bool false)], args := [] }
  | _ => none }
def FnExactEmptySessionWrongFalsely : Prop := fnExactEmptySessionRow.holds Try.pinned (OpenSpec.ofChange fnExactEmptySessionWrong)

/-- 'laws.FnExactRepeatClip': WHATEVER THE INPUT: true; the input reads as it did. -/
def fnExactRepeatClipSpec : ChangeSpec := { name := "fnExactRepeatClip", fn := fun _ => fun
  | [d1, d2, d3] => { results := [.lit (.bool true)], args := [d1, d2, d3] }
  | _ => none }
def fnExactRepeatClipRow : OpenClaim := { program := "ytmomholbdekanaa", sum := "d60aacca42013c65fa18329b142a4ec66b4df1c981c88c97c66c504ba3446c33", func := "loop.example/g01170/laws.FnExactRepeatClip", spec := "fnExactRepeatClip", apart := false }
def FnExactRepeatClipSaid : Prop := fnExactRepeatClipRow.holds Try.pinned (OpenSpec.ofChange fnExactRepeatClipSpec)

/-- ITS FALSE NEIGHBOUR: 'it returns false'. Refute it at one input. -/
def fnExactRepeatClipWrong : ChangeSpec := { name := "fnExactRepeatClip", fn := fun _ => fun
  | [d1, d2, d3] => { results := [.lit (.bool false)], args := [d1, d2, d3] }
  | _ => none }
def FnExactRepeatClipWrongFalsely : Prop := fnExactRepeatClipRow.holds Try.pinned (OpenSpec.ofChange fnExactRepeatClipWrong)

/-- 'laws.FnExactSplitClip': WHATEVER THE INPUT: true; the input reads as it did. -/
def fnExactSplitClipSpec : ChangeSpec := { name := "fnExactSplitClip", fn := fun _ => fun
  | [d1, d2, d3] => { results := [.lit (.bool true)], args := [d1, d2, d3] }
  | _ => none }
def fnExactSplitClipRow : OpenClaim := { program := "ytmomholbdekanaa", sum := "d60aacca42013c65fa18329b142a4ec66b4df1c981c88c97c66c504ba3446c33", func := "loop.example/g01170/laws.FnExactSplitClip", spec := "fnExactSplitClip", inPlace := ["slices.overlaps[loop.example/g01170/impl.Clip]"], apart := false }
def FnExactSplitClipSaid : Prop := fnExactSplitClipRow.holds Try.pinned (OpenSpec.ofChange fnExactSplitClipSpec)

/-- ITS FALSE NEIGHBOUR: 'it returns false'. Refute it at one input. -/
def fnExactSplitClipWrong : ChangeSpec := { name := "fnExactSplitClip", fn := fun _ => fun
  | [d1, d2, d3] => { results := [.lit (.bool false)], args := [d1, d2, d3] }
  | _ => none }
def FnExactSplitClipWrongFalsely : Prop := fnExactSplitClipRow.holds Try.pinned (OpenSpec.ofChange fnExactSplitClipWrong)

/- THE SECOND FORM. 'bulk': how many values and letters a reading holds, each counted each time it is reached (what is shared counts as often as it is met; a slice's spare places count too). A statement '..UptoSaid' is the law's where the arguments, and the package variables that the reading takes, are together of bulk at most 1048576: NARROWER than '..Said'. Prove '..Said' where nothing that the law and all that it calls make is longer than what came in: it says more and counts as full. Else prove '..UptoSaid'. A law counts once. -/
mutual
def uptoBulk {H : Type} : DataW H → Nat
  | .lit (.string bytes) => bytes.length + 1
  | .lit _ => 1
  | .nil => 1
  | .ptr d => uptoBulk d + 1
  | .slice elems spare => uptoBulkAll elems + uptoBulkAll spare + 1
  | .agg parts => uptoBulkAll parts + 1
  | .iface _ d => uptoBulk d + 1
  | .map entries => uptoBulkEntries entries + 1
  | .held _ => 1
def uptoBulkAll {H : Type} : List (DataW H) → Nat
  | [] => 0
  | d :: r => uptoBulk d + uptoBulkAll r
def uptoBulkEntries {H : Type} : List (Lit × DataW H) → Nat
  | [] => 0
  | x :: r => uptoBulkEntry x + uptoBulkEntries r
def uptoBulkEntry {H : Type} : Lit × DataW H → Nat
  | (.string bytes, d) => bytes.length + uptoBulk d + 1
  | (_, d) => uptoBulk d + 1
 end
def uptoSmall : (H : Type) → List (DataW H) → Bool := fun _ ds => decide (uptoBulkAll ds ≤ 1048576)
def OpenSpec.upto (s : _root_.Go.ChangeSpec) : _root_.Go.OpenSpec := { _root_.Go.OpenSpec.ofChange s with cond := some uptoSmall }

/-- 'laws.FnClips', WHERE WHAT IT READS IS OF BULK AT MOST 1048576: true; the input reads as it did. -/
def fnClipsUptoRow : OpenClaim := { program := "ytmomholbdekanaa", sum := "d60aacca42013c65fa18329b142a4ec66b4df1c981c88c97c66c504ba3446c33", func := "loop.example/g01170/laws.FnClips", spec := "fnClips", inPlace := ["math.Float32frombits", "math.Float32bits"], apart := false, narrowed := true }
def FnClipsUptoSaid : Prop := fnClipsUptoRow.holds Try.pinned (OpenSpec.upto fnClipsSpec)

/-- 'laws.FnChainBlocks', WHERE WHAT IT READS IS OF BULK AT MOST 1048576: true; the input reads as it did. -/
def fnChainBlocksUptoRow : OpenClaim := { program := "ytmomholbdekanaa", sum := "d60aacca42013c65fa18329b142a4ec66b4df1c981c88c97c66c504ba3446c33", func := "loop.example/g01170/laws.FnChainBlocks", spec := "fnChainBlocks", inPlace := ["math.Float32frombits", "math.Float64bits", "math.Float64frombits", "math.Float32bits"], apart := false, narrowed := true }
def FnChainBlocksUptoSaid : Prop := fnChainBlocksUptoRow.holds Try.pinned (OpenSpec.upto fnChainBlocksSpec)

/-- 'laws.FnChainParts', WHERE WHAT IT READS IS OF BULK AT MOST 1048576: true; the input reads as it did. -/
def fnChainPartsUptoRow : OpenClaim := { program := "ytmomholbdekanaa", sum := "d60aacca42013c65fa18329b142a4ec66b4df1c981c88c97c66c504ba3446c33", func := "loop.example/g01170/laws.FnChainParts", spec := "fnChainParts", inPlace := ["math.Float32frombits", "math.Float64bits", "math.Float64frombits", "math.Float32bits"], apart := false, narrowed := true }
def FnChainPartsUptoSaid : Prop := fnChainPartsUptoRow.holds Try.pinned (OpenSpec.upto fnChainPartsSpec)

/-- 'laws.FnExactEmptySession', WHERE WHAT IT READS IS OF BULK AT MOST 1048576: true; the input reads as it did. -/
def fnExactEmptySessionUptoRow : OpenClaim := { program := "ytmomholbdekanaa", sum := "d60aacca42013c65fa18329b142a4ec66b4df1c981c88c97c66c504ba3446c33", func := "loop.example/g01170/laws.FnExactEmptySession", spec := "fnExactEmptySession", apart := false, narrowed := true }
def FnExactEmptySessionUptoSaid : Prop := fnExactEmptySessionUptoRow.holds Try.pinned (OpenSpec.upto fnExactEmptySessionSpec)

/-- 'laws.FnExactRepeatClip', WHERE WHAT IT READS IS OF BULK AT MOST 1048576: true; the input reads as it did. -/
def fnExactRepeatClipUptoRow : OpenClaim := { program := "ytmomholbdekanaa", sum := "d60aacca42013c65fa18329b142a4ec66b4df1c981c88c97c66c504ba3446c33", func := "loop.example/g01170/laws.FnExactRepeatClip", spec := "fnExactRepeatClip", apart := false, narrowed := true }
def FnExactRepeatClipUptoSaid : Prop := fnExactRepeatClipUptoRow.holds Try.pinned (OpenSpec.upto fnExactRepeatClipSpec)

/-- 'laws.FnExactSplitClip', WHERE WHAT IT READS IS OF BULK AT MOST 1048576: true; the input reads as it did. -/
def fnExactSplitClipUptoRow : OpenClaim := { program := "ytmomholbdekanaa", sum := "d60aacca42013c65fa18329b142a4ec66b4df1c981c88c97c66c504ba3446c33", func := "loop.example/g01170/laws.FnExactSplitClip", spec := "fnExactSplitClip", inPlace := ["slices.overlaps[loop.example/g01170/impl.Clip]"], apart := false, narrowed := true }
def FnExactSplitClipUptoSaid : Prop := fnExactSplitClipUptoRow.holds Try.pinned (OpenSpec.upto fnExactSplitClipSpec)

end Rows
end Go.Proofs.Ytmomholbdekanaa
