/-
  No cell of these rows narrows 'for every input' (looked for: loops, veiled, ifaces, maps, wideKeys, modest, calm, conditions, laid).
  DERIVED. THE GIVEN ROWS OF THIS SEAT. 3 by the template 'for every input the law returns true; each argument reads behind the call as it read before'; 0 by the template 'total and deterministic' (their statements: YtokonabdnlckdaaGreatTotals.lean).
  GIVEN WITH THE SEED: the statements are not yours to turn. If you find one false, say at which input.
  Laid BY PROGRAM, IN A SANDBOX (cutbox-rows.mjs): the forced cells as the released guide's own fill.sh prints them over the translation a017e11bee67d93c… (all of the seat's roots in one cut). By AI agents, Wed Nov 11 2026. No macro, syntax, notation, axiom, sorry.
-/
import Derived.Test.YtokonabdnlckdaaGreatChecked
import GoSem.Claim
import GoSem.ClaimJoined
import GoSem.ClaimMapViews
import Derived.JoinedTies
import Derived.KernelRfl
namespace Go.Proofs.YtokonabdnlckdaaGreat
/- THE CELL 'sum', in the pinned program and in every row, IS THE sha256 OF THE DUMP (.gsa) THAT YtokonabdnlckdaaGreatProg.lean LOADS. Nothing in Lean hashes anything: it is a label: what it is worth is what the hold of that sum in a sandbox is worth. -/
noncomputable def Tryz.pinned : Pinned := { name := "ytokonabdnlckdaagreat", sum := "a017e11bee67d93ca6faa4ba3d28524adc25f862ca939fec76abdd76b3950562", checked := Tryz.checked }
namespace Rows
def none {H : Type} : Left H := { results := [], args := [] }

/-- 'laws.FnBlocks': WHATEVER THE INPUT: true; the input reads as it did. -/
def fnBlocksSpec : ChangeSpec := { name := "fnBlocks", fn := fun _ => fun
  | [d1, d2] => { results := [.lit (.bool true)], args := [d1, d2] }
  | _ => none }
def fnBlocksRow : OpenClaim := { program := "ytokonabdnlckdaagreat", sum := "a017e11bee67d93ca6faa4ba3d28524adc25f862ca939fec76abdd76b3950562", func := "loop.example/g01170/laws.FnBlocks", spec := "fnBlocks", inPlace := ["math.Float32frombits", "math.Float64bits", "math.Float64frombits", "math.archTrunc", "math.Float32bits", "slices.overlaps[loop.example/g01170/impl.Clip]"], apart := false }
def FnBlocksSaid : Prop := fnBlocksRow.holds Tryz.pinned (OpenSpec.ofChange fnBlocksSpec)

/-- ITS FALSE NEIGHBOUR: 'it returns false'. Refute it at one input. -/
def fnBlocksWrong : ChangeSpec := { name := "fnBlocks", fn := fun _ => fun
  | [d1, d2] => { results := [.lit (.bool false)], args := [d1, d2] }
  | _ => none }
def FnBlocksWrongFalsely : Prop := fnBlocksRow.holds Tryz.pinned (OpenSpec.ofChange fnBlocksWrong)

/-- 'laws.FnExactBounceSession': WHATEVER THE INPUT: true; the input reads as it did. -/
def fnExactBounceSessionSpec : ChangeSpec := { name := "fnExactBounceSession", fn := fun _ => fun
  | [d1, d2] => { results := [.lit (.bool true)], args := [d1, d2] }
  | _ => none }
def fnExactBounceSessionRow : OpenClaim := { program := "ytokonabdnlckdaagreat", sum := "a017e11bee67d93ca6faa4ba3d28524adc25f862ca939fec76abdd76b3950562", func := "loop.example/g01170/laws.FnExactBounceSession", spec := "fnExactBounceSession", inPlace := ["math.Float32bits", "math.Float32frombits", "math.Float64frombits", "math.Float64bits", "math.archTrunc"], apart := false }
def FnExactBounceSessionSaid : Prop := fnExactBounceSessionRow.holds Tryz.pinned (OpenSpec.ofChange fnExactBounceSessionSpec)

/-- ITS FALSE NEIGHBOUR: 'it returns false'. Refute it at one input. -/
def fnExactBounceSessionWrong : ChangeSpec := { name := "fnExactBounceSession", fn := fun _ => fun
  | [d1, d2] => { results := [.lit (.bool false)], args := [d1, d2] }
  | _ => none }
def FnExactBounceSessionWrongFalsely : Prop := fnExactBounceSessionRow.holds Tryz.pinned (OpenSpec.ofChange fnExactBounceSessionWrong)

/-- 'laws.FnExactBounceBlocks': WHATEVER THE INPUT: true; the input reads as it did. -/
def fnExactBounceBlocksSpec : ChangeSpec := { name := "fnExactBounceBlocks", fn := fun _ => fun
  | [d1, d2, d3] => { results := [.lit (.bool true)], args := [d1, d2, d3] }
  | _ => none }
def fnExactBounceBlocksRow : OpenClaim := { program := "ytokonabdnlckdaagreat", sum := "a017e11bee67d93ca6faa4ba3d28524adc25f862ca939fec76abdd76b3950562", func := "loop.example/g01170/laws.FnExactBounceBlocks", spec := "fnExactBounceBlocks", inPlace := ["math.Float32bits", "math.Float32frombits", "math.Float64frombits", "math.Float64bits", "math.archTrunc"], apart := false }
def FnExactBounceBlocksSaid : Prop := fnExactBounceBlocksRow.holds Tryz.pinned (OpenSpec.ofChange fnExactBounceBlocksSpec)

/-- ITS FALSE NEIGHBOUR: 'it returns false'. Refute it at one input. -/
def fnExactBounceBlocksWrong : ChangeSpec := { name := "fnExactBounceBlocks", fn := fun _ => fun
  | [d1, d2, d3] => { results := [.lit (.bool false)], args := [d1, d2, d3] }
  | _ => none }
def FnExactBounceBlocksWrongFalsely : Prop := fnExactBounceBlocksRow.holds Tryz.pinned (OpenSpec.ofChange fnExactBounceBlocksWrong)

/- THE SECOND FORM. 'bulk': how many values and letters a reading holds, each counted each time it is reached (what is shared counts as often as it is met; a slice's spare places count too). A statement '..UptoSaid' is the law's where the arguments, and the package variables that the reading takes, are together of bulk at most 1048576: NARROWER than '..Said'. Prove '..Said' where nothing that the law and all that it calls make is longer than what came in: it says more and counts as full. Else prove '..UptoSaid'. A law counts once. -/
mutual
def uptoBulk {H : Type} : DataW H → Nat
  | .lit (.string bytes) => bytes.length + 1
  | .lit _ => 1
  | .nil => 1
  | .ptr d => uptoBulk d + 1
  | .slice elems spare => uptoBulkAll elems + uptoBulkAll spare + 1
  | .agg parts => uptoBulkAll parts + 1
  | .iface _ d => uptoBulk d + 1
  | .map entries => uptoBulkEntries entries + 1
  | .held _ => 1
def uptoBulkAll {H : Type} : List (DataW H) → Nat
  | [] => 0
  | d :: r => uptoBulk d + uptoBulkAll r
def uptoBulkEntries {H : Type} : List (Lit × DataW H) → Nat
  | [] => 0
  | x :: r => uptoBulkEntry x + uptoBulkEntries r
def uptoBulkEntry {H : Type} : Lit × DataW H → Nat
  | (.string bytes, d) => bytes.length + uptoBulk d + 1
  | (_, d) => uptoBulk d + 1
 end
def uptoSmall : (H : Type) → List (DataW H) → Bool := fun _ ds => decide (uptoBulkAll ds ≤ 1048576)
def OpenSpec.upto (s : _root_.Go.ChangeSpec) : _root_.Go.OpenSpec := { _root_.Go.OpenSpec.ofChange s with cond := some uptoSmall }

/-- 'laws.FnBlocks', WHERE WHAT IT READS IS OF BULK AT MOST 1048576: true; the input reads as it did. -/
def fnBlocksUptoRow : OpenClaim := { program := "ytokonabdnlckdaagreat", sum := "a017e11bee67d93ca6faa4ba3d28524adc25f862ca939fec76abdd76b3950562", func := "loop.example/g01170/laws.FnBlocks", spec := "fnBlocks", inPlace := ["math.Float32frombits", "math.Float64bits", "math.Float64frombits", "math.archTrunc", "math.Float32bits", "slices.overlaps[loop.example/g01170/impl.Clip]"], apart := false, narrowed := true }
def FnBlocksUptoSaid : Prop := fnBlocksUptoRow.holds Tryz.pinned (OpenSpec.upto fnBlocksSpec)

/-- 'laws.FnExactBounceSession', WHERE WHAT IT READS IS OF BULK AT MOST 1048576: true; the input reads as it did. -/
def fnExactBounceSessionUptoRow : OpenClaim := { program := "ytokonabdnlckdaagreat", sum := "a017e11bee67d93ca6faa4ba3d28524adc25f862ca939fec76abdd76b3950562", func := "loop.example/g01170/laws.FnExactBounceSession", spec := "fnExactBounceSession", inPlace := ["math.Float32bits", "math.Float32frombits", "math.Float64frombits", "math.Float64bits", "math.archTrunc"], apart := false, narrowed := true }
def FnExactBounceSessionUptoSaid : Prop := fnExactBounceSessionUptoRow.holds Tryz.pinned (OpenSpec.upto fnExactBounceSessionSpec)

/-- 'laws.FnExactBounceBlocks', WHERE WHAT IT READS IS OF BULK AT MOST 1048576: true; the input reads as it did. -/
def fnExactBounceBlocksUptoRow : OpenClaim := { program := "ytokonabdnlckdaagreat", sum := "a017e11bee67d93ca6faa4ba3d28524adc25f862ca939fec76abdd76b3950562", func := "loop.example/g01170/laws.FnExactBounceBlocks", spec := "fnExactBounceBlocks", inPlace := ["math.Float32bits", "math.Float32frombits", "math.Float64frombits", "math.Float64bits", "math.archTrunc"], apart := false, narrowed := true }
def FnExactBounceBlocksUptoSaid : Prop := fnExactBounceBlocksUptoRow.holds Tryz.pinned (OpenSpec.upto fnExactBounceBlocksSpec)

end Rows
end Go.Proofs.YtokonabdnlckdaaGreat
