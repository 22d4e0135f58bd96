/-
  No cell of these rows narrows 'for every input' (looked for: loops, veiled, ifaces, maps, wideKeys, modest, calm, conditions, laid).
  DERIVED. THE GIVEN ROWS OF THIS SEAT. 7 by the template 'for every input the law returns true; each argument reads behind the call as it read before'; 0 by the template 'total and deterministic' (their statements: YtklihgoobdbamaaTotals.lean).
  GIVEN WITH THE SEED: the statements are not yours to turn. If you find one false, say at which input.
  Laid BY PROGRAM, IN A SANDBOX (cutbox-rows.mjs): the forced cells as the released guide's own fill.sh prints them over the translation caf7d06e8a28a3d7… (all of the seat's roots in one cut). By AI agents, Wed Nov 11 2026. No macro, syntax, notation, axiom, sorry.
-/
import Derived.Test.YtklihgoobdbamaaChecked
import GoSem.Claim
import GoSem.ClaimJoined
import GoSem.ClaimMapViews
import Derived.JoinedTies
import Derived.KernelRfl
namespace Go.Proofs.Ytklihgoobdbamaa
/- THE CELL 'sum', in the pinned program and in every row, IS THE sha256 OF THE DUMP (.gsa) THAT YtklihgoobdbamaaProg.lean LOADS. Nothing in Lean hashes anything: it is a label: what it is worth is what the hold of that sum in a sandbox is worth. -/
noncomputable def Try.pinned : Pinned := { name := "ytklihgoobdbamaa", sum := "caf7d06e8a28a3d7620989e6c9f6798ebcc0b709ed89c98f9d66aeddaa89fcb0", checked := Try.checked }
namespace Rows
def none {H : Type} : Left H := { results := [], args := [] }

/-- 'laws.FnExactTenthsOf': WHATEVER THE INPUT: true; the input reads as it did. -/
def fnExactTenthsOfSpec : ChangeSpec := { name := "fnExactTenthsOf", fn := fun _ => fun
  | [d] => { results := [.lit (.bool true)], args := [d] }
  | _ => none }
def fnExactTenthsOfRow : OpenClaim := { program := "ytklihgoobdbamaa", sum := "caf7d06e8a28a3d7620989e6c9f6798ebcc0b709ed89c98f9d66aeddaa89fcb0", func := "loop.example/g01170/laws.FnExactTenthsOf", spec := "fnExactTenthsOf", inPlace := ["math.Float64frombits", "math.Float64bits", "math.RoundToEven"], apart := false }
def FnExactTenthsOfSaid : Prop := fnExactTenthsOfRow.holds Try.pinned (OpenSpec.ofChange fnExactTenthsOfSpec)

/-- ITS FALSE NEIGHBOUR: 'it returns false'. Refute it at one input. -/
def fnExactTenthsOfWrong : ChangeSpec := { name := "fnExactTenthsOf", fn := fun _ => fun
  | [d] => { results := [.lit (.bool false)], args := [d] }
  | _ => none }
def FnExactTenthsOfWrongFalsely : Prop := fnExactTenthsOfRow.holds Try.pinned (OpenSpec.ofChange fnExactTenthsOfWrong)

/-- 'laws.FnExactLoudnessOf': WHATEVER THE INPUT: true; the input reads as it did. -/
def fnExactLoudnessOfSpec : ChangeSpec := { name := "fnExactLoudnessOf", fn := fun _ => fun
  | [d1, d2, d3, d4] => { results := [.lit (.bool true)], args := [d1, d2, d3, d4] }
  | _ => none }
def fnExactLoudnessOfRow : OpenClaim := { program := "ytklihgoobdbamaa", sum := "caf7d06e8a28a3d7620989e6c9f6798ebcc0b709ed89c98f9d66aeddaa89fcb0", func := "loop.example/g01170/laws.FnExactLoudnessOf", spec := "fnExactLoudnessOf", apart := false }
def FnExactLoudnessOfSaid : Prop := fnExactLoudnessOfRow.holds Try.pinned (OpenSpec.ofChange fnExactLoudnessOfSpec)

/-- ITS FALSE NEIGHBOUR: 'it returns false'. Refute it at one input. -/
def fnExactLoudnessOfWrong : ChangeSpec := { name := "fnExactLoudnessOf", fn := fun _ => fun
  | [d1, d2, d3, d4] => { results := [.lit (.bool false)], args := [d1, d2, d3, d4] }
  | _ => none }
def FnExactLoudnessOfWrongFalsely : Prop := fnExactLoudnessOfRow.holds Try.pinned (OpenSpec.ofChange fnExactLoudnessOfWrong)

/-- 'laws.FnExactLikenessOf': WHATEVER THE INPUT: true; the input reads as it did. -/
def fnExactLikenessOfSpec : ChangeSpec := { name := "fnExactLikenessOf", fn := fun _ => fun
  | [d1, d2] => { results := [.lit (.bool true)], args := [d1, d2] }
  | _ => none }
def fnExactLikenessOfRow : OpenClaim := { program := "ytklihgoobdbamaa", sum := "caf7d06e8a28a3d7620989e6c9f6798ebcc0b709ed89c98f9d66aeddaa89fcb0", func := "loop.example/g01170/laws.FnExactLikenessOf", spec := "fnExactLikenessOf", inPlace := ["math.sqrt"], apart := false }
def FnExactLikenessOfSaid : Prop := fnExactLikenessOfRow.holds Try.pinned (OpenSpec.ofChange fnExactLikenessOfSpec)

/-- ITS FALSE NEIGHBOUR: 'it returns false'. Refute it at one input. -/
def fnExactLikenessOfWrong : ChangeSpec := { name := "fnExactLikenessOf", fn := fun _ => fun
  | [d1, d2] => { results := [.lit (.bool false)], args := [d1, d2] }
  | _ => none }
def FnExactLikenessOfWrongFalsely : Prop := fnExactLikenessOfRow.holds Try.pinned (OpenSpec.ofChange fnExactLikenessOfWrong)

/-- 'laws.FnExactClippedRuns': WHATEVER THE INPUT: true; the input reads as it did. -/
def fnExactClippedRunsSpec : ChangeSpec := { name := "fnExactClippedRuns", fn := fun _ => fun
  | [d1, d2, d3] => { results := [.lit (.bool true)], args := [d1, d2, d3] }
  | _ => none }
def fnExactClippedRunsRow : OpenClaim := { program := "ytklihgoobdbamaa", sum := "caf7d06e8a28a3d7620989e6c9f6798ebcc0b709ed89c98f9d66aeddaa89fcb0", func := "loop.example/g01170/laws.FnExactClippedRuns", spec := "fnExactClippedRuns", inPlace := ["math.Float32bits", "math.Float64bits", "math.Float64frombits"], apart := false }
def FnExactClippedRunsSaid : Prop := fnExactClippedRunsRow.holds Try.pinned (OpenSpec.ofChange fnExactClippedRunsSpec)

/-- ITS FALSE NEIGHBOUR: 'it returns false'. Refute it at one input. -/
def fnExactClippedRunsWrong : ChangeSpec := { name := "fnExactClippedRuns", fn := fun _ => fun
  | [d1, d2, d3] => { results := [.lit (.bool false)], args := [d1, d2, d3] }
  | _ => none }
def FnExactClippedRunsWrongFalsely : Prop := fnExactClippedRunsRow.holds Try.pinned (OpenSpec.ofChange fnExactClippedRunsWrong)

/-- 'laws.FnExactBalanceOf': WHATEVER THE INPUT: true; the input reads as it did. -/
def fnExactBalanceOfSpec : ChangeSpec := { name := "fnExactBalanceOf", fn := fun _ => fun
  | [d1, d2] => { results := [.lit (.bool true)], args := [d1, d2] }
  | _ => none }
def fnExactBalanceOfRow : OpenClaim := { program := "ytklihgoobdbamaa", sum := "caf7d06e8a28a3d7620989e6c9f6798ebcc0b709ed89c98f9d66aeddaa89fcb0", func := "loop.example/g01170/laws.FnExactBalanceOf", spec := "fnExactBalanceOf", inPlace := ["math.sqrt"], apart := false }
def FnExactBalanceOfSaid : Prop := fnExactBalanceOfRow.holds Try.pinned (OpenSpec.ofChange fnExactBalanceOfSpec)

/-- ITS FALSE NEIGHBOUR: 'it returns false'. Refute it at one input. -/
def fnExactBalanceOfWrong : ChangeSpec := { name := "fnExactBalanceOf", fn := fun _ => fun
  | [d1, d2] => { results := [.lit (.bool false)], args := [d1, d2] }
  | _ => none }
def FnExactBalanceOfWrongFalsely : Prop := fnExactBalanceOfRow.holds Try.pinned (OpenSpec.ofChange fnExactBalanceOfWrong)

/-- 'laws.FnExactPeakBetween': WHATEVER THE INPUT: true; the input reads as it did. -/
def fnExactPeakBetweenSpec : ChangeSpec := { name := "fnExactPeakBetween", fn := fun _ => fun
  | [d] => { results := [.lit (.bool true)], args := [d] }
  | _ => none }
def fnExactPeakBetweenRow : OpenClaim := { program := "ytklihgoobdbamaa", sum := "caf7d06e8a28a3d7620989e6c9f6798ebcc0b709ed89c98f9d66aeddaa89fcb0", func := "loop.example/g01170/laws.FnExactPeakBetween", spec := "fnExactPeakBetween", inPlace := ["math.Float32bits", "math.archFloor", "math.Float64bits", "math.Float64frombits", "math.archTrunc"], unfollowed := true, recurses := true, apart := false }
def FnExactPeakBetweenSaid : Prop := fnExactPeakBetweenRow.holds Try.pinned (OpenSpec.ofChange fnExactPeakBetweenSpec)

/-- ITS FALSE NEIGHBOUR: 'it returns false'. Refute it at one input. -/
def fnExactPeakBetweenWrong : ChangeSpec := { name := "fnExactPeakBetween", fn := fun _ => fun
  | [d] => { results := [.lit (.bool false)], args := [d] }
  | _ => none }
def FnExactPeakBetweenWrongFalsely : Prop := fnExactPeakBetweenRow.holds Try.pinned (OpenSpec.ofChange fnExactPeakBetweenWrong)

/-- 'laws.FnExactEmptySession': WHATEVER THE INPUT: true; the input reads as it did. -/
def fnExactEmptySessionSpec : ChangeSpec := { name := "fnExactEmptySession", fn := fun _ => fun
  | [] => { results := [.lit (.bool true)], args := [] }
  | _ => none }
def fnExactEmptySessionRow : OpenClaim := { program := "ytklihgoobdbamaa", sum := "caf7d06e8a28a3d7620989e6c9f6798ebcc0b709ed89c98f9d66aeddaa89fcb0", func := "loop.example/g01170/laws.FnExactEmptySession", spec := "fnExactEmptySession", apart := false }
def FnExactEmptySessionSaid : Prop := fnExactEmptySessionRow.holds Try.pinned (OpenSpec.ofChange fnExactEmptySessionSpec)

/-- ITS FALSE NEIGHBOUR: 'it returns false'. Refute it at one input. -/
def fnExactEmptySessionWrong : ChangeSpec := { name := "fnExactEmptySession", fn := fun _ => fun
  | [] => { results := [.lit (.bool false)], args := [] }
  | _ => none }
def FnExactEmptySessionWrongFalsely : Prop := fnExactEmptySessionRow.holds Try.pinned (OpenSpec.ofChange fnExactEmptySessionWrong)

/- THE SECOND FORM. 'bulk': how many values and letters a reading holds, each counted each time it is reached (what is shared counts as often as it is met; a slice's spare places count too). A statement '..UptoSaid' is the law's where the arguments, and the package variables that the reading takes, are together of bulk at most 1048576: NARROWER than '..Said'. Prove '..Said' where nothing that the law and all that it calls make is longer than what came in: it says more and counts as full. Else prove '..UptoSaid'. A law counts once. -/
mutual
def uptoBulk {H : Type} : DataW H → Nat
  | .lit (.string bytes) => bytes.length + 1
  | .lit _ => 1
  | .nil => 1
  | .ptr d => uptoBulk d + 1
  | .slice elems spare => uptoBulkAll elems + uptoBulkAll spare + 1
  | .agg parts => uptoBulkAll parts + 1
  | .iface _ d => uptoBulk d + 1
  | .map entries => uptoBulkEntries entries + 1
  | .held _ => 1
def uptoBulkAll {H : Type} : List (DataW H) → Nat
  | [] => 0
  | d :: r => uptoBulk d + uptoBulkAll r
def uptoBulkEntries {H : Type} : List (Lit × DataW H) → Nat
  | [] => 0
  | x :: r => uptoBulkEntry x + uptoBulkEntries r
def uptoBulkEntry {H : Type} : Lit × DataW H → Nat
  | (.string bytes, d) => bytes.length + uptoBulk d + 1
  | (_, d) => uptoBulk d + 1
 end
def uptoSmall : (H : Type) → List (DataW H) → Bool := fun _ ds => decide (uptoBulkAll ds ≤ 1048576)
def OpenSpec.upto (s : _root_.Go.ChangeSpec) : _root_.Go.OpenSpec := { _root_.Go.OpenSpec.ofChange s with cond := some uptoSmall }

/-- 'laws.FnExactTenthsOf', WHERE WHAT IT READS IS OF BULK AT MOST 1048576: true; the input reads as it did. -/
def fnExactTenthsOfUptoRow : OpenClaim := { program := "ytklihgoobdbamaa", sum := "caf7d06e8a28a3d7620989e6c9f6798ebcc0b709ed89c98f9d66aeddaa89fcb0", func := "loop.example/g01170/laws.FnExactTenthsOf", spec := "fnExactTenthsOf", inPlace := ["math.Float64frombits", "math.Float64bits", "math.RoundToEven"], apart := false, narrowed := true }
def FnExactTenthsOfUptoSaid : Prop := fnExactTenthsOfUptoRow.holds Try.pinned (OpenSpec.upto fnExactTenthsOfSpec)

/-- 'laws.FnExactLoudnessOf', WHERE WHAT IT READS IS OF BULK AT MOST 1048576: true; the input reads as it did. -/
def fnExactLoudnessOfUptoRow : OpenClaim := { program := "ytklihgoobdbamaa", sum := "caf7d06e8a28a3d7620989e6c9f6798ebcc0b709ed89c98f9d66aeddaa89fcb0", func := "loop.example/g01170/laws.FnExactLoudnessOf", spec := "fnExactLoudnessOf", apart := false, narrowed := true }
def FnExactLoudnessOfUptoSaid : Prop := fnExactLoudnessOfUptoRow.holds Try.pinned (OpenSpec.upto fnExactLoudnessOfSpec)

/-- 'laws.FnExactLikenessOf', WHERE WHAT IT READS IS OF BULK AT MOST 1048576: true; the input reads as it did. -/
def fnExactLikenessOfUptoRow : OpenClaim := { program := "ytklihgoobdbamaa", sum := "caf7d06e8a28a3d7620989e6c9f6798ebcc0b709ed89c98f9d66aeddaa89fcb0", func := "loop.example/g01170/laws.FnExactLikenessOf", spec := "fnExactLikenessOf", inPlace := ["math.sqrt"], apart := false, narrowed := true }
def FnExactLikenessOfUptoSaid : Prop := fnExactLikenessOfUptoRow.holds Try.pinned (OpenSpec.upto fnExactLikenessOfSpec)

/-- 'laws.FnExactClippedRuns', WHERE WHAT IT READS IS OF BULK AT MOST 1048576: true; the input reads as it did. -/
def fnExactClippedRunsUptoRow : OpenClaim := { program := "ytklihgoobdbamaa", sum := "caf7d06e8a28a3d7620989e6c9f6798ebcc0b709ed89c98f9d66aeddaa89fcb0", func := "loop.example/g01170/laws.FnExactClippedRuns", spec := "fnExactClippedRuns", inPlace := ["math.Float32bits", "math.Float64bits", "math.Float64frombits"], apart := false, narrowed := true }
def FnExactClippedRunsUptoSaid : Prop := fnExactClippedRunsUptoRow.holds Try.pinned (OpenSpec.upto fnExactClippedRunsSpec)

/-- 'laws.FnExactBalanceOf', WHERE WHAT IT READS IS OF BULK AT MOST 1048576: true; the input reads as it did. -/
def fnExactBalanceOfUptoRow : OpenClaim := { program := "ytklihgoobdbamaa", sum := "caf7d06e8a28a3d7620989e6c9f6798ebcc0b709ed89c98f9d66aeddaa89fcb0", func := "loop.example/g01170/laws.FnExactBalanceOf", spec := "fnExactBalanceOf", inPlace := ["math.sqrt"], apart := false, narrowed := true }
def FnExactBalanceOfUptoSaid : Prop := fnExactBalanceOfUptoRow.holds Try.pinned (OpenSpec.upto fnExactBalanceOfSpec)

/-- 'laws.FnExactPeakBetween', WHERE WHAT IT READS IS OF BULK AT MOST 1048576: true; the input reads as it did. -/
def fnExactPeakBetweenUptoRow : OpenClaim := { program := "ytklihgoobdbamaa", sum := "caf7d06e8a28a3d7620989e6c9f6798ebcc0b709ed89c98f9d66aeddaa89fcb0", func := "loop.example/g01170/laws.FnExactPeakBetween", spec := "fnExactPeakBetween", inPlace := ["math.Float32bits", "math.archFloor", "math.Float64bits", "math.Float64frombits", "math.archTrunc"], unfollowed := true, recurses := true, apart := false, narrowed := true }
def FnExactPeakBetweenUptoSaid : Prop := fnExactPeakBetweenUptoRow.holds Try.pinned (OpenSpec.upto fnExactPeakBetweenSpec)

/-- 'laws.FnExactEmptySession', WHERE WHAT IT READS IS OF BULK AT MOST 1048576: true; the input reads as it did. -/
def fnExactEmptySessionUptoRow : OpenClaim := { program := "ytklihgoobdbamaa", sum := "caf7d06e8a28a3d7620989e6c9f6798ebcc0b709ed89c98f9d66aeddaa89fcb0", func := "loop.example/g01170/laws.FnExactEmptySession", spec := "fnExactEmptySession", apart := false, narrowed := true }
def FnExactEmptySessionUptoSaid : Prop := fnExactEmptySessionUptoRow.holds Try.pinned (OpenSpec.upto fnExactEmptySessionSpec)

end Rows
end Go.Proofs.Ytklihgoobdbamaa
