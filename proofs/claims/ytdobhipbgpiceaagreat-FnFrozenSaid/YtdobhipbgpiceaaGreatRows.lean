/-
  No cell of these rows narrows 'for every input' (looked for: loops, veiled, ifaces, maps, wideKeys, modest, calm, conditions, laid).
  DERIVED. THE GIVEN ROWS OF THIS SEAT. 3 by the template 'for every input the law returns true; each argument reads behind the call as it read before'; 0 by the template 'total and deterministic' (their statements: YtdobhipbgpiceaaGreatTotals.lean).
  GIVEN WITH THE SEED: the statements are not yours to turn. If you find one false, say at which input.
  Laid BY PROGRAM, IN A SANDBOX (cutbox-rows.mjs): the forced cells as the released guide's own fill.sh prints them over the translation b952e6f02a743159… (all of the seat's roots in one cut). By AI agents, Wed Nov 11 2026. No macro, syntax, notation, axiom, sorry.
-/
import Derived.Test.YtdobhipbgpiceaaGreatChecked
import GoSem.Claim
import GoSem.ClaimJoined
import GoSem.ClaimMapViews
import Derived.JoinedTies
import Derived.KernelRfl
namespace Go.Proofs.YtdobhipbgpiceaaGreat
/- THE CELL 'sum', in the pinned program and in every row, IS THE sha256 OF THE DUMP (.gsa) THAT YtdobhipbgpiceaaGreatProg.lean LOADS. Nothing in Lean hashes anything: it is a label: what it is worth is what the hold of that sum in a sandbox is worth. -/
noncomputable def Tryz.pinned : Pinned := { name := "ytdobhipbgpiceaagreat", sum := "b952e6f02a74315970d035bfdbd7e259d25d3a4d40989e24ac3f10efbdc279ba", checked := Tryz.checked }
namespace Rows
def none {H : Type} : Left H := { results := [], args := [] }

/-- 'laws.FnExactChannelOf': WHATEVER THE INPUT: true; the input reads as it did. -/
def fnExactChannelOfSpec : ChangeSpec := { name := "fnExactChannelOf", fn := fun _ => fun
  | [d1, d2, d3] => { results := [.lit (.bool true)], args := [d1, d2, d3] }
  | _ => none }
def fnExactChannelOfRow : OpenClaim := { program := "ytdobhipbgpiceaagreat", sum := "b952e6f02a74315970d035bfdbd7e259d25d3a4d40989e24ac3f10efbdc279ba", func := "loop.example/g01170/laws.FnExactChannelOf", spec := "fnExactChannelOf", inPlace := ["math.Float32bits", "math.Float32frombits", "math.Float64bits", "math.Float64frombits"], apart := false }
def FnExactChannelOfSaid : Prop := fnExactChannelOfRow.holds Tryz.pinned (OpenSpec.ofChange fnExactChannelOfSpec)

/-- ITS FALSE NEIGHBOUR: 'it returns false'. Refute it at one input. -/
def fnExactChannelOfWrong : ChangeSpec := { name := "fnExactChannelOf", fn := fun _ => fun
  | [d1, d2, d3] => { results := [.lit (.bool false)], args := [d1, d2, d3] }
  | _ => none }
def FnExactChannelOfWrongFalsely : Prop := fnExactChannelOfRow.holds Tryz.pinned (OpenSpec.ofChange fnExactChannelOfWrong)

/-- 'laws.FnExactFreezeTrack': WHATEVER THE INPUT: true; the input reads as it did. -/
def fnExactFreezeTrackSpec : ChangeSpec := { name := "fnExactFreezeTrack", fn := fun _ => fun
  | [d1, d2, d3] => { results := [.lit (.bool true)], args := [d1, d2, d3] }
  | _ => none }
def fnExactFreezeTrackRow : OpenClaim := { program := "ytdobhipbgpiceaagreat", sum := "b952e6f02a74315970d035bfdbd7e259d25d3a4d40989e24ac3f10efbdc279ba", func := "loop.example/g01170/laws.FnExactFreezeTrack", spec := "fnExactFreezeTrack", inPlace := ["math.Float32bits", "math.Float32frombits", "math.Float64bits", "math.Float64frombits"], unfollowed := true, recurses := true, apart := false }
def FnExactFreezeTrackSaid : Prop := fnExactFreezeTrackRow.holds Tryz.pinned (OpenSpec.ofChange fnExactFreezeTrackSpec)

/-- ITS FALSE NEIGHBOUR: 'it returns false'. Refute it at one input. -/
def fnExactFreezeTrackWrong : ChangeSpec := { name := "fnExactFreezeTrack", fn := fun _ => fun
  | [d1, d2, d3] => { results := [.lit (.bool false)], args := [d1, d2, d3] }
  | _ => none }
def FnExactFreezeTrackWrongFalsely : Prop := fnExactFreezeTrackRow.holds Tryz.pinned (OpenSpec.ofChange fnExactFreezeTrackWrong)

/-- 'laws.FnFrozen': WHATEVER THE INPUT: true; the input reads as it did. -/
def fnFrozenSpec : ChangeSpec := { name := "fnFrozen", fn := fun _ => fun
  | [d1, d2] => { results := [.lit (.bool true)], args := [d1, d2] }
  | _ => none }
def fnFrozenRow : OpenClaim := { program := "ytdobhipbgpiceaagreat", sum := "b952e6f02a74315970d035bfdbd7e259d25d3a4d40989e24ac3f10efbdc279ba", func := "loop.example/g01170/laws.FnFrozen", spec := "fnFrozen", inPlace := ["math.Float32frombits", "math.Float64bits", "math.Float64frombits", "math.archTrunc", "math.Float32bits"], unfollowed := true, recurses := true, apart := false }
def FnFrozenSaid : Prop := fnFrozenRow.holds Tryz.pinned (OpenSpec.ofChange fnFrozenSpec)

/-- ITS FALSE NEIGHBOUR: 'it returns false'. Refute it at one input. -/
def fnFrozenWrong : ChangeSpec := { name := "fnFrozen", fn := fun _ => fun
  | [d1, d2] => { results := [.lit (.bool false)], args := [d1, d2] }
  | _ => none }
def FnFrozenWrongFalsely : Prop := fnFrozenRow.holds Tryz.pinned (OpenSpec.ofChange fnFrozenWrong)

/- THE SECOND FORM. 'bulk': how many values and letters a reading holds, each counted each time it is reached (what is shared counts as often as it is met; a slice's spare places count too). A statement '..UptoSaid' is the law's where the arguments, and the package variables that the reading takes, are together of bulk at most 1048576: NARROWER than '..Said'. Prove '..Said' where nothing that the law and all that it calls make is longer than what came in: it says more and counts as full. Else prove '..UptoSaid'. A law counts once. -/
mutual
def uptoBulk {H : Type} : DataW H → Nat
  | .lit (.string bytes) => bytes.length + 1
  | .lit _ => 1
  | .nil => 1
  | .ptr d => uptoBulk d + 1
  | .slice elems spare => uptoBulkAll elems + uptoBulkAll spare + 1
  | .agg parts => uptoBulkAll parts + 1
  | .iface _ d => uptoBulk d + 1
  | .map entries => uptoBulkEntries entries + 1
  | .held _ => 1
def uptoBulkAll {H : Type} : List (DataW H) → Nat
  | [] => 0
  | d :: r => uptoBulk d + uptoBulkAll r
def uptoBulkEntries {H : Type} : List (Lit × DataW H) → Nat
  | [] => 0
  | x :: r => uptoBulkEntry x + uptoBulkEntries r
def uptoBulkEntry {H : Type} : Lit × DataW H → Nat
  | (.string bytes, d) => bytes.length + uptoBulk d + 1
  | (_, d) => uptoBulk d + 1
 end
def uptoSmall : (H : Type) → List (DataW H) → Bool := fun _ ds => decide (uptoBulkAll ds ≤ 1048576)
def OpenSpec.upto (s : _root_.Go.ChangeSpec) : _root_.Go.OpenSpec := { _root_.Go.OpenSpec.ofChange s with cond := some uptoSmall }

/-- 'laws.FnExactChannelOf', WHERE WHAT IT READS IS OF BULK AT MOST 1048576: true; the input reads as it did. -/
def fnExactChannelOfUptoRow : OpenClaim := { program := "ytdobhipbgpiceaagreat", sum := "b952e6f02a74315970d035bfdbd7e259d25d3a4d40989e24ac3f10efbdc279ba", func := "loop.example/g01170/laws.FnExactChannelOf", spec := "fnExactChannelOf", inPlace := ["math.Float32bits", "math.Float32frombits", "math.Float64bits", "math.Float64frombits"], apart := false, narrowed := true }
def FnExactChannelOfUptoSaid : Prop := fnExactChannelOfUptoRow.holds Tryz.pinned (OpenSpec.upto fnExactChannelOfSpec)

/-- 'laws.FnExactFreezeTrack', WHERE WHAT IT READS IS OF BULK AT MOST 1048576: true; the input reads as it did. -/
def fnExactFreezeTrackUptoRow : OpenClaim := { program := "ytdobhipbgpiceaagreat", sum := "b952e6f02a74315970d035bfdbd7e259d25d3a4d40989e24ac3f10efbdc279ba", func := "loop.example/g01170/laws.FnExactFreezeTrack", spec := "fnExactFreezeTrack", inPlace := ["math.Float32bits", "math.Float32frombits", "math.Float64bits", "math.Float64frombits"], unfollowed := true, recurses := true, apart := false, narrowed := true }
def FnExactFreezeTrackUptoSaid : Prop := fnExactFreezeTrackUptoRow.holds Tryz.pinned (OpenSpec.upto fnExactFreezeTrackSpec)

/-- 'laws.FnFrozen', WHERE WHAT IT READS IS OF BULK AT MOST 1048576: true; the input reads as it did. -/
def fnFrozenUptoRow : OpenClaim := { program := "ytdobhipbgpiceaagreat", sum := "b952e6f02a74315970d035bfdbd7e259d25d3a4d40989e24ac3f10efbdc279ba", func := "loop.example/g01170/laws.FnFrozen", spec := "fnFrozen", inPlace := ["math.Float32frombits", "math.Float64bits", "math.Float64frombits", "math.archTrunc", "math.Float32bits"], unfollowed := true, recurses := true, apart := false, narrowed := true }
def FnFrozenUptoSaid : Prop := fnFrozenUptoRow.holds Tryz.pinned (OpenSpec.upto fnFrozenSpec)

end Rows
end Go.Proofs.YtdobhipbgpiceaaGreat
