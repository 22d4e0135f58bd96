/-
  No cell of these rows narrows 'for every input' (looked for: loops, veiled, ifaces, maps, wideKeys, modest, calm, conditions, laid).
  DERIVED. THE GIVEN ROWS OF THIS SEAT. 6 by the template 'for every input the law returns true; each argument reads behind the call as it read before'; 0 by the template 'total and deterministic' (their statements: YtcadjmbpmbdliaaTotals.lean).
  GIVEN WITH THE SEED: the statements are not yours to turn. If you find one false, say at which input.
  Laid BY PROGRAM, IN A SANDBOX (cutbox-rows.mjs): the forced cells as the released guide's own fill.sh prints them over the translation a52e69c50951201b… (all of the seat's roots in one cut). By AI agents, Wed Nov 11 2026. No macro, syntax, notation, axiom, sorry.
-/
import Derived.Test.YtcadjmbpmbdliaaChecked
import GoSem.Claim
import GoSem.ClaimJoined
import GoSem.ClaimMapViews
import Derived.JoinedTies
import Derived.KernelRfl
namespace Go.Proofs.Ytcadjmbpmbdliaa
/- THE CELL 'sum', in the pinned program and in every row, IS THE sha256 OF THE DUMP (.gsa) THAT YtcadjmbpmbdliaaProg.lean LOADS. Nothing in Lean hashes anything: it is a label: what it is worth is what the hold of that sum in a sandbox is worth. -/
noncomputable def Try.pinned : Pinned := { name := "ytcadjmbpmbdliaa", sum := "a52e69c50951201b75204f39ace35c9e6eb9d5794875e40dcc31ef5de346a81e", checked := Try.checked }
namespace Rows
def none {H : Type} : Left H := { results := [], args := [] }

/-- 'laws.FnExactCrossingsOf': WHATEVER THE INPUT: true; the input reads as it did. -/
def fnExactCrossingsOfSpec : ChangeSpec := { name := "fnExactCrossingsOf", fn := fun _ => fun
  | [d] => { results := [.lit (.bool true)], args := [d] }
  | _ => none }
def fnExactCrossingsOfRow : OpenClaim := { program := "ytcadjmbpmbdliaa", sum := "a52e69c50951201b75204f39ace35c9e6eb9d5794875e40dcc31ef5de346a81e", func := "loop.example/g01170/laws.FnExactCrossingsOf", spec := "fnExactCrossingsOf", apart := false }
def FnExactCrossingsOfSaid : Prop := fnExactCrossingsOfRow.holds Try.pinned (OpenSpec.ofChange fnExactCrossingsOfSpec)

/-- ITS FALSE NEIGHBOUR: 'it returns false'. Refute it at one input. -/
def fnExactCrossingsOfWrong : ChangeSpec := { name := "fnExactCrossingsOf", fn := fun _ => fun
  | [d] => { results := [.lit (.bool false)], args := [d] }
  | _ => none }
def FnExactCrossingsOfWrongFalsely : Prop := fnExactCrossingsOfRow.holds Try.pinned (OpenSpec.ofChange fnExactCrossingsOfWrong)

/-- 'laws.FnExactLagPower': WHATEVER THE INPUT: true; the input reads as it did. -/
def fnExactLagPowerSpec : ChangeSpec := { name := "fnExactLagPower", fn := fun _ => fun
  | [d1, d2, d3] => { results := [.lit (.bool true)], args := [d1, d2, d3] }
  | _ => none }
def fnExactLagPowerRow : OpenClaim := { program := "ytcadjmbpmbdliaa", sum := "a52e69c50951201b75204f39ace35c9e6eb9d5794875e40dcc31ef5de346a81e", func := "loop.example/g01170/laws.FnExactLagPower", spec := "fnExactLagPower", apart := false }
def FnExactLagPowerSaid : Prop := fnExactLagPowerRow.holds Try.pinned (OpenSpec.ofChange fnExactLagPowerSpec)

/-- ITS FALSE NEIGHBOUR: 'it returns false'. Refute it at one input. -/
def fnExactLagPowerWrong : ChangeSpec := { name := "fnExactLagPower", fn := fun _ => fun
  | [d1, d2, d3] => { results := [.lit (.bool false)], args := [d1, d2, d3] }
  | _ => none }
def FnExactLagPowerWrongFalsely : Prop := fnExactLagPowerRow.holds Try.pinned (OpenSpec.ofChange fnExactLagPowerWrong)

/-- 'laws.FnNarrowed': WHATEVER THE INPUT: true; the input reads as it did. -/
def fnNarrowedSpec : ChangeSpec := { name := "fnNarrowed", fn := fun _ => fun
  | [d1, d2] => { results := [.lit (.bool true)], args := [d1, d2] }
  | _ => none }
def fnNarrowedRow : OpenClaim := { program := "ytcadjmbpmbdliaa", sum := "a52e69c50951201b75204f39ace35c9e6eb9d5794875e40dcc31ef5de346a81e", func := "loop.example/g01170/laws.FnNarrowed", spec := "fnNarrowed", inPlace := ["math.Float32frombits", "math.Float32bits"], apart := false }
def FnNarrowedSaid : Prop := fnNarrowedRow.holds Try.pinned (OpenSpec.ofChange fnNarrowedSpec)

/-- ITS FALSE NEIGHBOUR: 'it returns false'. Refute it at one input. -/
def fnNarrowedWrong : ChangeSpec := { name := "fnNarrowed", fn := fun _ => fun
  | [d1, d2] => { results := [.lit (.bool false)], args := [d1, d2] }
  | _ => none }
def FnNarrowedWrongFalsely : Prop := fnNarrowedRow.holds Try.pinned (OpenSpec.ofChange fnNarrowedWrong)

/-- 'laws.FnExactWindowPowers': WHATEVER THE INPUT: true; the input reads as it did. -/
def fnExactWindowPowersSpec : ChangeSpec := { name := "fnExactWindowPowers", fn := fun _ => fun
  | [d1, d2, d3] => { results := [.lit (.bool true)], args := [d1, d2, d3] }
  | _ => none }
def fnExactWindowPowersRow : OpenClaim := { program := "ytcadjmbpmbdliaa", sum := "a52e69c50951201b75204f39ace35c9e6eb9d5794875e40dcc31ef5de346a81e", func := "loop.example/g01170/laws.FnExactWindowPowers", spec := "fnExactWindowPowers", apart := false }
def FnExactWindowPowersSaid : Prop := fnExactWindowPowersRow.holds Try.pinned (OpenSpec.ofChange fnExactWindowPowersSpec)

/-- ITS FALSE NEIGHBOUR: 'it returns false'. Refute it at one input. -/
def fnExactWindowPowersWrong : ChangeSpec := { name := "fnExactWindowPowers", fn := fun _ => fun
  | [d1, d2, d3] => { results := [.lit (.bool false)], args := [d1, d2, d3] }
  | _ => none }
def FnExactWindowPowersWrongFalsely : Prop := fnExactWindowPowersRow.holds Try.pinned (OpenSpec.ofChange fnExactWindowPowersWrong)

/-- 'laws.FnExactSpreadOf': WHATEVER THE INPUT: true; the input reads as it did. -/
def fnExactSpreadOfSpec : ChangeSpec := { name := "fnExactSpreadOf", fn := fun _ => fun
  | [d1, d2] => { results := [.lit (.bool true)], args := [d1, d2] }
  | _ => none }
def fnExactSpreadOfRow : OpenClaim := { program := "ytcadjmbpmbdliaa", sum := "a52e69c50951201b75204f39ace35c9e6eb9d5794875e40dcc31ef5de346a81e", func := "loop.example/g01170/laws.FnExactSpreadOf", spec := "fnExactSpreadOf", apart := false }
def FnExactSpreadOfSaid : Prop := fnExactSpreadOfRow.holds Try.pinned (OpenSpec.ofChange fnExactSpreadOfSpec)

/-- ITS FALSE NEIGHBOUR: 'it returns false'. Refute it at one input. -/
def fnExactSpreadOfWrong : ChangeSpec := { name := "fnExactSpreadOf", fn := fun _ => fun
  | [d1, d2] => { results := [.lit (.bool false)], args := [d1, d2] }
  | _ => none }
def FnExactSpreadOfWrongFalsely : Prop := fnExactSpreadOfRow.holds Try.pinned (OpenSpec.ofChange fnExactSpreadOfWrong)

/-- 'laws.FnExactPitchOf': WHATEVER THE INPUT: true; the input reads as it did. -/
def fnExactPitchOfSpec : ChangeSpec := { name := "fnExactPitchOf", fn := fun _ => fun
  | [d1, d2, d3] => { results := [.lit (.bool true)], args := [d1, d2, d3] }
  | _ => none }
def fnExactPitchOfRow : OpenClaim := { program := "ytcadjmbpmbdliaa", sum := "a52e69c50951201b75204f39ace35c9e6eb9d5794875e40dcc31ef5de346a81e", func := "loop.example/g01170/laws.FnExactPitchOf", spec := "fnExactPitchOf", apart := false }
def FnExactPitchOfSaid : Prop := fnExactPitchOfRow.holds Try.pinned (OpenSpec.ofChange fnExactPitchOfSpec)

/-- ITS FALSE NEIGHBOUR: 'it returns false'. Refute it at one input. -/
def fnExactPitchOfWrong : ChangeSpec := { name := "fnExactPitchOf", fn := fun _ => fun
  | [d1, d2, d3] => { results := [.lit (.bool false)], args := [d1, d2, d3] }
  | _ => none }
def FnExactPitchOfWrongFalsely : Prop := fnExactPitchOfRow.holds Try.pinned (OpenSpec.ofChange fnExactPitchOfWrong)

/- THE SECOND FORM. 'bulk': how many values and letters a reading holds, each counted each time it is reached (what is shared counts as often as it is met; a slice's spare places count too). A statement '..UptoSaid' is the law's where the arguments, and the package variables that the reading takes, are together of bulk at most 1048576: NARROWER than '..Said'. Prove '..Said' where nothing that the law and all that it calls make is longer than what came in: it says more and counts as full. Else prove '..UptoSaid'. A law counts once. -/
mutual
def uptoBulk {H : Type} : DataW H → Nat
  | .lit (.string bytes) => bytes.length + 1
  | .lit _ => 1
  | .nil => 1
  | .ptr d => uptoBulk d + 1
  | .slice elems spare => uptoBulkAll elems + uptoBulkAll spare + 1
  | .agg parts => uptoBulkAll parts + 1
  | .iface _ d => uptoBulk d + 1
  | .map entries => uptoBulkEntries entries + 1
  | .held _ => 1
def uptoBulkAll {H : Type} : List (DataW H) → Nat
  | [] => 0
  | d :: r => uptoBulk d + uptoBulkAll r
def uptoBulkEntries {H : Type} : List (Lit × DataW H) → Nat
  | [] => 0
  | x :: r => uptoBulkEntry x + uptoBulkEntries r
def uptoBulkEntry {H : Type} : Lit × DataW H → Nat
  | (.string bytes, d) => bytes.length + uptoBulk d + 1
  | (_, d) => uptoBulk d + 1
 end
def uptoSmall : (H : Type) → List (DataW H) → Bool := fun _ ds => decide (uptoBulkAll ds ≤ 1048576)
def OpenSpec.upto (s : _root_.Go.ChangeSpec) : _root_.Go.OpenSpec := { _root_.Go.OpenSpec.ofChange s with cond := some uptoSmall }

/-- 'laws.FnExactCrossingsOf', WHERE WHAT IT READS IS OF BULK AT MOST 1048576: true; the input reads as it did. -/
def fnExactCrossingsOfUptoRow : OpenClaim := { program := "ytcadjmbpmbdliaa", sum := "a52e69c50951201b75204f39ace35c9e6eb9d5794875e40dcc31ef5de346a81e", func := "loop.example/g01170/laws.FnExactCrossingsOf", spec := "fnExactCrossingsOf", apart := false, narrowed := true }
def FnExactCrossingsOfUptoSaid : Prop := fnExactCrossingsOfUptoRow.holds Try.pinned (OpenSpec.upto fnExactCrossingsOfSpec)

/-- 'laws.FnExactLagPower', WHERE WHAT IT READS IS OF BULK AT MOST 1048576: true; the input reads as it did. -/
def fnExactLagPowerUptoRow : OpenClaim := { program := "ytcadjmbpmbdliaa", sum := "a52e69c50951201b75204f39ace35c9e6eb9d5794875e40dcc31ef5de346a81e", func := "loop.example/g01170/laws.FnExactLagPower", spec := "fnExactLagPower", apart := false, narrowed := true }
def FnExactLagPowerUptoSaid : Prop := fnExactLagPowerUptoRow.holds Try.pinned (OpenSpec.upto fnExactLagPowerSpec)

/-- 'laws.FnNarrowed', WHERE WHAT IT READS IS OF BULK AT MOST 1048576: true; the input reads as it did. -/
def fnNarrowedUptoRow : OpenClaim := { program := "ytcadjmbpmbdliaa", sum := "a52e69c50951201b75204f39ace35c9e6eb9d5794875e40dcc31ef5de346a81e", func := "loop.example/g01170/laws.FnNarrowed", spec := "fnNarrowed", inPlace := ["math.Float32frombits", "math.Float32bits"], apart := false, narrowed := true }
def FnNarrowedUptoSaid : Prop := fnNarrowedUptoRow.holds Try.pinned (OpenSpec.upto fnNarrowedSpec)

/-- 'laws.FnExactWindowPowers', WHERE WHAT IT READS IS OF BULK AT MOST 1048576: true; the input reads as it did. -/
def fnExactWindowPowersUptoRow : OpenClaim := { program := "ytcadjmbpmbdliaa", sum := "a52e69c50951201b75204f39ace35c9e6eb9d5794875e40dcc31ef5de346a81e", func := "loop.example/g01170/laws.FnExactWindowPowers", spec := "fnExactWindowPowers", apart := false, narrowed := true }
def FnExactWindowPowersUptoSaid : Prop := fnExactWindowPowersUptoRow.holds Try.pinned (OpenSpec.upto fnExactWindowPowersSpec)

/-- 'laws.FnExactSpreadOf', WHERE WHAT IT READS IS OF BULK AT MOST 1048576: true; the input reads as it did. -/
def fnExactSpreadOfUptoRow : OpenClaim := { program := "ytcadjmbpmbdliaa", sum := "a52e69c50951201b75204f39ace35c9e6eb9d5794875e40dcc31ef5de346a81e", func := "loop.example/g01170/laws.FnExactSpreadOf", spec := "fnExactSpreadOf", apart := false, narrowed := true }
def FnExactSpreadOfUptoSaid : Prop := fnExactSpreadOfUptoRow.holds Try.pinned (OpenSpec.upto fnExactSpreadOfSpec)

/-- 'laws.FnExactPitchOf', WHERE WHAT IT READS IS OF BULK AT MOST 1048576: true; the input reads as it did. -/
def fnExactPitchOfUptoRow : OpenClaim := { program := "ytcadjmbpmbdliaa", sum := "a52e69c50951201b75204f39ace35c9e6eb9d5794875e40dcc31ef5de346a81e", func := "loop.example/g01170/laws.FnExactPitchOf", spec := "fnExactPitchOf", apart := false, narrowed := true }
def FnExactPitchOfUptoSaid : Prop := fnExactPitchOfUptoRow.holds Try.pinned (OpenSpec.upto fnExactPitchOfSpec)

end Rows
end Go.Proofs.Ytcadjmbpmbdliaa
