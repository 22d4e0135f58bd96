/-
  No cell of these rows narrows 'for every input' (looked for: loops, veiled, ifaces, maps, wideKeys, modest, calm, conditions, laid).
  DERIVED. THE GIVEN ROWS OF THIS SEAT. 12 by the template 'for every input the law returns true; each argument reads behind the call as it read before'; 0 by the template 'total and deterministic' (their statements: YtjkhhalnlodinaaTotals.lean).
  GIVEN WITH THE SEED: the statements are not yours to turn. If you find one false, say at which input.
  Laid BY PROGRAM, IN A SANDBOX (cutbox-rows.mjs): the forced cells as the released guide's own fill.sh prints them over the translation 17865be11f4d1d61… (all of the seat's roots in one cut). By AI agents, Wed Nov 11 2026. No macro, syntax, notation, axiom, sorry.
-/
import Derived.Test.YtjkhhalnlodinaaChecked
import GoSem.Claim
import GoSem.ClaimJoined
import GoSem.ClaimMapViews
import Derived.JoinedTies
import Derived.KernelRfl
namespace Go.Proofs.Ytjkhhalnlodinaa
/- THE CELL 'sum', in the pinned program and in every row, IS THE sha256 OF THE DUMP (.gsa) THAT YtjkhhalnlodinaaProg.lean LOADS. Nothing in Lean hashes anything: it is a label: what it is worth is what the hold of that sum in a sandbox is worth. -/
noncomputable def Try.pinned : Pinned := { name := "ytjkhhalnlodinaa", sum := "17865be11f4d1d610bdb4fa9dc306c18ddad4924c5c18a799006ff6d710d2bce", checked := Try.checked }
namespace Rows
def none {H : Type} : Left H := { results := [], args := [] }

/-- 'laws.FnLoudness': WHATEVER THE INPUT: true; the input reads as it did. -/
def fnLoudnessSpec : ChangeSpec := { name := "fnLoudness", fn := fun _ => fun
  | [d1, d2] => { results := [.lit (.bool true)], args := [d1, d2] }
  | _ => none }
def fnLoudnessRow : OpenClaim := { program := "ytjkhhalnlodinaa", sum := "17865be11f4d1d610bdb4fa9dc306c18ddad4924c5c18a799006ff6d710d2bce", func := "loop.example/g01170/laws.FnLoudness", spec := "fnLoudness", inPlace := ["math.Float32bits"], apart := false }
def FnLoudnessSaid : Prop := fnLoudnessRow.holds Try.pinned (OpenSpec.ofChange fnLoudnessSpec)

/-- ITS FALSE NEIGHBOUR: 'it returns false'. Refute it at one input. -/
def fnLoudnessWrong : ChangeSpec := { name := "fnLoudness", fn := fun _ => fun
  | [d1, d2] => { results := [.lit (.bool false)], args := [d1, d2] }
  | _ => none }
def FnLoudnessWrongFalsely : Prop := fnLoudnessRow.holds Try.pinned (OpenSpec.ofChange fnLoudnessWrong)

/-- 'laws.FnSteps': WHATEVER THE INPUT: true; the input reads as it did. -/
def fnStepsSpec : ChangeSpec := { name := "fnSteps", fn := fun _ => fun
  | [d1, d2] => { results := [.lit (.bool true)], args := [d1, d2] }
  | _ => none }
def fnStepsRow : OpenClaim := { program := "ytjkhhalnlodinaa", sum := "17865be11f4d1d610bdb4fa9dc306c18ddad4924c5c18a799006ff6d710d2bce", func := "loop.example/g01170/laws.FnSteps", spec := "fnSteps", inPlace := ["math.Float32frombits", "math.RoundToEven"], apart := false }
def FnStepsSaid : Prop := fnStepsRow.holds Try.pinned (OpenSpec.ofChange fnStepsSpec)

/-- ITS FALSE NEIGHBOUR: 'it returns false'. Refute it at one input. -/
def fnStepsWrong : ChangeSpec := { name := "fnSteps", fn := fun _ => fun
  | [d1, d2] => { results := [.lit (.bool false)], args := [d1, d2] }
  | _ => none }
def FnStepsWrongFalsely : Prop := fnStepsRow.holds Try.pinned (OpenSpec.ofChange fnStepsWrong)

/-- 'laws.FnSums': WHATEVER THE INPUT: true; the input reads as it did. -/
def fnSumsSpec : ChangeSpec := { name := "fnSums", fn := fun _ => fun
  | [d1, d2] => { results := [.lit (.bool true)], args := [d1, d2] }
  | _ => none }
def fnSumsRow : OpenClaim := { program := "ytjkhhalnlodinaa", sum := "17865be11f4d1d610bdb4fa9dc306c18ddad4924c5c18a799006ff6d710d2bce", func := "loop.example/g01170/laws.FnSums", spec := "fnSums", inPlace := ["math.Float32frombits", "math.Float32bits"], recurses := true, apart := false }
def FnSumsSaid : Prop := fnSumsRow.holds Try.pinned (OpenSpec.ofChange fnSumsSpec)

/-- ITS FALSE NEIGHBOUR: 'it returns false'. Refute it at one input. -/
def fnSumsWrong : ChangeSpec := { name := "fnSums", fn := fun _ => fun
  | [d1, d2] => { results := [.lit (.bool false)], args := [d1, d2] }
  | _ => none }
def FnSumsWrongFalsely : Prop := fnSumsRow.holds Try.pinned (OpenSpec.ofChange fnSumsWrong)

/-- 'laws.FnLimited': WHATEVER THE INPUT: true; the input reads as it did. -/
def fnLimitedSpec : ChangeSpec := { name := "fnLimited", fn := fun _ => fun
  | [d1, d2] => { results := [.lit (.bool true)], args := [d1, d2] }
  | _ => none }
def fnLimitedRow : OpenClaim := { program := "ytjkhhalnlodinaa", sum := "17865be11f4d1d610bdb4fa9dc306c18ddad4924c5c18a799006ff6d710d2bce", func := "loop.example/g01170/laws.FnLimited", spec := "fnLimited", inPlace := ["math.Float32frombits", "math.Float64bits", "math.Float64frombits", "math.Float32bits"], apart := false }
def FnLimitedSaid : Prop := fnLimitedRow.holds Try.pinned (OpenSpec.ofChange fnLimitedSpec)

/-- ITS FALSE NEIGHBOUR: 'it returns false'. Refute it at one input. -/
def fnLimitedWrong : ChangeSpec := { name := "fnLimited", fn := fun _ => fun
  | [d1, d2] => { results := [.lit (.bool false)], args := [d1, d2] }
  | _ => none }
def FnLimitedWrongFalsely : Prop := fnLimitedRow.holds Try.pinned (OpenSpec.ofChange fnLimitedWrong)

/-- 'laws.FnNodes': WHATEVER THE INPUT: true; the input reads as it did. -/
def fnNodesSpec : ChangeSpec := { name := "fnNodes", fn := fun _ => fun
  | [d1, d2] => { results := [.lit (.bool true)], args := [d1, d2] }
  | _ => none }
def fnNodesRow : OpenClaim := { program := "ytjkhhalnlodinaa", sum := "17865be11f4d1d610bdb4fa9dc306c18ddad4924c5c18a799006ff6d710d2bce", func := "loop.example/g01170/laws.FnNodes", spec := "fnNodes", inPlace := ["math.Float32frombits", "math.Float32bits"], apart := false }
def FnNodesSaid : Prop := fnNodesRow.holds Try.pinned (OpenSpec.ofChange fnNodesSpec)

/-- ITS FALSE NEIGHBOUR: 'it returns false'. Refute it at one input. -/
def fnNodesWrong : ChangeSpec := { name := "fnNodes", fn := fun _ => fun
  | [d1, d2] => { results := [.lit (.bool false)], args := [d1, d2] }
  | _ => none }
def FnNodesWrongFalsely : Prop := fnNodesRow.holds Try.pinned (OpenSpec.ofChange fnNodesWrong)

/-- 'laws.FnBent': WHATEVER THE INPUT: true; the input reads as it did. -/
def fnBentSpec : ChangeSpec := { name := "fnBent", fn := fun _ => fun
  | [d1, d2] => { results := [.lit (.bool true)], args := [d1, d2] }
  | _ => none }
def fnBentRow : OpenClaim := { program := "ytjkhhalnlodinaa", sum := "17865be11f4d1d610bdb4fa9dc306c18ddad4924c5c18a799006ff6d710d2bce", func := "loop.example/g01170/laws.FnBent", spec := "fnBent", inPlace := ["math.Float32frombits", "math.sqrt", "math.Float64bits", "math.Float64frombits"], apart := false }
def FnBentSaid : Prop := fnBentRow.holds Try.pinned (OpenSpec.ofChange fnBentSpec)

/-- ITS FALSE NEIGHBOUR: 'it returns false'. Refute it at one input. -/
def fnBentWrong : ChangeSpec := { name := "fnBent", fn := fun _ => fun
  | [d1, d2] => { results := [.lit (.bool false)], args := [d1, d2] }
  | _ => none }
def FnBentWrongFalsely : Prop := fnBentRow.holds Try.pinned (OpenSpec.ofChange fnBentWrong)

/-- 'laws.FnFilterRows': WHATEVER THE INPUT: true; the input reads as it did. -/
def fnFilterRowsSpec : ChangeSpec := { name := "fnFilterRows", fn := fun _ => fun
  | [d1, d2] => { results := [.lit (.bool true)], args := [d1, d2] }
  | _ => none }
def fnFilterRowsRow : OpenClaim := { program := "ytjkhhalnlodinaa", sum := "17865be11f4d1d610bdb4fa9dc306c18ddad4924c5c18a799006ff6d710d2bce", func := "loop.example/g01170/laws.FnFilterRows", spec := "fnFilterRows", inPlace := ["math.Float32frombits", "math.Float64bits", "math.Float64frombits", "math.Float32bits"], apart := false }
def FnFilterRowsSaid : Prop := fnFilterRowsRow.holds Try.pinned (OpenSpec.ofChange fnFilterRowsSpec)

/-- ITS FALSE NEIGHBOUR: 'it returns false'. Refute it at one input. -/
def fnFilterRowsWrong : ChangeSpec := { name := "fnFilterRows", fn := fun _ => fun
  | [d1, d2] => { results := [.lit (.bool false)], args := [d1, d2] }
  | _ => none }
def FnFilterRowsWrongFalsely : Prop := fnFilterRowsRow.holds Try.pinned (OpenSpec.ofChange fnFilterRowsWrong)

/-- 'laws.FnPlaces': WHATEVER THE INPUT: true; the input reads as it did. -/
def fnPlacesSpec : ChangeSpec := { name := "fnPlaces", fn := fun _ => fun
  | [d1, d2] => { results := [.lit (.bool true)], args := [d1, d2] }
  | _ => none }
def fnPlacesRow : OpenClaim := { program := "ytjkhhalnlodinaa", sum := "17865be11f4d1d610bdb4fa9dc306c18ddad4924c5c18a799006ff6d710d2bce", func := "loop.example/g01170/laws.FnPlaces", spec := "fnPlaces", inPlace := ["math.archFloor", "math.Float64bits", "math.Float64frombits", "math.archTrunc", "math.Float32bits"], unfollowed := true, recurses := true, apart := false }
def FnPlacesSaid : Prop := fnPlacesRow.holds Try.pinned (OpenSpec.ofChange fnPlacesSpec)

/-- ITS FALSE NEIGHBOUR: 'it returns false'. Refute it at one input. -/
def fnPlacesWrong : ChangeSpec := { name := "fnPlaces", fn := fun _ => fun
  | [d1, d2] => { results := [.lit (.bool false)], args := [d1, d2] }
  | _ => none }
def FnPlacesWrongFalsely : Prop := fnPlacesRow.holds Try.pinned (OpenSpec.ofChange fnPlacesWrong)

/-- 'laws.FnDelays': WHATEVER THE INPUT: true; the input reads as it did. -/
def fnDelaysSpec : ChangeSpec := { name := "fnDelays", fn := fun _ => fun
  | [d1, d2] => { results := [.lit (.bool true)], args := [d1, d2] }
  | _ => none }
def fnDelaysRow : OpenClaim := { program := "ytjkhhalnlodinaa", sum := "17865be11f4d1d610bdb4fa9dc306c18ddad4924c5c18a799006ff6d710d2bce", func := "loop.example/g01170/laws.FnDelays", spec := "fnDelays", inPlace := ["math.Float32frombits", "math.Float64bits", "math.Float64frombits", "math.Float32bits"], apart := false }
def FnDelaysSaid : Prop := fnDelaysRow.holds Try.pinned (OpenSpec.ofChange fnDelaysSpec)

/-- ITS FALSE NEIGHBOUR: 'it returns false'. Refute it at one input. -/
def fnDelaysWrong : ChangeSpec := { name := "fnDelays", fn := fun _ => fun
  | [d1, d2] => { results := [.lit (.bool false)], args := [d1, d2] }
  | _ => none }
def FnDelaysWrongFalsely : Prop := fnDelaysRow.holds Try.pinned (OpenSpec.ofChange fnDelaysWrong)

/-- 'laws.FnSines': WHATEVER THE INPUT: true; the input reads as it did. -/
def fnSinesSpec : ChangeSpec := { name := "fnSines", fn := fun _ => fun
  | [d1, d2] => { results := [.lit (.bool true)], args := [d1, d2] }
  | _ => none }
def fnSinesRow : OpenClaim := { program := "ytjkhhalnlodinaa", sum := "17865be11f4d1d610bdb4fa9dc306c18ddad4924c5c18a799006ff6d710d2bce", func := "loop.example/g01170/laws.FnSines", spec := "fnSines", inPlace := ["math.Float64frombits", "math.Float64bits", "math.archTrunc", "math.sqrt"], apart := false }
def FnSinesSaid : Prop := fnSinesRow.holds Try.pinned (OpenSpec.ofChange fnSinesSpec)

/-- ITS FALSE NEIGHBOUR: 'it returns false'. Refute it at one input. -/
def fnSinesWrong : ChangeSpec := { name := "fnSines", fn := fun _ => fun
  | [d1, d2] => { results := [.lit (.bool false)], args := [d1, d2] }
  | _ => none }
def FnSinesWrongFalsely : Prop := fnSinesRow.holds Try.pinned (OpenSpec.ofChange fnSinesWrong)

/-- 'laws.FnRooms': WHATEVER THE INPUT: true; the input reads as it did. -/
def fnRoomsSpec : ChangeSpec := { name := "fnRooms", fn := fun _ => fun
  | [d1, d2] => { results := [.lit (.bool true)], args := [d1, d2] }
  | _ => none }
def fnRoomsRow : OpenClaim := { program := "ytjkhhalnlodinaa", sum := "17865be11f4d1d610bdb4fa9dc306c18ddad4924c5c18a799006ff6d710d2bce", func := "loop.example/g01170/laws.FnRooms", spec := "fnRooms", inPlace := ["math.Float32frombits", "math.Float64bits", "math.Float64frombits", "math.Float32bits"], apart := false }
def FnRoomsSaid : Prop := fnRoomsRow.holds Try.pinned (OpenSpec.ofChange fnRoomsSpec)

/-- ITS FALSE NEIGHBOUR: 'it returns false'. Refute it at one input. -/
def fnRoomsWrong : ChangeSpec := { name := "fnRooms", fn := fun _ => fun
  | [d1, d2] => { results := [.lit (.bool false)], args := [d1, d2] }
  | _ => none }
def FnRoomsWrongFalsely : Prop := fnRoomsRow.holds Try.pinned (OpenSpec.ofChange fnRoomsWrong)

/-- 'laws.FnTracks': WHATEVER THE INPUT: true; the input reads as it did. -/
def fnTracksSpec : ChangeSpec := { name := "fnTracks", fn := fun _ => fun
  | [d1, d2] => { results := [.lit (.bool true)], args := [d1, d2] }
  | _ => none }
def fnTracksRow : OpenClaim := { program := "ytjkhhalnlodinaa", sum := "17865be11f4d1d610bdb4fa9dc306c18ddad4924c5c18a799006ff6d710d2bce", func := "loop.example/g01170/laws.FnTracks", spec := "fnTracks", inPlace := ["math.Float32frombits", "math.Float64frombits", "math.Float64bits", "math.archTrunc", "math.Float32bits"], apart := false }
def FnTracksSaid : Prop := fnTracksRow.holds Try.pinned (OpenSpec.ofChange fnTracksSpec)

/-- ITS FALSE NEIGHBOUR: 'it returns false'. Refute it at one input. -/
def fnTracksWrong : ChangeSpec := { name := "fnTracks", fn := fun _ => fun
  | [d1, d2] => { results := [.lit (.bool false)], args := [d1, d2] }
  | _ => none }
def FnTracksWrongFalsely : Prop := fnTracksRow.holds Try.pinned (OpenSpec.ofChange fnTracksWrong)

/- THE SECOND FORM. 'bulk': how many values and letters a reading holds, each counted each time it is reached (what is shared counts as often as it is met; a slice's spare places count too). A statement '..UptoSaid' is the law's where the arguments, and the package variables that the reading takes, are together of bulk at most 1048576: NARROWER than '..Said'. Prove '..Said' where nothing that the law and all that it calls make is longer than what came in: it says more and counts as full. Else prove '..UptoSaid'. A law counts once. -/
mutual
def uptoBulk {H : Type} : DataW H → Nat
  | .lit (.string bytes) => bytes.length + 1
  | .lit _ => 1
  | .nil => 1
  | .ptr d => uptoBulk d + 1
  | .slice elems spare => uptoBulkAll elems + uptoBulkAll spare + 1
  | .agg parts => uptoBulkAll parts + 1
  | .iface _ d => uptoBulk d + 1
  | .map entries => uptoBulkEntries entries + 1
  | .held _ => 1
def uptoBulkAll {H : Type} : List (DataW H) → Nat
  | [] => 0
  | d :: r => uptoBulk d + uptoBulkAll r
def uptoBulkEntries {H : Type} : List (Lit × DataW H) → Nat
  | [] => 0
  | x :: r => uptoBulkEntry x + uptoBulkEntries r
def uptoBulkEntry {H : Type} : Lit × DataW H → Nat
  | (.string bytes, d) => bytes.length + uptoBulk d + 1
  | (_, d) => uptoBulk d + 1
 end
def uptoSmall : (H : Type) → List (DataW H) → Bool := fun _ ds => decide (uptoBulkAll ds ≤ 1048576)
def OpenSpec.upto (s : _root_.Go.ChangeSpec) : _root_.Go.OpenSpec := { _root_.Go.OpenSpec.ofChange s with cond := some uptoSmall }

/-- 'laws.FnLoudness', WHERE WHAT IT READS IS OF BULK AT MOST 1048576: true; the input reads as it did. -/
def fnLoudnessUptoRow : OpenClaim := { program := "ytjkhhalnlodinaa", sum := "17865be11f4d1d610bdb4fa9dc306c18ddad4924c5c18a799006ff6d710d2bce", func := "loop.example/g01170/laws.FnLoudness", spec := "fnLoudness", inPlace := ["math.Float32bits"], apart := false, narrowed := true }
def FnLoudnessUptoSaid : Prop := fnLoudnessUptoRow.holds Try.pinned (OpenSpec.upto fnLoudnessSpec)

/-- 'laws.FnSteps', WHERE WHAT IT READS IS OF BULK AT MOST 1048576: true; the input reads as it did. -/
def fnStepsUptoRow : OpenClaim := { program := "ytjkhhalnlodinaa", sum := "17865be11f4d1d610bdb4fa9dc306c18ddad4924c5c18a799006ff6d710d2bce", func := "loop.example/g01170/laws.FnSteps", spec := "fnSteps", inPlace := ["math.Float32frombits", "math.RoundToEven"], apart := false, narrowed := true }
def FnStepsUptoSaid : Prop := fnStepsUptoRow.holds Try.pinned (OpenSpec.upto fnStepsSpec)

/-- 'laws.FnSums', WHERE WHAT IT READS IS OF BULK AT MOST 1048576: true; the input reads as it did. -/
def fnSumsUptoRow : OpenClaim := { program := "ytjkhhalnlodinaa", sum := "17865be11f4d1d610bdb4fa9dc306c18ddad4924c5c18a799006ff6d710d2bce", func := "loop.example/g01170/laws.FnSums", spec := "fnSums", inPlace := ["math.Float32frombits", "math.Float32bits"], recurses := true, apart := false, narrowed := true }
def FnSumsUptoSaid : Prop := fnSumsUptoRow.holds Try.pinned (OpenSpec.upto fnSumsSpec)

/-- 'laws.FnLimited', WHERE WHAT IT READS IS OF BULK AT MOST 1048576: true; the input reads as it did. -/
def fnLimitedUptoRow : OpenClaim := { program := "ytjkhhalnlodinaa", sum := "17865be11f4d1d610bdb4fa9dc306c18ddad4924c5c18a799006ff6d710d2bce", func := "loop.example/g01170/laws.FnLimited", spec := "fnLimited", inPlace := ["math.Float32frombits", "math.Float64bits", "math.Float64frombits", "math.Float32bits"], apart := false, narrowed := true }
def FnLimitedUptoSaid : Prop := fnLimitedUptoRow.holds Try.pinned (OpenSpec.upto fnLimitedSpec)

/-- 'laws.FnNodes', WHERE WHAT IT READS IS OF BULK AT MOST 1048576: true; the input reads as it did. -/
def fnNodesUptoRow : OpenClaim := { program := "ytjkhhalnlodinaa", sum := "17865be11f4d1d610bdb4fa9dc306c18ddad4924c5c18a799006ff6d710d2bce", func := "loop.example/g01170/laws.FnNodes", spec := "fnNodes", inPlace := ["math.Float32frombits", "math.Float32bits"], apart := false, narrowed := true }
def FnNodesUptoSaid : Prop := fnNodesUptoRow.holds Try.pinned (OpenSpec.upto fnNodesSpec)

/-- 'laws.FnBent', WHERE WHAT IT READS IS OF BULK AT MOST 1048576: true; the input reads as it did. -/
def fnBentUptoRow : OpenClaim := { program := "ytjkhhalnlodinaa", sum := "17865be11f4d1d610bdb4fa9dc306c18ddad4924c5c18a799006ff6d710d2bce", func := "loop.example/g01170/laws.FnBent", spec := "fnBent", inPlace := ["math.Float32frombits", "math.sqrt", "math.Float64bits", "math.Float64frombits"], apart := false, narrowed := true }
def FnBentUptoSaid : Prop := fnBentUptoRow.holds Try.pinned (OpenSpec.upto fnBentSpec)

/-- 'laws.FnFilterRows', WHERE WHAT IT READS IS OF BULK AT MOST 1048576: true; the input reads as it did. -/
def fnFilterRowsUptoRow : OpenClaim := { program := "ytjkhhalnlodinaa", sum := "17865be11f4d1d610bdb4fa9dc306c18ddad4924c5c18a799006ff6d710d2bce", func := "loop.example/g01170/laws.FnFilterRows", spec := "fnFilterRows", inPlace := ["math.Float32frombits", "math.Float64bits", "math.Float64frombits", "math.Float32bits"], apart := false, narrowed := true }
def FnFilterRowsUptoSaid : Prop := fnFilterRowsUptoRow.holds Try.pinned (OpenSpec.upto fnFilterRowsSpec)

/-- 'laws.FnPlaces', WHERE WHAT IT READS IS OF BULK AT MOST 1048576: true; the input reads as it did. -/
def fnPlacesUptoRow : OpenClaim := { program := "ytjkhhalnlodinaa", sum := "17865be11f4d1d610bdb4fa9dc306c18ddad4924c5c18a799006ff6d710d2bce", func := "loop.example/g01170/laws.FnPlaces", spec := "fnPlaces", inPlace := ["math.archFloor", "math.Float64bits", "math.Float64frombits", "math.archTrunc", "math.Float32bits"], unfollowed := true, recurses := true, apart := false, narrowed := true }
def FnPlacesUptoSaid : Prop := fnPlacesUptoRow.holds Try.pinned (OpenSpec.upto fnPlacesSpec)

/-- 'laws.FnDelays', WHERE WHAT IT READS IS OF BULK AT MOST 1048576: true; the input reads as it did. -/
def fnDelaysUptoRow : OpenClaim := { program := "ytjkhhalnlodinaa", sum := "17865be11f4d1d610bdb4fa9dc306c18ddad4924c5c18a799006ff6d710d2bce", func := "loop.example/g01170/laws.FnDelays", spec := "fnDelays", inPlace := ["math.Float32frombits", "math.Float64bits", "math.Float64frombits", "math.Float32bits"], apart := false, narrowed := true }
def FnDelaysUptoSaid : Prop := fnDelaysUptoRow.holds Try.pinned (OpenSpec.upto fnDelaysSpec)

/-- 'laws.FnSines', WHERE WHAT IT READS IS OF BULK AT MOST 1048576: true; the input reads as it did. -/
def fnSinesUptoRow : OpenClaim := { program := "ytjkhhalnlodinaa", sum := "17865be11f4d1d610bdb4fa9dc306c18ddad4924c5c18a799006ff6d710d2bce", func := "loop.example/g01170/laws.FnSines", spec := "fnSines", inPlace := ["math.Float64frombits", "math.Float64bits", "math.archTrunc", "math.sqrt"], apart := false, narrowed := true }
def FnSinesUptoSaid : Prop := fnSinesUptoRow.holds Try.pinned (OpenSpec.upto fnSinesSpec)

/-- 'laws.FnRooms', WHERE WHAT IT READS IS OF BULK AT MOST 1048576: true; the input reads as it did. -/
def fnRoomsUptoRow : OpenClaim := { program := "ytjkhhalnlodinaa", sum := "17865be11f4d1d610bdb4fa9dc306c18ddad4924c5c18a799006ff6d710d2bce", func := "loop.example/g01170/laws.FnRooms", spec := "fnRooms", inPlace := ["math.Float32frombits", "math.Float64bits", "math.Float64frombits", "math.Float32bits"], apart := false, narrowed := true }
def FnRoomsUptoSaid : Prop := fnRoomsUptoRow.holds Try.pinned (OpenSpec.upto fnRoomsSpec)

/-- 'laws.FnTracks', WHERE WHAT IT READS IS OF BULK AT MOST 1048576: true; the input reads as it did. -/
def fnTracksUptoRow : OpenClaim := { program := "ytjkhhalnlodinaa", sum := "17865be11f4d1d610bdb4fa9dc306c18ddad4924c5c18a799006ff6d710d2bce", func := "loop.example/g01170/laws.FnTracks", spec := "fnTracks", inPlace := ["math.Float32frombits", "math.Float64frombits", "math.Float64bits", "math.archTrunc", "math.Float32bits"], apart := false, narrowed := true }
def FnTracksUptoSaid : Prop := fnTracksUptoRow.holds Try.pinned (OpenSpec.upto fnTracksSpec)

end Rows
end Go.Proofs.Ytjkhhalnlodinaa
