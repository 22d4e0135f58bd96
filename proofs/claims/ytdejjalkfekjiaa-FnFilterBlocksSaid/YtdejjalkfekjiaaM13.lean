/- FnFilterBlocks holds: for every input the law returns true, and its arguments read as before. -/
import Derived.Test.YtdejjalkfekjiaaChecked
import Derived.Test.YtdejjalkfekjiaaDeskE
import Derived.KernelRfl
import Derived.Test.YtdejjalkfekjiaaRows
import Derived.WalkKit
import Derived.ProofKit
import Derived.OpenShut
import Derived.ShutString
import Derived.ChangeOld
import Derived.Below
import Derived.SizedLaws
set_option linter.all false
section
/- What math.Copysign owes: tables of its own, and the reading of its code. -/
namespace Go.Proofs.Ytdejjalkfekjiaa.DC
open Go Go.Desk
def bodyOf (f : Func) : Code := match f.body with
  | some c => c
  | none => .skip
def tyTab : List (Nat × TD) := [
  (39, ⟨false, 1, 8, [.leaf], [.flt .f64 0], .flt .f64⟩),
  (151, ⟨false, 1, 8, [.leaf], [.int .u64 0], .int .u64⟩)]
noncomputable def c147 : Code := bodyOf Try.f147
noncomputable def fnTab : List (Nat × FD) := [
  (141, .ext (pF64frombits)),
  (146, .ext (pF64bits)),
  (147, .code c147 [.val, .val] [] [(4, none)] [(0, [0, 1]), (1, [0, 1])])]
noncomputable def E : Env := ⟨fun t => lookT tyTab t, lookF fnTab⟩
noncomputable def fdAt (n : Nat) : FD := match lookF fnTab n with
  | some d => d
  | none => .ext fun _ => none
noncomputable def keepAt (n : Nat) : List (Nat × List Nat) := match lookF fnTab n with
  | some d => d.keep
  | none => []
theorem tysOk : TysOk Try.prog E := tysOk_of (l := tyTab) (fun _ => rfl) (by kernel_rfl)
theorem ft141 : FnTab Try.prog E 141 (.ext (pF64frombits)) := ext_pF64frombits Try.func141 (by kernel_rfl) (by kernel_rfl) (by kernel_rfl) (by kernel_rfl)
theorem ft146 : FnTab Try.prog E 146 (.ext (pF64bits)) := ext_pF64bits Try.func146 (by kernel_rfl) (by kernel_rfl) (by kernel_rfl) (by kernel_rfl)
theorem ft147 : FnTab Try.prog E 147 (fdAt 147) := fnTab_code (c := c147) (modes := (fdAt 147).ms) (outs := (fdAt 147).os) (results := (fdAt 147).rs) (keep := (fdAt 147).keep) Try.func147 (by kernel_rfl) (by kernel_rfl) (by kernel_rfl)
theorem allFns : AllFns Try.prog E fnTab := .cons ft141 (.cons ft146 (.cons ft147 (.nil)))
theorem fnOk : ∀ f fd, E.fn f = some fd → FnTab Try.prog E f fd := fnTab_of (l := fnTab) (fun _ => rfl) allFns
end Go.Proofs.Ytdejjalkfekjiaa.DC
section
namespace Go.Proofs.Ytdejjalkfekjiaa.DC
open Go Go.Desk
set_option linter.unusedVariables false
noncomputable def x141.w : FnW E := xF64frombits.w 141 (by kernel_rfl)

noncomputable def x146.w : FnW E := xF64bits.w 146 (by kernel_rfl)

def f147_mathCopysign : Nat → Nat → Nat → Option (Nat)
  | 0, _, _ => none
  | n + 1, x1, x2 =>
    bd (xF64bits n x1) fun r3 =>
    let i4 : Int := r3
    bd (xF64bits n x2) fun r5 =>
    let i6 : Int := r5
    bd (xF64frombits n (intBits BinOp.or IntKind.u64 (intBits BinOp.andNot IntKind.u64 i4 (9223372036854775808 : Int)) (intBits BinOp.and IntKind.u64 i6 (9223372036854775808 : Int)))) fun r7 =>
    let x8 : Nat := r7
    some x8
def sg_ff : Sig (Nat × Nat) where
  pk := fun v => [.flt v.1, .flt v.2]
  up := fun ls => match ls with
    | [.flt a0, .flt a1] => some (a0, a1)
    | _ => none
  ok := by
    intro ls v h
    split at h
    · cases h; rfl
    · cases h

def sg_f : Sig (Nat) where
  pk := fun v => [.flt v]
  up := fun ls => match ls with
    | [.flt a0] => some a0
    | _ => none
  ok := by
    intro ls v h
    split at h
    · cases h; rfl
    · cases h

def f147_mathCopysign.P : List Arg := [⟨.val, ⟨false, [.leaf], [.flt .f64 0]⟩⟩, ⟨.val, ⟨false, [.leaf], [.flt .f64 0]⟩⟩]
def f147_mathCopysign.A : RAlt (Nat) := .one ⟨[⟨false, [.leaf], [.flt .f64 0]⟩], [none, none]⟩ sg_f
def f147_mathCopysign.F (n : Nat) (v : Nat × Nat) := f147_mathCopysign n v.1 v.2
noncomputable def f147_mathCopysign.O (n : Nat) : Orc := orcOf (E := E) [x141.w, x146.w] [] n
theorem f147_mathCopysign.ok : ∀ n v x, f147_mathCopysign.F n v = some x → evalFn E n 147 (flAs f147_mathCopysign.P (sg_ff.pk v)) = some (f147_mathCopysign.A.enc x) :=
  fn_pure (modes := (fdAt 147).ms) (outs := (fdAt 147).os) (results := (fdAt 147).rs) f147_mathCopysign.O (c := c147) (keep := keepAt 147) (by kernel_rfl) (fun n => orcOf_cf _ _ n) (fun n => lpOk_of (bs := []) (by kernel_rfl) .nil) (fun _ => rfl) (fun _ _ => by kernel_rfl)
noncomputable def f147_mathCopysign.w : FnW E := fnW 147 f147_mathCopysign.P sg_ff f147_mathCopysign.A f147_mathCopysign.F f147_mathCopysign.ok
end Go.Proofs.Ytdejjalkfekjiaa.DC
end
namespace Go.Proofs.Ytdejjalkfekjiaa.DC
open Go Go.Desk
theorem signOk : ExtOk Try.prog 147 pCopysign := ext_pCopysign_of Try.checked.mixed tysOk fnOk
  (fun x s hx hs hx' hs' => ⟨3, f147_mathCopysign.ok 3 (x, s) _ (copysign_plain 1 hx hs hx' hs')⟩)
end Go.Proofs.Ytdejjalkfekjiaa.DC
end
section
/- The tables of the reading: types and functions of the translation, with what is kept at each region's beginning (written by a program of this workplace). -/
namespace Go.Proofs.Ytdejjalkfekjiaa.D
open Go Go.Desk
def bodyOf (f : Func) : Code := match f.body with
  | some c => c
  | none => .skip
def tyTab : List (Nat × TD) := [
  (2, ⟨false, 1, 8, [.leaf], [.int .i64 0], .int .i64⟩),
  (3, ⟨false, 1, 8, [.leaf], [.int .i64 0], .int .i64⟩),
  (4, ⟨false, 1, 1, [.leaf], [.bool false], .bool⟩),
  (5, ⟨false, 1, 1, [.leaf], [.int .u8 0], .int .u8⟩),
  (22, ⟨false, 1, 24, [.sl .own [.leaf]], [.lst 0 []], .slc 5⟩),
  (27, ⟨false, 1, 24, [.sl .own [.leaf]], [.lst 0 []], .slc 33⟩),
  (33, ⟨false, 1, 4, [.leaf], [.flt .f32 0], .flt .f32⟩),
  (39, ⟨false, 1, 8, [.leaf], [.flt .f64 0], .flt .f64⟩),
  (58, ⟨false, 1, 24, [.sl .own [.leaf]], [.lst 0 []], .slc 2⟩),
  (63, ⟨false, 1, 8, [.leaf], [.int .u64 0], .int .u64⟩),
  (92, ⟨true, 5, 20, [.leaf, .leaf, .leaf, .leaf, .leaf], [.flt .f32 0, .flt .f32 0, .flt .f32 0, .flt .f32 0, .flt .f32 0], .st [(0, 33), (1, 33), (2, 33), (3, 33), (4, 33)]⟩),
  (95, ⟨true, 4, 16, [.leaf, .leaf, .leaf, .leaf], [.flt .f32 0, .flt .f32 0, .flt .f32 0, .flt .f32 0], .st [(0, 33), (1, 33), (2, 33), (3, 33)]⟩),
  (108, ⟨false, 1, 8, [.leaf], [.nil], .ptr 153⟩),
  (127, ⟨false, 1, 4, [.leaf], [.int .u32 0], .int .u32⟩),
  (151, ⟨false, 1, 8, [.leaf], [.int .u64 0], .int .u64⟩),
  (153, ⟨true, 3, 40, [.sl .own [.leaf], .leaf, .leaf], [.lst 0 [], .int .i64 0, .int .u64 0], .st [(0, 22), (1, 3), (2, 151)]⟩)]
noncomputable def c13 : Code := bodyOf Try.f13
noncomputable def c27 : Code := bodyOf Try.f27
noncomputable def c28 : Code := bodyOf Try.f28
noncomputable def c30 : Code := bodyOf Try.f30
noncomputable def c32 : Code := bodyOf Try.f32
noncomputable def c33 : Code := bodyOf Try.f33
noncomputable def c66 : Code := bodyOf Try.f66
noncomputable def c67 : Code := bodyOf Try.f67
noncomputable def c68 : Code := bodyOf Try.f68
noncomputable def c69 : Code := bodyOf Try.f69
noncomputable def c70 : Code := bodyOf Try.f70
noncomputable def c71 : Code := bodyOf Try.f71
noncomputable def c75 : Code := bodyOf Try.f75
noncomputable def c76 : Code := bodyOf Try.f76
noncomputable def c77 : Code := bodyOf Try.f77
noncomputable def c81 : Code := bodyOf Try.f81
noncomputable def c83 : Code := bodyOf Try.f83
noncomputable def c94 : Code := bodyOf Try.f94
noncomputable def c99 : Code := bodyOf Try.f99
noncomputable def c121 : Code := bodyOf Try.f121
noncomputable def c122 : Code := bodyOf Try.f122
noncomputable def c123 : Code := bodyOf Try.f123
noncomputable def c124 : Code := bodyOf Try.f124
noncomputable def c125 : Code := bodyOf Try.f125
noncomputable def c128 : Code := bodyOf Try.f128
noncomputable def c129 : Code := bodyOf Try.f129
noncomputable def c131 : Code := bodyOf Try.f131
noncomputable def c132 : Code := bodyOf Try.f132
noncomputable def c135 : Code := bodyOf Try.f135
noncomputable def c136 : Code := bodyOf Try.f136
noncomputable def c143 : Code := bodyOf Try.f143
noncomputable def fnTab : List (Nat × FD) := [
  (13, .code c13 [.val, .val] [] [(4, none)] [(0, [0, 1]), (1, [0, 1]), (2, []), (3, [0, 1]), (4, [0, 1, 5]), (5, [0, 1, 5, 6]), (6, [0, 5, 6, 7]), (7, [0, 5, 6, 7, 8]), (8, [0, 5, 6, 7, 8, 9]), (9, [5, 6, 7, 8, 9, 10]), (10, [5, 6, 7, 8, 9, 10, 11, 12, 13]), (11, [5, 6, 7, 8, 9, 10, 11, 12, 13, 14, 15, 16]), (12, [5, 6, 7, 8, 9, 11, 12, 13, 14, 16, 17, 18, 19]), (13, []), (14, [5, 6, 7, 8, 9, 11, 12]), (15, [5, 7, 8, 9, 11, 12, 20]), (16, [5, 7, 8, 9, 11, 12, 20, 21]), (17, [5, 7, 8, 9, 11, 12, 20, 21]), (18, [5, 7, 8, 9, 11, 12, 20, 21]), (19, [5, 7, 8, 9, 11, 12, 20, 21, 22, 23, 24]), (20, []), (21, [5, 7, 8, 9, 11, 12, 20, 21, 23]), (22, [12, 20]), (1000016, [4, 12, 20])]),
  (27, .code c27 [.val, .val] [] [(4, none)] [(0, [0, 1]), (1, [0, 1])]),
  (28, .code c28 [.val, .val, .val] [] [(6, none)] [(0, [0, 1, 2]), (1, [0, 1, 2]), (2, []), (3, [0, 1, 2])]),
  (30, .code c30 [.val, .val] [] [(4, none)] [(0, [0, 1]), (1, [0, 1]), (2, [1, 5]), (3, [5, 6])]),
  (32, .code c32 [.val, .val] [] [(4, none)] [(0, [0, 1]), (1, [0, 1]), (2, []), (3, [0, 1]), (4, [0, 1, 5]), (5, [0, 1, 5]), (6, [0, 1, 5]), (7, []), (8, []), (1000004, [4])]),
  (33, .code c33 [.val, .val] [] [(4, none)] [(0, [0, 1]), (1, [0, 1]), (2, [0, 1]), (3, [0, 1])]),
  (66, .code c66 [.val] [] [(2, some (true, 5))] [(0, [0]), (1, [0, 2]), (2, [2, 3])]),
  (67, .code c67 [.val] [] [(2, some (true, 4))] [(0, [0]), (1, [0, 2]), (2, [2, 3])]),
  (68, .code c68 [.val, .val, .val, .val, .val] [] [(10, none), (11, some (true, 4)), (12, none)] [(0, [0, 1, 2, 3, 4]), (1, [1, 2, 4, 5, 8, 11]), (2, [11]), (3, [1, 2, 4, 5, 8, 11]), (4, [11, 13, 14])]),
  (69, .code c69 [.val, .val] [] [(4, none)] [(0, [0, 1]), (1, [2, 3])]),
  (70, .code c70 [.val, .val, .val, .val, .val] [] [(10, none), (11, some (true, 4)), (12, none)] [(0, [0, 1, 2, 3, 4]), (1, [1, 2, 4, 5, 8, 11]), (2, [11]), (3, [1, 2, 4, 5, 8, 11]), (4, [11, 13, 14])]),
  (71, .code c71 [.val] [] [(2, none)] [(0, [0]), (1, [0])]),
  (75, .code c75 [.val] [] [(2, none)] [(0, [0]), (1, [0])]),
  (76, .code c76 [.iop, .val] [0] [(4, none)] [(0, [0, 1]), (1, [0, 1]), (2, [0]), (3, [0, 1]), (4, [0, 1, 5]), (5, [0, 1, 5]), (6, [0, 1, 5])]),
  (77, .code c77 [.iop] [0] [(2, none)] [(0, [0]), (1, [0]), (2, [0, 3]), (3, [0, 3]), (4, [0, 3])]),
  (81, .code c81 [.iop, .val] [0] [(4, none)] [(0, [0, 1]), (1, [0, 1]), (2, [0, 1, 5]), (3, [0, 1, 5, 6]), (4, [0, 1, 5, 6]), (5, [0, 1, 5, 6]), (6, [0, 1, 5, 6]), (7, [0, 1, 5, 6]), (8, [0, 5]), (1000003, [0, 5])]),
  (83, .code c83 [.val, .val, .val] [] [(6, none)] [(0, [0, 1, 2]), (1, [0, 1, 2])]),
  (94, .code c94 [.val] [] [(2, none)] [(0, [0]), (1, [0])]),
  (98, .ext (pF32bits)),
  (99, .code c99 [.iop] [0] [(2, none)] [(0, [0]), (1, [0]), (2, [0]), (3, [0]), (4, [0, 10]), (5, [0]), (6, [0, 10]), (7, [0]), (8, [0, 3]), (9, [0, 10]), (10, [0]), (11, [0])]),
  (121, .code c121 [.iop] [0] [(2, some (true, 5))] [(0, [0]), (1, [0, 2]), (2, [0, 2, 3]), (3, [0, 2, 3]), (4, [0, 2, 3]), (5, [0, 2, 3]), (6, [0, 2, 3]), (7, [0, 2, 3]), (8, [0, 2, 3]), (9, [0, 2, 3]), (10, [0, 2, 3])]),
  (122, .code c122 [.iop] [0] [(2, some (true, 4))] [(0, [0]), (1, [0, 2]), (2, [0, 2]), (3, [0, 2]), (4, [0, 2, 3]), (5, [0, 2, 3]), (6, [0, 2, 3]), (7, [0, 2, 3])]),
  (123, .code c123 [.val] [] [(2, none)] [(0, [0]), (1, [0])]),
  (124, .code c124 [.val, .val, .val, .val, .val] [] [(10, none), (11, some (true, 4))] [(0, [0, 1, 2, 3, 4]), (1, [1, 2, 4, 5, 8, 11]), (2, [1, 2, 4, 5, 8, 11, 12]), (3, [1, 2, 4, 5, 8, 11, 12, 17, 18, 19]), (4, [1, 2, 4, 5, 8, 11, 12, 17, 18, 19]), (5, [1, 2, 4, 5, 8, 11, 12, 14, 17, 18, 19]), (6, [1, 2, 4, 5, 8, 11, 12, 15, 16, 17, 18, 19]), (7, [1, 2, 4, 5, 8, 11, 12, 15, 17, 18, 19]), (8, [1, 2, 4, 5, 8, 11, 12, 17, 18, 19]), (9, [8, 11, 12]), (1000003, [8, 11, 12])]),
  (125, .code c125 [.val, .val, .val, .val, .val] [] [(10, none), (11, some (true, 4))] [(0, [0, 1, 2, 3, 4]), (1, [1, 2, 4, 5, 8, 11]), (2, [1, 2, 4, 5, 8, 11]), (3, [2, 4, 5, 8, 11]), (4, [2, 5, 8, 11, 13]), (5, [2, 8, 11, 12, 13]), (6, [1, 2, 4, 5, 8, 11, 14]), (7, [2, 4, 5, 8, 11]), (8, [2, 4, 8, 11, 12]), (9, [2, 4, 8, 11, 12]), (10, [1, 2, 4, 5, 8, 11, 14]), (11, [2, 4, 5, 8, 11]), (12, [2, 4, 5, 8, 11, 12]), (13, [2, 8, 11, 12])]),
  (128, .code c128 [.iop] [0] [(2, none)] [(0, [0]), (1, [0]), (2, [0, 3]), (3, [0]), (4, [0, 3]), (5, [0, 3]), (6, [0, 3]), (7, [0, 3]), (8, [0])]),
  (129, .code c129 [.iop, .val] [0] [(4, none)] [(0, [0, 1]), (1, [0, 1])]),
  (131, .code c131 [.val] [] [(2, none)] [(0, [0]), (1, [0])]),
  (132, .code c132 [.iop, .io] [0, 1] [(4, none)] [(0, [0, 1]), (1, [0, 1])]),
  (135, .code c135 [.iop] [0] [(2, none)] [(0, [0]), (1, [0]), (2, [0]), (3, [0]), (4, [0]), (5, [0])]),
  (136, .code c136 [.val, .val] [] [(4, none)] [(0, [0, 1]), (1, [0, 1]), (2, [0]), (3, [0])]),
  (140, .ext (pF32frombits)),
  (143, .code c143 [.val] [] [(2, none)] [(0, [0]), (1, [0]), (2, [0]), (3, [0])]),
  (147, .ext (pCopysign))]
noncomputable def E : Env := ⟨fun t => lookT tyTab t, lookF fnTab⟩
noncomputable def fdAt (n : Nat) : FD := match lookF fnTab n with
  | some d => d
  | none => .ext fun _ => none
noncomputable def keepAt (n : Nat) : List (Nat × List Nat) := match lookF fnTab n with
  | some d => d.keep
  | none => []
theorem tysOk : TysOk Try.prog E := tysOk_of (l := tyTab) (fun _ => rfl) (by kernel_rfl)
theorem ft13 : FnTab Try.prog E 13 (fdAt 13) := fnTab_code (c := c13) (modes := (fdAt 13).ms) (outs := (fdAt 13).os) (results := (fdAt 13).rs) (keep := (fdAt 13).keep) Try.func13 (by kernel_rfl) (by kernel_rfl) (by kernel_rfl)
theorem ft27 : FnTab Try.prog E 27 (fdAt 27) := fnTab_code (c := c27) (modes := (fdAt 27).ms) (outs := (fdAt 27).os) (results := (fdAt 27).rs) (keep := (fdAt 27).keep) Try.func27 (by kernel_rfl) (by kernel_rfl) (by kernel_rfl)
theorem ft28 : FnTab Try.prog E 28 (fdAt 28) := fnTab_code (c := c28) (modes := (fdAt 28).ms) (outs := (fdAt 28).os) (results := (fdAt 28).rs) (keep := (fdAt 28).keep) Try.func28 (by kernel_rfl) (by kernel_rfl) (by kernel_rfl)
theorem ft30 : FnTab Try.prog E 30 (fdAt 30) := fnTab_code (c := c30) (modes := (fdAt 30).ms) (outs := (fdAt 30).os) (results := (fdAt 30).rs) (keep := (fdAt 30).keep) Try.func30 (by kernel_rfl) (by kernel_rfl) (by kernel_rfl)
theorem ft32 : FnTab Try.prog E 32 (fdAt 32) := fnTab_code (c := c32) (modes := (fdAt 32).ms) (outs := (fdAt 32).os) (results := (fdAt 32).rs) (keep := (fdAt 32).keep) Try.func32 (by kernel_rfl) (by kernel_rfl) (by kernel_rfl)
theorem ft33 : FnTab Try.prog E 33 (fdAt 33) := fnTab_code (c := c33) (modes := (fdAt 33).ms) (outs := (fdAt 33).os) (results := (fdAt 33).rs) (keep := (fdAt 33).keep) Try.func33 (by kernel_rfl) (by kernel_rfl) (by kernel_rfl)
theorem ft66 : FnTab Try.prog E 66 (fdAt 66) := fnTab_code (c := c66) (modes := (fdAt 66).ms) (outs := (fdAt 66).os) (results := (fdAt 66).rs) (keep := (fdAt 66).keep) Try.func66 (by kernel_rfl) (by kernel_rfl) (by kernel_rfl)
theorem ft67 : FnTab Try.prog E 67 (fdAt 67) := fnTab_code (c := c67) (modes := (fdAt 67).ms) (outs := (fdAt 67).os) (results := (fdAt 67).rs) (keep := (fdAt 67).keep) Try.func67 (by kernel_rfl) (by kernel_rfl) (by kernel_rfl)
theorem ft68 : FnTab Try.prog E 68 (fdAt 68) := fnTab_code (c := c68) (modes := (fdAt 68).ms) (outs := (fdAt 68).os) (results := (fdAt 68).rs) (keep := (fdAt 68).keep) Try.func68 (by kernel_rfl) (by kernel_rfl) (by kernel_rfl)
theorem ft69 : FnTab Try.prog E 69 (fdAt 69) := fnTab_code (c := c69) (modes := (fdAt 69).ms) (outs := (fdAt 69).os) (results := (fdAt 69).rs) (keep := (fdAt 69).keep) Try.func69 (by kernel_rfl) (by kernel_rfl) (by kernel_rfl)
theorem ft70 : FnTab Try.prog E 70 (fdAt 70) := fnTab_code (c := c70) (modes := (fdAt 70).ms) (outs := (fdAt 70).os) (results := (fdAt 70).rs) (keep := (fdAt 70).keep) Try.func70 (by kernel_rfl) (by kernel_rfl) (by kernel_rfl)
theorem ft71 : FnTab Try.prog E 71 (fdAt 71) := fnTab_code (c := c71) (modes := (fdAt 71).ms) (outs := (fdAt 71).os) (results := (fdAt 71).rs) (keep := (fdAt 71).keep) Try.func71 (by kernel_rfl) (by kernel_rfl) (by kernel_rfl)
theorem ft75 : FnTab Try.prog E 75 (fdAt 75) := fnTab_code (c := c75) (modes := (fdAt 75).ms) (outs := (fdAt 75).os) (results := (fdAt 75).rs) (keep := (fdAt 75).keep) Try.func75 (by kernel_rfl) (by kernel_rfl) (by kernel_rfl)
theorem ft76 : FnTab Try.prog E 76 (fdAt 76) := fnTab_code (c := c76) (modes := (fdAt 76).ms) (outs := (fdAt 76).os) (results := (fdAt 76).rs) (keep := (fdAt 76).keep) Try.func76 (by kernel_rfl) (by kernel_rfl) (by kernel_rfl)
theorem ft77 : FnTab Try.prog E 77 (fdAt 77) := fnTab_code (c := c77) (modes := (fdAt 77).ms) (outs := (fdAt 77).os) (results := (fdAt 77).rs) (keep := (fdAt 77).keep) Try.func77 (by kernel_rfl) (by kernel_rfl) (by kernel_rfl)
theorem ft81 : FnTab Try.prog E 81 (fdAt 81) := fnTab_code (c := c81) (modes := (fdAt 81).ms) (outs := (fdAt 81).os) (results := (fdAt 81).rs) (keep := (fdAt 81).keep) Try.func81 (by kernel_rfl) (by kernel_rfl) (by kernel_rfl)
theorem ft83 : FnTab Try.prog E 83 (fdAt 83) := fnTab_code (c := c83) (modes := (fdAt 83).ms) (outs := (fdAt 83).os) (results := (fdAt 83).rs) (keep := (fdAt 83).keep) Try.func83 (by kernel_rfl) (by kernel_rfl) (by kernel_rfl)
theorem ft94 : FnTab Try.prog E 94 (fdAt 94) := fnTab_code (c := c94) (modes := (fdAt 94).ms) (outs := (fdAt 94).os) (results := (fdAt 94).rs) (keep := (fdAt 94).keep) Try.func94 (by kernel_rfl) (by kernel_rfl) (by kernel_rfl)
theorem ft98 : FnTab Try.prog E 98 (.ext (pF32bits)) := ext_pF32bits Try.func98 (by kernel_rfl) (by kernel_rfl) (by kernel_rfl) (by kernel_rfl)
theorem ft99 : FnTab Try.prog E 99 (fdAt 99) := fnTab_code (c := c99) (modes := (fdAt 99).ms) (outs := (fdAt 99).os) (results := (fdAt 99).rs) (keep := (fdAt 99).keep) Try.func99 (by kernel_rfl) (by kernel_rfl) (by kernel_rfl)
theorem ft121 : FnTab Try.prog E 121 (fdAt 121) := fnTab_code (c := c121) (modes := (fdAt 121).ms) (outs := (fdAt 121).os) (results := (fdAt 121).rs) (keep := (fdAt 121).keep) Try.func121 (by kernel_rfl) (by kernel_rfl) (by kernel_rfl)
theorem ft122 : FnTab Try.prog E 122 (fdAt 122) := fnTab_code (c := c122) (modes := (fdAt 122).ms) (outs := (fdAt 122).os) (results := (fdAt 122).rs) (keep := (fdAt 122).keep) Try.func122 (by kernel_rfl) (by kernel_rfl) (by kernel_rfl)
theorem ft123 : FnTab Try.prog E 123 (fdAt 123) := fnTab_code (c := c123) (modes := (fdAt 123).ms) (outs := (fdAt 123).os) (results := (fdAt 123).rs) (keep := (fdAt 123).keep) Try.func123 (by kernel_rfl) (by kernel_rfl) (by kernel_rfl)
theorem ft124 : FnTab Try.prog E 124 (fdAt 124) := fnTab_code (c := c124) (modes := (fdAt 124).ms) (outs := (fdAt 124).os) (results := (fdAt 124).rs) (keep := (fdAt 124).keep) Try.func124 (by kernel_rfl) (by kernel_rfl) (by kernel_rfl)
theorem ft125 : FnTab Try.prog E 125 (fdAt 125) := fnTab_code (c := c125) (modes := (fdAt 125).ms) (outs := (fdAt 125).os) (results := (fdAt 125).rs) (keep := (fdAt 125).keep) Try.func125 (by kernel_rfl) (by kernel_rfl) (by kernel_rfl)
theorem ft128 : FnTab Try.prog E 128 (fdAt 128) := fnTab_code (c := c128) (modes := (fdAt 128).ms) (outs := (fdAt 128).os) (results := (fdAt 128).rs) (keep := (fdAt 128).keep) Try.func128 (by kernel_rfl) (by kernel_rfl) (by kernel_rfl)
theorem ft129 : FnTab Try.prog E 129 (fdAt 129) := fnTab_code (c := c129) (modes := (fdAt 129).ms) (outs := (fdAt 129).os) (results := (fdAt 129).rs) (keep := (fdAt 129).keep) Try.func129 (by kernel_rfl) (by kernel_rfl) (by kernel_rfl)
theorem ft131 : FnTab Try.prog E 131 (fdAt 131) := fnTab_code (c := c131) (modes := (fdAt 131).ms) (outs := (fdAt 131).os) (results := (fdAt 131).rs) (keep := (fdAt 131).keep) Try.func131 (by kernel_rfl) (by kernel_rfl) (by kernel_rfl)
theorem ft132 : FnTab Try.prog E 132 (fdAt 132) := fnTab_code (c := c132) (modes := (fdAt 132).ms) (outs := (fdAt 132).os) (results := (fdAt 132).rs) (keep := (fdAt 132).keep) Try.func132 (by kernel_rfl) (by kernel_rfl) (by kernel_rfl)
theorem ft135 : FnTab Try.prog E 135 (fdAt 135) := fnTab_code (c := c135) (modes := (fdAt 135).ms) (outs := (fdAt 135).os) (results := (fdAt 135).rs) (keep := (fdAt 135).keep) Try.func135 (by kernel_rfl) (by kernel_rfl) (by kernel_rfl)
theorem ft136 : FnTab Try.prog E 136 (fdAt 136) := fnTab_code (c := c136) (modes := (fdAt 136).ms) (outs := (fdAt 136).os) (results := (fdAt 136).rs) (keep := (fdAt 136).keep) Try.func136 (by kernel_rfl) (by kernel_rfl) (by kernel_rfl)
theorem ft140 : FnTab Try.prog E 140 (.ext (pF32frombits)) := ext_pF32frombits Try.func140 (by kernel_rfl) (by kernel_rfl) (by kernel_rfl) (by kernel_rfl)
theorem ft143 : FnTab Try.prog E 143 (fdAt 143) := fnTab_code (c := c143) (modes := (fdAt 143).ms) (outs := (fdAt 143).os) (results := (fdAt 143).rs) (keep := (fdAt 143).keep) Try.func143 (by kernel_rfl) (by kernel_rfl) (by kernel_rfl)
theorem ft147 : FnTab Try.prog E 147 (.ext (pCopysign)) := DC.signOk
theorem allFns : AllFns Try.prog E fnTab := .cons ft13 (.cons ft27 (.cons ft28 (.cons ft30 (.cons ft32 (.cons ft33 (.cons ft66 (.cons ft67 (.cons ft68 (.cons ft69 (.cons ft70 (.cons ft71 (.cons ft75 (.cons ft76 (.cons ft77 (.cons ft81 (.cons ft83 (.cons ft94 (.cons ft98 (.cons ft99 (.cons ft121 (.cons ft122 (.cons ft123 (.cons ft124 (.cons ft125 (.cons ft128 (.cons ft129 (.cons ft131 (.cons ft132 (.cons ft135 (.cons ft136 (.cons ft140 (.cons ft143 (.cons ft147 (.nil))))))))))))))))))))))))))))))))))
theorem fnOk : ∀ f fd, E.fn f = some fd → FnTab Try.prog E f fd := fnTab_of (l := fnTab) (fun _ => rfl) allFns
end Go.Proofs.Ytdejjalkfekjiaa.D
end
section
/- Plain functions for the law's Go functions, each tied to the reading by the kernel (printed by a program of this workplace). -/
namespace Go.Proofs.Ytdejjalkfekjiaa.D
open Go Go.Desk
set_option linter.unusedVariables false
noncomputable def x140.w : FnW E := xF32frombits.w 140 (by kernel_rfl)

noncomputable def x98.w : FnW E := xF32bits.w 98 (by kernel_rfl)

noncomputable def x147.w : FnW E := xCopysign.w 147 (by kernel_rfl)

def f27_l_r8Long : Nat → Nat → List T → Nat → List T → Option (Bool)
  | 0, _, _, _, _ => none
  | n + 1, n1, l2, n3, l4 =>
    br (decide (((n1 : Nat) : Int) > (48 : Int))) (
     some true) (
     some (decide (((n3 : Nat) : Int) > (48 : Int))))
def sg_ll : Sig (Nat × List T × Nat × List T) where
  pk := fun v => [.lst v.1 v.2.1, .lst v.2.2.1 v.2.2.2]
  up := fun ls => match ls with
    | [.lst a0 a1, .lst a2 a3] => some (a0, a1, a2, a3)
    | _ => none
  ok := by
    intro ls v h
    split at h
    · cases h; rfl
    · cases h

def sg_b : Sig (Bool) where
  pk := fun v => [.bool v]
  up := fun ls => match ls with
    | [.bool a0] => some a0
    | _ => none
  ok := by
    intro ls v h
    split at h
    · cases h; rfl
    · cases h

def f27_l_r8Long.P : List Arg := [⟨.val, ⟨false, [.sl .shr [.leaf]], [.lst 0 []]⟩⟩, ⟨.val, ⟨false, [.sl .shr [.leaf]], [.lst 0 []]⟩⟩]
def f27_l_r8Long.A : RAlt (Bool) := .one ⟨[⟨false, [.leaf], [.bool false]⟩], [none, none]⟩ sg_b
def f27_l_r8Long.F (n : Nat) (v : Nat × List T × Nat × List T) := f27_l_r8Long n v.1 v.2.1 v.2.2.1 v.2.2.2
noncomputable def f27_l_r8Long.O (n : Nat) : Orc := orcOf (E := E) [] [] n
theorem f27_l_r8Long.ok : ∀ n v x, f27_l_r8Long.F n v = some x → evalFn E n 27 (flAs f27_l_r8Long.P (sg_ll.pk v)) = some (f27_l_r8Long.A.enc x) :=
  fn_pure (modes := (fdAt 27).ms) (outs := (fdAt 27).os) (results := (fdAt 27).rs) f27_l_r8Long.O (c := c27) (keep := keepAt 27) (by kernel_rfl) (fun n => orcOf_cf _ _ n) (fun n => lpOk_of (bs := []) (by kernel_rfl) .nil) (fun _ => rfl) (fun _ _ => by kernel_rfl)
noncomputable def f27_l_r8Long.w : FnW E := fnW 27 f27_l_r8Long.P sg_ll f27_l_r8Long.A f27_l_r8Long.F f27_l_r8Long.ok

def f75_s_l00From : Nat → Nat → List T → Option (Nat × List T × Int × Int)
  | 0, _, _ => none
  | n + 1, n1, l2 =>
    some (n1, l2, (0 : Int), (0 : Int))
def sg_l : Sig (Nat × List T) where
  pk := fun v => [.lst v.1 v.2]
  up := fun ls => match ls with
    | [.lst a0 a1] => some (a0, a1)
    | _ => none
  ok := by
    intro ls v h
    split at h
    · cases h; rfl
    · cases h

def sg_lii : Sig (Nat × List T × Int × Int) where
  pk := fun v => [.lst v.1 v.2.1, .int v.2.2.1, .int v.2.2.2]
  up := fun ls => match ls with
    | [.lst a0 a1, .int a2, .int a3] => some (a0, a1, a2, a3)
    | _ => none
  ok := by
    intro ls v h
    split at h
    · cases h; rfl
    · cases h

def f75_s_l00From.P : List Arg := [⟨.val, ⟨false, [.sl .shr [.leaf]], [.lst 0 []]⟩⟩]
def f75_s_l00From.A : RAlt (Nat × List T × Int × Int) := .one ⟨[⟨false, [.rf .own [.sl .shr [.leaf], .leaf, .leaf]], [.ref [.lst 0 [], .int .i64 0, .int .u64 0]]⟩], [none]⟩ sg_lii
def f75_s_l00From.F (n : Nat) (v : Nat × List T) := f75_s_l00From n v.1 v.2
noncomputable def f75_s_l00From.O (n : Nat) : Orc := orcOf (E := E) [] [] n
theorem f75_s_l00From.ok : ∀ n v x, f75_s_l00From.F n v = some x → evalFn E n 75 (flAs f75_s_l00From.P (sg_l.pk v)) = some (f75_s_l00From.A.enc x) :=
  fn_pure (modes := (fdAt 75).ms) (outs := (fdAt 75).os) (results := (fdAt 75).rs) f75_s_l00From.O (c := c75) (keep := keepAt 75) (by kernel_rfl) (fun n => orcOf_cf _ _ n) (fun n => lpOk_of (bs := []) (by kernel_rfl) .nil) (fun _ => rfl) (fun _ _ => by kernel_rfl)
noncomputable def f75_s_l00From.w : FnW E := fnW 75 f75_s_l00From.P sg_l f75_s_l00From.A f75_s_l00From.F f75_s_l00From.ok

def f128_s_l00Srcnext : Nat → Nat → List T → Int → Int → Option (Int × Nat × List T × Int × Int)
  | 0, _, _, _, _ => none
  | n + 1, n1, l2, i3, i4 =>
    br (decide (i3 < ((n1 : Nat) : Int))) (
     gd ((decide (((0 : Int) ≤ i3) ∧ (i3 < ((n1 : Nat) : Int)))) && (okAt [(CK.int IntKind.u8)] l2 (Int.toNat i3))) (
     let i5 : Int := (IntKind.i64.wrap (iAt l2 (Int.toNat i3)))
     let i6 : Int := (IntKind.i64.wrap (i3 + (1 : Int)))
     let i7 : Int := (IntKind.u64.wrap ((IntKind.u64.wrap ((IntKind.u64.wrap (i4 * (6364136223846793005 : Int))) + (IntKind.u64.wrap i5))) + (1442695040888963407 : Int)))
     br (decide (i6 ≤ ((n1 : Nat) : Int))) (
      some (i5, n1, l2, i6, i7)) (
      some ((IntKind.i64.wrap (intBits BinOp.and IntKind.u64 (Int.fdiv i7 (1099511627776 : Int)) (255 : Int))), n1, l2, i6, i7)))) (
     let i8 : Int := (IntKind.i64.wrap (i3 + (1 : Int)))
     let i9 : Int := (IntKind.u64.wrap ((IntKind.u64.wrap ((IntKind.u64.wrap (i4 * (6364136223846793005 : Int))) + (0 : Int))) + (1442695040888963407 : Int)))
     br (decide (i8 ≤ ((n1 : Nat) : Int))) (
      some ((0 : Int), n1, l2, i8, i9)) (
      some ((IntKind.i64.wrap (intBits BinOp.and IntKind.u64 (Int.fdiv i9 (1099511627776 : Int)) (255 : Int))), n1, l2, i8, i9)))
def sg_ilii : Sig (Int × Nat × List T × Int × Int) where
  pk := fun v => [.int v.1, .lst v.2.1 v.2.2.1, .int v.2.2.2.1, .int v.2.2.2.2]
  up := fun ls => match ls with
    | [.int a0, .lst a1 a2, .int a3, .int a4] => some (a0, a1, a2, a3, a4)
    | _ => none
  ok := by
    intro ls v h
    split at h
    · cases h; rfl
    · cases h

def f128_s_l00Srcnext.P : List Arg := [⟨.iop, ⟨false, [.rf .own [.sl .shr [.leaf], .leaf, .leaf]], [.ref [.lst 0 [], .int .i64 0, .int .u64 0]]⟩⟩]
def f128_s_l00Srcnext.A : RAlt (Int × Nat × List T × Int × Int) := .one ⟨[⟨false, [.leaf], [.int .i64 0]⟩], [some ⟨false, [.rf .own [.sl .shr [.leaf], .leaf, .leaf]], [.ref [.lst 0 [], .int .i64 0, .int .u64 0]]⟩]⟩ sg_ilii
def f128_s_l00Srcnext.F (n : Nat) (v : Nat × List T × Int × Int) := f128_s_l00Srcnext n v.1 v.2.1 v.2.2.1 v.2.2.2
noncomputable def f128_s_l00Srcnext.O (n : Nat) : Orc := orcOf (E := E) [] [] n
theorem f128_s_l00Srcnext.ok : ∀ n v x, f128_s_l00Srcnext.F n v = some x → evalFn E n 128 (flAs f128_s_l00Srcnext.P (sg_lii.pk v)) = some (f128_s_l00Srcnext.A.enc x) :=
  fn_pure (modes := (fdAt 128).ms) (outs := (fdAt 128).os) (results := (fdAt 128).rs) f128_s_l00Srcnext.O (c := c128) (keep := keepAt 128) (by kernel_rfl) (fun n => orcOf_cf _ _ n) (fun n => lpOk_of (bs := []) (by kernel_rfl) .nil) (fun _ => rfl) (fun _ _ => by kernel_rfl)
noncomputable def f128_s_l00Srcnext.w : FnW E := fnW 128 f128_s_l00Srcnext.P sg_lii f128_s_l00Srcnext.A f128_s_l00Srcnext.F f128_s_l00Srcnext.ok

def f76_s_l00Srcpick : Nat → Nat → List T → Int → Int → Int → Option (Int × Nat × List T × Int × Int)
  | 0, _, _, _, _, _ => none
  | n + 1, n1, l2, i3, i4, i5 =>
    br (decide (i5 ≤ (1 : Int))) (
     some ((0 : Int), n1, l2, i3, i4)) (
     bd (f128_s_l00Srcnext n n1 l2 i3 i4) fun r6 =>
     let i7 : Int := r6.1
     let n8 : Nat := r6.2.1
     let l9 : List T := r6.2.2.1
     let i10 : Int := r6.2.2.2.1
     let i11 : Int := r6.2.2.2.2
     br (decide (i5 > (200 : Int))) (
      bd (f128_s_l00Srcnext n n8 l9 i10 i11) fun r12 =>
      let i13 : Int := r12.1
      let n14 : Nat := r12.2.1
      let l15 : List T := r12.2.2.1
      let i16 : Int := r12.2.2.2.1
      let i17 : Int := r12.2.2.2.2
      let i18 : Int := (IntKind.i64.wrap ((IntKind.i64.wrap (i7 * (256 : Int))) + i13))
      gd (!(decide (i5 = (0 : Int)))) (
      some ((Int.tmod i18 i5), n14, l15, i16, i17))) (
      gd (!(decide (i5 = (0 : Int)))) (
      some ((Int.tmod i7 i5), n8, l9, i10, i11))))
def sg_liii : Sig (Nat × List T × Int × Int × Int) where
  pk := fun v => [.lst v.1 v.2.1, .int v.2.2.1, .int v.2.2.2.1, .int v.2.2.2.2]
  up := fun ls => match ls with
    | [.lst a0 a1, .int a2, .int a3, .int a4] => some (a0, a1, a2, a3, a4)
    | _ => none
  ok := by
    intro ls v h
    split at h
    · cases h; rfl
    · cases h

def f76_s_l00Srcpick.P : List Arg := [⟨.iop, ⟨false, [.rf .own [.sl .shr [.leaf], .leaf, .leaf]], [.ref [.lst 0 [], .int .i64 0, .int .u64 0]]⟩⟩, ⟨.val, ⟨false, [.leaf], [.int .i64 0]⟩⟩]
def f76_s_l00Srcpick.A : RAlt (Int × Nat × List T × Int × Int) := .one ⟨[⟨false, [.leaf], [.int .i64 0]⟩], [some ⟨false, [.rf .own [.sl .shr [.leaf], .leaf, .leaf]], [.ref [.lst 0 [], .int .i64 0, .int .u64 0]]⟩, none]⟩ sg_ilii
def f76_s_l00Srcpick.F (n : Nat) (v : Nat × List T × Int × Int × Int) := f76_s_l00Srcpick n v.1 v.2.1 v.2.2.1 v.2.2.2.1 v.2.2.2.2
noncomputable def f76_s_l00Srcpick.O (n : Nat) : Orc := orcOf (E := E) [f128_s_l00Srcnext.w] [] n
theorem f76_s_l00Srcpick.ok : ∀ n v x, f76_s_l00Srcpick.F n v = some x → evalFn E n 76 (flAs f76_s_l00Srcpick.P (sg_liii.pk v)) = some (f76_s_l00Srcpick.A.enc x) :=
  fn_pure (modes := (fdAt 76).ms) (outs := (fdAt 76).os) (results := (fdAt 76).rs) f76_s_l00Srcpick.O (c := c76) (keep := keepAt 76) (by kernel_rfl) (fun n => orcOf_cf _ _ n) (fun n => lpOk_of (bs := []) (by kernel_rfl) .nil) (fun _ => rfl) (fun _ _ => by kernel_rfl)
noncomputable def f76_s_l00Srcpick.w : FnW E := fnW 76 f76_s_l00Srcpick.P sg_liii f76_s_l00Srcpick.A f76_s_l00Srcpick.F f76_s_l00Srcpick.ok

def f129_s_l00Srcone : Nat → Nat → List T → Int → Int → Int → Option (Bool × Nat × List T × Int × Int)
  | 0, _, _, _, _, _ => none
  | n + 1, n1, l2, i3, i4, i5 =>
    bd (f76_s_l00Srcpick n n1 l2 i3 i4 i5) fun r6 =>
    let i7 : Int := r6.1
    let n8 : Nat := r6.2.1
    let l9 : List T := r6.2.2.1
    let i10 : Int := r6.2.2.2.1
    let i11 : Int := r6.2.2.2.2
    some ((i7 == (0 : Int)), n8, l9, i10, i11)
def sg_blii : Sig (Bool × Nat × List T × Int × Int) where
  pk := fun v => [.bool v.1, .lst v.2.1 v.2.2.1, .int v.2.2.2.1, .int v.2.2.2.2]
  up := fun ls => match ls with
    | [.bool a0, .lst a1 a2, .int a3, .int a4] => some (a0, a1, a2, a3, a4)
    | _ => none
  ok := by
    intro ls v h
    split at h
    · cases h; rfl
    · cases h

def f129_s_l00Srcone.P : List Arg := [⟨.iop, ⟨false, [.rf .own [.sl .shr [.leaf], .leaf, .leaf]], [.ref [.lst 0 [], .int .i64 0, .int .u64 0]]⟩⟩, ⟨.val, ⟨false, [.leaf], [.int .i64 0]⟩⟩]
def f129_s_l00Srcone.A : RAlt (Bool × Nat × List T × Int × Int) := .one ⟨[⟨false, [.leaf], [.bool false]⟩], [some ⟨false, [.rf .own [.sl .shr [.leaf], .leaf, .leaf]], [.ref [.lst 0 [], .int .i64 0, .int .u64 0]]⟩, none]⟩ sg_blii
def f129_s_l00Srcone.F (n : Nat) (v : Nat × List T × Int × Int × Int) := f129_s_l00Srcone n v.1 v.2.1 v.2.2.1 v.2.2.2.1 v.2.2.2.2
noncomputable def f129_s_l00Srcone.O (n : Nat) : Orc := orcOf (E := E) [f76_s_l00Srcpick.w] [] n
theorem f129_s_l00Srcone.ok : ∀ n v x, f129_s_l00Srcone.F n v = some x → evalFn E n 129 (flAs f129_s_l00Srcone.P (sg_liii.pk v)) = some (f129_s_l00Srcone.A.enc x) :=
  fn_pure (modes := (fdAt 129).ms) (outs := (fdAt 129).os) (results := (fdAt 129).rs) f129_s_l00Srcone.O (c := c129) (keep := keepAt 129) (by kernel_rfl) (fun n => orcOf_cf _ _ n) (fun n => lpOk_of (bs := []) (by kernel_rfl) .nil) (fun _ => rfl) (fun _ _ => by kernel_rfl)
noncomputable def f129_s_l00Srcone.w : FnW E := fnW 129 f129_s_l00Srcone.P sg_liii f129_s_l00Srcone.A f129_s_l00Srcone.F f129_s_l00Srcone.ok

def f77_s_l01DrawPlain : Nat → Nat → List T → Int → Int → Option (Nat × Nat × List T × Int × Int)
  | 0, _, _, _, _ => none
  | n + 1, n1, l2, i3, i4 =>
    bd (f76_s_l00Srcpick n n1 l2 i3 i4 (129 : Int)) fun r5 =>
    let i6 : Int := r5.1
    let n7 : Nat := r5.2.1
    let l8 : List T := r5.2.2.1
    let i9 : Int := r5.2.2.2.1
    let i10 : Int := r5.2.2.2.2
    let i11 : Int := (IntKind.i64.wrap (i6 - (64 : Int)))
    bd (f129_s_l00Srcone n n7 l8 i9 i10 (4 : Int)) fun r12 =>
    let b13 : Bool := r12.1
    let n14 : Nat := r12.2.1
    let l15 : List T := r12.2.2.1
    let i16 : Int := r12.2.2.2.1
    let i17 : Int := r12.2.2.2.2
    br b13 (
     some ((fdiv FloatKind.f32 (FloatKind.nearest FloatKind.f32 i11) 1088421888), n14, l15, i16, i17)) (
     some ((fdiv FloatKind.f32 (FloatKind.nearest FloatKind.f32 i11) 1098907648), n14, l15, i16, i17))
def sg_flii : Sig (Nat × Nat × List T × Int × Int) where
  pk := fun v => [.flt v.1, .lst v.2.1 v.2.2.1, .int v.2.2.2.1, .int v.2.2.2.2]
  up := fun ls => match ls with
    | [.flt a0, .lst a1 a2, .int a3, .int a4] => some (a0, a1, a2, a3, a4)
    | _ => none
  ok := by
    intro ls v h
    split at h
    · cases h; rfl
    · cases h

def f77_s_l01DrawPlain.P : List Arg := [⟨.iop, ⟨false, [.rf .own [.sl .shr [.leaf], .leaf, .leaf]], [.ref [.lst 0 [], .int .i64 0, .int .u64 0]]⟩⟩]
def f77_s_l01DrawPlain.A : RAlt (Nat × Nat × List T × Int × Int) := .one ⟨[⟨false, [.leaf], [.flt .f32 0]⟩], [some ⟨false, [.rf .own [.sl .shr [.leaf], .leaf, .leaf]], [.ref [.lst 0 [], .int .i64 0, .int .u64 0]]⟩]⟩ sg_flii
def f77_s_l01DrawPlain.F (n : Nat) (v : Nat × List T × Int × Int) := f77_s_l01DrawPlain n v.1 v.2.1 v.2.2.1 v.2.2.2
noncomputable def f77_s_l01DrawPlain.O (n : Nat) : Orc := orcOf (E := E) [f76_s_l00Srcpick.w, f129_s_l00Srcone.w] [] n
theorem f77_s_l01DrawPlain.ok : ∀ n v x, f77_s_l01DrawPlain.F n v = some x → evalFn E n 77 (flAs f77_s_l01DrawPlain.P (sg_lii.pk v)) = some (f77_s_l01DrawPlain.A.enc x) :=
  fn_pure (modes := (fdAt 77).ms) (outs := (fdAt 77).os) (results := (fdAt 77).rs) f77_s_l01DrawPlain.O (c := c77) (keep := keepAt 77) (by kernel_rfl) (fun n => orcOf_cf _ _ n) (fun n => lpOk_of (bs := []) (by kernel_rfl) .nil) (fun _ => rfl) (fun _ _ => by kernel_rfl)
noncomputable def f77_s_l01DrawPlain.w : FnW E := fnW 77 f77_s_l01DrawPlain.P sg_lii f77_s_l01DrawPlain.A f77_s_l01DrawPlain.F f77_s_l01DrawPlain.ok

def f132_s_l00Srcamong : Nat → Nat → List T → Int → Int → Nat → List T → Option (Int × Nat × List T × Int × Int × Nat × List T)
  | 0, _, _, _, _, _, _ => none
  | n + 1, n1, l2, i3, i4, n5, l6 =>
    bd (f76_s_l00Srcpick n n1 l2 i3 i4 ((n5 : Nat) : Int)) fun r7 =>
    let i8 : Int := r7.1
    let n9 : Nat := r7.2.1
    let l10 : List T := r7.2.2.1
    let i11 : Int := r7.2.2.2.1
    let i12 : Int := r7.2.2.2.2
    gd (decide (((0 : Int) ≤ i8) ∧ (i8 < ((n5 : Nat) : Int)))) (
    gd (okAt [(CK.int IntKind.i64)] l6 (Int.toNat i8)) (
    some ((iAt l6 (Int.toNat i8)), n9, l10, i11, i12, n5, l6)))
def sg_liil : Sig (Nat × List T × Int × Int × Nat × List T) where
  pk := fun v => [.lst v.1 v.2.1, .int v.2.2.1, .int v.2.2.2.1, .lst v.2.2.2.2.1 v.2.2.2.2.2]
  up := fun ls => match ls with
    | [.lst a0 a1, .int a2, .int a3, .lst a4 a5] => some (a0, a1, a2, a3, a4, a5)
    | _ => none
  ok := by
    intro ls v h
    split at h
    · cases h; rfl
    · cases h

def sg_iliil : Sig (Int × Nat × List T × Int × Int × Nat × List T) where
  pk := fun v => [.int v.1, .lst v.2.1 v.2.2.1, .int v.2.2.2.1, .int v.2.2.2.2.1, .lst v.2.2.2.2.2.1 v.2.2.2.2.2.2]
  up := fun ls => match ls with
    | [.int a0, .lst a1 a2, .int a3, .int a4, .lst a5 a6] => some (a0, a1, a2, a3, a4, a5, a6)
    | _ => none
  ok := by
    intro ls v h
    split at h
    · cases h; rfl
    · cases h

def f132_s_l00Srcamong.P : List Arg := [⟨.iop, ⟨false, [.rf .own [.sl .shr [.leaf], .leaf, .leaf]], [.ref [.lst 0 [], .int .i64 0, .int .u64 0]]⟩⟩, ⟨.io, ⟨false, [.sl .own [.leaf]], [.lst 0 []]⟩⟩]
def f132_s_l00Srcamong.A : RAlt (Int × Nat × List T × Int × Int × Nat × List T) := .one ⟨[⟨false, [.leaf], [.int .i64 0]⟩], [some ⟨false, [.rf .own [.sl .shr [.leaf], .leaf, .leaf]], [.ref [.lst 0 [], .int .i64 0, .int .u64 0]]⟩, some ⟨false, [.sl .own [.leaf]], [.lst 0 []]⟩]⟩ sg_iliil
def f132_s_l00Srcamong.F (n : Nat) (v : Nat × List T × Int × Int × Nat × List T) := f132_s_l00Srcamong n v.1 v.2.1 v.2.2.1 v.2.2.2.1 v.2.2.2.2.1 v.2.2.2.2.2
noncomputable def f132_s_l00Srcamong.O (n : Nat) : Orc := orcOf (E := E) [f76_s_l00Srcpick.w] [] n
theorem f132_s_l00Srcamong.ok : ∀ n v x, f132_s_l00Srcamong.F n v = some x → evalFn E n 132 (flAs f132_s_l00Srcamong.P (sg_liil.pk v)) = some (f132_s_l00Srcamong.A.enc x) :=
  fn_pure (modes := (fdAt 132).ms) (outs := (fdAt 132).os) (results := (fdAt 132).rs) f132_s_l00Srcamong.O (c := c132) (keep := keepAt 132) (by kernel_rfl) (fun n => orcOf_cf _ _ n) (fun n => lpOk_of (bs := []) (by kernel_rfl) .nil) (fun _ => rfl) (fun _ _ => by kernel_rfl)
noncomputable def f132_s_l00Srcamong.w : FnW E := fnW 132 f132_s_l00Srcamong.P sg_liil f132_s_l00Srcamong.A f132_s_l00Srcamong.F f132_s_l00Srcamong.ok

def f131_s_l01From : Nat → Int → Option (Nat)
  | 0, _ => none
  | n + 1, i1 =>
    bd (xF32frombits n (IntKind.u32.wrap i1)) fun r2 =>
    let x3 : Nat := r2
    some x3
def sg_i : Sig (Int) where
  pk := fun v => [.int v]
  up := fun ls => match ls with
    | [.int a0] => some a0
    | _ => none
  ok := by
    intro ls v h
    split at h
    · cases h; rfl
    · cases h

def sg_f : Sig (Nat) where
  pk := fun v => [.flt v]
  up := fun ls => match ls with
    | [.flt a0] => some a0
    | _ => none
  ok := by
    intro ls v h
    split at h
    · cases h; rfl
    · cases h

def f131_s_l01From.P : List Arg := [⟨.val, ⟨false, [.leaf], [.int .i64 0]⟩⟩]
def f131_s_l01From.A : RAlt (Nat) := .one ⟨[⟨false, [.leaf], [.flt .f32 0]⟩], [none]⟩ sg_f
def f131_s_l01From.F (n : Nat) (v : Int) := f131_s_l01From n v
noncomputable def f131_s_l01From.O (n : Nat) : Orc := orcOf (E := E) [x140.w] [] n
theorem f131_s_l01From.ok : ∀ n v x, f131_s_l01From.F n v = some x → evalFn E n 131 (flAs f131_s_l01From.P (sg_i.pk v)) = some (f131_s_l01From.A.enc x) :=
  fn_pure (modes := (fdAt 131).ms) (outs := (fdAt 131).os) (results := (fdAt 131).rs) f131_s_l01From.O (c := c131) (keep := keepAt 131) (by kernel_rfl) (fun n => orcOf_cf _ _ n) (fun n => lpOk_of (bs := []) (by kernel_rfl) .nil) (fun _ => rfl) (fun _ _ => by kernel_rfl)
noncomputable def f131_s_l01From.w : FnW E := fnW 131 f131_s_l01From.P sg_i f131_s_l01From.A f131_s_l01From.F f131_s_l01From.ok

def f99_s_l01DrawFloat : Nat → Nat → List T → Int → Int → Option (Nat × Nat × List T × Int × Int)
  | 0, _, _, _, _ => none
  | n + 1, n1, l2, i3, i4 =>
    bd (f129_s_l00Srcone n n1 l2 i3 i4 (12 : Int)) fun r5 =>
    let b6 : Bool := r5.1
    let n7 : Nat := r5.2.1
    let l8 : List T := r5.2.2.1
    let i9 : Int := r5.2.2.2.1
    let i10 : Int := r5.2.2.2.2
    br (!b6) (
     bd (f77_s_l01DrawPlain n n7 l8 i9 i10) fun r11 =>
     let x12 : Nat := r11.1
     let n13 : Nat := r11.2.1
     let l14 : List T := r11.2.2.1
     let i15 : Int := r11.2.2.2.1
     let i16 : Int := r11.2.2.2.2
     some (x12, n13, l14, i15, i16)) (
     bd (f76_s_l00Srcpick n n7 l8 i9 i10 (4 : Int)) fun r17 =>
     let i18 : Int := r17.1
     let n19 : Nat := r17.2.1
     let l20 : List T := r17.2.2.1
     let i21 : Int := r17.2.2.2.1
     let i22 : Int := r17.2.2.2.2
     br (i18 == (0 : Int)) (
      bd (f132_s_l00Srcamong n n19 l20 i21 i22 10 (setN (setN (setN (setN (setN (setN (setN (setN (setN (setN (reps 10 [(T.int IntKind.i64 (0 : Int))]) 0 [(T.int IntKind.i64 (0 : Int))]) 1 [(T.int IntKind.i64 (2147483648 : Int))]) 2 [(T.int IntKind.i64 (2139095040 : Int))]) 3 [(T.int IntKind.i64 (4286578688 : Int))]) 4 [(T.int IntKind.i64 (2143289344 : Int))]) 5 [(T.int IntKind.i64 (1 : Int))]) 6 [(T.int IntKind.i64 (2139095039 : Int))]) 7 [(T.int IntKind.i64 (8388608 : Int))]) 8 [(T.int IntKind.i64 (8388607 : Int))]) 9 [(T.int IntKind.i64 (2147483649 : Int))])) fun r23 =>
      let i24 : Int := r23.1
      let n25 : Nat := r23.2.1
      let l26 : List T := r23.2.2.1
      let i27 : Int := r23.2.2.2.1
      let i28 : Int := r23.2.2.2.2.1
      let n29 : Nat := r23.2.2.2.2.2.1
      let l30 : List T := r23.2.2.2.2.2.2
      bd (f131_s_l01From n i24) fun r31 =>
      let x32 : Nat := r31
      some (x32, n25, l26, i27, i28)) (
      br (i18 == (1 : Int)) (
       bd (f76_s_l00Srcpick n n19 l20 i21 i22 (65536 : Int)) fun r33 =>
       let i34 : Int := r33.1
       let n35 : Nat := r33.2.1
       let l36 : List T := r33.2.2.1
       let i37 : Int := r33.2.2.2.1
       let i38 : Int := r33.2.2.2.2
       let i39 : Int := (IntKind.i64.wrap (i34 * (65536 : Int)))
       bd (f76_s_l00Srcpick n n35 l36 i37 i38 (65536 : Int)) fun r40 =>
       let i41 : Int := r40.1
       let n42 : Nat := r40.2.1
       let l43 : List T := r40.2.2.1
       let i44 : Int := r40.2.2.2.1
       let i45 : Int := r40.2.2.2.2
       bd (f131_s_l01From n (IntKind.i64.wrap (i39 + i41))) fun r46 =>
       let x47 : Nat := r46
       some (x47, n42, l43, i44, i45)) (
       br (i18 == (2 : Int)) (
        bd (f76_s_l00Srcpick n n19 l20 i21 i22 (65536 : Int)) fun r48 =>
        let i49 : Int := r48.1
        let n50 : Nat := r48.2.1
        let l51 : List T := r48.2.2.1
        let i52 : Int := r48.2.2.2.1
        let i53 : Int := r48.2.2.2.2
        bd (f131_s_l01From n (IntKind.i64.wrap (i49 * (65536 : Int)))) fun r54 =>
        let x55 : Nat := r54
        some (x55, n50, l51, i52, i53)) (
        bd (f77_s_l01DrawPlain n n19 l20 i21 i22) fun r56 =>
        let x57 : Nat := r56.1
        let n58 : Nat := r56.2.1
        let l59 : List T := r56.2.2.1
        let i60 : Int := r56.2.2.2.1
        let i61 : Int := r56.2.2.2.2
        bd (f132_s_l00Srcamong n n58 l59 i60 i61 4 (setN (setN (setN (setN (reps 4 [(T.int IntKind.i64 (0 : Int))]) 0 [(T.int IntKind.i64 (8388608 : Int))]) 1 [(T.int IntKind.i64 (2130706432 : Int))]) 2 [(T.int IntKind.i64 (1610612736 : Int))]) 3 [(T.int IntKind.i64 (536870912 : Int))])) fun r62 =>
        let i63 : Int := r62.1
        let n64 : Nat := r62.2.1
        let l65 : List T := r62.2.2.1
        let i66 : Int := r62.2.2.2.1
        let i67 : Int := r62.2.2.2.2.1
        let n68 : Nat := r62.2.2.2.2.2.1
        let l69 : List T := r62.2.2.2.2.2.2
        bd (f131_s_l01From n i63) fun r70 =>
        let x71 : Nat := r70
        some ((fmul FloatKind.f32 x57 x71), n64, l65, i66, i67)))))
def f99_s_l01DrawFloat.P : List Arg := [⟨.iop, ⟨false, [.rf .own [.sl .shr [.leaf], .leaf, .leaf]], [.ref [.lst 0 [], .int .i64 0, .int .u64 0]]⟩⟩]
def f99_s_l01DrawFloat.A : RAlt (Nat × Nat × List T × Int × Int) := .one ⟨[⟨false, [.leaf], [.flt .f32 0]⟩], [some ⟨false, [.rf .own [.sl .shr [.leaf], .leaf, .leaf]], [.ref [.lst 0 [], .int .i64 0, .int .u64 0]]⟩]⟩ sg_flii
def f99_s_l01DrawFloat.F (n : Nat) (v : Nat × List T × Int × Int) := f99_s_l01DrawFloat n v.1 v.2.1 v.2.2.1 v.2.2.2
noncomputable def f99_s_l01DrawFloat.O (n : Nat) : Orc := orcOf (E := E) [f76_s_l00Srcpick.w, f129_s_l00Srcone.w, f77_s_l01DrawPlain.w, f132_s_l00Srcamong.w, f131_s_l01From.w] [] n
theorem f99_s_l01DrawFloat.ok : ∀ n v x, f99_s_l01DrawFloat.F n v = some x → evalFn E n 99 (flAs f99_s_l01DrawFloat.P (sg_lii.pk v)) = some (f99_s_l01DrawFloat.A.enc x) :=
  fn_pure (modes := (fdAt 99).ms) (outs := (fdAt 99).os) (results := (fdAt 99).rs) f99_s_l01DrawFloat.O (c := c99) (keep := keepAt 99) (by kernel_rfl) (fun n => orcOf_cf _ _ n) (fun n => lpOk_of (bs := []) (by kernel_rfl) .nil) (fun _ => rfl) (fun _ _ => by kernel_rfl)
noncomputable def f99_s_l01DrawFloat.w : FnW E := fnW 99 f99_s_l01DrawFloat.P sg_lii f99_s_l01DrawFloat.A f99_s_l01DrawFloat.F f99_s_l01DrawFloat.ok

def f135_s_l02DrawNumber : Nat → Nat → List T → Int → Int → Option (Nat × Nat × List T × Int × Int)
  | 0, _, _, _, _ => none
  | n + 1, n1, l2, i3, i4 =>
    bd (f129_s_l00Srcone n n1 l2 i3 i4 (8 : Int)) fun r5 =>
    let b6 : Bool := r5.1
    let n7 : Nat := r5.2.1
    let l8 : List T := r5.2.2.1
    let i9 : Int := r5.2.2.2.1
    let i10 : Int := r5.2.2.2.2
    br b6 (
     bd (f99_s_l01DrawFloat n n7 l8 i9 i10) fun r11 =>
     let x12 : Nat := r11.1
     let n13 : Nat := r11.2.1
     let l14 : List T := r11.2.2.1
     let i15 : Int := r11.2.2.2.1
     let i16 : Int := r11.2.2.2.2
     some (x12, n13, l14, i15, i16)) (
     bd (f129_s_l00Srcone n n7 l8 i9 i10 (3 : Int)) fun r17 =>
     let b18 : Bool := r17.1
     let n19 : Nat := r17.2.1
     let l20 : List T := r17.2.2.1
     let i21 : Int := r17.2.2.2.1
     let i22 : Int := r17.2.2.2.2
     br b18 (
      some (0, n19, l20, i21, i22)) (
      bd (f76_s_l00Srcpick n n19 l20 i21 i22 (33 : Int)) fun r23 =>
      let i24 : Int := r23.1
      let n25 : Nat := r23.2.1
      let l26 : List T := r23.2.2.1
      let i27 : Int := r23.2.2.2.1
      let i28 : Int := r23.2.2.2.2
      some ((fdiv FloatKind.f32 (FloatKind.nearest FloatKind.f32 (IntKind.i64.wrap (i24 - (16 : Int)))) 1090519040), n25, l26, i27, i28)))
def f135_s_l02DrawNumber.P : List Arg := [⟨.iop, ⟨false, [.rf .own [.sl .shr [.leaf], .leaf, .leaf]], [.ref [.lst 0 [], .int .i64 0, .int .u64 0]]⟩⟩]
def f135_s_l02DrawNumber.A : RAlt (Nat × Nat × List T × Int × Int) := .one ⟨[⟨false, [.leaf], [.flt .f32 0]⟩], [some ⟨false, [.rf .own [.sl .shr [.leaf], .leaf, .leaf]], [.ref [.lst 0 [], .int .i64 0, .int .u64 0]]⟩]⟩ sg_flii
def f135_s_l02DrawNumber.F (n : Nat) (v : Nat × List T × Int × Int) := f135_s_l02DrawNumber n v.1 v.2.1 v.2.2.1 v.2.2.2
noncomputable def f135_s_l02DrawNumber.O (n : Nat) : Orc := orcOf (E := E) [f76_s_l00Srcpick.w, f129_s_l00Srcone.w, f99_s_l01DrawFloat.w] [] n
theorem f135_s_l02DrawNumber.ok : ∀ n v x, f135_s_l02DrawNumber.F n v = some x → evalFn E n 135 (flAs f135_s_l02DrawNumber.P (sg_lii.pk v)) = some (f135_s_l02DrawNumber.A.enc x) :=
  fn_pure (modes := (fdAt 135).ms) (outs := (fdAt 135).os) (results := (fdAt 135).rs) f135_s_l02DrawNumber.O (c := c135) (keep := keepAt 135) (by kernel_rfl) (fun n => orcOf_cf _ _ n) (fun n => lpOk_of (bs := []) (by kernel_rfl) .nil) (fun _ => rfl) (fun _ _ => by kernel_rfl)
noncomputable def f135_s_l02DrawNumber.w : FnW E := fnW 135 f135_s_l02DrawNumber.P sg_lii f135_s_l02DrawNumber.A f135_s_l02DrawNumber.F f135_s_l02DrawNumber.ok

def f121_s_l02DrawFilter : Nat → Nat → List T → Int → Int → Option (Nat × Nat × Nat × Nat × Nat × Nat × List T × Int × Int)
  | 0, _, _, _, _ => none
  | n + 1, n1, l2, i3, i4 =>
    bd (f135_s_l02DrawNumber n n1 l2 i3 i4) fun r5 =>
    let x6 : Nat := r5.1
    let n7 : Nat := r5.2.1
    let l8 : List T := r5.2.2.1
    let i9 : Int := r5.2.2.2.1
    let i10 : Int := r5.2.2.2.2
    bd (f135_s_l02DrawNumber n n7 l8 i9 i10) fun r11 =>
    let x12 : Nat := r11.1
    let n13 : Nat := r11.2.1
    let l14 : List T := r11.2.2.1
    let i15 : Int := r11.2.2.2.1
    let i16 : Int := r11.2.2.2.2
    bd (f135_s_l02DrawNumber n n13 l14 i15 i16) fun r17 =>
    let x18 : Nat := r17.1
    let n19 : Nat := r17.2.1
    let l20 : List T := r17.2.2.1
    let i21 : Int := r17.2.2.2.1
    let i22 : Int := r17.2.2.2.2
    bd (f76_s_l00Srcpick n n19 l20 i21 i22 (15 : Int)) fun r23 =>
    let i24 : Int := r23.1
    let n25 : Nat := r23.2.1
    let l26 : List T := r23.2.2.1
    let i27 : Int := r23.2.2.2.1
    let i28 : Int := r23.2.2.2.2
    let x29 : Nat := (fdiv FloatKind.f32 (FloatKind.nearest FloatKind.f32 (IntKind.i64.wrap (i24 - (7 : Int)))) 1090519040)
    bd (f76_s_l00Srcpick n n25 l26 i27 i28 (7 : Int)) fun r30 =>
    let i31 : Int := r30.1
    let n32 : Nat := r30.2.1
    let l33 : List T := r30.2.2.1
    let i34 : Int := r30.2.2.2.1
    let i35 : Int := r30.2.2.2.2
    let x36 : Nat := (fdiv FloatKind.f32 (FloatKind.nearest FloatKind.f32 (IntKind.i64.wrap (i31 - (3 : Int)))) 1090519040)
    bd (f129_s_l00Srcone n n32 l33 i34 i35 (4 : Int)) fun r37 =>
    let b38 : Bool := r37.1
    let n39 : Nat := r37.2.1
    let l40 : List T := r37.2.2.1
    let i41 : Int := r37.2.2.2.1
    let i42 : Int := r37.2.2.2.2
    br b38 (
     bd (f135_s_l02DrawNumber n n39 l40 i41 i42) fun r43 =>
     let x44 : Nat := r43.1
     let n45 : Nat := r43.2.1
     let l46 : List T := r43.2.2.1
     let i47 : Int := r43.2.2.2.1
     let i48 : Int := r43.2.2.2.2
     bd (f129_s_l00Srcone n n45 l46 i47 i48 (4 : Int)) fun r49 =>
     let b50 : Bool := r49.1
     let n51 : Nat := r49.2.1
     let l52 : List T := r49.2.2.1
     let i53 : Int := r49.2.2.2.1
     let i54 : Int := r49.2.2.2.2
     br b50 (
      bd (f135_s_l02DrawNumber n n51 l52 i53 i54) fun r55 =>
      let x56 : Nat := r55.1
      let n57 : Nat := r55.2.1
      let l58 : List T := r55.2.2.1
      let i59 : Int := r55.2.2.2.1
      let i60 : Int := r55.2.2.2.2
      some (x6, x12, x18, x44, x56, n57, l58, i59, i60)) (
      some (x6, x12, x18, x44, x36, n51, l52, i53, i54))) (
     bd (f129_s_l00Srcone n n39 l40 i41 i42 (4 : Int)) fun r61 =>
     let b62 : Bool := r61.1
     let n63 : Nat := r61.2.1
     let l64 : List T := r61.2.2.1
     let i65 : Int := r61.2.2.2.1
     let i66 : Int := r61.2.2.2.2
     br b62 (
      bd (f135_s_l02DrawNumber n n63 l64 i65 i66) fun r67 =>
      let x68 : Nat := r67.1
      let n69 : Nat := r67.2.1
      let l70 : List T := r67.2.2.1
      let i71 : Int := r67.2.2.2.1
      let i72 : Int := r67.2.2.2.2
      some (x6, x12, x18, x29, x68, n69, l70, i71, i72)) (
      some (x6, x12, x18, x29, x36, n63, l64, i65, i66)))
def sg_ffffflii : Sig (Nat × Nat × Nat × Nat × Nat × Nat × List T × Int × Int) where
  pk := fun v => [.flt v.1, .flt v.2.1, .flt v.2.2.1, .flt v.2.2.2.1, .flt v.2.2.2.2.1, .lst v.2.2.2.2.2.1 v.2.2.2.2.2.2.1, .int v.2.2.2.2.2.2.2.1, .int v.2.2.2.2.2.2.2.2]
  up := fun ls => match ls with
    | [.flt a0, .flt a1, .flt a2, .flt a3, .flt a4, .lst a5 a6, .int a7, .int a8] => some (a0, a1, a2, a3, a4, a5, a6, a7, a8)
    | _ => none
  ok := by
    intro ls v h
    split at h
    · cases h; rfl
    · cases h

def f121_s_l02DrawFilter.P : List Arg := [⟨.iop, ⟨false, [.rf .own [.sl .shr [.leaf], .leaf, .leaf]], [.ref [.lst 0 [], .int .i64 0, .int .u64 0]]⟩⟩]
def f121_s_l02DrawFilter.A : RAlt (Nat × Nat × Nat × Nat × Nat × Nat × List T × Int × Int) := .one ⟨[⟨true, [.leaf, .leaf, .leaf, .leaf, .leaf], [.flt .f32 0, .flt .f32 0, .flt .f32 0, .flt .f32 0, .flt .f32 0]⟩], [some ⟨false, [.rf .own [.sl .shr [.leaf], .leaf, .leaf]], [.ref [.lst 0 [], .int .i64 0, .int .u64 0]]⟩]⟩ sg_ffffflii
def f121_s_l02DrawFilter.F (n : Nat) (v : Nat × List T × Int × Int) := f121_s_l02DrawFilter n v.1 v.2.1 v.2.2.1 v.2.2.2
noncomputable def f121_s_l02DrawFilter.O (n : Nat) : Orc := orcOf (E := E) [f76_s_l00Srcpick.w, f129_s_l00Srcone.w, f135_s_l02DrawNumber.w] [] n
theorem f121_s_l02DrawFilter.ok : ∀ n v x, f121_s_l02DrawFilter.F n v = some x → evalFn E n 121 (flAs f121_s_l02DrawFilter.P (sg_lii.pk v)) = some (f121_s_l02DrawFilter.A.enc x) :=
  fn_pure (modes := (fdAt 121).ms) (outs := (fdAt 121).os) (results := (fdAt 121).rs) f121_s_l02DrawFilter.O (c := c121) (keep := keepAt 121) (by kernel_rfl) (fun n => orcOf_cf _ _ n) (fun n => lpOk_of (bs := []) (by kernel_rfl) .nil) (fun _ => rfl) (fun _ _ => by kernel_rfl)
noncomputable def f121_s_l02DrawFilter.w : FnW E := fnW 121 f121_s_l02DrawFilter.P sg_lii f121_s_l02DrawFilter.A f121_s_l02DrawFilter.F f121_s_l02DrawFilter.ok

def f66_s_R8Filter : Nat → Nat → List T → Option (Nat × Nat × Nat × Nat × Nat)
  | 0, _, _ => none
  | n + 1, n1, l2 =>
    bd (f75_s_l00From n n1 l2) fun r3 =>
    let n4 : Nat := r3.1
    let l5 : List T := r3.2.1
    let i6 : Int := r3.2.2.1
    let i7 : Int := r3.2.2.2
    bd (f121_s_l02DrawFilter n n4 l5 i6 i7) fun r8 =>
    let x9 : Nat := r8.1
    let x10 : Nat := r8.2.1
    let x11 : Nat := r8.2.2.1
    let x12 : Nat := r8.2.2.2.1
    let x13 : Nat := r8.2.2.2.2.1
    let n14 : Nat := r8.2.2.2.2.2.1
    let l15 : List T := r8.2.2.2.2.2.2.1
    let i16 : Int := r8.2.2.2.2.2.2.2.1
    let i17 : Int := r8.2.2.2.2.2.2.2.2
    some (x9, x10, x11, x12, x13)
def sg_fffff : Sig (Nat × Nat × Nat × Nat × Nat) where
  pk := fun v => [.flt v.1, .flt v.2.1, .flt v.2.2.1, .flt v.2.2.2.1, .flt v.2.2.2.2]
  up := fun ls => match ls with
    | [.flt a0, .flt a1, .flt a2, .flt a3, .flt a4] => some (a0, a1, a2, a3, a4)
    | _ => none
  ok := by
    intro ls v h
    split at h
    · cases h; rfl
    · cases h

def f66_s_R8Filter.P : List Arg := [⟨.val, ⟨false, [.sl .shr [.leaf]], [.lst 0 []]⟩⟩]
def f66_s_R8Filter.A : RAlt (Nat × Nat × Nat × Nat × Nat) := .one ⟨[⟨true, [.leaf, .leaf, .leaf, .leaf, .leaf], [.flt .f32 0, .flt .f32 0, .flt .f32 0, .flt .f32 0, .flt .f32 0]⟩], [none]⟩ sg_fffff
def f66_s_R8Filter.F (n : Nat) (v : Nat × List T) := f66_s_R8Filter n v.1 v.2
noncomputable def f66_s_R8Filter.O (n : Nat) : Orc := orcOf (E := E) [f75_s_l00From.w, f121_s_l02DrawFilter.w] [] n
theorem f66_s_R8Filter.ok : ∀ n v x, f66_s_R8Filter.F n v = some x → evalFn E n 66 (flAs f66_s_R8Filter.P (sg_l.pk v)) = some (f66_s_R8Filter.A.enc x) :=
  fn_pure (modes := (fdAt 66).ms) (outs := (fdAt 66).os) (results := (fdAt 66).rs) f66_s_R8Filter.O (c := c66) (keep := keepAt 66) (by kernel_rfl) (fun n => orcOf_cf _ _ n) (fun n => lpOk_of (bs := []) (by kernel_rfl) .nil) (fun _ => rfl) (fun _ _ => by kernel_rfl)
noncomputable def f66_s_R8Filter.w : FnW E := fnW 66 f66_s_R8Filter.P sg_l f66_s_R8Filter.A f66_s_R8Filter.F f66_s_R8Filter.ok

def f122_s_l02DrawMemory : Nat → Nat → List T → Int → Int → Option (Nat × Nat × Nat × Nat × Nat × List T × Int × Int)
  | 0, _, _, _, _ => none
  | n + 1, n1, l2, i3, i4 =>
    bd (f129_s_l00Srcone n n1 l2 i3 i4 (3 : Int)) fun r5 =>
    let b6 : Bool := r5.1
    let n7 : Nat := r5.2.1
    let l8 : List T := r5.2.2.1
    let i9 : Int := r5.2.2.2.1
    let i10 : Int := r5.2.2.2.2
    br b6 (
     some (0, 0, 0, 0, n7, l8, i9, i10)) (
     bd (f99_s_l01DrawFloat n n7 l8 i9 i10) fun r11 =>
     let x12 : Nat := r11.1
     let n13 : Nat := r11.2.1
     let l14 : List T := r11.2.2.1
     let i15 : Int := r11.2.2.2.1
     let i16 : Int := r11.2.2.2.2
     bd (f99_s_l01DrawFloat n n13 l14 i15 i16) fun r17 =>
     let x18 : Nat := r17.1
     let n19 : Nat := r17.2.1
     let l20 : List T := r17.2.2.1
     let i21 : Int := r17.2.2.2.1
     let i22 : Int := r17.2.2.2.2
     bd (f99_s_l01DrawFloat n n19 l20 i21 i22) fun r23 =>
     let x24 : Nat := r23.1
     let n25 : Nat := r23.2.1
     let l26 : List T := r23.2.2.1
     let i27 : Int := r23.2.2.2.1
     let i28 : Int := r23.2.2.2.2
     bd (f99_s_l01DrawFloat n n25 l26 i27 i28) fun r29 =>
     let x30 : Nat := r29.1
     let n31 : Nat := r29.2.1
     let l32 : List T := r29.2.2.1
     let i33 : Int := r29.2.2.2.1
     let i34 : Int := r29.2.2.2.2
     some (x12, x18, x24, x30, n31, l32, i33, i34))
def sg_fffflii : Sig (Nat × Nat × Nat × Nat × Nat × List T × Int × Int) where
  pk := fun v => [.flt v.1, .flt v.2.1, .flt v.2.2.1, .flt v.2.2.2.1, .lst v.2.2.2.2.1 v.2.2.2.2.2.1, .int v.2.2.2.2.2.2.1, .int v.2.2.2.2.2.2.2]
  up := fun ls => match ls with
    | [.flt a0, .flt a1, .flt a2, .flt a3, .lst a4 a5, .int a6, .int a7] => some (a0, a1, a2, a3, a4, a5, a6, a7)
    | _ => none
  ok := by
    intro ls v h
    split at h
    · cases h; rfl
    · cases h

def f122_s_l02DrawMemory.P : List Arg := [⟨.iop, ⟨false, [.rf .own [.sl .shr [.leaf], .leaf, .leaf]], [.ref [.lst 0 [], .int .i64 0, .int .u64 0]]⟩⟩]
def f122_s_l02DrawMemory.A : RAlt (Nat × Nat × Nat × Nat × Nat × List T × Int × Int) := .one ⟨[⟨true, [.leaf, .leaf, .leaf, .leaf], [.flt .f32 0, .flt .f32 0, .flt .f32 0, .flt .f32 0]⟩], [some ⟨false, [.rf .own [.sl .shr [.leaf], .leaf, .leaf]], [.ref [.lst 0 [], .int .i64 0, .int .u64 0]]⟩]⟩ sg_fffflii
def f122_s_l02DrawMemory.F (n : Nat) (v : Nat × List T × Int × Int) := f122_s_l02DrawMemory n v.1 v.2.1 v.2.2.1 v.2.2.2
noncomputable def f122_s_l02DrawMemory.O (n : Nat) : Orc := orcOf (E := E) [f129_s_l00Srcone.w, f99_s_l01DrawFloat.w] [] n
theorem f122_s_l02DrawMemory.ok : ∀ n v x, f122_s_l02DrawMemory.F n v = some x → evalFn E n 122 (flAs f122_s_l02DrawMemory.P (sg_lii.pk v)) = some (f122_s_l02DrawMemory.A.enc x) :=
  fn_pure (modes := (fdAt 122).ms) (outs := (fdAt 122).os) (results := (fdAt 122).rs) f122_s_l02DrawMemory.O (c := c122) (keep := keepAt 122) (by kernel_rfl) (fun n => orcOf_cf _ _ n) (fun n => lpOk_of (bs := []) (by kernel_rfl) .nil) (fun _ => rfl) (fun _ _ => by kernel_rfl)
noncomputable def f122_s_l02DrawMemory.w : FnW E := fnW 122 f122_s_l02DrawMemory.P sg_lii f122_s_l02DrawMemory.A f122_s_l02DrawMemory.F f122_s_l02DrawMemory.ok

def f67_s_R8Memory : Nat → Nat → List T → Option (Nat × Nat × Nat × Nat)
  | 0, _, _ => none
  | n + 1, n1, l2 =>
    bd (f75_s_l00From n n1 l2) fun r3 =>
    let n4 : Nat := r3.1
    let l5 : List T := r3.2.1
    let i6 : Int := r3.2.2.1
    let i7 : Int := r3.2.2.2
    bd (f122_s_l02DrawMemory n n4 l5 i6 i7) fun r8 =>
    let x9 : Nat := r8.1
    let x10 : Nat := r8.2.1
    let x11 : Nat := r8.2.2.1
    let x12 : Nat := r8.2.2.2.1
    let n13 : Nat := r8.2.2.2.2.1
    let l14 : List T := r8.2.2.2.2.2.1
    let i15 : Int := r8.2.2.2.2.2.2.1
    let i16 : Int := r8.2.2.2.2.2.2.2
    some (x9, x10, x11, x12)
def sg_ffff : Sig (Nat × Nat × Nat × Nat) where
  pk := fun v => [.flt v.1, .flt v.2.1, .flt v.2.2.1, .flt v.2.2.2]
  up := fun ls => match ls with
    | [.flt a0, .flt a1, .flt a2, .flt a3] => some (a0, a1, a2, a3)
    | _ => none
  ok := by
    intro ls v h
    split at h
    · cases h; rfl
    · cases h

def f67_s_R8Memory.P : List Arg := [⟨.val, ⟨false, [.sl .shr [.leaf]], [.lst 0 []]⟩⟩]
def f67_s_R8Memory.A : RAlt (Nat × Nat × Nat × Nat) := .one ⟨[⟨true, [.leaf, .leaf, .leaf, .leaf], [.flt .f32 0, .flt .f32 0, .flt .f32 0, .flt .f32 0]⟩], [none]⟩ sg_ffff
def f67_s_R8Memory.F (n : Nat) (v : Nat × List T) := f67_s_R8Memory n v.1 v.2
noncomputable def f67_s_R8Memory.O (n : Nat) : Orc := orcOf (E := E) [f75_s_l00From.w, f122_s_l02DrawMemory.w] [] n
theorem f67_s_R8Memory.ok : ∀ n v x, f67_s_R8Memory.F n v = some x → evalFn E n 67 (flAs f67_s_R8Memory.P (sg_l.pk v)) = some (f67_s_R8Memory.A.enc x) :=
  fn_pure (modes := (fdAt 67).ms) (outs := (fdAt 67).os) (results := (fdAt 67).rs) f67_s_R8Memory.O (c := c67) (keep := keepAt 67) (by kernel_rfl) (fun n => orcOf_cf _ _ n) (fun n => lpOk_of (bs := []) (by kernel_rfl) .nil) (fun _ => rfl) (fun _ _ => by kernel_rfl)
noncomputable def f67_s_R8Memory.w : FnW E := fnW 67 f67_s_R8Memory.P sg_l f67_s_R8Memory.A f67_s_R8Memory.F f67_s_R8Memory.ok

def f81_s_l01DrawFloats.l0 (n : Nat) : Nat → Nat → List T → Int → Int → Int → Nat → List T → Bool → Option (Nat × List T × Int × Int × Nat × List T)
  | 0, _, _, _, _, _, _, _, _ => none
  | m + 1, n1, l2, i3, i4, i5, n6, l7, b8 =>
    br (decide (i5 > (0 : Int))) (
     br b8 (
      bd (f99_s_l01DrawFloat n n1 l2 i3 i4) fun r9 =>
      let x10 : Nat := r9.1
      let n11 : Nat := r9.2.1
      let l12 : List T := r9.2.2.1
      let i13 : Int := r9.2.2.2.1
      let i14 : Int := r9.2.2.2.2
      gd (Nat.ble (n6 + 1) 2147483648) (
      let n15 : Nat := (n6 + 1)
      let l16 : List T := (l7 ++ (setN (reps 1 [(T.flt FloatKind.f32 0)]) 0 [(T.flt FloatKind.f32 x10)]))
      f81_s_l01DrawFloats.l0 n m n11 l12 i13 i14 (IntKind.i64.wrap (i5 - (1 : Int))) n15 l16 b8)) (
      bd (f77_s_l01DrawPlain n n1 l2 i3 i4) fun r17 =>
      let x18 : Nat := r17.1
      let n19 : Nat := r17.2.1
      let l20 : List T := r17.2.2.1
      let i21 : Int := r17.2.2.2.1
      let i22 : Int := r17.2.2.2.2
      gd (Nat.ble (n6 + 1) 2147483648) (
      let n23 : Nat := (n6 + 1)
      let l24 : List T := (l7 ++ (setN (reps 1 [(T.flt FloatKind.f32 0)]) 0 [(T.flt FloatKind.f32 x18)]))
      f81_s_l01DrawFloats.l0 n m n19 l20 i21 i22 (IntKind.i64.wrap (i5 - (1 : Int))) n23 l24 b8))) (
     some (n1, l2, i3, i4, n6, l7))
def f81_s_l01DrawFloats : Nat → Nat → List T → Int → Int → Int → Option (Nat × List T × Nat × List T × Int × Int)
  | 0, _, _, _, _, _ => none
  | n + 1, n1, l2, i3, i4, i5 =>
    bd (f129_s_l00Srcone n n1 l2 i3 i4 (4 : Int)) fun r6 =>
    let b7 : Bool := r6.1
    let n8 : Nat := r6.2.1
    let l9 : List T := r6.2.2.1
    let i10 : Int := r6.2.2.2.1
    let i11 : Int := r6.2.2.2.2
    bd (f81_s_l01DrawFloats.l0 n n n8 l9 i10 i11 i5 0 (reps 0 [(T.flt FloatKind.f32 0)]) b7) fun r12 =>
    let n13 : Nat := r12.1
    let l14 : List T := r12.2.1
    let i15 : Int := r12.2.2.1
    let i16 : Int := r12.2.2.2.1
    let n17 : Nat := r12.2.2.2.2.1
    let l18 : List T := r12.2.2.2.2.2
    some (n17, l18, n13, l14, i15, i16)
def sg_llii : Sig (Nat × List T × Nat × List T × Int × Int) where
  pk := fun v => [.lst v.1 v.2.1, .lst v.2.2.1 v.2.2.2.1, .int v.2.2.2.2.1, .int v.2.2.2.2.2]
  up := fun ls => match ls with
    | [.lst a0 a1, .lst a2 a3, .int a4, .int a5] => some (a0, a1, a2, a3, a4, a5)
    | _ => none
  ok := by
    intro ls v h
    split at h
    · cases h; rfl
    · cases h

def sg_liiilb : Sig (Nat × List T × Int × Int × Int × Nat × List T × Bool) where
  pk := fun v => [.lst v.1 v.2.1, .int v.2.2.1, .int v.2.2.2.1, .int v.2.2.2.2.1, .lst v.2.2.2.2.2.1 v.2.2.2.2.2.2.1, .bool v.2.2.2.2.2.2.2]
  up := fun ls => match ls with
    | [.lst a0 a1, .int a2, .int a3, .int a4, .lst a5 a6, .bool a7] => some (a0, a1, a2, a3, a4, a5, a6, a7)
    | _ => none
  ok := by
    intro ls v h
    split at h
    · cases h; rfl
    · cases h

def f81_s_l01DrawFloats.l0.P : AS := ⟨[(0, .box [.sl .shr [.leaf], .leaf, .leaf] [.lst 0 [], .int .i64 0, .int .u64 0] [] 0), (1, .val false [.leaf] [.int .i64 0] [] 0), (5, .val false [.sl .own [.leaf]] [.lst 0 []] [] 0), (6, .val false [.leaf] [.bool false] [] 0)], 0⟩
def f81_s_l01DrawFloats.l0.A : Alt (Nat × List T × Int × Int × Nat × List T) := .one (.exit 0) ⟨[(0, .box [.sl .shr [.leaf], .leaf, .leaf] [.lst 0 [], .int .i64 0, .int .u64 0] [] 0), (5, .val false [.sl .own [.leaf]] [.lst 0 []] [] 0)], 0⟩ sg_liil
def f81_s_l01DrawFloats.l0.F (n m : Nat) (v : Nat × List T × Int × Int × Int × Nat × List T × Bool) := f81_s_l01DrawFloats.l0 n m v.1 v.2.1 v.2.2.1 v.2.2.2.1 v.2.2.2.2.1 v.2.2.2.2.2.1 v.2.2.2.2.2.2.1 v.2.2.2.2.2.2.2
def f81_s_l01DrawFloats.l0.W (n : Nat) : LpW := .of 48 f81_s_l01DrawFloats.l0.P sg_liiilb f81_s_l01DrawFloats.l0.A (f81_s_l01DrawFloats.l0.F n n)
def f81_s_l01DrawFloats.P : List Arg := [⟨.iop, ⟨false, [.rf .own [.sl .shr [.leaf], .leaf, .leaf]], [.ref [.lst 0 [], .int .i64 0, .int .u64 0]]⟩⟩, ⟨.val, ⟨false, [.leaf], [.int .i64 0]⟩⟩]
def f81_s_l01DrawFloats.A : RAlt (Nat × List T × Nat × List T × Int × Int) := .one ⟨[⟨false, [.sl .own [.leaf]], [.lst 0 []]⟩], [some ⟨false, [.rf .own [.sl .shr [.leaf], .leaf, .leaf]], [.ref [.lst 0 [], .int .i64 0, .int .u64 0]]⟩, none]⟩ sg_llii
def f81_s_l01DrawFloats.F (n : Nat) (v : Nat × List T × Int × Int × Int) := f81_s_l01DrawFloats n v.1 v.2.1 v.2.2.1 v.2.2.2.1 v.2.2.2.2
noncomputable def f81_s_l01DrawFloats.O (n : Nat) : Orc := orcOf (E := E) [f129_s_l00Srcone.w, f77_s_l01DrawPlain.w, f99_s_l01DrawFloat.w] [f81_s_l01DrawFloats.l0.W n] n
theorem f81_s_l01DrawFloats.l0.ok (n : Nat) : LpOk (f81_s_l01DrawFloats.O n) E (evalFn E n) n (keepAt 81) (.loop (loopAt c81 0)) :=
  lp_pure f81_s_l01DrawFloats.l0.P sg_liiilb f81_s_l01DrawFloats.l0.A (f81_s_l01DrawFloats.l0.F n) (orcOf_cf _ _ n) (lpOk_of (bs := []) (by kernel_rfl) .nil) (fun _ => rfl) (fun _ _ => by kernel_rfl) (fun _ _ _ => by kernel_rfl)
theorem f81_s_l01DrawFloats.ok : ∀ n v x, f81_s_l01DrawFloats.F n v = some x → evalFn E n 81 (flAs f81_s_l01DrawFloats.P (sg_liii.pk v)) = some (f81_s_l01DrawFloats.A.enc x) :=
  fn_pure (modes := (fdAt 81).ms) (outs := (fdAt 81).os) (results := (fdAt 81).rs) f81_s_l01DrawFloats.O (c := c81) (keep := keepAt 81) (by kernel_rfl) (fun n => orcOf_cf _ _ n) (fun n => lpOk_of (bs := [loopAt c81 0]) (by kernel_rfl) (.cons (f81_s_l01DrawFloats.l0.ok n) .nil)) (fun _ => rfl) (fun _ _ => by kernel_rfl)
noncomputable def f81_s_l01DrawFloats.w : FnW E := fnW 81 f81_s_l01DrawFloats.P sg_liii f81_s_l01DrawFloats.A f81_s_l01DrawFloats.F f81_s_l01DrawFloats.ok

def f30_s_R8Samples : Nat → Nat → List T → Int → Option (Nat × List T)
  | 0, _, _, _ => none
  | n + 1, n1, l2, i3 =>
    bd (f75_s_l00From n n1 l2) fun r4 =>
    let n5 : Nat := r4.1
    let l6 : List T := r4.2.1
    let i7 : Int := r4.2.2.1
    let i8 : Int := r4.2.2.2
    bd (f76_s_l00Srcpick n n5 l6 i7 i8 (IntKind.i64.wrap (i3 + (1 : Int)))) fun r9 =>
    let i10 : Int := r9.1
    let n11 : Nat := r9.2.1
    let l12 : List T := r9.2.2.1
    let i13 : Int := r9.2.2.2.1
    let i14 : Int := r9.2.2.2.2
    bd (f81_s_l01DrawFloats n n11 l12 i13 i14 i10) fun r15 =>
    let n16 : Nat := r15.1
    let l17 : List T := r15.2.1
    let n18 : Nat := r15.2.2.1
    let l19 : List T := r15.2.2.2.1
    let i20 : Int := r15.2.2.2.2.1
    let i21 : Int := r15.2.2.2.2.2
    some (n16, l17)
def sg_li : Sig (Nat × List T × Int) where
  pk := fun v => [.lst v.1 v.2.1, .int v.2.2]
  up := fun ls => match ls with
    | [.lst a0 a1, .int a2] => some (a0, a1, a2)
    | _ => none
  ok := by
    intro ls v h
    split at h
    · cases h; rfl
    · cases h

def f30_s_R8Samples.P : List Arg := [⟨.val, ⟨false, [.sl .shr [.leaf]], [.lst 0 []]⟩⟩, ⟨.val, ⟨false, [.leaf], [.int .i64 0]⟩⟩]
def f30_s_R8Samples.A : RAlt (Nat × List T) := .one ⟨[⟨false, [.sl .own [.leaf]], [.lst 0 []]⟩], [none, none]⟩ sg_l
def f30_s_R8Samples.F (n : Nat) (v : Nat × List T × Int) := f30_s_R8Samples n v.1 v.2.1 v.2.2
noncomputable def f30_s_R8Samples.O (n : Nat) : Orc := orcOf (E := E) [f75_s_l00From.w, f76_s_l00Srcpick.w, f81_s_l01DrawFloats.w] [] n
theorem f30_s_R8Samples.ok : ∀ n v x, f30_s_R8Samples.F n v = some x → evalFn E n 30 (flAs f30_s_R8Samples.P (sg_li.pk v)) = some (f30_s_R8Samples.A.enc x) :=
  fn_pure (modes := (fdAt 30).ms) (outs := (fdAt 30).os) (results := (fdAt 30).rs) f30_s_R8Samples.O (c := c30) (keep := keepAt 30) (by kernel_rfl) (fun n => orcOf_cf _ _ n) (fun n => lpOk_of (bs := []) (by kernel_rfl) .nil) (fun _ => rfl) (fun _ _ => by kernel_rfl)
noncomputable def f30_s_R8Samples.w : FnW E := fnW 30 f30_s_R8Samples.P sg_li f30_s_R8Samples.A f30_s_R8Samples.F f30_s_R8Samples.ok

def f28_l_r8At : Nat → Nat → List T → Int → Int → Option (Int)
  | 0, _, _, _, _ => none
  | n + 1, n1, l2, i3, i4 =>
    br (decide (i4 ≤ (1 : Int))) (
     some (0 : Int)) (
     br (decide (i3 ≥ ((n1 : Nat) : Int))) (
      some (0 : Int)) (
      gd ((decide (((0 : Int) ≤ i3) ∧ (i3 < ((n1 : Nat) : Int)))) && (okAt [(CK.int IntKind.u8)] l2 (Int.toNat i3))) (
      gd (!(decide (i4 = (0 : Int)))) (
      some (Int.tmod (IntKind.i64.wrap (iAt l2 (Int.toNat i3))) i4)))))
def f28_l_r8At.P : List Arg := [⟨.val, ⟨false, [.sl .shr [.leaf]], [.lst 0 []]⟩⟩, ⟨.val, ⟨false, [.leaf], [.int .i64 0]⟩⟩, ⟨.val, ⟨false, [.leaf], [.int .i64 0]⟩⟩]
def f28_l_r8At.A : RAlt (Int) := .one ⟨[⟨false, [.leaf], [.int .i64 0]⟩], [none, none, none]⟩ sg_i
def f28_l_r8At.F (n : Nat) (v : Nat × List T × Int × Int) := f28_l_r8At n v.1 v.2.1 v.2.2.1 v.2.2.2
noncomputable def f28_l_r8At.O (n : Nat) : Orc := orcOf (E := E) [] [] n
theorem f28_l_r8At.ok : ∀ n v x, f28_l_r8At.F n v = some x → evalFn E n 28 (flAs f28_l_r8At.P (sg_lii.pk v)) = some (f28_l_r8At.A.enc x) :=
  fn_pure (modes := (fdAt 28).ms) (outs := (fdAt 28).os) (results := (fdAt 28).rs) f28_l_r8At.O (c := c28) (keep := keepAt 28) (by kernel_rfl) (fun n => orcOf_cf _ _ n) (fun n => lpOk_of (bs := []) (by kernel_rfl) .nil) (fun _ => rfl) (fun _ _ => by kernel_rfl)
noncomputable def f28_l_r8At.w : FnW E := fnW 28 f28_l_r8At.P sg_lii f28_l_r8At.A f28_l_r8At.F f28_l_r8At.ok

def f83_i_within : Nat → Int → Int → Int → Option (Bool)
  | 0, _, _, _ => none
  | n + 1, i1, i2, i3 =>
    br (decide (i2 ≤ i1)) (
     some (decide (i1 ≤ i3))) (
     some false)
def sg_iii : Sig (Int × Int × Int) where
  pk := fun v => [.int v.1, .int v.2.1, .int v.2.2]
  up := fun ls => match ls with
    | [.int a0, .int a1, .int a2] => some (a0, a1, a2)
    | _ => none
  ok := by
    intro ls v h
    split at h
    · cases h; rfl
    · cases h

def f83_i_within.P : List Arg := [⟨.val, ⟨false, [.leaf], [.int .i64 0]⟩⟩, ⟨.val, ⟨false, [.leaf], [.int .i64 0]⟩⟩, ⟨.val, ⟨false, [.leaf], [.int .i64 0]⟩⟩]
def f83_i_within.A : RAlt (Bool) := .one ⟨[⟨false, [.leaf], [.bool false]⟩], [none, none, none]⟩ sg_b
def f83_i_within.F (n : Nat) (v : Int × Int × Int) := f83_i_within n v.1 v.2.1 v.2.2
noncomputable def f83_i_within.O (n : Nat) : Orc := orcOf (E := E) [] [] n
theorem f83_i_within.ok : ∀ n v x, f83_i_within.F n v = some x → evalFn E n 83 (flAs f83_i_within.P (sg_iii.pk v)) = some (f83_i_within.A.enc x) :=
  fn_pure (modes := (fdAt 83).ms) (outs := (fdAt 83).os) (results := (fdAt 83).rs) f83_i_within.O (c := c83) (keep := keepAt 83) (by kernel_rfl) (fun n => orcOf_cf _ _ n) (fun n => lpOk_of (bs := []) (by kernel_rfl) .nil) (fun _ => rfl) (fun _ _ => by kernel_rfl)
noncomputable def f83_i_within.w : FnW E := fnW 83 f83_i_within.P sg_iii f83_i_within.A f83_i_within.F f83_i_within.ok

def f123_i_isForm : Nat → Int → Option (Bool)
  | 0, _ => none
  | n + 1, i1 =>
    bd (f83_i_within n i1 (0 : Int) (2 : Int)) fun r2 =>
    let b3 : Bool := r2
    some b3
def f123_i_isForm.P : List Arg := [⟨.val, ⟨false, [.leaf], [.int .i64 0]⟩⟩]
def f123_i_isForm.A : RAlt (Bool) := .one ⟨[⟨false, [.leaf], [.bool false]⟩], [none]⟩ sg_b
def f123_i_isForm.F (n : Nat) (v : Int) := f123_i_isForm n v
noncomputable def f123_i_isForm.O (n : Nat) : Orc := orcOf (E := E) [f83_i_within.w] [] n
theorem f123_i_isForm.ok : ∀ n v x, f123_i_isForm.F n v = some x → evalFn E n 123 (flAs f123_i_isForm.P (sg_i.pk v)) = some (f123_i_isForm.A.enc x) :=
  fn_pure (modes := (fdAt 123).ms) (outs := (fdAt 123).os) (results := (fdAt 123).rs) f123_i_isForm.O (c := c123) (keep := keepAt 123) (by kernel_rfl) (fun n => orcOf_cf _ _ n) (fun n => lpOk_of (bs := []) (by kernel_rfl) .nil) (fun _ => rfl) (fun _ _ => by kernel_rfl)
noncomputable def f123_i_isForm.w : FnW E := fnW 123 f123_i_isForm.P sg_i f123_i_isForm.A f123_i_isForm.F f123_i_isForm.ok

def f94_i_areSamples : Nat → Nat → List T → Option (Bool)
  | 0, _, _ => none
  | n + 1, n1, l2 =>
    some (decide (((n1 : Nat) : Int) ≤ (256 : Int)))
def f94_i_areSamples.P : List Arg := [⟨.val, ⟨false, [.sl .shr [.leaf]], [.lst 0 []]⟩⟩]
def f94_i_areSamples.A : RAlt (Bool) := .one ⟨[⟨false, [.leaf], [.bool false]⟩], [none]⟩ sg_b
def f94_i_areSamples.F (n : Nat) (v : Nat × List T) := f94_i_areSamples n v.1 v.2
noncomputable def f94_i_areSamples.O (n : Nat) : Orc := orcOf (E := E) [] [] n
theorem f94_i_areSamples.ok : ∀ n v x, f94_i_areSamples.F n v = some x → evalFn E n 94 (flAs f94_i_areSamples.P (sg_l.pk v)) = some (f94_i_areSamples.A.enc x) :=
  fn_pure (modes := (fdAt 94).ms) (outs := (fdAt 94).os) (results := (fdAt 94).rs) f94_i_areSamples.O (c := c94) (keep := keepAt 94) (by kernel_rfl) (fun n => orcOf_cf _ _ n) (fun n => lpOk_of (bs := []) (by kernel_rfl) .nil) (fun _ => rfl) (fun _ _ => by kernel_rfl)
noncomputable def f94_i_areSamples.w : FnW E := fnW 94 f94_i_areSamples.P sg_l f94_i_areSamples.A f94_i_areSamples.F f94_i_areSamples.ok

def f71_i_IsSubnormal : Nat → Nat → Option (Bool)
  | 0, _ => none
  | n + 1, x1 =>
    br (fne FloatKind.f32 x1 0) (
     br (flt FloatKind.f32 x1 8388608) (
      some (fgt FloatKind.f32 x1 2155872256)) (
      some false)) (
     some false)
def f71_i_IsSubnormal.P : List Arg := [⟨.val, ⟨false, [.leaf], [.flt .f32 0]⟩⟩]
def f71_i_IsSubnormal.A : RAlt (Bool) := .one ⟨[⟨false, [.leaf], [.bool false]⟩], [none]⟩ sg_b
def f71_i_IsSubnormal.F (n : Nat) (v : Nat) := f71_i_IsSubnormal n v
noncomputable def f71_i_IsSubnormal.O (n : Nat) : Orc := orcOf (E := E) [] [] n
theorem f71_i_IsSubnormal.ok : ∀ n v x, f71_i_IsSubnormal.F n v = some x → evalFn E n 71 (flAs f71_i_IsSubnormal.P (sg_f.pk v)) = some (f71_i_IsSubnormal.A.enc x) :=
  fn_pure (modes := (fdAt 71).ms) (outs := (fdAt 71).os) (results := (fdAt 71).rs) f71_i_IsSubnormal.O (c := c71) (keep := keepAt 71) (by kernel_rfl) (fun n => orcOf_cf _ _ n) (fun n => lpOk_of (bs := []) (by kernel_rfl) .nil) (fun _ => rfl) (fun _ _ => by kernel_rfl)
noncomputable def f71_i_IsSubnormal.w : FnW E := fnW 71 f71_i_IsSubnormal.P sg_f f71_i_IsSubnormal.A f71_i_IsSubnormal.F f71_i_IsSubnormal.ok

def f143_i_FlushNumber : Nat → Nat → Option (Nat)
  | 0, _ => none
  | n + 1, x1 =>
    bd (f71_i_IsSubnormal n x1) fun r2 =>
    let b3 : Bool := r2
    br (!b3) (
     some x1) (
     bd ((fltToFlt FloatKind.f32 x1 FloatKind.f64)) fun y4 =>
     bd (xCopysign n 0 y4) fun r5 =>
     let x6 : Nat := r5
     bd ((fltToFlt FloatKind.f64 x6 FloatKind.f32)) fun y7 =>
     some y7)
def f143_i_FlushNumber.P : List Arg := [⟨.val, ⟨false, [.leaf], [.flt .f32 0]⟩⟩]
def f143_i_FlushNumber.A : RAlt (Nat) := .one ⟨[⟨false, [.leaf], [.flt .f32 0]⟩], [none]⟩ sg_f
def f143_i_FlushNumber.F (n : Nat) (v : Nat) := f143_i_FlushNumber n v
noncomputable def f143_i_FlushNumber.O (n : Nat) : Orc := orcOf (E := E) [x147.w, f71_i_IsSubnormal.w] [] n
theorem f143_i_FlushNumber.ok : ∀ n v x, f143_i_FlushNumber.F n v = some x → evalFn E n 143 (flAs f143_i_FlushNumber.P (sg_f.pk v)) = some (f143_i_FlushNumber.A.enc x) :=
  fn_pure (modes := (fdAt 143).ms) (outs := (fdAt 143).os) (results := (fdAt 143).rs) f143_i_FlushNumber.O (c := c143) (keep := keepAt 143) (by kernel_rfl) (fun n => orcOf_cf _ _ n) (fun n => lpOk_of (bs := []) (by kernel_rfl) .nil) (fun _ => rfl) (fun _ _ => by kernel_rfl)
noncomputable def f143_i_FlushNumber.w : FnW E := fnW 143 f143_i_FlushNumber.P sg_f f143_i_FlushNumber.A f143_i_FlushNumber.F f143_i_FlushNumber.ok

def f136_i_flushed : Nat → Nat → Bool → Option (Nat)
  | 0, _, _ => none
  | n + 1, x1, b2 =>
    br b2 (
     bd (f143_i_FlushNumber n x1) fun r3 =>
     let x4 : Nat := r3
     some x4) (
     some x1)
def sg_fb : Sig (Nat × Bool) where
  pk := fun v => [.flt v.1, .bool v.2]
  up := fun ls => match ls with
    | [.flt a0, .bool a1] => some (a0, a1)
    | _ => none
  ok := by
    intro ls v h
    split at h
    · cases h; rfl
    · cases h

def f136_i_flushed.P : List Arg := [⟨.val, ⟨false, [.leaf], [.flt .f32 0]⟩⟩, ⟨.val, ⟨false, [.leaf], [.bool false]⟩⟩]
def f136_i_flushed.A : RAlt (Nat) := .one ⟨[⟨false, [.leaf], [.flt .f32 0]⟩], [none, none]⟩ sg_f
def f136_i_flushed.F (n : Nat) (v : Nat × Bool) := f136_i_flushed n v.1 v.2
noncomputable def f136_i_flushed.O (n : Nat) : Orc := orcOf (E := E) [f143_i_FlushNumber.w] [] n
theorem f136_i_flushed.ok : ∀ n v x, f136_i_flushed.F n v = some x → evalFn E n 136 (flAs f136_i_flushed.P (sg_fb.pk v)) = some (f136_i_flushed.A.enc x) :=
  fn_pure (modes := (fdAt 136).ms) (outs := (fdAt 136).os) (results := (fdAt 136).rs) f136_i_flushed.O (c := c136) (keep := keepAt 136) (by kernel_rfl) (fun n => orcOf_cf _ _ n) (fun n => lpOk_of (bs := []) (by kernel_rfl) .nil) (fun _ => rfl) (fun _ _ => by kernel_rfl)
noncomputable def f136_i_flushed.w : FnW E := fnW 136 f136_i_flushed.P sg_fb f136_i_flushed.A f136_i_flushed.F f136_i_flushed.ok

def f125_i_Filterstep : Nat → Nat → Nat → Nat → Nat → Nat → Int → Bool → Nat → Nat → Nat → Nat → Nat → Option (Nat × Nat × Nat × Nat × Nat)
  | 0, _, _, _, _, _, _, _, _, _, _, _, _ => none
  | n + 1, x1, x2, x3, x4, x5, i6, b7, x8, x9, x10, x11, x12 =>
    br (i6 == (0 : Int)) (
     let x13 : Nat := (fsub FloatKind.f32 (fsub FloatKind.f32 (fadd FloatKind.f32 (fadd FloatKind.f32 (fmul FloatKind.f32 x1 x12) (fmul FloatKind.f32 x2 x8)) (fmul FloatKind.f32 x3 x9)) (fmul FloatKind.f32 x4 x10)) (fmul FloatKind.f32 x5 x11))
     bd (f136_i_flushed n x13 b7) fun r14 =>
     let x15 : Nat := r14
     bd (f136_i_flushed n x12 b7) fun r16 =>
     let x17 : Nat := r16
     bd (f136_i_flushed n x8 b7) fun r18 =>
     let x19 : Nat := r18
     bd (f136_i_flushed n x15 b7) fun r20 =>
     let x21 : Nat := r20
     bd (f136_i_flushed n x10 b7) fun r22 =>
     let x23 : Nat := r22
     some (x15, x17, x19, x21, x23)) (
     br (i6 == (1 : Int)) (
      bd (f136_i_flushed n (fadd FloatKind.f32 (fmul FloatKind.f32 x1 x12) x8) b7) fun r24 =>
      let x25 : Nat := r24
      let x26 : Nat := (fadd FloatKind.f32 (fsub FloatKind.f32 (fmul FloatKind.f32 x2 x12) (fmul FloatKind.f32 x4 x25)) x9)
      let x27 : Nat := (fsub FloatKind.f32 (fmul FloatKind.f32 x3 x12) (fmul FloatKind.f32 x5 x25))
      bd (f136_i_flushed n x26 b7) fun r28 =>
      let x29 : Nat := r28
      bd (f136_i_flushed n x27 b7) fun r30 =>
      let x31 : Nat := r30
      bd (f136_i_flushed n 0 b7) fun r32 =>
      let x33 : Nat := r32
      bd (f136_i_flushed n 0 b7) fun r34 =>
      let x35 : Nat := r34
      some (x25, x29, x31, x33, x35)) (
      bd (f136_i_flushed n (fsub FloatKind.f32 (fsub FloatKind.f32 x12 (fmul FloatKind.f32 x4 x8)) (fmul FloatKind.f32 x5 x9)) b7) fun r36 =>
      let x37 : Nat := r36
      bd (f136_i_flushed n (fadd FloatKind.f32 (fadd FloatKind.f32 (fmul FloatKind.f32 x1 x37) (fmul FloatKind.f32 x2 x8)) (fmul FloatKind.f32 x3 x9)) b7) fun r38 =>
      let x39 : Nat := r38
      bd (f136_i_flushed n x37 b7) fun r40 =>
      let x41 : Nat := r40
      bd (f136_i_flushed n x8 b7) fun r42 =>
      let x43 : Nat := r42
      bd (f136_i_flushed n 0 b7) fun r44 =>
      let x45 : Nat := r44
      bd (f136_i_flushed n 0 b7) fun r46 =>
      let x47 : Nat := r46
      some (x39, x41, x43, x45, x47)))
def sg_fffffibfffff : Sig (Nat × Nat × Nat × Nat × Nat × Int × Bool × Nat × Nat × Nat × Nat × Nat) where
  pk := fun v => [.flt v.1, .flt v.2.1, .flt v.2.2.1, .flt v.2.2.2.1, .flt v.2.2.2.2.1, .int v.2.2.2.2.2.1, .bool v.2.2.2.2.2.2.1, .flt v.2.2.2.2.2.2.2.1, .flt v.2.2.2.2.2.2.2.2.1, .flt v.2.2.2.2.2.2.2.2.2.1, .flt v.2.2.2.2.2.2.2.2.2.2.1, .flt v.2.2.2.2.2.2.2.2.2.2.2]
  up := fun ls => match ls with
    | [.flt a0, .flt a1, .flt a2, .flt a3, .flt a4, .int a5, .bool a6, .flt a7, .flt a8, .flt a9, .flt a10, .flt a11] => some (a0, a1, a2, a3, a4, a5, a6, a7, a8, a9, a10, a11)
    | _ => none
  ok := by
    intro ls v h
    split at h
    · cases h; rfl
    · cases h

def f125_i_Filterstep.P : List Arg := [⟨.val, ⟨true, [.leaf, .leaf, .leaf, .leaf, .leaf], [.flt .f32 0, .flt .f32 0, .flt .f32 0, .flt .f32 0, .flt .f32 0]⟩⟩, ⟨.val, ⟨false, [.leaf], [.int .i64 0]⟩⟩, ⟨.val, ⟨false, [.leaf], [.bool false]⟩⟩, ⟨.val, ⟨true, [.leaf, .leaf, .leaf, .leaf], [.flt .f32 0, .flt .f32 0, .flt .f32 0, .flt .f32 0]⟩⟩, ⟨.val, ⟨false, [.leaf], [.flt .f32 0]⟩⟩]
def f125_i_Filterstep.A : RAlt (Nat × Nat × Nat × Nat × Nat) := .one ⟨[⟨false, [.leaf], [.flt .f32 0]⟩, ⟨true, [.leaf, .leaf, .leaf, .leaf], [.flt .f32 0, .flt .f32 0, .flt .f32 0, .flt .f32 0]⟩], [none, none, none, none, none]⟩ sg_fffff
def f125_i_Filterstep.F (n : Nat) (v : Nat × Nat × Nat × Nat × Nat × Int × Bool × Nat × Nat × Nat × Nat × Nat) := f125_i_Filterstep n v.1 v.2.1 v.2.2.1 v.2.2.2.1 v.2.2.2.2.1 v.2.2.2.2.2.1 v.2.2.2.2.2.2.1 v.2.2.2.2.2.2.2.1 v.2.2.2.2.2.2.2.2.1 v.2.2.2.2.2.2.2.2.2.1 v.2.2.2.2.2.2.2.2.2.2.1 v.2.2.2.2.2.2.2.2.2.2.2
noncomputable def f125_i_Filterstep.O (n : Nat) : Orc := orcOf (E := E) [f136_i_flushed.w] [] n
theorem f125_i_Filterstep.ok : ∀ n v x, f125_i_Filterstep.F n v = some x → evalFn E n 125 (flAs f125_i_Filterstep.P (sg_fffffibfffff.pk v)) = some (f125_i_Filterstep.A.enc x) :=
  fn_pure (modes := (fdAt 125).ms) (outs := (fdAt 125).os) (results := (fdAt 125).rs) f125_i_Filterstep.O (c := c125) (keep := keepAt 125) (by kernel_rfl) (fun n => orcOf_cf _ _ n) (fun n => lpOk_of (bs := []) (by kernel_rfl) .nil) (fun _ => rfl) (fun _ _ => by kernel_rfl)
noncomputable def f125_i_Filterstep.w : FnW E := fnW 125 f125_i_Filterstep.P sg_fffffibfffff f125_i_Filterstep.A f125_i_Filterstep.F f125_i_Filterstep.ok

def f124_i_Filterrun.l0 (n : Nat) : Nat → Int → Bool → Nat → List T → Nat → Nat → Nat → Nat → Nat → Nat → Nat → Nat → Nat → Nat → Nat → Nat → Nat → Nat → List T → Nat → List T → Int → Int → Option (Nat × Nat × Nat × Nat × Nat × Nat × Nat × Nat × Nat × List T)
  | 0, _, _, _, _, _, _, _, _, _, _, _, _, _, _, _, _, _, _, _, _, _, _, _ => none
  | m + 1, i1, b2, n3, l4, x5, x6, x7, x8, x9, x10, x11, x12, x13, x14, x15, x16, x17, n18, l19, n20, l21, i22, i23 =>
    br (decide (i23 < i22)) (
     gd ((decide (((0 : Int) ≤ i23) ∧ (i23 < ((n20 : Nat) : Int)))) && (okAt [(CK.flt FloatKind.f32)] l21 (Int.toNat i23))) (
     let x24 : Nat := (fAt l21 (Int.toNat i23))
     bd (f125_i_Filterstep n x5 x6 x7 x8 x9 i1 b2 x10 x11 x12 x13 x24) fun r25 =>
     let x26 : Nat := r25.1
     let x27 : Nat := r25.2.1
     let x28 : Nat := r25.2.2.1
     let x29 : Nat := r25.2.2.2.1
     let x30 : Nat := r25.2.2.2.2
     gd (Nat.ble (n18 + 1) 2147483648) (
     let n31 : Nat := (n18 + 1)
     let l32 : List T := (l19 ++ (setN (reps 1 [(T.flt FloatKind.f32 0)]) 0 [(T.flt FloatKind.f32 x26)]))
     f124_i_Filterrun.l0 n m i1 b2 n3 l4 x5 x6 x7 x8 x9 x27 x28 x29 x30 x14 x15 x16 x17 n31 l32 n20 l21 i22 (IntKind.i64.wrap (i23 + (1 : Int)))))) (
     some (x10, x11, x12, x13, x14, x15, x16, x17, n18, l19))
termination_by structural x => x
def f124_i_Filterrun : Nat → Nat → Nat → Nat → Nat → Nat → Int → Bool → Nat → Nat → Nat → Nat → Nat → List T → Option (Nat × List T × Nat × Nat × Nat × Nat)
  | 0, _, _, _, _, _, _, _, _, _, _, _, _, _ => none
  | n + 1, x1, x2, x3, x4, x5, i6, b7, x8, x9, x10, x11, n12, l13 =>
    bd (f124_i_Filterrun.l0 n n i6 b7 n12 l13 x1 x2 x3 x4 x5 x8 x9 x10 x11 0 0 0 0 0 [] n12 l13 ((n12 : Nat) : Int) (0 : Int)) fun r14 =>
    let x15 : Nat := r14.1
    let x16 : Nat := r14.2.1
    let x17 : Nat := r14.2.2.1
    let x18 : Nat := r14.2.2.2.1
    let x19 : Nat := r14.2.2.2.2.1
    let x20 : Nat := r14.2.2.2.2.2.1
    let x21 : Nat := r14.2.2.2.2.2.2.1
    let x22 : Nat := r14.2.2.2.2.2.2.2.1
    let n23 : Nat := r14.2.2.2.2.2.2.2.2.1
    let l24 : List T := r14.2.2.2.2.2.2.2.2.2
    some (n23, l24, x15, x16, x17, x18)
def sg_fffffibffffl : Sig (Nat × Nat × Nat × Nat × Nat × Int × Bool × Nat × Nat × Nat × Nat × Nat × List T) where
  pk := fun v => [.flt v.1, .flt v.2.1, .flt v.2.2.1, .flt v.2.2.2.1, .flt v.2.2.2.2.1, .int v.2.2.2.2.2.1, .bool v.2.2.2.2.2.2.1, .flt v.2.2.2.2.2.2.2.1, .flt v.2.2.2.2.2.2.2.2.1, .flt v.2.2.2.2.2.2.2.2.2.1, .flt v.2.2.2.2.2.2.2.2.2.2.1, .lst v.2.2.2.2.2.2.2.2.2.2.2.1 v.2.2.2.2.2.2.2.2.2.2.2.2]
  up := fun ls => match ls with
    | [.flt a0, .flt a1, .flt a2, .flt a3, .flt a4, .int a5, .bool a6, .flt a7, .flt a8, .flt a9, .flt a10, .lst a11 a12] => some (a0, a1, a2, a3, a4, a5, a6, a7, a8, a9, a10, a11, a12)
    | _ => none
  ok := by
    intro ls v h
    split at h
    · cases h; rfl
    · cases h

def sg_lffff : Sig (Nat × List T × Nat × Nat × Nat × Nat) where
  pk := fun v => [.lst v.1 v.2.1, .flt v.2.2.1, .flt v.2.2.2.1, .flt v.2.2.2.2.1, .flt v.2.2.2.2.2]
  up := fun ls => match ls with
    | [.lst a0 a1, .flt a2, .flt a3, .flt a4, .flt a5] => some (a0, a1, a2, a3, a4, a5)
    | _ => none
  ok := by
    intro ls v h
    split at h
    · cases h; rfl
    · cases h

def sg_iblfffffffffffffllii : Sig (Int × Bool × Nat × List T × Nat × Nat × Nat × Nat × Nat × Nat × Nat × Nat × Nat × Nat × Nat × Nat × Nat × Nat × List T × Nat × List T × Int × Int) where
  pk := fun v => [.int v.1, .bool v.2.1, .lst v.2.2.1 v.2.2.2.1, .flt v.2.2.2.2.1, .flt v.2.2.2.2.2.1, .flt v.2.2.2.2.2.2.1, .flt v.2.2.2.2.2.2.2.1, .flt v.2.2.2.2.2.2.2.2.1, .flt v.2.2.2.2.2.2.2.2.2.1, .flt v.2.2.2.2.2.2.2.2.2.2.1, .flt v.2.2.2.2.2.2.2.2.2.2.2.1, .flt v.2.2.2.2.2.2.2.2.2.2.2.2.1, .flt v.2.2.2.2.2.2.2.2.2.2.2.2.2.1, .flt v.2.2.2.2.2.2.2.2.2.2.2.2.2.2.1, .flt v.2.2.2.2.2.2.2.2.2.2.2.2.2.2.2.1, .flt v.2.2.2.2.2.2.2.2.2.2.2.2.2.2.2.2.1, .lst v.2.2.2.2.2.2.2.2.2.2.2.2.2.2.2.2.2.1 v.2.2.2.2.2.2.2.2.2.2.2.2.2.2.2.2.2.2.1, .lst v.2.2.2.2.2.2.2.2.2.2.2.2.2.2.2.2.2.2.2.1 v.2.2.2.2.2.2.2.2.2.2.2.2.2.2.2.2.2.2.2.2.1, .int v.2.2.2.2.2.2.2.2.2.2.2.2.2.2.2.2.2.2.2.2.2.1, .int v.2.2.2.2.2.2.2.2.2.2.2.2.2.2.2.2.2.2.2.2.2.2]
  up := fun ls => match ls with
    | [.int a0, .bool a1, .lst a2 a3, .flt a4, .flt a5, .flt a6, .flt a7, .flt a8, .flt a9, .flt a10, .flt a11, .flt a12, .flt a13, .flt a14, .flt a15, .flt a16, .lst a17 a18, .lst a19 a20, .int a21, .int a22] => some (a0, a1, a2, a3, a4, a5, a6, a7, a8, a9, a10, a11, a12, a13, a14, a15, a16, a17, a18, a19, a20, a21, a22)
    | _ => none
  ok := by
    intro ls v h
    split at h
    · cases h; rfl
    · cases h

def sg_ffffffffl : Sig (Nat × Nat × Nat × Nat × Nat × Nat × Nat × Nat × Nat × List T) where
  pk := fun v => [.flt v.1, .flt v.2.1, .flt v.2.2.1, .flt v.2.2.2.1, .flt v.2.2.2.2.1, .flt v.2.2.2.2.2.1, .flt v.2.2.2.2.2.2.1, .flt v.2.2.2.2.2.2.2.1, .lst v.2.2.2.2.2.2.2.2.1 v.2.2.2.2.2.2.2.2.2]
  up := fun ls => match ls with
    | [.flt a0, .flt a1, .flt a2, .flt a3, .flt a4, .flt a5, .flt a6, .flt a7, .lst a8 a9] => some (a0, a1, a2, a3, a4, a5, a6, a7, a8, a9)
    | _ => none
  ok := by
    intro ls v h
    split at h
    · cases h; rfl
    · cases h

def f124_i_Filterrun.l0.P : AS := ⟨[(1, .val false [.leaf] [.int .i64 0] [] 0), (2, .val false [.leaf] [.bool false] [] 0), (4, .val false [.sl .shr [.leaf]] [.lst 0 []] [] 0), (5, .box [.leaf, .leaf, .leaf, .leaf, .leaf] [.flt .f32 0, .flt .f32 0, .flt .f32 0, .flt .f32 0, .flt .f32 0] [] 0), (8, .box [.leaf, .leaf, .leaf, .leaf] [.flt .f32 0, .flt .f32 0, .flt .f32 0, .flt .f32 0] [] 0), (11, .box [.leaf, .leaf, .leaf, .leaf] [.flt .f32 0, .flt .f32 0, .flt .f32 0, .flt .f32 0] [] 0), (12, .val false [.sl .own [.leaf]] [.lst 0 []] [] 0), (17, .val false [.sl .shr [.leaf]] [.lst 0 []] [] 0), (18, .val false [.leaf] [.int .i64 0] [] 0), (19, .val false [.leaf] [.int .i64 0] [] 0)], 0⟩
def f124_i_Filterrun.l0.A : Alt (Nat × Nat × Nat × Nat × Nat × Nat × Nat × Nat × Nat × List T) := .one (.exit 0) ⟨[(8, .box [.leaf, .leaf, .leaf, .leaf] [.flt .f32 0, .flt .f32 0, .flt .f32 0, .flt .f32 0] [] 0), (11, .box [.leaf, .leaf, .leaf, .leaf] [.flt .f32 0, .flt .f32 0, .flt .f32 0, .flt .f32 0] [] 0), (12, .val false [.sl .own [.leaf]] [.lst 0 []] [] 0)], 0⟩ sg_ffffffffl
def f124_i_Filterrun.l0.F (n m : Nat) (v : Int × Bool × Nat × List T × Nat × Nat × Nat × Nat × Nat × Nat × Nat × Nat × Nat × Nat × Nat × Nat × Nat × Nat × List T × Nat × List T × Int × Int) := f124_i_Filterrun.l0 n m v.1 v.2.1 v.2.2.1 v.2.2.2.1 v.2.2.2.2.1 v.2.2.2.2.2.1 v.2.2.2.2.2.2.1 v.2.2.2.2.2.2.2.1 v.2.2.2.2.2.2.2.2.1 v.2.2.2.2.2.2.2.2.2.1 v.2.2.2.2.2.2.2.2.2.2.1 v.2.2.2.2.2.2.2.2.2.2.2.1 v.2.2.2.2.2.2.2.2.2.2.2.2.1 v.2.2.2.2.2.2.2.2.2.2.2.2.2.1 v.2.2.2.2.2.2.2.2.2.2.2.2.2.2.1 v.2.2.2.2.2.2.2.2.2.2.2.2.2.2.2.1 v.2.2.2.2.2.2.2.2.2.2.2.2.2.2.2.2.1 v.2.2.2.2.2.2.2.2.2.2.2.2.2.2.2.2.2.1 v.2.2.2.2.2.2.2.2.2.2.2.2.2.2.2.2.2.2.1 v.2.2.2.2.2.2.2.2.2.2.2.2.2.2.2.2.2.2.2.1 v.2.2.2.2.2.2.2.2.2.2.2.2.2.2.2.2.2.2.2.2.1 v.2.2.2.2.2.2.2.2.2.2.2.2.2.2.2.2.2.2.2.2.2.1 v.2.2.2.2.2.2.2.2.2.2.2.2.2.2.2.2.2.2.2.2.2.2
def f124_i_Filterrun.l0.W (n : Nat) : LpW := .of 48 f124_i_Filterrun.l0.P sg_iblfffffffffffffllii f124_i_Filterrun.l0.A (f124_i_Filterrun.l0.F n n)
def f124_i_Filterrun.P : List Arg := [⟨.val, ⟨true, [.leaf, .leaf, .leaf, .leaf, .leaf], [.flt .f32 0, .flt .f32 0, .flt .f32 0, .flt .f32 0, .flt .f32 0]⟩⟩, ⟨.val, ⟨false, [.leaf], [.int .i64 0]⟩⟩, ⟨.val, ⟨false, [.leaf], [.bool false]⟩⟩, ⟨.val, ⟨true, [.leaf, .leaf, .leaf, .leaf], [.flt .f32 0, .flt .f32 0, .flt .f32 0, .flt .f32 0]⟩⟩, ⟨.val, ⟨false, [.sl .shr [.leaf]], [.lst 0 []]⟩⟩]
def f124_i_Filterrun.A : RAlt (Nat × List T × Nat × Nat × Nat × Nat) := .one ⟨[⟨false, [.sl .own [.leaf]], [.lst 0 []]⟩, ⟨true, [.leaf, .leaf, .leaf, .leaf], [.flt .f32 0, .flt .f32 0, .flt .f32 0, .flt .f32 0]⟩], [none, none, none, none, none]⟩ sg_lffff
def f124_i_Filterrun.F (n : Nat) (v : Nat × Nat × Nat × Nat × Nat × Int × Bool × Nat × Nat × Nat × Nat × Nat × List T) := f124_i_Filterrun n v.1 v.2.1 v.2.2.1 v.2.2.2.1 v.2.2.2.2.1 v.2.2.2.2.2.1 v.2.2.2.2.2.2.1 v.2.2.2.2.2.2.2.1 v.2.2.2.2.2.2.2.2.1 v.2.2.2.2.2.2.2.2.2.1 v.2.2.2.2.2.2.2.2.2.2.1 v.2.2.2.2.2.2.2.2.2.2.2.1 v.2.2.2.2.2.2.2.2.2.2.2.2
noncomputable def f124_i_Filterrun.O (n : Nat) : Orc := orcOf (E := E) [f125_i_Filterstep.w] [f124_i_Filterrun.l0.W n] n
theorem f124_i_Filterrun.l0.ok (n : Nat) : LpOk (f124_i_Filterrun.O n) E (evalFn E n) n (keepAt 124) (.loop (loopAt c124 0)) :=
  lp_pure f124_i_Filterrun.l0.P sg_iblfffffffffffffllii f124_i_Filterrun.l0.A (f124_i_Filterrun.l0.F n) (orcOf_cf _ _ n) (lpOk_of (bs := []) (by kernel_rfl) .nil) (fun _ => rfl) (fun _ _ => by kernel_rfl) (fun _ _ _ => by kernel_rfl)
theorem f124_i_Filterrun.ok : ∀ n v x, f124_i_Filterrun.F n v = some x → evalFn E n 124 (flAs f124_i_Filterrun.P (sg_fffffibffffl.pk v)) = some (f124_i_Filterrun.A.enc x) :=
  fn_pure (modes := (fdAt 124).ms) (outs := (fdAt 124).os) (results := (fdAt 124).rs) f124_i_Filterrun.O (c := c124) (keep := keepAt 124) (by kernel_rfl) (fun n => orcOf_cf _ _ n) (fun n => lpOk_of (bs := [loopAt c124 0]) (by kernel_rfl) (.cons (f124_i_Filterrun.l0.ok n) .nil)) (fun _ => rfl) (fun _ _ => by kernel_rfl)
noncomputable def f124_i_Filterrun.w : FnW E := fnW 124 f124_i_Filterrun.P sg_fffffibffffl f124_i_Filterrun.A f124_i_Filterrun.F f124_i_Filterrun.ok

def f68_i_RunFilter : Nat → Nat → Nat → Nat → Nat → Nat → Int → Bool → Nat → Nat → Nat → Nat → Nat → List T → Option (Nat × List T × Nat × Nat × Nat × Nat × Bool)
  | 0, _, _, _, _, _, _, _, _, _, _, _, _, _ => none
  | n + 1, x1, x2, x3, x4, x5, i6, b7, x8, x9, x10, x11, n12, l13 =>
    bd (f123_i_isForm n i6) fun r14 =>
    let b15 : Bool := r14
    br (!b15) (
     some (0, [], 0, 0, 0, 0, false)) (
     bd (f94_i_areSamples n n12 l13) fun r16 =>
     let b17 : Bool := r16
     br (!b17) (
      some (0, [], 0, 0, 0, 0, false)) (
      bd (f124_i_Filterrun n x1 x2 x3 x4 x5 i6 b7 x8 x9 x10 x11 n12 l13) fun r18 =>
      let n19 : Nat := r18.1
      let l20 : List T := r18.2.1
      let x21 : Nat := r18.2.2.1
      let x22 : Nat := r18.2.2.2.1
      let x23 : Nat := r18.2.2.2.2.1
      let x24 : Nat := r18.2.2.2.2.2
      some (n19, l20, x21, x22, x23, x24, true)))
def sg_lffffb : Sig (Nat × List T × Nat × Nat × Nat × Nat × Bool) where
  pk := fun v => [.lst v.1 v.2.1, .flt v.2.2.1, .flt v.2.2.2.1, .flt v.2.2.2.2.1, .flt v.2.2.2.2.2.1, .bool v.2.2.2.2.2.2]
  up := fun ls => match ls with
    | [.lst a0 a1, .flt a2, .flt a3, .flt a4, .flt a5, .bool a6] => some (a0, a1, a2, a3, a4, a5, a6)
    | _ => none
  ok := by
    intro ls v h
    split at h
    · cases h; rfl
    · cases h

def f68_i_RunFilter.P : List Arg := [⟨.val, ⟨true, [.leaf, .leaf, .leaf, .leaf, .leaf], [.flt .f32 0, .flt .f32 0, .flt .f32 0, .flt .f32 0, .flt .f32 0]⟩⟩, ⟨.val, ⟨false, [.leaf], [.int .i64 0]⟩⟩, ⟨.val, ⟨false, [.leaf], [.bool false]⟩⟩, ⟨.val, ⟨true, [.leaf, .leaf, .leaf, .leaf], [.flt .f32 0, .flt .f32 0, .flt .f32 0, .flt .f32 0]⟩⟩, ⟨.val, ⟨false, [.sl .shr [.leaf]], [.lst 0 []]⟩⟩]
def f68_i_RunFilter.A : RAlt (Nat × List T × Nat × Nat × Nat × Nat × Bool) := .one ⟨[⟨false, [.sl .own [.leaf]], [.lst 0 []]⟩, ⟨true, [.leaf, .leaf, .leaf, .leaf], [.flt .f32 0, .flt .f32 0, .flt .f32 0, .flt .f32 0]⟩, ⟨false, [.leaf], [.bool false]⟩], [none, none, none, none, none]⟩ sg_lffffb
def f68_i_RunFilter.F (n : Nat) (v : Nat × Nat × Nat × Nat × Nat × Int × Bool × Nat × Nat × Nat × Nat × Nat × List T) := f68_i_RunFilter n v.1 v.2.1 v.2.2.1 v.2.2.2.1 v.2.2.2.2.1 v.2.2.2.2.2.1 v.2.2.2.2.2.2.1 v.2.2.2.2.2.2.2.1 v.2.2.2.2.2.2.2.2.1 v.2.2.2.2.2.2.2.2.2.1 v.2.2.2.2.2.2.2.2.2.2.1 v.2.2.2.2.2.2.2.2.2.2.2.1 v.2.2.2.2.2.2.2.2.2.2.2.2
noncomputable def f68_i_RunFilter.O (n : Nat) : Orc := orcOf (E := E) [f123_i_isForm.w, f94_i_areSamples.w, f124_i_Filterrun.w] [] n
theorem f68_i_RunFilter.ok : ∀ n v x, f68_i_RunFilter.F n v = some x → evalFn E n 68 (flAs f68_i_RunFilter.P (sg_fffffibffffl.pk v)) = some (f68_i_RunFilter.A.enc x) :=
  fn_pure (modes := (fdAt 68).ms) (outs := (fdAt 68).os) (results := (fdAt 68).rs) f68_i_RunFilter.O (c := c68) (keep := keepAt 68) (by kernel_rfl) (fun n => orcOf_cf _ _ n) (fun n => lpOk_of (bs := []) (by kernel_rfl) .nil) (fun _ => rfl) (fun _ _ => by kernel_rfl)
noncomputable def f68_i_RunFilter.w : FnW E := fnW 68 f68_i_RunFilter.P sg_fffffibffffl f68_i_RunFilter.A f68_i_RunFilter.F f68_i_RunFilter.ok

def f33_i_SameNumber : Nat → Nat → Nat → Option (Bool)
  | 0, _, _ => none
  | n + 1, x1, x2 =>
    br (fne FloatKind.f32 x1 x1) (
     br (fne FloatKind.f32 x1 x1) (
      some (fne FloatKind.f32 x2 x2)) (
      some false)) (
     br (fne FloatKind.f32 x2 x2) (
      br (fne FloatKind.f32 x1 x1) (
       some (fne FloatKind.f32 x2 x2)) (
       some false)) (
      bd (xF32bits n x1) fun r3 =>
      let i4 : Int := r3
      bd (xF32bits n x2) fun r5 =>
      let i6 : Int := r5
      some (i4 == i6)))
def sg_ff : Sig (Nat × Nat) where
  pk := fun v => [.flt v.1, .flt v.2]
  up := fun ls => match ls with
    | [.flt a0, .flt a1] => some (a0, a1)
    | _ => none
  ok := by
    intro ls v h
    split at h
    · cases h; rfl
    · cases h

def f33_i_SameNumber.P : List Arg := [⟨.val, ⟨false, [.leaf], [.flt .f32 0]⟩⟩, ⟨.val, ⟨false, [.leaf], [.flt .f32 0]⟩⟩]
def f33_i_SameNumber.A : RAlt (Bool) := .one ⟨[⟨false, [.leaf], [.bool false]⟩], [none, none]⟩ sg_b
def f33_i_SameNumber.F (n : Nat) (v : Nat × Nat) := f33_i_SameNumber n v.1 v.2
noncomputable def f33_i_SameNumber.O (n : Nat) : Orc := orcOf (E := E) [x98.w] [] n
theorem f33_i_SameNumber.ok : ∀ n v x, f33_i_SameNumber.F n v = some x → evalFn E n 33 (flAs f33_i_SameNumber.P (sg_ff.pk v)) = some (f33_i_SameNumber.A.enc x) :=
  fn_pure (modes := (fdAt 33).ms) (outs := (fdAt 33).os) (results := (fdAt 33).rs) f33_i_SameNumber.O (c := c33) (keep := keepAt 33) (by kernel_rfl) (fun n => orcOf_cf _ _ n) (fun n => lpOk_of (bs := []) (by kernel_rfl) .nil) (fun _ => rfl) (fun _ _ => by kernel_rfl)
noncomputable def f33_i_SameNumber.w : FnW E := fnW 33 f33_i_SameNumber.P sg_ff f33_i_SameNumber.A f33_i_SameNumber.F f33_i_SameNumber.ok

def f32_l_r8Same.l0 (n : Nat) : Nat → Nat → List T → Nat → List T → Int → Option ((Bool) ⊕ (Unit))
  | 0, _, _, _, _, _ => none
  | m + 1, n1, l2, n3, l4, i5 =>
    br (decide (i5 < ((n1 : Nat) : Int))) (
     gd ((decide (((0 : Int) ≤ i5) ∧ (i5 < ((n1 : Nat) : Int)))) && (okAt [(CK.flt FloatKind.f32)] l2 (Int.toNat i5))) (
     gd ((decide (((0 : Int) ≤ i5) ∧ (i5 < ((n3 : Nat) : Int)))) && (okAt [(CK.flt FloatKind.f32)] l4 (Int.toNat i5))) (
     bd (f33_i_SameNumber n (fAt l2 (Int.toNat i5)) (fAt l4 (Int.toNat i5))) fun r6 =>
     let b7 : Bool := r6
     br (!b7) (
      some (Sum.inl false)) (
      f32_l_r8Same.l0 n m n1 l2 n3 l4 (IntKind.i64.wrap (i5 + (1 : Int))))))) (
     some (Sum.inr ()))
def f32_l_r8Same : Nat → Nat → List T → Nat → List T → Option (Bool)
  | 0, _, _, _, _ => none
  | n + 1, n1, l2, n3, l4 =>
    br (((n1 : Nat) : Int) != ((n3 : Nat) : Int)) (
     some false) (
     bd (f32_l_r8Same.l0 n n n1 l2 n3 l4 (0 : Int)) fun r5 =>
     sm r5 (fun u6 =>
      let b7 : Bool := u6
      some b7) (fun u8 =>
      some true))
def sg_lli : Sig (Nat × List T × Nat × List T × Int) where
  pk := fun v => [.lst v.1 v.2.1, .lst v.2.2.1 v.2.2.2.1, .int v.2.2.2.2]
  up := fun ls => match ls with
    | [.lst a0 a1, .lst a2 a3, .int a4] => some (a0, a1, a2, a3, a4)
    | _ => none
  ok := by
    intro ls v h
    split at h
    · cases h; rfl
    · cases h

def sg : Sig (Unit) where
  pk := fun v => []
  up := fun ls => match ls with
    | [] => some ()
    | _ => none
  ok := by
    intro ls v h
    split at h
    · cases h; rfl
    · cases h

def f32_l_r8Same.l0.P : AS := ⟨[(0, .val false [.sl .shr [.leaf]] [.lst 0 []] [] 0), (1, .val false [.sl .shr [.leaf]] [.lst 0 []] [] 0), (5, .val false [.leaf] [.int .i64 0] [] 0)], 0⟩
def f32_l_r8Same.l0.A : Alt ((Bool) ⊕ (Unit)) := .or (.one .ret ⟨[(4, .val false [.leaf] [.bool false] [] 0)], 0⟩ sg_b) (.one (.exit 0) ⟨[(4, .dead)], 0⟩ sg)
def f32_l_r8Same.l0.F (n m : Nat) (v : Nat × List T × Nat × List T × Int) := f32_l_r8Same.l0 n m v.1 v.2.1 v.2.2.1 v.2.2.2.1 v.2.2.2.2
def f32_l_r8Same.l0.W (n : Nat) : LpW := .of 64 f32_l_r8Same.l0.P sg_lli f32_l_r8Same.l0.A (f32_l_r8Same.l0.F n n)
def f32_l_r8Same.P : List Arg := [⟨.val, ⟨false, [.sl .shr [.leaf]], [.lst 0 []]⟩⟩, ⟨.val, ⟨false, [.sl .shr [.leaf]], [.lst 0 []]⟩⟩]
def f32_l_r8Same.A : RAlt (Bool) := .one ⟨[⟨false, [.leaf], [.bool false]⟩], [none, none]⟩ sg_b
def f32_l_r8Same.F (n : Nat) (v : Nat × List T × Nat × List T) := f32_l_r8Same n v.1 v.2.1 v.2.2.1 v.2.2.2
noncomputable def f32_l_r8Same.O (n : Nat) : Orc := orcOf (E := E) [f33_i_SameNumber.w] [f32_l_r8Same.l0.W n] n
theorem f32_l_r8Same.l0.ok (n : Nat) : LpOk (f32_l_r8Same.O n) E (evalFn E n) n (keepAt 32) (.loop (loopAt c32 0)) :=
  lp_pure f32_l_r8Same.l0.P sg_lli f32_l_r8Same.l0.A (f32_l_r8Same.l0.F n) (orcOf_cf _ _ n) (lpOk_of (bs := []) (by kernel_rfl) .nil) (fun _ => rfl) (fun _ _ => by kernel_rfl) (fun _ _ _ => by kernel_rfl)
theorem f32_l_r8Same.ok : ∀ n v x, f32_l_r8Same.F n v = some x → evalFn E n 32 (flAs f32_l_r8Same.P (sg_ll.pk v)) = some (f32_l_r8Same.A.enc x) :=
  fn_pure (modes := (fdAt 32).ms) (outs := (fdAt 32).os) (results := (fdAt 32).rs) f32_l_r8Same.O (c := c32) (keep := keepAt 32) (by kernel_rfl) (fun n => orcOf_cf _ _ n) (fun n => lpOk_of (bs := [loopAt c32 0]) (by kernel_rfl) (.cons (f32_l_r8Same.l0.ok n) .nil)) (fun _ => rfl) (fun _ _ => by kernel_rfl)
noncomputable def f32_l_r8Same.w : FnW E := fnW 32 f32_l_r8Same.P sg_ll f32_l_r8Same.A f32_l_r8Same.F f32_l_r8Same.ok

def f69_i_SameMemory : Nat → Nat → Nat → Nat → Nat → Nat → Nat → Nat → Nat → Option (Bool)
  | 0, _, _, _, _, _, _, _, _ => none
  | n + 1, x1, x2, x3, x4, x5, x6, x7, x8 =>
    bd (f33_i_SameNumber n x1 x5) fun r9 =>
    let b10 : Bool := r9
    br b10 (
     bd (f33_i_SameNumber n x2 x6) fun r11 =>
     let b12 : Bool := r11
     br b12 (
      bd (f33_i_SameNumber n x3 x7) fun r13 =>
      let b14 : Bool := r13
      br b14 (
       bd (f33_i_SameNumber n x4 x8) fun r15 =>
       let b16 : Bool := r15
       some b16) (
       some false)) (
      some false)) (
     some false)
def sg_ffffffff : Sig (Nat × Nat × Nat × Nat × Nat × Nat × Nat × Nat) where
  pk := fun v => [.flt v.1, .flt v.2.1, .flt v.2.2.1, .flt v.2.2.2.1, .flt v.2.2.2.2.1, .flt v.2.2.2.2.2.1, .flt v.2.2.2.2.2.2.1, .flt v.2.2.2.2.2.2.2]
  up := fun ls => match ls with
    | [.flt a0, .flt a1, .flt a2, .flt a3, .flt a4, .flt a5, .flt a6, .flt a7] => some (a0, a1, a2, a3, a4, a5, a6, a7)
    | _ => none
  ok := by
    intro ls v h
    split at h
    · cases h; rfl
    · cases h

def f69_i_SameMemory.P : List Arg := [⟨.val, ⟨true, [.leaf, .leaf, .leaf, .leaf], [.flt .f32 0, .flt .f32 0, .flt .f32 0, .flt .f32 0]⟩⟩, ⟨.val, ⟨true, [.leaf, .leaf, .leaf, .leaf], [.flt .f32 0, .flt .f32 0, .flt .f32 0, .flt .f32 0]⟩⟩]
def f69_i_SameMemory.A : RAlt (Bool) := .one ⟨[⟨false, [.leaf], [.bool false]⟩], [none, none]⟩ sg_b
def f69_i_SameMemory.F (n : Nat) (v : Nat × Nat × Nat × Nat × Nat × Nat × Nat × Nat) := f69_i_SameMemory n v.1 v.2.1 v.2.2.1 v.2.2.2.1 v.2.2.2.2.1 v.2.2.2.2.2.1 v.2.2.2.2.2.2.1 v.2.2.2.2.2.2.2
noncomputable def f69_i_SameMemory.O (n : Nat) : Orc := orcOf (E := E) [f33_i_SameNumber.w] [] n
theorem f69_i_SameMemory.ok : ∀ n v x, f69_i_SameMemory.F n v = some x → evalFn E n 69 (flAs f69_i_SameMemory.P (sg_ffffffff.pk v)) = some (f69_i_SameMemory.A.enc x) :=
  fn_pure (modes := (fdAt 69).ms) (outs := (fdAt 69).os) (results := (fdAt 69).rs) f69_i_SameMemory.O (c := c69) (keep := keepAt 69) (by kernel_rfl) (fun n => orcOf_cf _ _ n) (fun n => lpOk_of (bs := []) (by kernel_rfl) .nil) (fun _ => rfl) (fun _ _ => by kernel_rfl)
noncomputable def f69_i_SameMemory.w : FnW E := fnW 69 f69_i_SameMemory.P sg_ffffffff f69_i_SameMemory.A f69_i_SameMemory.F f69_i_SameMemory.ok

def f70_i_FilterStep : Nat → Nat → Nat → Nat → Nat → Nat → Int → Bool → Nat → Nat → Nat → Nat → Nat → Option (Nat × Nat × Nat × Nat × Nat × Bool)
  | 0, _, _, _, _, _, _, _, _, _, _, _, _ => none
  | n + 1, x1, x2, x3, x4, x5, i6, b7, x8, x9, x10, x11, x12 =>
    bd (f123_i_isForm n i6) fun r13 =>
    let b14 : Bool := r13
    br (!b14) (
     some (0, 0, 0, 0, 0, false)) (
     bd (f125_i_Filterstep n x1 x2 x3 x4 x5 i6 b7 x8 x9 x10 x11 x12) fun r15 =>
     let x16 : Nat := r15.1
     let x17 : Nat := r15.2.1
     let x18 : Nat := r15.2.2.1
     let x19 : Nat := r15.2.2.2.1
     let x20 : Nat := r15.2.2.2.2
     some (x16, x17, x18, x19, x20, true))
def sg_fffffb : Sig (Nat × Nat × Nat × Nat × Nat × Bool) where
  pk := fun v => [.flt v.1, .flt v.2.1, .flt v.2.2.1, .flt v.2.2.2.1, .flt v.2.2.2.2.1, .bool v.2.2.2.2.2]
  up := fun ls => match ls with
    | [.flt a0, .flt a1, .flt a2, .flt a3, .flt a4, .bool a5] => some (a0, a1, a2, a3, a4, a5)
    | _ => none
  ok := by
    intro ls v h
    split at h
    · cases h; rfl
    · cases h

def f70_i_FilterStep.P : List Arg := [⟨.val, ⟨true, [.leaf, .leaf, .leaf, .leaf, .leaf], [.flt .f32 0, .flt .f32 0, .flt .f32 0, .flt .f32 0, .flt .f32 0]⟩⟩, ⟨.val, ⟨false, [.leaf], [.int .i64 0]⟩⟩, ⟨.val, ⟨false, [.leaf], [.bool false]⟩⟩, ⟨.val, ⟨true, [.leaf, .leaf, .leaf, .leaf], [.flt .f32 0, .flt .f32 0, .flt .f32 0, .flt .f32 0]⟩⟩, ⟨.val, ⟨false, [.leaf], [.flt .f32 0]⟩⟩]
def f70_i_FilterStep.A : RAlt (Nat × Nat × Nat × Nat × Nat × Bool) := .one ⟨[⟨false, [.leaf], [.flt .f32 0]⟩, ⟨true, [.leaf, .leaf, .leaf, .leaf], [.flt .f32 0, .flt .f32 0, .flt .f32 0, .flt .f32 0]⟩, ⟨false, [.leaf], [.bool false]⟩], [none, none, none, none, none]⟩ sg_fffffb
def f70_i_FilterStep.F (n : Nat) (v : Nat × Nat × Nat × Nat × Nat × Int × Bool × Nat × Nat × Nat × Nat × Nat) := f70_i_FilterStep n v.1 v.2.1 v.2.2.1 v.2.2.2.1 v.2.2.2.2.1 v.2.2.2.2.2.1 v.2.2.2.2.2.2.1 v.2.2.2.2.2.2.2.1 v.2.2.2.2.2.2.2.2.1 v.2.2.2.2.2.2.2.2.2.1 v.2.2.2.2.2.2.2.2.2.2.1 v.2.2.2.2.2.2.2.2.2.2.2
noncomputable def f70_i_FilterStep.O (n : Nat) : Orc := orcOf (E := E) [f123_i_isForm.w, f125_i_Filterstep.w] [] n
theorem f70_i_FilterStep.ok : ∀ n v x, f70_i_FilterStep.F n v = some x → evalFn E n 70 (flAs f70_i_FilterStep.P (sg_fffffibfffff.pk v)) = some (f70_i_FilterStep.A.enc x) :=
  fn_pure (modes := (fdAt 70).ms) (outs := (fdAt 70).os) (results := (fdAt 70).rs) f70_i_FilterStep.O (c := c70) (keep := keepAt 70) (by kernel_rfl) (fun n => orcOf_cf _ _ n) (fun n => lpOk_of (bs := []) (by kernel_rfl) .nil) (fun _ => rfl) (fun _ _ => by kernel_rfl)
noncomputable def f70_i_FilterStep.w : FnW E := fnW 70 f70_i_FilterStep.P sg_fffffibfffff f70_i_FilterStep.A f70_i_FilterStep.F f70_i_FilterStep.ok

def f13_l_FnFilterBlocks.l0 (n : Nat) : Nat → Nat → Nat → Nat → Nat → Nat → Nat → List T → Int → Bool → Nat → List T → Nat → Nat → Nat → Nat → Nat → Nat → Nat → Nat → Int → Option ((Bool) ⊕ (Nat × Nat × Nat × Nat × Nat × Nat × Nat × Nat))
  | 0, _, _, _, _, _, _, _, _, _, _, _, _, _, _, _, _, _, _, _, _ => none
  | m + 1, x1, x2, x3, x4, x5, n6, l7, i8, b9, n10, l11, x12, x13, x14, x15, x16, x17, x18, x19, i20 =>
    br (decide (i20 < ((n6 : Nat) : Int))) (
     gd (decide (((0 : Int) ≤ i20) ∧ (i20 < ((n6 : Nat) : Int)))) (
     gd (okAt [(CK.flt FloatKind.f32)] l7 (Int.toNat i20)) (
     bd (f70_i_FilterStep n x1 x2 x3 x4 x5 i8 b9 x16 x17 x18 x19 (fAt l7 (Int.toNat i20))) fun r21 =>
     let x22 : Nat := r21.1
     let x23 : Nat := r21.2.1
     let x24 : Nat := r21.2.2.1
     let x25 : Nat := r21.2.2.2.1
     let x26 : Nat := r21.2.2.2.2.1
     let b27 : Bool := r21.2.2.2.2.2
     br (!b27) (
      some (Sum.inl false)) (
      gd (decide (((0 : Int) ≤ i20) ∧ (i20 < ((n10 : Nat) : Int)))) (
      gd (okAt [(CK.flt FloatKind.f32)] l11 (Int.toNat i20)) (
      bd (f33_i_SameNumber n x22 (fAt l11 (Int.toNat i20))) fun r28 =>
      let b29 : Bool := r28
      br (!b29) (
       some (Sum.inl false)) (
       br b9 (
        bd (f71_i_IsSubnormal n x22) fun r30 =>
        let b31 : Bool := r30
        br b31 (
         some (Sum.inl false)) (
         f13_l_FnFilterBlocks.l0 n m x1 x2 x3 x4 x5 n6 l7 i8 b9 n10 l11 x12 x13 x14 x15 x23 x24 x25 x26 (IntKind.i64.wrap (i20 + (1 : Int))))) (
        f13_l_FnFilterBlocks.l0 n m x1 x2 x3 x4 x5 n6 l7 i8 b9 n10 l11 x12 x13 x14 x15 x23 x24 x25 x26 (IntKind.i64.wrap (i20 + (1 : Int))))))))))) (
     some (Sum.inr (x12, x13, x14, x15, x16, x17, x18, x19)))
termination_by structural x => x
def f13_l_FnFilterBlocks : Nat → Nat → List T → Nat → List T → Option (Bool)
  | 0, _, _, _, _ => none
  | n + 1, n1, l2, n3, l4 =>
    bd (f27_l_r8Long n n1 l2 n3 l4) fun r5 =>
    let b6 : Bool := r5
    br b6 (
     some true) (
     bd (f66_s_R8Filter n n1 l2) fun r7 =>
     let x8 : Nat := r7.1
     let x9 : Nat := r7.2.1
     let x10 : Nat := r7.2.2.1
     let x11 : Nat := r7.2.2.2.1
     let x12 : Nat := r7.2.2.2.2
     bd (f67_s_R8Memory n n3 l4) fun r13 =>
     let x14 : Nat := r13.1
     let x15 : Nat := r13.2.1
     let x16 : Nat := r13.2.2.1
     let x17 : Nat := r13.2.2.2
     bd (f30_s_R8Samples n n3 l4 (14 : Int)) fun r18 =>
     let n19 : Nat := r18.1
     let l20 : List T := r18.2
     bd (f28_l_r8At n n1 l2 (40 : Int) (3 : Int)) fun r21 =>
     let i22 : Int := r21
     bd (f28_l_r8At n n1 l2 (41 : Int) (2 : Int)) fun r23 =>
     let i24 : Int := r23
     let b25 : Bool := (i24 == (1 : Int))
     bd (f28_l_r8At n n1 l2 (42 : Int) (IntKind.i64.wrap (((n19 : Nat) : Int) + (1 : Int)))) fun r26 =>
     let i27 : Int := r26
     bd (f68_i_RunFilter n x8 x9 x10 x11 x12 i22 b25 x14 x15 x16 x17 n19 l20) fun r28 =>
     let n29 : Nat := r28.1
     let l30 : List T := r28.2.1
     let x31 : Nat := r28.2.2.1
     let x32 : Nat := r28.2.2.2.1
     let x33 : Nat := r28.2.2.2.2.1
     let x34 : Nat := r28.2.2.2.2.2.1
     let b35 : Bool := r28.2.2.2.2.2.2
     gd (decide (((0 : Int) ≤ (0 : Int)) ∧ (((0 : Int) ≤ i27) ∧ (i27 ≤ ((n19 : Nat) : Int))))) (
     bd (f68_i_RunFilter n x8 x9 x10 x11 x12 i22 b25 x14 x15 x16 x17 ((Int.toNat i27) - 0) (List.take ((Int.toNat i27) - 0) (List.drop 0 l20))) fun r36 =>
     let n37 : Nat := r36.1
     let l38 : List T := r36.2.1
     let x39 : Nat := r36.2.2.1
     let x40 : Nat := r36.2.2.2.1
     let x41 : Nat := r36.2.2.2.2.1
     let x42 : Nat := r36.2.2.2.2.2.1
     let b43 : Bool := r36.2.2.2.2.2.2
     gd (decide (((0 : Int) ≤ i27) ∧ ((i27 ≤ ((n19 : Nat) : Int)) ∧ (((n19 : Nat) : Int) ≤ ((n19 : Nat) : Int))))) (
     bd (f68_i_RunFilter n x8 x9 x10 x11 x12 i22 b25 x39 x40 x41 x42 (n19 - (Int.toNat i27)) (List.take (n19 - (Int.toNat i27)) (List.drop (Int.toNat i27) l20))) fun r44 =>
     let n45 : Nat := r44.1
     let l46 : List T := r44.2.1
     let x47 : Nat := r44.2.2.1
     let x48 : Nat := r44.2.2.2.1
     let x49 : Nat := r44.2.2.2.2.1
     let x50 : Nat := r44.2.2.2.2.2.1
     let b51 : Bool := r44.2.2.2.2.2.2
     br (!b35) (
      some false) (
      br (!b43) (
       some false) (
       br (!b51) (
        some false) (
        gd (Nat.ble (0 + n37) 2147483648) (
        gd (Nat.ble ((0 + n37) + n45) 2147483648) (
        bd (f32_l_r8Same n ((0 + n37) + n45) (((reps 0 [(T.flt FloatKind.f32 0)]) ++ l38) ++ l46) n29 l30) fun r52 =>
        let b53 : Bool := r52
        br (!b53) (
         some false) (
         bd (f69_i_SameMemory n x31 x32 x33 x34 x47 x48 x49 x50) fun r54 =>
         let b55 : Bool := r54
         br (!b55) (
          some false) (
          br (((n29 : Nat) : Int) != ((n19 : Nat) : Int)) (
           some false) (
           bd (f13_l_FnFilterBlocks.l0 n n x8 x9 x10 x11 x12 n19 l20 i22 b25 n29 l30 x31 x32 x33 x34 x14 x15 x16 x17 (0 : Int)) fun r56 =>
           sm r56 (fun u57 =>
            let b58 : Bool := u57
            some b58) (fun u59 =>
            let x60 : Nat := u59.1
            let x61 : Nat := u59.2.1
            let x62 : Nat := u59.2.2.1
            let x63 : Nat := u59.2.2.2.1
            let x64 : Nat := u59.2.2.2.2.1
            let x65 : Nat := u59.2.2.2.2.2.1
            let x66 : Nat := u59.2.2.2.2.2.2.1
            let x67 : Nat := u59.2.2.2.2.2.2.2
            bd (f69_i_SameMemory n x64 x65 x66 x67 x60 x61 x62 x63) fun r68 =>
            let b69 : Bool := r68
            some b69))))))))))))
def sg_fffffliblffffffffi : Sig (Nat × Nat × Nat × Nat × Nat × Nat × List T × Int × Bool × Nat × List T × Nat × Nat × Nat × Nat × Nat × Nat × Nat × Nat × Int) where
  pk := fun v => [.flt v.1, .flt v.2.1, .flt v.2.2.1, .flt v.2.2.2.1, .flt v.2.2.2.2.1, .lst v.2.2.2.2.2.1 v.2.2.2.2.2.2.1, .int v.2.2.2.2.2.2.2.1, .bool v.2.2.2.2.2.2.2.2.1, .lst v.2.2.2.2.2.2.2.2.2.1 v.2.2.2.2.2.2.2.2.2.2.1, .flt v.2.2.2.2.2.2.2.2.2.2.2.1, .flt v.2.2.2.2.2.2.2.2.2.2.2.2.1, .flt v.2.2.2.2.2.2.2.2.2.2.2.2.2.1, .flt v.2.2.2.2.2.2.2.2.2.2.2.2.2.2.1, .flt v.2.2.2.2.2.2.2.2.2.2.2.2.2.2.2.1, .flt v.2.2.2.2.2.2.2.2.2.2.2.2.2.2.2.2.1, .flt v.2.2.2.2.2.2.2.2.2.2.2.2.2.2.2.2.2.1, .flt v.2.2.2.2.2.2.2.2.2.2.2.2.2.2.2.2.2.2.1, .int v.2.2.2.2.2.2.2.2.2.2.2.2.2.2.2.2.2.2.2]
  up := fun ls => match ls with
    | [.flt a0, .flt a1, .flt a2, .flt a3, .flt a4, .lst a5 a6, .int a7, .bool a8, .lst a9 a10, .flt a11, .flt a12, .flt a13, .flt a14, .flt a15, .flt a16, .flt a17, .flt a18, .int a19] => some (a0, a1, a2, a3, a4, a5, a6, a7, a8, a9, a10, a11, a12, a13, a14, a15, a16, a17, a18, a19)
    | _ => none
  ok := by
    intro ls v h
    split at h
    · cases h; rfl
    · cases h

def f13_l_FnFilterBlocks.l0.P : AS := ⟨[(5, .box [.leaf, .leaf, .leaf, .leaf, .leaf] [.flt .f32 0, .flt .f32 0, .flt .f32 0, .flt .f32 0, .flt .f32 0] [] 0), (7, .val false [.sl .own [.leaf]] [.lst 0 []] [] 0), (8, .val false [.leaf] [.int .i64 0] [] 0), (9, .val false [.leaf] [.bool false] [] 0), (11, .val false [.sl .own [.leaf]] [.lst 0 []] [] 0), (12, .box [.leaf, .leaf, .leaf, .leaf] [.flt .f32 0, .flt .f32 0, .flt .f32 0, .flt .f32 0] [] 0), (20, .box [.leaf, .leaf, .leaf, .leaf] [.flt .f32 0, .flt .f32 0, .flt .f32 0, .flt .f32 0] [] 0), (21, .val false [.leaf] [.int .i64 0] [] 0)], 0⟩
def f13_l_FnFilterBlocks.l0.A : Alt ((Bool) ⊕ (Nat × Nat × Nat × Nat × Nat × Nat × Nat × Nat)) := .or (.one .ret ⟨[(4, .val false [.leaf] [.bool false] [] 0), (12, .dead), (20, .dead)], 0⟩ sg_b) (.one (.exit 0) ⟨[(4, .dead), (12, .box [.leaf, .leaf, .leaf, .leaf] [.flt .f32 0, .flt .f32 0, .flt .f32 0, .flt .f32 0] [] 0), (20, .box [.leaf, .leaf, .leaf, .leaf] [.flt .f32 0, .flt .f32 0, .flt .f32 0, .flt .f32 0] [] 0)], 0⟩ sg_ffffffff)
def f13_l_FnFilterBlocks.l0.F (n m : Nat) (v : Nat × Nat × Nat × Nat × Nat × Nat × List T × Int × Bool × Nat × List T × Nat × Nat × Nat × Nat × Nat × Nat × Nat × Nat × Int) := f13_l_FnFilterBlocks.l0 n m v.1 v.2.1 v.2.2.1 v.2.2.2.1 v.2.2.2.2.1 v.2.2.2.2.2.1 v.2.2.2.2.2.2.1 v.2.2.2.2.2.2.2.1 v.2.2.2.2.2.2.2.2.1 v.2.2.2.2.2.2.2.2.2.1 v.2.2.2.2.2.2.2.2.2.2.1 v.2.2.2.2.2.2.2.2.2.2.2.1 v.2.2.2.2.2.2.2.2.2.2.2.2.1 v.2.2.2.2.2.2.2.2.2.2.2.2.2.1 v.2.2.2.2.2.2.2.2.2.2.2.2.2.2.1 v.2.2.2.2.2.2.2.2.2.2.2.2.2.2.2.1 v.2.2.2.2.2.2.2.2.2.2.2.2.2.2.2.2.1 v.2.2.2.2.2.2.2.2.2.2.2.2.2.2.2.2.2.1 v.2.2.2.2.2.2.2.2.2.2.2.2.2.2.2.2.2.2.1 v.2.2.2.2.2.2.2.2.2.2.2.2.2.2.2.2.2.2.2
def f13_l_FnFilterBlocks.l0.W (n : Nat) : LpW := .of 256 f13_l_FnFilterBlocks.l0.P sg_fffffliblffffffffi f13_l_FnFilterBlocks.l0.A (f13_l_FnFilterBlocks.l0.F n n)
def f13_l_FnFilterBlocks.P : List Arg := [⟨.val, ⟨false, [.sl .shr [.leaf]], [.lst 0 []]⟩⟩, ⟨.val, ⟨false, [.sl .shr [.leaf]], [.lst 0 []]⟩⟩]
def f13_l_FnFilterBlocks.A : RAlt (Bool) := .one ⟨[⟨false, [.leaf], [.bool false]⟩], [none, none]⟩ sg_b
def f13_l_FnFilterBlocks.F (n : Nat) (v : Nat × List T × Nat × List T) := f13_l_FnFilterBlocks n v.1 v.2.1 v.2.2.1 v.2.2.2
noncomputable def f13_l_FnFilterBlocks.O (n : Nat) : Orc := orcOf (E := E) [f27_l_r8Long.w, f66_s_R8Filter.w, f67_s_R8Memory.w, f30_s_R8Samples.w, f28_l_r8At.w, f71_i_IsSubnormal.w, f68_i_RunFilter.w, f33_i_SameNumber.w, f32_l_r8Same.w, f69_i_SameMemory.w, f70_i_FilterStep.w] [f13_l_FnFilterBlocks.l0.W n] n
theorem f13_l_FnFilterBlocks.l0.ok (n : Nat) : LpOk (f13_l_FnFilterBlocks.O n) E (evalFn E n) n (keepAt 13) (.loop (loopAt c13 0)) :=
  lp_pure f13_l_FnFilterBlocks.l0.P sg_fffffliblffffffffi f13_l_FnFilterBlocks.l0.A (f13_l_FnFilterBlocks.l0.F n) (orcOf_cf _ _ n) (lpOk_of (bs := []) (by kernel_rfl) .nil) (fun _ => rfl) (fun _ _ => by kernel_rfl) (fun _ _ _ => by kernel_rfl)
theorem f13_l_FnFilterBlocks.ok : ∀ n v x, f13_l_FnFilterBlocks.F n v = some x → evalFn E n 13 (flAs f13_l_FnFilterBlocks.P (sg_ll.pk v)) = some (f13_l_FnFilterBlocks.A.enc x) :=
  fn_pure (modes := (fdAt 13).ms) (outs := (fdAt 13).os) (results := (fdAt 13).rs) f13_l_FnFilterBlocks.O (c := c13) (keep := keepAt 13) (by kernel_rfl) (fun n => orcOf_cf _ _ n) (fun n => lpOk_of (bs := [loopAt c13 0]) (by kernel_rfl) (.cons (f13_l_FnFilterBlocks.l0.ok n) .nil)) (fun _ => rfl) (fun _ _ => by kernel_rfl)
noncomputable def f13_l_FnFilterBlocks.w : FnW E := fnW 13 f13_l_FnFilterBlocks.P sg_ll f13_l_FnFilterBlocks.A f13_l_FnFilterBlocks.F f13_l_FnFilterBlocks.ok
end Go.Proofs.Ytdejjalkfekjiaa.D
end
section
/- FnFilterBlocks, in plain Lean. -/
namespace Go.Proofs.Ytdejjalkfekjiaa.D
open Go Go.Desk
set_option linter.unusedVariables false
theorem s_from (n l : Nat) (c : List T) : f75_s_l00From (n + 1) l c = some (l, c, 0, 0) := by rw [f75_s_l00From]
theorem s_next (n : Nat) {bs : List Int} (hb : Bytes bs) {a : Int} (h0 : 0 ≤ a) (h1 : a ≤ 1125899906842624) (sd : Int) :
    ∃ r sd', (0 ≤ r ∧ r ≤ 255) ∧ f128_s_l00Srcnext (n + 1) bs.length (its .u8 bs) a sd = some (r, bs.length, its .u8 bs, a + 1, sd') := by
  rw [f128_s_l00Srcnext]
  rw [show IntKind.i64.wrap (a + 1) = a + 1 by rw [wrap64] <;> omega]
  cases h : decide (a < (bs.length : Int))
  · simp only [br_f]
    cases decide (a + 1 ≤ (bs.length : Int))
    · exact ⟨_, _, and255 _, rfl⟩
    · exact ⟨0, _, by omega, rfl⟩
  · simp only [decide_eq_true_eq] at h
    obtain ⟨i, rfl⟩ := Int.eq_ofNat_of_zero_le h0
    have hi : i < bs.length := by omega
    have hr := hb (bs[i]) (List.getElem_mem _)
    simp only [br_t, in_dec hi, Int.toNat_natCast, okAt_its hi, Bool.and_self, gd_t, iAt_its]
    rw [show bs.getD i 0 = bs[i] by simp [List.getD, hi], show IntKind.i64.wrap bs[i] = bs[i] by rw [wrap64] <;> omega]
    cases decide ((i : Int) + 1 ≤ (bs.length : Int))
    · exact ⟨_, _, and255 _, rfl⟩
    · exact ⟨_, _, hr, rfl⟩
theorem s_pick (n : Nat) {bs : List Int} (hb : Bytes bs) {a : Int} (h0 : 0 ≤ a) (h1 : a ≤ 1125899906842622) (sd k : Int) :
    ∃ r a' sd', (0 ≤ r ∧ (1 < k → r < k) ∧ (k ≤ 1 → r = 0)) ∧ (a ≤ a' ∧ a' ≤ a + 2) ∧ f76_s_l00Srcpick (n + 2) bs.length (its .u8 bs) a sd k = some (r, bs.length, its .u8 bs, a', sd') := by
  rw [f76_s_l00Srcpick]
  by_cases hk : k ≤ 1
  · rw [decide_eq_true hk]; exact ⟨0, a, sd, by omega, by omega, rfl⟩
  rw [decide_eq_false hk]
  obtain ⟨r, s1, hr, e1⟩ := s_next n hb h0 (by omega) sd
  simp only [br_f, e1, bd_s]
  have hk0 : (!decide (k = 0)) = true := by simp; omega
  by_cases hk2 : k > 200
  · rw [decide_eq_true hk2]
    obtain ⟨r', s2, hr', e2⟩ := s_next n hb (a := a + 1) (by omega) (by omega) s1
    simp only [br_t, e2, bd_s, hk0, gd_t]
    rw [show IntKind.i64.wrap (r * 256) = r * 256 by rw [wrap64] <;> omega, show IntKind.i64.wrap (r * 256 + r') = r * 256 + r' by rw [wrap64] <;> omega]
    refine ⟨_, _, _, ?_, ?_, rfl⟩
    · rw [Int.tmod_eq_emod_of_nonneg (by omega)]
      have := Int.emod_nonneg (r * 256 + r') (show k ≠ 0 by omega)
      have := Int.emod_lt_of_pos (r * 256 + r') (show 0 < k by omega)
      omega
    · omega
  · rw [decide_eq_false hk2]
    simp only [br_f, hk0, gd_t]
    refine ⟨_, _, _, ?_, ?_, rfl⟩
    · rw [Int.tmod_eq_emod_of_nonneg (by omega)]
      have := Int.emod_nonneg r (show k ≠ 0 by omega)
      have := Int.emod_lt_of_pos r (show 0 < k by omega)
      omega
    · omega
theorem s_one (n : Nat) {bs : List Int} (hb : Bytes bs) {a : Int} (h0 : 0 ≤ a) (h1 : a ≤ 1125899906842622) (sd k : Int) :
    ∃ r a' sd', (a ≤ a' ∧ a' ≤ a + 2) ∧ f129_s_l00Srcone (n + 3) bs.length (its .u8 bs) a sd k = some (r, bs.length, its .u8 bs, a', sd') := by
  obtain ⟨r, a', s', -, ha, e⟩ := s_pick n hb h0 h1 sd k
  rw [f129_s_l00Srcone, e]
  exact ⟨_, _, _, ha, rfl⟩
theorem s_plain (n : Nat) {bs : List Int} (hb : Bytes bs) {a : Int} (h0 : 0 ≤ a) (h1 : a ≤ 1125899906842620) (sd : Int) :
    ∃ x a' sd', Plain x ∧ (a ≤ a' ∧ a' ≤ a + 4) ∧ f77_s_l01DrawPlain (n + 4) bs.length (its .u8 bs) a sd = some (x, bs.length, its .u8 bs, a', sd') := by
  obtain ⟨r, a1, s1, hr, ha, e⟩ := s_pick (n + 1) hb h0 (by omega) sd 129
  obtain ⟨b, a2, s2, ha2, e2⟩ := s_one n hb (a := a1) (by omega) (by omega) s1 4
  rw [f77_s_l01DrawPlain, e]
  simp only [bd_s, e2]
  rw [show IntKind.i64.wrap (r - 64) = r - 64 by rw [wrap64] <;> omega]
  cases b
  · exact ⟨_, a2, s2, ⟨r - 64, by omega, .inr rfl⟩, by omega, rfl⟩
  · exact ⟨_, a2, s2, ⟨r - 64, by omega, .inl rfl⟩, by omega, rfl⟩
theorem s_among (n : Nat) {bs : List Int} (hb : Bytes bs) {a : Int} (h0 : 0 ≤ a) (h1 : a ≤ 1125899906842622) (sd : Int) (L : List Int) (hL : 0 < L.length) :
    ∃ r a' sd', r ∈ L ∧ (a ≤ a' ∧ a' ≤ a + 2) ∧ f132_s_l00Srcamong (n + 3) bs.length (its .u8 bs) a sd L.length (its .i64 L) = some (r, bs.length, its .u8 bs, a', sd', L.length, its .i64 L) := by
  obtain ⟨r, a1, s1, hr, ha, e⟩ := s_pick n hb h0 h1 sd (L.length : Int)
  rw [f132_s_l00Srcamong, e]
  obtain ⟨i, rfl⟩ := Int.eq_ofNat_of_zero_le hr.1
  have hi : i < L.length := by
    by_cases h : (L.length : Int) ≤ 1
    · have := hr.2.2 h; omega
    · have := hr.2.1 (by omega); omega
  simp only [bd_s, in_dec hi, Int.toNat_natCast, okAt_its hi, Bool.and_self, gd_t, iAt_its]
  refine ⟨_, _, _, ?_, ha, rfl⟩
  rw [show L.getD i 0 = L[i] by simp [List.getD, hi]]
  exact List.getElem_mem _
theorem s_from32 (n : Nat) {i : Int} (h0 : 0 ≤ i) (h1 : i < 4294967296) : ∃ x, W32 x ∧ f131_s_l01From (n + 2) i = some x := by
  rw [f131_s_l01From]
  refine ⟨canon .f32 i.toNat, w32_canon (by omega), ?_⟩
  rw [u32_wrap h0 h1]
  show bd (if 0 ≤ i then some (canon .f32 i.toNat) else none) _ = _
  rw [if_pos h0]; rfl
theorem s_float (n : Nat) {bs : List Int} (hb : Bytes bs) {a : Int} (h0 : 0 ≤ a) (h1 : a ≤ 1125899906842600) (sd : Int) :
    ∃ x a' sd', W32 x ∧ (a ≤ a' ∧ a' ≤ a + 16) ∧ f99_s_l01DrawFloat (n + 5) bs.length (its .u8 bs) a sd = some (x, bs.length, its .u8 bs, a', sd') := by
  obtain ⟨b, a1, s1, ha1, e1⟩ := s_one (n + 1) hb h0 (by omega) sd 12
  rw [f99_s_l01DrawFloat, e1]
  simp only [bd_s, br_not]
  cases b
  · obtain ⟨x, a2, s2, hx, ha2, e2⟩ := s_plain n hb (a := a1) (by omega) (by omega) s1
    simp only [br_f, e2, bd_s]
    exact ⟨_, _, _, hx.w32, by omega, rfl⟩
  obtain ⟨q, a2, s2, -, ha2, e2⟩ := s_pick (n + 2) hb (a := a1) (by omega) (by omega) s1 4
  simp only [br_t, e2, bd_s]
  cases q == 0
  case true =>
    obtain ⟨r, a3, s3, hr, ha3, e3⟩ := s_among (n + 1) hb (a := a2) (by omega) (by omega) s2 [0, 2147483648, 2139095040, 4286578688, 2143289344, 1, 2139095039, 8388608, 8388607, 2147483649] (by decide)
    have hr' : 0 ≤ r ∧ r < 4294967296 := by simp only [List.mem_cons, List.not_mem_nil, or_false] at hr; omega
    obtain ⟨x, hx, e4⟩ := s_from32 (n + 2) hr'.1 hr'.2
    rw [br_t]
    refine ⟨x, a3, s3, hx, by omega, ?_⟩
    refine Eq.trans (congrArg (fun o => bd o _) e3) ?_
    simp only [bd_s, e4]
  cases q == 1
  case true =>
    obtain ⟨r, a3, s3, hr, ha3, e3⟩ := s_pick (n + 2) hb (a := a2) (by omega) (by omega) s2 65536
    obtain ⟨r', a4, s4, hr', ha4, e4⟩ := s_pick (n + 2) hb (a := a3) (by omega) (by omega) s3 65536
    obtain ⟨x, hx, e5⟩ := s_from32 (n + 2) (i := r * 65536 + r') (by omega) (by omega)
    simp only [br_f, br_t, e3, e4, bd_s]
    rw [show IntKind.i64.wrap (r * 65536) = r * 65536 by rw [wrap64] <;> omega, show IntKind.i64.wrap (r * 65536 + r') = r * 65536 + r' by rw [wrap64] <;> omega, e5]
    exact ⟨x, _, _, hx, by omega, rfl⟩
  cases q == 2
  case true =>
    obtain ⟨r, a3, s3, hr, ha3, e3⟩ := s_pick (n + 2) hb (a := a2) (by omega) (by omega) s2 65536
    obtain ⟨x, hx, e5⟩ := s_from32 (n + 2) (i := r * 65536) (by omega) (by omega)
    simp only [br_f, br_t, e3, bd_s]
    rw [show IntKind.i64.wrap (r * 65536) = r * 65536 by rw [wrap64] <;> omega, e5]
    exact ⟨x, _, _, hx, by omega, rfl⟩
  obtain ⟨x, a3, s3, hx, ha3, e3⟩ := s_plain n hb (a := a2) (by omega) (by omega) s2
  obtain ⟨r, a4, s4, hr, ha4, e4⟩ := s_among (n + 1) hb (a := a3) (by omega) (by omega) s3 [8388608, 2130706432, 1610612736, 536870912] (by decide)
  have hr' : 0 ≤ r ∧ r < 4294967296 := by simp only [List.mem_cons, List.not_mem_nil, or_false] at hr; omega
  obtain ⟨y, hy, e5⟩ := s_from32 (n + 2) hr'.1 hr'.2
  simp only [br_f, e3, bd_s]
  refine ⟨_, a4, s4, w32_fmul x y, by omega, ?_⟩
  refine Eq.trans (congrArg (fun o => bd o _) e4) ?_
  simp only [bd_s, e5]
theorem s_floats_loop (n : Nat) {bs : List Int} (hb : Bytes bs) (str : Bool) : ∀ (j m : Nat) (a sd : Int) (acc : List Nat), 0 ≤ a → a + 16 * (j : Int) ≤ 1125899906842000 → acc.length + j ≤ 2147483647 → j < m → (∀ x ∈ acc, W32 x) →
    ∃ ys a' sd', ys.length = acc.length + j ∧ (∀ x ∈ ys, W32 x) ∧ (a ≤ a' ∧ a' ≤ a + 16 * (j : Int)) ∧
      f81_s_l01DrawFloats.l0 (n + 5) m bs.length (its .u8 bs) a sd (j : Int) acc.length (fls .f32 acc) str = some (bs.length, its .u8 bs, a', sd', ys.length, fls .f32 ys) := by
  intro j
  induction j with
  | zero =>
    intro m a sd acc h0 h1 hl hm hw
    obtain ⟨m, rfl⟩ : ∃ k, m = k + 1 := ⟨m - 1, by omega⟩
    rw [f81_s_l01DrawFloats.l0]
    exact ⟨acc, a, sd, by omega, hw, by omega, rfl⟩
  | succ j ih =>
    intro m a sd acc h0 h1 hl hm hw
    obtain ⟨m, rfl⟩ : ∃ k, m = k + 1 := ⟨m - 1, by omega⟩
    rw [f81_s_l01DrawFloats.l0, decide_eq_true (show (((j + 1 : Nat) : Int) > 0) by omega), show IntKind.i64.wrap (((j + 1 : Nat) : Int) - 1) = (j : Int) by rw [wrap64] <;> omega]
    have key : ∀ x a1 s1, W32 x → a ≤ a1 → a1 ≤ a + 16 → ∃ ys a' sd', ys.length = acc.length + (j + 1) ∧ (∀ x ∈ ys, W32 x) ∧ (a ≤ a' ∧ a' ≤ a + 16 * ((j + 1 : Nat) : Int)) ∧
        f81_s_l01DrawFloats.l0 (n + 5) m bs.length (its .u8 bs) a1 s1 (j : Int) (acc ++ [x]).length (fls .f32 (acc ++ [x])) str = some (bs.length, its .u8 bs, a', sd', ys.length, fls .f32 ys) := by
      intro x a1 s1 hx h2 h3
      obtain ⟨ys, a', sd', hy, hyw, ha, e⟩ := ih m a1 s1 (acc ++ [x]) (by omega) (by omega) (by simp; omega) (by omega) (by
        intro y hy; simp only [List.mem_append, List.mem_singleton] at hy; rcases hy with hy | rfl
        · exact hw y hy
        · exact hx)
      exact ⟨ys, a', sd', by simp at hy; omega, hyw, by omega, e⟩
    simp only [br_t]
    cases str
    · obtain ⟨x, a1, s1, hx, ha, e⟩ := s_plain (n + 1) hb h0 (by omega) sd
      simp only [br_f, e, bd_s, push_ok (show acc.length < 2147483648 by omega), gd_t, push_fls]
      rw [show acc.length + 1 = (acc ++ [x]).length by simp]
      exact key x a1 s1 hx.w32 (by omega) (by omega)
    · obtain ⟨x, a1, s1, hx, ha, e⟩ := s_float n hb h0 (by omega) sd
      simp only [br_t, e, bd_s, push_ok (show acc.length < 2147483648 by omega), gd_t, push_fls]
      rw [show acc.length + 1 = (acc ++ [x]).length by simp]
      exact key x a1 s1 hx (by omega) (by omega)
theorem s_floats (n : Nat) {bs : List Int} (hb : Bytes bs) {a : Int} (h0 : 0 ≤ a) (j : Nat) (h1 : a + 16 * (j : Int) ≤ 1125899906841000) (hj : j ≤ 2147483647) (hn : j < n) (sd : Int) :
    ∃ ys a' sd', ys.length = j ∧ (∀ x ∈ ys, W32 x) ∧ (a ≤ a' ∧ a' ≤ a + 2 + 16 * (j : Int)) ∧ f81_s_l01DrawFloats (n + 6) bs.length (its .u8 bs) a sd (j : Int) = some (ys.length, fls .f32 ys, bs.length, its .u8 bs, a', sd') := by
  obtain ⟨b, a1, s1, ha1, e1⟩ := s_one (n + 2) hb h0 (by omega) sd 4
  obtain ⟨ys, a2, s2, hy, hw, ha2, e2⟩ := s_floats_loop n hb b j (n + 5) a1 s1 [] (by omega) (by omega) (by simp; omega) (by omega) (by simp)
  rw [f81_s_l01DrawFloats, e1]
  refine ⟨ys, a2, s2, by simpa using hy, hw, by omega, ?_⟩
  have e2 : f81_s_l01DrawFloats.l0 (n + 5) (n + 5) bs.length (its .u8 bs) a1 s1 (j : Int) 0 (reps 0 [(T.flt FloatKind.f32 0)]) b = some (bs.length, its .u8 bs, a2, s2, ys.length, fls .f32 ys) := e2
  simp only [bd_s, e2]
theorem s_r8samples (n : Nat) {bs : List Int} (hb : Bytes bs) (k : Nat) (hk : k ≤ 1000) (hn : k < n) : ∃ xs, xs.length ≤ k ∧ (∀ x ∈ xs, W32 x) ∧ f30_s_R8Samples (n + 7) bs.length (its .u8 bs) (k : Int) = some (xs.length, fls .f32 xs) := by
  obtain ⟨r, a1, s1, hr, ha1, e1⟩ := s_pick (n + 4) hb (a := 0) (by omega) (by omega) 0 ((k : Int) + 1)
  obtain ⟨j, rfl⟩ := Int.eq_ofNat_of_zero_le hr.1
  have hj : j ≤ k := by omega
  obtain ⟨ys, a2, s2, hy, hw, ha2, e2⟩ := s_floats n hb (a := a1) (by omega) j (by omega) (by omega) (by omega) s1
  rw [f30_s_R8Samples, s_from, show IntKind.i64.wrap ((k : Int) + 1) = (k : Int) + 1 by rw [wrap64] <;> omega]
  simp only [bd_s, e1, e2]
  exact ⟨ys, by omega, hw, rfl⟩

theorem l_long (n : Nat) (bs cs : List Int) : f27_l_r8Long (n + 1) bs.length (its .u8 bs) cs.length (its .u8 cs) = some (decide (48 < bs.length ∨ 48 < cs.length)) := by
  rw [f27_l_r8Long]
  by_cases h : 48 < bs.length
  · rw [decide_eq_true (show (bs.length : Int) > 48 by omega), decide_eq_true (Or.inl h)]; rfl
  · rw [decide_eq_false (show ¬ (bs.length : Int) > 48 by omega), br_f]
    congr 1
    simp [h]; omega
theorem l_at (n : Nat) {bs : List Int} (hb : Bytes bs) {i k : Int} (hi : 0 ≤ i) (hk : 1 ≤ k) : ∃ r, (0 ≤ r ∧ r < k) ∧ f28_l_r8At (n + 1) bs.length (its .u8 bs) i k = some r := by
  rw [f28_l_r8At]
  by_cases h : k ≤ 1
  · rw [decide_eq_true h]; exact ⟨0, by omega, rfl⟩
  rw [decide_eq_false h]
  by_cases h2 : i ≥ (bs.length : Int)
  · rw [decide_eq_true h2]; exact ⟨0, by omega, rfl⟩
  rw [decide_eq_false h2]
  obtain ⟨i, rfl⟩ := Int.eq_ofNat_of_zero_le hi
  have hi : i < bs.length := by omega
  have hr := hb (bs[i]) (List.getElem_mem _)
  have hk0 : (!decide (k = 0)) = true := by simp; omega
  simp only [br_f, in_dec hi, Int.toNat_natCast, okAt_its hi, Bool.and_self, gd_t, iAt_its, hk0]
  rw [show bs.getD i 0 = bs[i] by simp [List.getD, hi], show IntKind.i64.wrap bs[i] = bs[i] by rw [wrap64] <;> omega]
  refine ⟨_, ?_, rfl⟩
  rw [Int.tmod_eq_emod_of_nonneg (by omega)]
  have := Int.emod_nonneg bs[i] (show k ≠ 0 by omega)
  have := Int.emod_lt_of_pos bs[i] (show 0 < k by omega)
  omega
theorem i_same (n : Nat) {x y : Nat} (hx : W32 x) (hy : W32 y) : f33_i_SameNumber (n + 2) x y = some (x == y) := by
  rw [f33_i_SameNumber]
  simp only [fne_nan]
  cases hn : isNaN .f32 x
  · cases hm : isNaN .f32 y
    · simp only [br_f]
      have e1 : ∀ z, isNaN .f32 z = false → xF32bits (n + 1) z = some (z : Int) := fun z hz => by simp [xF32bits, hz]
      simp only [e1 x hn, e1 y hm, bd_s, Option.some.injEq]
      rw [Bool.eq_iff_iff]; simp; constructor <;> omega
    · simp only [br_f, br_t]
      have : x ≠ y := fun e => by rw [e, hm] at hn; cases hn
      simp [this]
  · cases hm : isNaN .f32 y
    · simp only [br_f, br_t]
      have : x ≠ y := fun e => by rw [e, hm] at hn; cases hn
      simp [this]
    · simp only [br_t]
      have : x = y := by rw [← hx.2, ← hy.2, canon_nan hn, canon_nan hm]
      simp [this]
theorem l_same_loop (n : Nat) : ∀ (zs ys p q : List Nat) (m : Nat), ys.length = zs.length → p.length = q.length → (∀ x ∈ zs, W32 x) → (∀ x ∈ ys, W32 x) → p.length + zs.length ≤ 1048576 → zs.length < m →
    f32_l_r8Same.l0 (n + 2) m (p ++ zs).length (fls .f32 (p ++ zs)) (q ++ ys).length (fls .f32 (q ++ ys)) (p.length : Int) = some (if zs = ys then .inr () else .inl false) := by
  intro zs
  induction zs with
  | nil =>
    intro ys p q m hl hpq _ _ _ hm
    obtain ⟨m, rfl⟩ : ∃ k, m = k + 1 := ⟨m - 1, by omega⟩
    obtain rfl : ys = [] := List.length_eq_zero_iff.1 (by simpa using hl)
    rw [f32_l_r8Same.l0, lt_end]
    rfl
  | cons z zs ih =>
    intro ys p q m hl hpq hz hy hb hm
    obtain ⟨m, rfl⟩ : ∃ k, m = k + 1 := ⟨m - 1, by omega⟩
    cases ys with
    | nil => simp at hl
    | cons y ys =>
      rw [f32_l_r8Same.l0, lt_mid, in_mid]
      simp only [hpq, in_mid, toNat_len, okAt_mid]
      rw [← hpq]
      simp only [okAt_mid, fAt_mid, Bool.and_self, gd_t, br_t]
      rw [hpq]
      simp only [fAt_mid]
      rw [i_same n (hz z (by simp)) (hy y (by simp)), ← hpq]
      simp only [bd_s, br_not]
      cases h : z == y
      · simp only [beq_eq_false_iff_ne, ne_eq] at h
        simp [br_f, h]
      · simp only [beq_iff_eq] at h
        subst h
        rw [br_t, wrap_len (z := z) (by simp at hb; omega)]
        have := ih ys (p ++ [z]) (q ++ [z]) m (by simpa using hl) (by simp [hpq]) (fun x hx => hz x (by simp [hx])) (fun x hx => hy x (by simp [hx])) (by simp at hb ⊢; omega) (by simp at hm; omega)
        simpa using this
/-- two lists of numbers -/
theorem l_same (n : Nat) (xs ys : List Nat) (hx : ∀ x ∈ xs, W32 x) (hy : ∀ x ∈ ys, W32 x) (hl : xs.length ≤ 1048576) (hn : xs.length < n) : f32_l_r8Same (n + 3) xs.length (fls .f32 xs) ys.length (fls .f32 ys) = some (decide (xs = ys)) := by
  rw [f32_l_r8Same]
  by_cases h : ys.length = xs.length
  · rw [show (((xs.length : Nat) : Int) != ((ys.length : Nat) : Int)) = false by simp [h], br_f]
    have := l_same_loop n xs ys [] [] (n + 2) h rfl hx hy (by simpa using hl) (by omega)
    simp only [List.nil_append, List.length_nil] at this
    rw [show ((0 : Nat) : Int) = 0 from rfl] at this
    rw [this, bd_s]
    by_cases e : xs = ys
    · rw [if_pos e, decide_eq_true e]; rfl
    · rw [if_neg e, decide_eq_false e]; rfl
  · rw [show (((xs.length : Nat) : Int) != ((ys.length : Nat) : Int)) = true by simp; omega, decide_eq_false (fun e => h (by rw [e]))]
    rfl

theorem i_few (n k : Nat) (l : List T) : f94_i_areSamples (n + 1) k l = some (decide ((k : Int) ≤ 256)) := by rw [f94_i_areSamples]

theorem i_in (n : Nat) (a b c : Int) : f83_i_within (n + 1) a b c = some (decide (b ≤ a ∧ a ≤ c)) := by
  rw [f83_i_within]
  by_cases h : b ≤ a <;> simp [br, h]

theorem i_sub (n : Nat) {x : Nat} (h : x < 4294967296) : f71_i_IsSubnormal (n + 1) x = some (sub32 x) := by
  rw [f71_i_IsSubnormal, ← sub_key h]
  cases fne .f32 x 0 <;> cases flt .f32 x 8388608 <;> rfl
theorem i_flush (n : Nat) {x : Nat} (h : W32 x) : f143_i_FlushNumber (n + 2) x = some (flushM x) := by
  rw [f143_i_FlushNumber, i_sub n h.1, bd_s, br_not]
  have hx := h.1
  cases hs : sub32 x
  · rw [br_f]
    unfold sub32 at hs
    unfold flushM
    simp at hs
    split
    · congr 1; omega
    · rfl
  · have hs' := hs
    unfold sub32 at hs
    simp at hs
    have hn : isNaN .f32 x = false := by rw [nan32]; simp; omega
    obtain ⟨y, e1, e2⟩ := copy_zero n hx hn
    rw [br_t, fltToFlt_wide]
    simp only [bd_s, e1, e2]
    unfold flushM
    rw [if_pos hs.2]
theorem i_flushedq (n : Nat) {x : Nat} (b : Bool) (h : W32 x) : f136_i_flushed (n + 3) x b = some (fl? b x) := by
  rw [f136_i_flushed]
  cases b
  · rfl
  · simp only [br_t, i_flush n h, bd_s]; rfl
theorem i_fstep (n : Nat) (f : Filt) (form : Int) (b : Bool) (m : Mem) (x : Nat) (hm : WMem m) (hx : W32 x) :
    f125_i_Filterstep (n + 4) f.1 f.2.1 f.2.2.1 f.2.2.2.1 f.2.2.2.2 form b m.1 m.2.1 m.2.2.1 m.2.2.2 x =
      some ((fstep f form b m x).1, (fstep f form b m x).2.1, (fstep f form b m x).2.2.1, (fstep f form b m x).2.2.2.1, (fstep f form b m x).2.2.2.2) := by
  obtain ⟨m1, m2, m3, m4⟩ := hm
  rw [f125_i_Filterstep]
  unfold fstep
  by_cases h0 : form = 0
  · simp only [h0, beq_self_eq_true, br_t, if_true, i_flushedq n b (w32_fsub _ _), bd_s, i_flushedq n b hx, i_flushedq n b m1, i_flushedq n b m3, i_flushedq n b (w32_fl? (b := b) (w32_fsub _ _))]
  · have h0' : (form == 0) = false := by simp [h0]
    simp only [h0', br_f, if_neg h0]
    by_cases h1 : form = 1
    · simp only [h1, beq_self_eq_true, br_t, if_true, i_flushedq n b (w32_fsub _ _), i_flushedq n b (w32_fadd _ _), i_flushedq n b w32_zero, bd_s]
    · have h1' : (form == 1) = false := by simp [h1]
      simp only [h1', br_f, if_neg h1, i_flushedq n b (w32_fsub _ _), bd_s, i_flushedq n b (w32_fadd _ _), i_flushedq n b (w32_fl? (b := b) (w32_fsub _ _)), i_flushedq n b m1, i_flushedq n b w32_zero]
theorem i_frun_loop (n : Nat) (f : Filt) (form : Int) (b : Bool) (N : Nat) (cs : List T) (u : Mem) : ∀ (zs p acc : List Nat) (mm : Mem) (m : Nat), (∀ x ∈ zs, W32 x) → WMem mm → acc.length + zs.length < 1048576 → p.length + zs.length < 1048576 → zs.length < m →
    f124_i_Filterrun.l0 (n + 4) m form b N cs f.1 f.2.1 f.2.2.1 f.2.2.2.1 f.2.2.2.2 mm.1 mm.2.1 mm.2.2.1 mm.2.2.2 u.1 u.2.1 u.2.2.1 u.2.2.2 acc.length (fls .f32 acc) (p ++ zs).length (fls .f32 (p ++ zs)) ((p ++ zs).length : Int) (p.length : Int) =
      some ((scan (fstep f form b) mm zs).2.1, (scan (fstep f form b) mm zs).2.2.1, (scan (fstep f form b) mm zs).2.2.2.1, (scan (fstep f form b) mm zs).2.2.2.2, u.1, u.2.1, u.2.2.1, u.2.2.2, (acc ++ (scan (fstep f form b) mm zs).1).length, fls .f32 (acc ++ (scan (fstep f form b) mm zs).1)) := by
  intro zs
  induction zs with
  | nil =>
    intro p acc mm m _ _ _ _ hm
    obtain ⟨m, rfl⟩ : ∃ k, m = k + 1 := ⟨m - 1, by omega⟩
    rw [f124_i_Filterrun.l0, lt_end]
    simp [br_f, scan]
  | cons z zs ih =>
    intro p acc mm m hz hmm ha hp hm
    obtain ⟨m, rfl⟩ : ∃ k, m = k + 1 := ⟨m - 1, by omega⟩
    have hp' : p.length < 1048576 := by simp at hp; omega
    have ha' : acc.length < 1048576 := by simp at ha; omega
    have hw := hz z (by simp)
    rw [f124_i_Filterrun.l0, lt_mid, in_mid, toNat_len, okAt_mid, fAt_mid]
    simp only [br_t, gd_t, Bool.and_self, i_fstep n f form b mm z hmm hw, bd_s, push_ok (show acc.length < 2147483648 by omega), push_fls, wrap_len (z := z) (show p.length < 4611686018427387904 by omega)]
    have := ih (p ++ [z]) (acc ++ [(fstep f form b mm z).1]) (fstep f form b mm z).2 m (fun x hx => hz x (by simp [hx])) (fstep_w32 hmm hw).2 (by simp at ha ⊢; omega) (by simp at hp ⊢; omega) (by simp at hm; omega)
    simpa [scan] using this
theorem i_frun (n : Nat) (f : Filt) (form : Int) (b : Bool) (mm : Mem) (xs : List Nat) (hx : ∀ x ∈ xs, W32 x) (hm : WMem mm) (hl : xs.length < 1048576) (hn : xs.length < n) :
    f124_i_Filterrun (n + 5) f.1 f.2.1 f.2.2.1 f.2.2.2.1 f.2.2.2.2 form b mm.1 mm.2.1 mm.2.2.1 mm.2.2.2 xs.length (fls .f32 xs) =
      some ((scan (fstep f form b) mm xs).1.length, fls .f32 (scan (fstep f form b) mm xs).1, (scan (fstep f form b) mm xs).2.1, (scan (fstep f form b) mm xs).2.2.1, (scan (fstep f form b) mm xs).2.2.2.1, (scan (fstep f form b) mm xs).2.2.2.2) := by
  rw [f124_i_Filterrun]
  have e := i_frun_loop n f form b xs.length (fls .f32 xs) (0, 0, 0, 0) xs [] [] mm (n + 4) hx hm (by simpa using hl) (by simpa using hl) (by omega)
  have e : f124_i_Filterrun.l0 (n + 4) (n + 4) form b xs.length (fls .f32 xs) f.1 f.2.1 f.2.2.1 f.2.2.2.1 f.2.2.2.2 mm.1 mm.2.1 mm.2.2.1 mm.2.2.2 0 0 0 0 0 [] xs.length (fls .f32 xs) (xs.length : Int) 0 = _ := e
  rw [e]; rfl
theorem i_form (n : Nat) (form : Int) : f123_i_isForm (n + 2) form = some (decide (0 ≤ form ∧ form ≤ 2)) := by rw [f123_i_isForm, i_in]; rfl
theorem i_runfilter (n : Nat) (f : Filt) (form : Int) (hf : 0 ≤ form ∧ form ≤ 2) (b : Bool) (mm : Mem) (xs : List Nat) (hx : ∀ x ∈ xs, W32 x) (hm : WMem mm) (hl : xs.length ≤ 256) (hn : xs.length < n) :
    f68_i_RunFilter (n + 6) f.1 f.2.1 f.2.2.1 f.2.2.2.1 f.2.2.2.2 form b mm.1 mm.2.1 mm.2.2.1 mm.2.2.2 xs.length (fls .f32 xs) =
      some ((scan (fstep f form b) mm xs).1.length, fls .f32 (scan (fstep f form b) mm xs).1, (scan (fstep f form b) mm xs).2.1, (scan (fstep f form b) mm xs).2.2.1, (scan (fstep f form b) mm xs).2.2.2.1, (scan (fstep f form b) mm xs).2.2.2.2, true) := by
  rw [f68_i_RunFilter, i_form, i_few, decide_eq_true hf, decide_eq_true (show (xs.length : Int) ≤ 256 by omega)]
  simp only [bd_s, br_not, br_t, i_frun n f form b mm xs hx hm (by omega) hn]
theorem i_filterstep (n : Nat) (f : Filt) (form : Int) (hf : 0 ≤ form ∧ form ≤ 2) (b : Bool) (m : Mem) (x : Nat) (hm : WMem m) (hx : W32 x) :
    f70_i_FilterStep (n + 5) f.1 f.2.1 f.2.2.1 f.2.2.2.1 f.2.2.2.2 form b m.1 m.2.1 m.2.2.1 m.2.2.2 x =
      some ((fstep f form b m x).1, (fstep f form b m x).2.1, (fstep f form b m x).2.2.1, (fstep f form b m x).2.2.2.1, (fstep f form b m x).2.2.2.2, true) := by
  rw [f70_i_FilterStep, i_form, decide_eq_true hf]
  simp only [bd_s, br_not, br_t, i_fstep n f form b m x hm hx]
theorem i_samemem (n : Nat) (a b : Mem) (ha : WMem a) (hb : WMem b) : f69_i_SameMemory (n + 3) a.1 a.2.1 a.2.2.1 a.2.2.2 b.1 b.2.1 b.2.2.1 b.2.2.2 = some (decide (a = b)) := by
  obtain ⟨a1, a2, a3, a4⟩ := ha
  obtain ⟨b1, b2, b3, b4⟩ := hb
  obtain ⟨x1, x2, x3, x4⟩ := a
  obtain ⟨y1, y2, y3, y4⟩ := b
  rw [f69_i_SameMemory]
  simp only at a1 a2 a3 a4 b1 b2 b3 b4 ⊢
  simp only [i_same n a1 b1, i_same n a2 b2, i_same n a3 b3, i_same n a4 b4, bd_s]
  cases c1 : x1 == y1 <;> cases c2 : x2 == y2 <;> cases c3 : x3 == y3 <;> simp_all [br] <;> rfl
theorem s_fnumber (n : Nat) {bs : List Int} (hb : Bytes bs) {a : Int} (h0 : 0 ≤ a) (h1 : a ≤ 1125899906842500) (sd : Int) :
    ∃ x a' sd', W32 x ∧ (a ≤ a' ∧ a' ≤ a + 20) ∧ f135_s_l02DrawNumber (n + 6) bs.length (its .u8 bs) a sd = some (x, bs.length, its .u8 bs, a', sd') := by
  obtain ⟨b, a1, s1, ha1, e1⟩ := s_one (n + 2) hb h0 (by omega) sd 8
  rw [f135_s_l02DrawNumber, e1]
  simp only [bd_s]
  cases b
  · obtain ⟨c, a2, s2, ha2, e2⟩ := s_one (n + 2) hb (a := a1) (by omega) (by omega) s1 3
    simp only [br_f, e2, bd_s]
    cases c
    · obtain ⟨r, a3, s3, hr, ha3, e3⟩ := s_pick (n + 3) hb (a := a2) (by omega) (by omega) s2 33
      simp only [br_f, e3, bd_s]
      exact ⟨_, a3, s3, w32_fdiv _ _, by omega, rfl⟩
    · exact ⟨0, a2, s2, w32_zero, by omega, rfl⟩
  · obtain ⟨x, a2, s2, hx, ha2, e2⟩ := s_float n hb (a := a1) (by omega) (by omega) s1
    simp only [br_t, e2, bd_s]
    exact ⟨x, a2, s2, hx, by omega, rfl⟩
theorem s_filter (n : Nat) {bs : List Int} (hb : Bytes bs) {a : Int} (h0 : 0 ≤ a) (h1 : a ≤ 1125899906842000) (sd : Int) :
    ∃ (f : Filt) (a' sd' : Int), (W32 f.1 ∧ W32 f.2.1 ∧ W32 f.2.2.1 ∧ W32 f.2.2.2.1 ∧ W32 f.2.2.2.2) ∧ (a ≤ a' ∧ a' ≤ a + 200) ∧ f121_s_l02DrawFilter (n + 7) bs.length (its .u8 bs) a sd = some (f.1, f.2.1, f.2.2.1, f.2.2.2.1, f.2.2.2.2, bs.length, its .u8 bs, a', sd') := by
  obtain ⟨x1, a1, s1, w1, ha1, e1⟩ := s_fnumber n hb h0 (by omega) sd
  obtain ⟨x2, a2, s2, w2, ha2, e2⟩ := s_fnumber n hb (a := a1) (by omega) (by omega) s1
  obtain ⟨x3, a3, s3, w3, ha3, e3⟩ := s_fnumber n hb (a := a2) (by omega) (by omega) s2
  obtain ⟨r4, a4, s4, -, ha4, e4⟩ := s_pick (n + 4) hb (a := a3) (by omega) (by omega) s3 15
  obtain ⟨r5, a5, s5, -, ha5, e5⟩ := s_pick (n + 4) hb (a := a4) (by omega) (by omega) s4 7
  obtain ⟨b6, a6, s6, ha6, e6⟩ := s_one (n + 3) hb (a := a5) (by omega) (by omega) s5 4
  rw [f121_s_l02DrawFilter, e1]
  simp only [bd_s, e2, e3, e4, e5, e6]
  cases b6
  · obtain ⟨b7, a7, s7, ha7, e7⟩ := s_one (n + 3) hb (a := a6) (by omega) (by omega) s6 4
    simp only [br_f, e7, bd_s]
    cases b7
    · exact ⟨(x1, x2, x3, _, _), a7, s7, ⟨w1, w2, w3, w32_fdiv _ _, w32_fdiv _ _⟩, by omega, rfl⟩
    · obtain ⟨x8, a8, s8, w8, ha8, e8⟩ := s_fnumber n hb (a := a7) (by omega) (by omega) s7
      simp only [br_t, e8, bd_s]
      exact ⟨(x1, x2, x3, _, x8), a8, s8, ⟨w1, w2, w3, w32_fdiv _ _, w8⟩, by omega, rfl⟩
  · obtain ⟨x7, a7, s7, w7, ha7, e7⟩ := s_fnumber n hb (a := a6) (by omega) (by omega) s6
    obtain ⟨b8, a8, s8, ha8, e8⟩ := s_one (n + 3) hb (a := a7) (by omega) (by omega) s7 4
    simp only [br_t, e7, e8, bd_s]
    cases b8
    · exact ⟨(x1, x2, x3, x7, _), a8, s8, ⟨w1, w2, w3, w7, w32_fdiv _ _⟩, by omega, rfl⟩
    · obtain ⟨x9, a9, s9, w9, ha9, e9⟩ := s_fnumber n hb (a := a8) (by omega) (by omega) s8
      simp only [br_t, e9, bd_s]
      exact ⟨(x1, x2, x3, x7, x9), a9, s9, ⟨w1, w2, w3, w7, w9⟩, by omega, rfl⟩
theorem s_r8filter (n : Nat) {bs : List Int} (hb : Bytes bs) : ∃ (f : Filt), (W32 f.1 ∧ W32 f.2.1 ∧ W32 f.2.2.1 ∧ W32 f.2.2.2.1 ∧ W32 f.2.2.2.2) ∧ f66_s_R8Filter (n + 8) bs.length (its .u8 bs) = some (f.1, f.2.1, f.2.2.1, f.2.2.2.1, f.2.2.2.2) := by
  obtain ⟨f, a1, s1, hw, ha, e⟩ := s_filter n hb (a := 0) (by omega) (by omega) 0
  rw [f66_s_R8Filter, s_from]
  simp only [bd_s, e]
  exact ⟨f, hw, rfl⟩
theorem s_memory (n : Nat) {bs : List Int} (hb : Bytes bs) {a : Int} (h0 : 0 ≤ a) (h1 : a ≤ 1125899906842000) (sd : Int) :
    ∃ (m : Mem) (a' sd' : Int), WMem m ∧ (a ≤ a' ∧ a' ≤ a + 100) ∧ f122_s_l02DrawMemory (n + 6) bs.length (its .u8 bs) a sd = some (m.1, m.2.1, m.2.2.1, m.2.2.2, bs.length, its .u8 bs, a', sd') := by
  obtain ⟨b, a1, s1, ha1, e1⟩ := s_one (n + 2) hb h0 (by omega) sd 3
  rw [f122_s_l02DrawMemory, e1]
  simp only [bd_s]
  cases b
  · obtain ⟨x2, a2, s2, w2, ha2, e2⟩ := s_float n hb (a := a1) (by omega) (by omega) s1
    obtain ⟨x3, a3, s3, w3, ha3, e3⟩ := s_float n hb (a := a2) (by omega) (by omega) s2
    obtain ⟨x4, a4, s4, w4, ha4, e4⟩ := s_float n hb (a := a3) (by omega) (by omega) s3
    obtain ⟨x5, a5, s5, w5, ha5, e5⟩ := s_float n hb (a := a4) (by omega) (by omega) s4
    simp only [br_f, e2, e3, e4, e5, bd_s]
    exact ⟨(x2, x3, x4, x5), a5, s5, ⟨w2, w3, w4, w5⟩, by omega, rfl⟩
  · exact ⟨(0, 0, 0, 0), a1, s1, ⟨w32_zero, w32_zero, w32_zero, w32_zero⟩, by omega, rfl⟩
theorem s_r8memory (n : Nat) {bs : List Int} (hb : Bytes bs) : ∃ (m : Mem), WMem m ∧ f67_s_R8Memory (n + 7) bs.length (its .u8 bs) = some (m.1, m.2.1, m.2.2.1, m.2.2.2) := by
  obtain ⟨m, a1, s1, hw, ha, e⟩ := s_memory n hb (a := 0) (by omega) (by omega) 0
  rw [f67_s_R8Memory, s_from]
  simp only [bd_s, e]
  exact ⟨m, hw, rfl⟩

theorem one_loop (n : Nat) (f : Filt) (form : Int) (hf : 0 ≤ form ∧ form ≤ 2) (b : Bool) (u : Mem) : ∀ (zs p q : List Nat) (mm : Mem) (m : Nat), (∀ x ∈ zs, W32 x) → WMem mm → q.length = p.length → p.length + zs.length < 1048576 → zs.length < m →
    f13_l_FnFilterBlocks.l0 (n + 5) m f.1 f.2.1 f.2.2.1 f.2.2.2.1 f.2.2.2.2 (p ++ zs).length (fls .f32 (p ++ zs)) form b (q ++ (scan (fstep f form b) mm zs).1).length (fls .f32 (q ++ (scan (fstep f form b) mm zs).1)) u.1 u.2.1 u.2.2.1 u.2.2.2 mm.1 mm.2.1 mm.2.2.1 mm.2.2.2 (p.length : Int) =
      some (.inr (u.1, u.2.1, u.2.2.1, u.2.2.2, (scan (fstep f form b) mm zs).2.1, (scan (fstep f form b) mm zs).2.2.1, (scan (fstep f form b) mm zs).2.2.2.1, (scan (fstep f form b) mm zs).2.2.2.2)) := by
  intro zs
  induction zs with
  | nil =>
    intro p q mm m _ _ _ _ hm
    obtain ⟨m, rfl⟩ : ∃ k, m = k + 1 := ⟨m - 1, by omega⟩
    rw [f13_l_FnFilterBlocks.l0, lt_end]; rfl
  | cons z zs ih =>
    intro p q mm m hz hmm hq hp hm
    obtain ⟨m, rfl⟩ : ∃ k, m = k + 1 := ⟨m - 1, by omega⟩
    have hp' : p.length < 1048576 := by simp at hp; omega
    have hw := hz z (by simp)
    obtain ⟨h1, h2⟩ := fstep_w32 (f := f) (form := form) (b := b) hmm hw
    have e1 : okAt [.flt .f32] (fls .f32 (q ++ (scan (fstep f form b) mm (z :: zs)).1)) p.length = true := by rw [← hq]; exact okAt_mid
    have e2 : fAt (fls .f32 (q ++ (scan (fstep f form b) mm (z :: zs)).1)) p.length = (fstep f form b mm z).1 := by rw [← hq]; exact fAt_mid
    have e3 : decide ((0 : Int) ≤ (p.length : Int) ∧ (p.length : Int) < ((q ++ (scan (fstep f form b) mm (z :: zs)).1).length : Int)) = true := by rw [← hq]; exact in_mid
    have e4 : (b && sub32 (fstep f form b mm z).1) = false := by cases b <;> simp [fstep_sub]
    rw [f13_l_FnFilterBlocks.l0, lt_mid, in_mid, toNat_len, okAt_mid, fAt_mid]
    simp only [br_t, gd_t, i_filterstep n f form hf b mm z hmm hw, bd_s, br_not, e1, e2, e3, i_same (n + 3) h1 h1, beq_self_eq_true, i_sub (n + 4) h1.1, wrap_len (z := z) (show p.length < 4611686018427387904 by omega)]
    have := ih (p ++ [z]) (q ++ [(fstep f form b mm z).1]) (fstep f form b mm z).2 m (fun x hx => hz x (by simp [hx])) h2 (by simp [hq]) (by simp at hp ⊢; omega) (by simp at hm; omega)
    cases b
    · simpa [scan, br_f] using this
    · rw [fstep_sub]
      simpa [scan, br_t, br_f] using this
theorem exact_ (cs : List Int) (hc : ∀ b ∈ cs, GoodI .u8 b) (lc : cs.length ≤ maxLen) (ms : List Int) (hm : ∀ b ∈ ms, GoodI .u8 b) (lm : ms.length ≤ maxLen) : ∃ n, f13_l_FnFilterBlocks n cs.length (its .u8 cs) ms.length (its .u8 ms) = some true := by
  refine ⟨1000, ?_⟩
  suffices h : ∀ n, f13_l_FnFilterBlocks (n + 500) cs.length (its .u8 cs) ms.length (its .u8 ms) = some true from h 500
  intro n
  rw [f13_l_FnFilterBlocks, l_long]
  cases hlong : decide (48 < cs.length ∨ 48 < ms.length)
  case true => rfl
  obtain ⟨f, -, e1⟩ := s_r8filter (n + 491) (bytes_of hc)
  obtain ⟨mm, wm, e2⟩ := s_r8memory (n + 492) (bytes_of hm)
  obtain ⟨xs, hxl, hxw, e3⟩ := s_r8samples (n + 492) (bytes_of hm) 14 (by omega) (by omega)
  have e3 : f30_s_R8Samples (n + 499) ms.length (its .u8 ms) 14 = some (xs.length, fls .f32 xs) := e3
  obtain ⟨form, hf, e4⟩ := l_at (n + 498) (bytes_of hc) (i := 40) (k := 3) (by omega) (by omega)
  obtain ⟨i2, h2, e5⟩ := l_at (n + 498) (bytes_of hc) (i := 41) (k := 2) (by omega) (by omega)
  obtain ⟨a, h3, e6⟩ := l_at (n + 498) (bytes_of hc) (i := 42) (k := (xs.length : Int) + 1) (by omega) (by omega)
  obtain ⟨a, rfl⟩ := Int.eq_ofNat_of_zero_le h3.1
  have ha : a ≤ xs.length := by omega
  have hf' : 0 ≤ form ∧ form ≤ 2 := by omega
  obtain ⟨b, hb⟩ : ∃ b, b = (i2 == 1) := ⟨_, rfl⟩
  have hwt : ∀ x ∈ xs.take a, W32 x := fun x hx => hxw x (List.mem_of_mem_take hx)
  have hwd : ∀ x ∈ xs.drop a, W32 x := fun x hx => hxw x (List.mem_of_mem_drop hx)
  have hl2 : (xs.take a).length = a := by rw [List.length_take]; omega
  have hl3 : (xs.drop a).length = xs.length - a := List.length_drop
  have inv := fun xs mm hm hx => scan_inv (f := fstep f form b) (P := WMem) (Q := W32) (S := W32) (fun s x hs hx => fstep_w32 hs hx) xs mm hm hx
  obtain ⟨w1, wm1⟩ := inv (xs.take a) mm wm hwt
  obtain ⟨w2, wm2⟩ := inv (xs.drop a) _ wm1 hwd
  obtain ⟨w3, wm3⟩ := inv xs mm wm hxw
  have g1 := i_runfilter (n + 493) f form hf' b mm xs hxw wm (by omega) (by omega)
  have g2 := i_runfilter (n + 493) f form hf' b mm (xs.take a) hwt wm (by omega) (by omega)
  have g3 := i_runfilter (n + 493) f form hf' b _ (xs.drop a) hwd wm1 (by omega) (by omega)
  rw [hl2] at g2
  rw [hl3] at g3
  have hsplit := scan_append (fstep f form b) mm (xs.take a) (xs.drop a)
  rw [List.take_append_drop] at hsplit
  have hlen := scan_length (fstep f form b) mm xs
  have hlen2 := scan_length (fstep f form b) mm (xs.take a)
  have hlen3 := scan_length (fstep f form b) (scan (fstep f form b) mm (xs.take a)).2 (xs.drop a)
  have told := one_loop (n + 494) f form hf' b (scan (fstep f form b) mm xs).2 xs [] [] mm (n + 499) hxw wm rfl (by simp; omega) (by omega)
  have told : f13_l_FnFilterBlocks.l0 (n + 499) (n + 499) f.1 f.2.1 f.2.2.1 f.2.2.2.1 f.2.2.2.2 xs.length (fls .f32 xs) form b (scan (fstep f form b) mm xs).1.length (fls .f32 (scan (fstep f form b) mm xs).1) (scan (fstep f form b) mm xs).2.1 (scan (fstep f form b) mm xs).2.2.1 (scan (fstep f form b) mm xs).2.2.2.1 (scan (fstep f form b) mm xs).2.2.2.2 mm.1 mm.2.1 mm.2.2.1 mm.2.2.2 0 = _ := told
  have q1 : decide ((0 : Int) ≤ 0 ∧ (0 : Int) ≤ (a : Int) ∧ (a : Int) ≤ (xs.length : Int)) = true := decide_eq_true (by omega)
  have q2 : decide ((0 : Int) ≤ (a : Int) ∧ (a : Int) ≤ (xs.length : Int) ∧ (xs.length : Int) ≤ (xs.length : Int)) = true := decide_eq_true (by omega)
  have q3 : (fls .f32 xs).take a = fls .f32 (xs.take a) := fls_take _ _ _
  have q4 : ((fls .f32 xs).drop a).take (xs.length - a) = fls .f32 (xs.drop a) := by rw [fls_drop, fls_take, List.take_of_length_le (by omega)]
  have q5 : ∀ p q : List Nat, reps 0 [T.flt FloatKind.f32 0] ++ fls .f32 p ++ fls .f32 q = fls .f32 (p ++ q) := by intro p q; rw [← fls_append]; rfl
  have wm4 : WMem (scan (fstep f form b) (scan (fstep f form b) mm (xs.take a)).2 (xs.drop a)).2 := wm2
  simp only [br_f, br_not, bd_s, e1, e2, e3, e4, e5, show IntKind.i64.wrap ((xs.length : Int) + 1) = (xs.length : Int) + 1 by rw [wrap64] <;> omega, e6, ← hb, g1, Int.toNat_natCast, List.drop_zero, Nat.sub_zero, q1, q2, q3, q4, gd_t, g2, g3, br_t, q5, told]
  rw [hsplit] at w3 hlen wm3 ⊢
  simp only at w3 hlen wm3 ⊢
  rw [List.length_append] at hlen
  have same := l_same (n + 496) _ _ w3 w3 (by rw [List.length_append]; omega) (by rw [List.length_append]; omega)
  have mem := i_samemem (n + 496) _ _ wm2 wm2
  rw [List.length_append, hlen] at same
  rw [Nat.zero_add, List.length_append, hlen, le_ble (show xs.length ≤ 2147483648 by omega), le_ble (show (scan (fstep f form b) mm (xs.take a)).1.length ≤ 2147483648 by omega)]
  have same : f32_l_r8Same (n + 499) xs.length _ xs.length _ = _ := same
  have mem : f69_i_SameMemory (n + 499) _ _ _ _ _ _ _ _ = _ := mem
  rw [same]
  simp [br, gd, bd, sm, mem]
theorem law13 : ∀ args, LawArgs E Try.f13.params.toList args → ∃ N os, evalFn E N 13 args = some ⟨[⟨false, [.leaf], [.bool true]⟩], os⟩ := by
  intro args h0
  have hp : Try.f13.params.toList = [22, 22] := by kernel_rfl
  rw [hp] at h0
  obtain ⟨ts0, r0, rfl, hw0, h1⟩ := h0.cons_inv (d := ⟨false, 1, 24, [.sl .own [.leaf]], [.lst 0 []], .slc 5⟩) (by kernel_rfl)
  obtain ⟨n0, cs0, rfl, gl0, hs0⟩ := hw0.slc_inv (e := 5) (d := ⟨false, 1, 24, [.sl .own [.leaf]], [.lst 0 []], .slc 5⟩) (by kernel_rfl) rfl
  obtain ⟨a0, rfl, rfl, g0⟩ := hs0.ints (k := .u8) (d := ⟨false, 1, 1, [.leaf], [.int .u8 0], .int .u8⟩) (by kernel_rfl) rfl
  obtain ⟨ts1, r1, rfl, hw1, h2⟩ := h1.cons_inv (d := ⟨false, 1, 24, [.sl .own [.leaf]], [.lst 0 []], .slc 5⟩) (by kernel_rfl)
  obtain ⟨n1, cs1, rfl, gl1, hs1⟩ := hw1.slc_inv (e := 5) (d := ⟨false, 1, 24, [.sl .own [.leaf]], [.lst 0 []], .slc 5⟩) (by kernel_rfl) rfl
  obtain ⟨a1, rfl, rfl, g1⟩ := hs1.ints (k := .u8) (d := ⟨false, 1, 1, [.leaf], [.int .u8 0], .int .u8⟩) (by kernel_rfl) rfl
  obtain rfl := h2.nil_inv
  obtain ⟨N, hN⟩ := exact_ a0 g0 gl0 a1 g1 gl1
  exact ⟨N, _, f13_l_FnFilterBlocks.ok N (a0.length, its .u8 a0, a1.length, its .u8 a1) true hN⟩


end Go.Proofs.Ytdejjalkfekjiaa.D
end
section
/- FnFilterBlocks holds: for every input the law returns true, and its arguments read as before. -/
namespace Go.Proofs.Ytdejjalkfekjiaa.fnFilterBlocks
open Go Go.ChangeShapes Go.WideShapes Go.ChangeAt Go.RowKit Go.Desk
set_option linter.unusedVariables false
theorem own : ownKnob Try.prog.godebug = none := by kernel_rfl
theorem laidOut : laidOutB Try.prog = true := by kernel_rfl
set_option maxRecDepth 100000 in
theorem lifted (os : Os) (started : os.Started) (H : Type) (enc : TypeId × Value → H) :
    ReturnsInHanded {} Try.checked os 13 .any (Rows.fnFilterBlocksSpec.pre6 enc Try.prog Try.f13 Rows.fnFilterBlocksRow.domain false) (Rows.fnFilterBlocksSpec.post enc Try.prog Try.f13 false true false false) := by
  refine returnsInHanded_of_change (C := Try.checked) own started (by kernel_rfl) Try.func13
    (ChangeSpec.witness6 (enc := enc) (C := Try.checked) false ⟨#[], #[.slice none 0 0, .slice none 0 0], []⟩ 8 (by kernel_rfl) (by kernel_rfl) (by kernel_rfl) (by kernel_rfl)) ?_
  intro W base args ds gs before hval hW hcnd _
  exact law_contract (c := D.c13) Try.checked.mixed D.tysOk D.fnOk Try.func13 (by kernel_rfl) (by kernel_rfl) (by kernel_rfl) Try.underlying4 rfl
    (fun ds h => by
      rw [show Try.f13.params.toList.length = 2 by kernel_rfl] at h
      match ds, h with
      | [_, _], _ => rfl)
    laidOut (N := 8) (by kernel_rfl) (by kernel_rfl) D.law13 hval hW
theorem over : Rows.fnFilterBlocksRow.holds Try.pinned (OpenSpec.ofChange Rows.fnFilterBlocksSpec) :=
  OpenClaim.holds_of_wide 13 Try.f13 rfl rfl rfl rfl rfl rfl rfl ⟨rfl, rfl, rfl, rfl, rfl⟩ rfl rfl rfl rfl rfl (by kernel_rfl) Try.func13 (by kernel_rfl)
    (of_decide_eq_true (by kernel_rfl)) (by unfold Func.isWrapper; first | (rw [if_pos (by decide +kernel)]; kernel_rfl) | (rw [if_neg (by decide +kernel)]; exact ⟨rfl, rfl⟩))
    (fun os started H enc _ => lifted os started H enc)
theorem proved : Rows.FnFilterBlocksSaid := over
#print axioms proved
end Go.Proofs.Ytdejjalkfekjiaa.fnFilterBlocks
namespace Go.Proofs.Ytdejjalkfekjiaa
/-- The row, under a short name, for the claim. -/
theorem fnFilterBlocks_holds : Rows.FnFilterBlocksSaid := fnFilterBlocks.proved
end Go.Proofs.Ytdejjalkfekjiaa
end
