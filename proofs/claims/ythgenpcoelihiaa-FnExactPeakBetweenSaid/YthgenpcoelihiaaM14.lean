/- FnExactPeakBetween holds: for every input the law returns true, and its arguments read as before. -/
import Derived.Test.YthgenpcoelihiaaChecked
import Derived.Test.YthgenpcoelihiaaDeskE
import Derived.KernelRfl
import Derived.Test.YthgenpcoelihiaaRows
import Derived.WalkKit
import Derived.ProofKit
import Derived.OpenShut
import Derived.ShutString
import Derived.ChangeOld
import Derived.Below
import Derived.SizedLaws
set_option linter.all false
section
/- What math.Abs owes: tables of its own, and the reading of its code. -/
namespace Go.Proofs.Ythgenpcoelihiaa.DA
open Go Go.Desk
def bodyOf (f : Func) : Code := match f.body with
  | some c => c
  | none => .skip
def tyTab : List (Nat × TD) := [
  (28, ⟨false, 1, 8, [.leaf], [.flt .f64 0], .flt .f64⟩),
  (103, ⟨false, 1, 8, [.leaf], [.int .u64 0], .int .u64⟩)]
noncomputable def c115 : Code := bodyOf Try.f115
noncomputable def fnTab : List (Nat × FD) := [
  (115, .code c115 [.val] [] [(2, none)] [(0, [0]), (1, [0])]),
  (117, .ext (pF64frombits)),
  (118, .ext (pF64bits))]
noncomputable def E : Env := ⟨fun t => lookT tyTab t, lookF fnTab⟩
noncomputable def fdAt (n : Nat) : FD := match lookF fnTab n with
  | some d => d
  | none => .ext fun _ => none
noncomputable def keepAt (n : Nat) : List (Nat × List Nat) := match lookF fnTab n with
  | some d => d.keep
  | none => []
theorem tysOk : TysOk Try.prog E := tysOk_of (l := tyTab) (fun _ => rfl) (by kernel_rfl)
theorem ft115 : FnTab Try.prog E 115 (fdAt 115) := fnTab_code (c := c115) (modes := (fdAt 115).ms) (outs := (fdAt 115).os) (results := (fdAt 115).rs) (keep := (fdAt 115).keep) Try.func115 (by kernel_rfl) (by kernel_rfl) (by kernel_rfl)
theorem ft117 : FnTab Try.prog E 117 (.ext (pF64frombits)) := ext_pF64frombits Try.func117 (by kernel_rfl) (by kernel_rfl) (by kernel_rfl) (by kernel_rfl)
theorem ft118 : FnTab Try.prog E 118 (.ext (pF64bits)) := ext_pF64bits Try.func118 (by kernel_rfl) (by kernel_rfl) (by kernel_rfl) (by kernel_rfl)
theorem allFns : AllFns Try.prog E fnTab := .cons ft115 (.cons ft117 (.cons ft118 (.nil)))
theorem fnOk : ∀ f fd, E.fn f = some fd → FnTab Try.prog E f fd := fnTab_of (l := fnTab) (fun _ => rfl) allFns
end Go.Proofs.Ythgenpcoelihiaa.DA
section
namespace Go.Proofs.Ythgenpcoelihiaa.DA
open Go Go.Desk
set_option linter.unusedVariables false
noncomputable def x117.w : FnW E := xF64frombits.w 117 (by kernel_rfl)

noncomputable def x118.w : FnW E := xF64bits.w 118 (by kernel_rfl)

def f115_mathAbs : Nat → Nat → Option (Nat)
  | 0, _ => none
  | n + 1, x1 =>
    bd (xF64bits n x1) fun r2 =>
    let i3 : Int := r2
    bd (xF64frombits n (intBits BinOp.andNot IntKind.u64 i3 (9223372036854775808 : Int))) fun r4 =>
    let x5 : Nat := r4
    some x5
def sg_f : Sig (Nat) where
  pk := fun v => [.flt v]
  up := fun ls => match ls with
    | [.flt a0] => some a0
    | _ => none
  ok := by
    intro ls v h
    split at h
    · cases h; rfl
    · cases h

def f115_mathAbs.P : List Arg := [⟨.val, ⟨false, [.leaf], [.flt .f64 0]⟩⟩]
def f115_mathAbs.A : RAlt (Nat) := .one ⟨[⟨false, [.leaf], [.flt .f64 0]⟩], [none]⟩ sg_f
def f115_mathAbs.F (n : Nat) (v : Nat) := f115_mathAbs n v
noncomputable def f115_mathAbs.O (n : Nat) : Orc := orcOf (E := E) [x117.w, x118.w] [] n
theorem f115_mathAbs.ok : ∀ n v x, f115_mathAbs.F n v = some x → evalFn E n 115 (flAs f115_mathAbs.P (sg_f.pk v)) = some (f115_mathAbs.A.enc x) :=
  fn_pure (modes := (fdAt 115).ms) (outs := (fdAt 115).os) (results := (fdAt 115).rs) f115_mathAbs.O (c := c115) (keep := keepAt 115) (by kernel_rfl) (fun n => orcOf_cf _ _ n) (fun n => lpOk_of (bs := []) (by kernel_rfl) .nil) (fun _ => rfl) (fun _ _ => by kernel_rfl)
noncomputable def f115_mathAbs.w : FnW E := fnW 115 f115_mathAbs.P sg_f f115_mathAbs.A f115_mathAbs.F f115_mathAbs.ok
end Go.Proofs.Ythgenpcoelihiaa.DA
end
namespace Go.Proofs.Ythgenpcoelihiaa.DA
open Go Go.Desk
theorem absOk : ExtOk Try.prog 115 pAbs := ext_pAbs_of Try.checked.mixed tysOk fnOk
  (fun x hN hx => ⟨3, f115_mathAbs.ok 3 x _ (abs_plain 1 hN)⟩)
  ⟨5, by kernel_rfl⟩
end Go.Proofs.Ythgenpcoelihiaa.DA
end
section
/- What math.Copysign owes: tables of its own, and the reading of its code. -/
namespace Go.Proofs.Ythgenpcoelihiaa.DC
open Go Go.Desk
def bodyOf (f : Func) : Code := match f.body with
  | some c => c
  | none => .skip
def tyTab : List (Nat × TD) := [
  (28, ⟨false, 1, 8, [.leaf], [.flt .f64 0], .flt .f64⟩),
  (103, ⟨false, 1, 8, [.leaf], [.int .u64 0], .int .u64⟩)]
noncomputable def c106 : Code := bodyOf Try.f106
noncomputable def fnTab : List (Nat × FD) := [
  (106, .code c106 [.val, .val] [] [(4, none)] [(0, [0, 1]), (1, [0, 1])]),
  (117, .ext (pF64frombits)),
  (118, .ext (pF64bits))]
noncomputable def E : Env := ⟨fun t => lookT tyTab t, lookF fnTab⟩
noncomputable def fdAt (n : Nat) : FD := match lookF fnTab n with
  | some d => d
  | none => .ext fun _ => none
noncomputable def keepAt (n : Nat) : List (Nat × List Nat) := match lookF fnTab n with
  | some d => d.keep
  | none => []
theorem tysOk : TysOk Try.prog E := tysOk_of (l := tyTab) (fun _ => rfl) (by kernel_rfl)
theorem ft106 : FnTab Try.prog E 106 (fdAt 106) := fnTab_code (c := c106) (modes := (fdAt 106).ms) (outs := (fdAt 106).os) (results := (fdAt 106).rs) (keep := (fdAt 106).keep) Try.func106 (by kernel_rfl) (by kernel_rfl) (by kernel_rfl)
theorem ft117 : FnTab Try.prog E 117 (.ext (pF64frombits)) := ext_pF64frombits Try.func117 (by kernel_rfl) (by kernel_rfl) (by kernel_rfl) (by kernel_rfl)
theorem ft118 : FnTab Try.prog E 118 (.ext (pF64bits)) := ext_pF64bits Try.func118 (by kernel_rfl) (by kernel_rfl) (by kernel_rfl) (by kernel_rfl)
theorem allFns : AllFns Try.prog E fnTab := .cons ft106 (.cons ft117 (.cons ft118 (.nil)))
theorem fnOk : ∀ f fd, E.fn f = some fd → FnTab Try.prog E f fd := fnTab_of (l := fnTab) (fun _ => rfl) allFns
end Go.Proofs.Ythgenpcoelihiaa.DC
section
namespace Go.Proofs.Ythgenpcoelihiaa.DC
open Go Go.Desk
set_option linter.unusedVariables false
noncomputable def x117.w : FnW E := xF64frombits.w 117 (by kernel_rfl)

noncomputable def x118.w : FnW E := xF64bits.w 118 (by kernel_rfl)

def f106_mathCopysign : Nat → Nat → Nat → Option (Nat)
  | 0, _, _ => none
  | n + 1, x1, x2 =>
    bd (xF64bits n x1) fun r3 =>
    let i4 : Int := r3
    bd (xF64bits n x2) fun r5 =>
    let i6 : Int := r5
    bd (xF64frombits n (intBits BinOp.or IntKind.u64 (intBits BinOp.andNot IntKind.u64 i4 (9223372036854775808 : Int)) (intBits BinOp.and IntKind.u64 i6 (9223372036854775808 : Int)))) fun r7 =>
    let x8 : Nat := r7
    some x8
def sg_ff : Sig (Nat × Nat) where
  pk := fun v => [.flt v.1, .flt v.2]
  up := fun ls => match ls with
    | [.flt a0, .flt a1] => some (a0, a1)
    | _ => none
  ok := by
    intro ls v h
    split at h
    · cases h; rfl
    · cases h

def sg_f : Sig (Nat) where
  pk := fun v => [.flt v]
  up := fun ls => match ls with
    | [.flt a0] => some a0
    | _ => none
  ok := by
    intro ls v h
    split at h
    · cases h; rfl
    · cases h

def f106_mathCopysign.P : List Arg := [⟨.val, ⟨false, [.leaf], [.flt .f64 0]⟩⟩, ⟨.val, ⟨false, [.leaf], [.flt .f64 0]⟩⟩]
def f106_mathCopysign.A : RAlt (Nat) := .one ⟨[⟨false, [.leaf], [.flt .f64 0]⟩], [none, none]⟩ sg_f
def f106_mathCopysign.F (n : Nat) (v : Nat × Nat) := f106_mathCopysign n v.1 v.2
noncomputable def f106_mathCopysign.O (n : Nat) : Orc := orcOf (E := E) [x117.w, x118.w] [] n
theorem f106_mathCopysign.ok : ∀ n v x, f106_mathCopysign.F n v = some x → evalFn E n 106 (flAs f106_mathCopysign.P (sg_ff.pk v)) = some (f106_mathCopysign.A.enc x) :=
  fn_pure (modes := (fdAt 106).ms) (outs := (fdAt 106).os) (results := (fdAt 106).rs) f106_mathCopysign.O (c := c106) (keep := keepAt 106) (by kernel_rfl) (fun n => orcOf_cf _ _ n) (fun n => lpOk_of (bs := []) (by kernel_rfl) .nil) (fun _ => rfl) (fun _ _ => by kernel_rfl)
noncomputable def f106_mathCopysign.w : FnW E := fnW 106 f106_mathCopysign.P sg_ff f106_mathCopysign.A f106_mathCopysign.F f106_mathCopysign.ok
end Go.Proofs.Ythgenpcoelihiaa.DC
end
namespace Go.Proofs.Ythgenpcoelihiaa.DC
open Go Go.Desk
theorem signOk : ExtOk Try.prog 106 pCopysign := ext_pCopysign_of Try.checked.mixed tysOk fnOk
  (fun x s hx hs hx' hs' => ⟨3, f106_mathCopysign.ok 3 (x, s) _ (copysign_plain 1 hx hs hx' hs')⟩)
end Go.Proofs.Ythgenpcoelihiaa.DC
end
section
/- The tables of the reading: types and functions of the translation, with what is kept at each region's beginning (written by a program of this workplace). -/
namespace Go.Proofs.Ythgenpcoelihiaa.D
open Go Go.Desk
def bodyOf (f : Func) : Code := match f.body with
  | some c => c
  | none => .skip
def tyTab : List (Nat × TD) := [
  (2, ⟨false, 1, 8, [.leaf], [.int .i64 0], .int .i64⟩),
  (3, ⟨false, 1, 8, [.leaf], [.int .i64 0], .int .i64⟩),
  (4, ⟨false, 1, 1, [.leaf], [.bool false], .bool⟩),
  (24, ⟨false, 1, 4, [.leaf], [.flt .f32 0], .flt .f32⟩),
  (28, ⟨false, 1, 8, [.leaf], [.flt .f64 0], .flt .f64⟩),
  (33, ⟨false, 1, 24, [.sl .own [.leaf]], [.lst 0 []], .slc 24⟩),
  (87, ⟨false, 1, 4, [.leaf], [.int .u32 0], .int .u32⟩),
  (103, ⟨false, 1, 8, [.leaf], [.int .u64 0], .int .u64⟩),
  (116, ⟨false, 1, 8, [.leaf], [.int .u64 0], .int .u64⟩)]
noncomputable def c14 : Code := bodyOf Try.f14
noncomputable def c50 : Code := bodyOf Try.f50
noncomputable def c53 : Code := bodyOf Try.f53
noncomputable def c68 : Code := bodyOf Try.f68
noncomputable def c69 : Code := bodyOf Try.f69
noncomputable def c70 : Code := bodyOf Try.f70
noncomputable def c79 : Code := bodyOf Try.f79
noncomputable def c82 : Code := bodyOf Try.f82
noncomputable def c92 : Code := bodyOf Try.f92
noncomputable def c97 : Code := bodyOf Try.f97
noncomputable def c98 : Code := bodyOf Try.f98
noncomputable def c100 : Code := bodyOf Try.f100
noncomputable def c108 : Code := bodyOf Try.f108
noncomputable def c109 : Code := bodyOf Try.f109
noncomputable def c110 : Code := bodyOf Try.f110
noncomputable def c114 : Code := bodyOf Try.f114
noncomputable def c116 : Code := bodyOf Try.f116
noncomputable def c119 : Code := bodyOf Try.f119
noncomputable def c120 : Code := bodyOf Try.f120
noncomputable def c121 : Code := bodyOf Try.f121
noncomputable def c122 : Code := bodyOf Try.f122
noncomputable def c123 : Code := bodyOf Try.f123
noncomputable def c125 : Code := bodyOf Try.f125
noncomputable def c126 : Code := bodyOf Try.f126
noncomputable def c127 : Code := bodyOf Try.f127
noncomputable def c129 : Code := bodyOf Try.f129
noncomputable def fnTab : List (Nat × FD) := [
  (14, .code c14 [.val] [] [(2, none)] [(0, [0]), (1, [0]), (2, []), (3, [0]), (4, [0, 3, 4]), (5, [0, 3, 4, 5]), (6, [0, 3, 4, 5, 6, 7]), (7, []), (8, [0, 5]), (9, []), (10, [])]),
  (50, .code c50 [.val] [] [(2, none)] [(0, [0]), (1, [0]), (2, [0, 3]), (3, [0, 3, 4]), (4, [0, 3, 4]), (5, [0, 3, 4]), (6, [3]), (1000003, [3])]),
  (53, .code c53 [.val, .val] [] [(4, none)] [(0, [0, 1]), (1, [0, 1]), (2, []), (3, [0, 1]), (4, [0, 1, 5]), (5, [0, 1, 5]), (6, [0, 1, 5]), (7, []), (8, []), (1000004, [4])]),
  (68, .code c68 [.val] [] [(2, none), (3, none)] [(0, [0]), (1, [0]), (2, []), (3, [0]), (4, [0, 4]), (5, [0, 4, 5]), (6, [0, 4, 5]), (7, [0, 4, 5]), (8, [0, 4, 5, 6]), (9, [4]), (1000005, [4])]),
  (69, .code c69 [.val] [] [(2, none), (3, none)] [(0, [0]), (1, [0]), (2, []), (3, [0]), (4, [0, 4]), (5, [0, 4, 5]), (6, [0, 4, 5]), (7, [0, 4, 5]), (8, [4]), (1000005, [4])]),
  (70, .code c70 [.val, .val] [] [(4, none)] [(0, [0, 1]), (1, [0, 1]), (2, [0, 1]), (3, [0, 1]), (4, [0, 1]), (5, [0, 1])]),
  (79, .code c79 [.val] [] [(2, none)] [(0, [0]), (1, [0]), (2, []), (3, [0])]),
  (82, .code c82 [.val] [] [(2, none)] [(0, [0]), (1, [0])]),
  (87, .ext (pF32bits)),
  (92, .code c92 [.val] [] [(2, none)] [(0, [0]), (1, [0])]),
  (97, .code c97 [.val] [] [(2, none)] [(0, [0]), (1, [0]), (2, [0, 3]), (3, [0, 3, 7, 8, 9]), (4, [0, 3, 7, 8, 9]), (5, [0, 3, 5, 7, 8, 9]), (6, [0, 3, 6, 7, 8, 9]), (7, [0, 6, 7, 8, 9]), (8, [0, 3, 7, 8, 9]), (9, [3]), (1000003, [3])]),
  (98, .code c98 [.val] [] [(2, none)] [(0, [0]), (1, [0])]),
  (100, .code c100 [.val] [] [(2, none)] [(0, [0]), (1, [0]), (2, [0]), (3, [0])]),
  (106, .ext (pCopysign)),
  (108, .code c108 [.val, .val, .val] [] [(6, none), (7, none)] [(0, [0, 1, 2]), (1, [0, 1, 2]), (2, []), (3, [0, 1, 2]), (4, [0, 1, 2, 8]), (5, [0, 1, 8, 9]), (6, [0, 1, 8, 9, 10]), (7, [0, 1, 8, 9, 10, 11]), (8, [0, 1, 8, 9, 10, 11, 44]), (9, [9, 10, 11]), (10, [11]), (11, [10]), (12, [0, 1, 8, 9, 10, 11, 44]), (13, [9, 10, 11]), (14, [9, 10, 12]), (15, [1, 8, 9, 10, 11]), (16, [1, 8, 9, 10, 11, 13]), (17, [9, 10, 11, 13, 14]), (18, [9, 10, 11, 13, 14, 15]), (19, [9, 10, 11, 13, 14, 15, 16]), (20, [9, 10, 11, 13, 14, 15, 16]), (21, [9, 10, 11, 13, 14, 15, 16]), (22, [9, 10, 15, 16, 17]), (23, [9, 10, 15, 18]), (24, [9, 10, 18])]),
  (109, .code c109 [.val] [] [(2, none)] [(0, [0]), (1, [0]), (2, [0, 3]), (3, [0, 3, 4]), (4, [0, 3, 4]), (5, [0, 3, 4]), (6, [0, 4]), (7, [3]), (1000003, [3])]),
  (110, .code c110 [.val, .val, .val] [] [(6, none)] [(0, [0, 1, 2]), (1, [0, 2, 4]), (2, [0, 2, 4, 7]), (3, [0, 2, 4, 7]), (4, [0, 2, 4, 7]), (5, [0, 4, 7, 8]), (6, [0, 4, 7, 8, 9]), (7, [0, 4, 7, 8, 9, 10, 11]), (8, [0, 4, 7, 8, 9, 10, 11, 30]), (9, [8, 10, 11]), (10, [11]), (11, [10]), (12, [0, 4, 7, 8, 9, 10, 11, 30]), (13, [8, 10, 11]), (14, [4, 7, 8, 9, 10, 11]), (15, [8, 10, 11, 12, 13]), (16, [8, 10, 11, 12, 13, 14]), (17, [8, 10, 11, 12, 13, 14, 15]), (18, [8, 10, 14, 15, 16])]),
  (114, .code c114 [.val, .val] [] [(4, none)] [(0, [0, 1]), (1, [0, 1]), (2, [0]), (3, [0, 1]), (4, [0]), (5, [0])]),
  (115, .ext (pAbs)),
  (116, .code c116 [.val] [] [(2, none)] [(0, [0]), (1, [0])]),
  (117, .ext (pF64frombits)),
  (118, .ext (pF64bits)),
  (119, .code c119 [.val, .val] [] [(4, none)] [(0, [0, 1]), (1, [0, 1])]),
  (120, .code c120 [.val] [] [(2, none)] [(0, [0]), (1, [0]), (2, [0])]),
  (121, .code c121 [.val, .val, .val] [] [(4, none)] [(0, [0, 1, 2]), (1, [0, 1, 2])]),
  (122, .code c122 [.val, .val] [] [(4, none)] [(0, [0, 1]), (1, [0, 1]), (2, [0]), (3, [1])]),
  (123, .code c123 [.val, .val] [] [(4, none)] [(0, [0, 1]), (1, [0, 1]), (2, [0]), (3, [1])]),
  (124, .ext (pIntegral .down)),
  (125, .code c125 [.val] [] [(2, none)] [(0, [0]), (1, [0]), (2, [0]), (3, [0]), (4, [0]), (5, [3, 4]), (6, [3]), (7, [3]), (8, [0]), (9, [5])]),
  (126, .code c126 [.val] [] [(2, none), (3, none)] [(0, [0]), (1, [0]), (2, [0, 2])]),
  (127, .code c127 [.val] [] [(2, none)] [(0, [0]), (1, [0]), (2, [0])]),
  (128, .ext (pIntegral .zero)),
  (129, .code c129 [.val] [] [(2, none)] [(0, [0]), (1, [0]), (2, [0]), (3, [0]), (4, [3]), (5, [3, 4]), (6, [3, 4]), (7, [3])])]
noncomputable def E : Env := ⟨fun t => lookT tyTab t, lookF fnTab⟩
noncomputable def fdAt (n : Nat) : FD := match lookF fnTab n with
  | some d => d
  | none => .ext fun _ => none
noncomputable def keepAt (n : Nat) : List (Nat × List Nat) := match lookF fnTab n with
  | some d => d.keep
  | none => []
theorem tysOk : TysOk Try.prog E := tysOk_of (l := tyTab) (fun _ => rfl) (by kernel_rfl)
theorem ft14 : FnTab Try.prog E 14 (fdAt 14) := fnTab_code (c := c14) (modes := (fdAt 14).ms) (outs := (fdAt 14).os) (results := (fdAt 14).rs) (keep := (fdAt 14).keep) Try.func14 (by kernel_rfl) (by kernel_rfl) (by kernel_rfl)
theorem ft50 : FnTab Try.prog E 50 (fdAt 50) := fnTab_code (c := c50) (modes := (fdAt 50).ms) (outs := (fdAt 50).os) (results := (fdAt 50).rs) (keep := (fdAt 50).keep) Try.func50 (by kernel_rfl) (by kernel_rfl) (by kernel_rfl)
theorem ft53 : FnTab Try.prog E 53 (fdAt 53) := fnTab_code (c := c53) (modes := (fdAt 53).ms) (outs := (fdAt 53).os) (results := (fdAt 53).rs) (keep := (fdAt 53).keep) Try.func53 (by kernel_rfl) (by kernel_rfl) (by kernel_rfl)
theorem ft68 : FnTab Try.prog E 68 (fdAt 68) := fnTab_code (c := c68) (modes := (fdAt 68).ms) (outs := (fdAt 68).os) (results := (fdAt 68).rs) (keep := (fdAt 68).keep) Try.func68 (by kernel_rfl) (by kernel_rfl) (by kernel_rfl)
theorem ft69 : FnTab Try.prog E 69 (fdAt 69) := fnTab_code (c := c69) (modes := (fdAt 69).ms) (outs := (fdAt 69).os) (results := (fdAt 69).rs) (keep := (fdAt 69).keep) Try.func69 (by kernel_rfl) (by kernel_rfl) (by kernel_rfl)
theorem ft70 : FnTab Try.prog E 70 (fdAt 70) := fnTab_code (c := c70) (modes := (fdAt 70).ms) (outs := (fdAt 70).os) (results := (fdAt 70).rs) (keep := (fdAt 70).keep) Try.func70 (by kernel_rfl) (by kernel_rfl) (by kernel_rfl)
theorem ft79 : FnTab Try.prog E 79 (fdAt 79) := fnTab_code (c := c79) (modes := (fdAt 79).ms) (outs := (fdAt 79).os) (results := (fdAt 79).rs) (keep := (fdAt 79).keep) Try.func79 (by kernel_rfl) (by kernel_rfl) (by kernel_rfl)
theorem ft82 : FnTab Try.prog E 82 (fdAt 82) := fnTab_code (c := c82) (modes := (fdAt 82).ms) (outs := (fdAt 82).os) (results := (fdAt 82).rs) (keep := (fdAt 82).keep) Try.func82 (by kernel_rfl) (by kernel_rfl) (by kernel_rfl)
theorem ft87 : FnTab Try.prog E 87 (.ext (pF32bits)) := ext_pF32bits Try.func87 (by kernel_rfl) (by kernel_rfl) (by kernel_rfl) (by kernel_rfl)
theorem ft92 : FnTab Try.prog E 92 (fdAt 92) := fnTab_code (c := c92) (modes := (fdAt 92).ms) (outs := (fdAt 92).os) (results := (fdAt 92).rs) (keep := (fdAt 92).keep) Try.func92 (by kernel_rfl) (by kernel_rfl) (by kernel_rfl)
theorem ft97 : FnTab Try.prog E 97 (fdAt 97) := fnTab_code (c := c97) (modes := (fdAt 97).ms) (outs := (fdAt 97).os) (results := (fdAt 97).rs) (keep := (fdAt 97).keep) Try.func97 (by kernel_rfl) (by kernel_rfl) (by kernel_rfl)
theorem ft98 : FnTab Try.prog E 98 (fdAt 98) := fnTab_code (c := c98) (modes := (fdAt 98).ms) (outs := (fdAt 98).os) (results := (fdAt 98).rs) (keep := (fdAt 98).keep) Try.func98 (by kernel_rfl) (by kernel_rfl) (by kernel_rfl)
theorem ft100 : FnTab Try.prog E 100 (fdAt 100) := fnTab_code (c := c100) (modes := (fdAt 100).ms) (outs := (fdAt 100).os) (results := (fdAt 100).rs) (keep := (fdAt 100).keep) Try.func100 (by kernel_rfl) (by kernel_rfl) (by kernel_rfl)
theorem ft106 : FnTab Try.prog E 106 (.ext (pCopysign)) := DC.signOk
theorem ft108 : FnTab Try.prog E 108 (fdAt 108) := fnTab_code (c := c108) (modes := (fdAt 108).ms) (outs := (fdAt 108).os) (results := (fdAt 108).rs) (keep := (fdAt 108).keep) Try.func108 (by kernel_rfl) (by kernel_rfl) (by kernel_rfl)
theorem ft109 : FnTab Try.prog E 109 (fdAt 109) := fnTab_code (c := c109) (modes := (fdAt 109).ms) (outs := (fdAt 109).os) (results := (fdAt 109).rs) (keep := (fdAt 109).keep) Try.func109 (by kernel_rfl) (by kernel_rfl) (by kernel_rfl)
theorem ft110 : FnTab Try.prog E 110 (fdAt 110) := fnTab_code (c := c110) (modes := (fdAt 110).ms) (outs := (fdAt 110).os) (results := (fdAt 110).rs) (keep := (fdAt 110).keep) Try.func110 (by kernel_rfl) (by kernel_rfl) (by kernel_rfl)
theorem ft114 : FnTab Try.prog E 114 (fdAt 114) := fnTab_code (c := c114) (modes := (fdAt 114).ms) (outs := (fdAt 114).os) (results := (fdAt 114).rs) (keep := (fdAt 114).keep) Try.func114 (by kernel_rfl) (by kernel_rfl) (by kernel_rfl)
theorem ft115 : FnTab Try.prog E 115 (.ext (pAbs)) := DA.absOk
theorem ft116 : FnTab Try.prog E 116 (fdAt 116) := fnTab_code (c := c116) (modes := (fdAt 116).ms) (outs := (fdAt 116).os) (results := (fdAt 116).rs) (keep := (fdAt 116).keep) Try.func116 (by kernel_rfl) (by kernel_rfl) (by kernel_rfl)
theorem ft117 : FnTab Try.prog E 117 (.ext (pF64frombits)) := ext_pF64frombits Try.func117 (by kernel_rfl) (by kernel_rfl) (by kernel_rfl) (by kernel_rfl)
theorem ft118 : FnTab Try.prog E 118 (.ext (pF64bits)) := ext_pF64bits Try.func118 (by kernel_rfl) (by kernel_rfl) (by kernel_rfl) (by kernel_rfl)
theorem ft119 : FnTab Try.prog E 119 (fdAt 119) := fnTab_code (c := c119) (modes := (fdAt 119).ms) (outs := (fdAt 119).os) (results := (fdAt 119).rs) (keep := (fdAt 119).keep) Try.func119 (by kernel_rfl) (by kernel_rfl) (by kernel_rfl)
theorem ft120 : FnTab Try.prog E 120 (fdAt 120) := fnTab_code (c := c120) (modes := (fdAt 120).ms) (outs := (fdAt 120).os) (results := (fdAt 120).rs) (keep := (fdAt 120).keep) Try.func120 (by kernel_rfl) (by kernel_rfl) (by kernel_rfl)
theorem ft121 : FnTab Try.prog E 121 (fdAt 121) := fnTab_code (c := c121) (modes := (fdAt 121).ms) (outs := (fdAt 121).os) (results := (fdAt 121).rs) (keep := (fdAt 121).keep) Try.func121 (by kernel_rfl) (by kernel_rfl) (by kernel_rfl)
theorem ft122 : FnTab Try.prog E 122 (fdAt 122) := fnTab_code (c := c122) (modes := (fdAt 122).ms) (outs := (fdAt 122).os) (results := (fdAt 122).rs) (keep := (fdAt 122).keep) Try.func122 (by kernel_rfl) (by kernel_rfl) (by kernel_rfl)
theorem ft123 : FnTab Try.prog E 123 (fdAt 123) := fnTab_code (c := c123) (modes := (fdAt 123).ms) (outs := (fdAt 123).os) (results := (fdAt 123).rs) (keep := (fdAt 123).keep) Try.func123 (by kernel_rfl) (by kernel_rfl) (by kernel_rfl)
theorem ft124 : FnTab Try.prog E 124 (.ext (pIntegral .down)) := ext_pIntegral_down Try.func124 (by kernel_rfl) (by kernel_rfl) (by kernel_rfl) (by kernel_rfl)
theorem ft125 : FnTab Try.prog E 125 (fdAt 125) := fnTab_code (c := c125) (modes := (fdAt 125).ms) (outs := (fdAt 125).os) (results := (fdAt 125).rs) (keep := (fdAt 125).keep) Try.func125 (by kernel_rfl) (by kernel_rfl) (by kernel_rfl)
theorem ft126 : FnTab Try.prog E 126 (fdAt 126) := fnTab_code (c := c126) (modes := (fdAt 126).ms) (outs := (fdAt 126).os) (results := (fdAt 126).rs) (keep := (fdAt 126).keep) Try.func126 (by kernel_rfl) (by kernel_rfl) (by kernel_rfl)
theorem ft127 : FnTab Try.prog E 127 (fdAt 127) := fnTab_code (c := c127) (modes := (fdAt 127).ms) (outs := (fdAt 127).os) (results := (fdAt 127).rs) (keep := (fdAt 127).keep) Try.func127 (by kernel_rfl) (by kernel_rfl) (by kernel_rfl)
theorem ft128 : FnTab Try.prog E 128 (.ext (pIntegral .zero)) := ext_pIntegral_zero Try.func128 (by kernel_rfl) (by kernel_rfl) (by kernel_rfl) (by kernel_rfl)
theorem ft129 : FnTab Try.prog E 129 (fdAt 129) := fnTab_code (c := c129) (modes := (fdAt 129).ms) (outs := (fdAt 129).os) (results := (fdAt 129).rs) (keep := (fdAt 129).keep) Try.func129 (by kernel_rfl) (by kernel_rfl) (by kernel_rfl)
theorem allFns : AllFns Try.prog E fnTab := .cons ft14 (.cons ft50 (.cons ft53 (.cons ft68 (.cons ft69 (.cons ft70 (.cons ft79 (.cons ft82 (.cons ft87 (.cons ft92 (.cons ft97 (.cons ft98 (.cons ft100 (.cons ft106 (.cons ft108 (.cons ft109 (.cons ft110 (.cons ft114 (.cons ft115 (.cons ft116 (.cons ft117 (.cons ft118 (.cons ft119 (.cons ft120 (.cons ft121 (.cons ft122 (.cons ft123 (.cons ft124 (.cons ft125 (.cons ft126 (.cons ft127 (.cons ft128 (.cons ft129 (.nil)))))))))))))))))))))))))))))))))
theorem fnOk : ∀ f fd, E.fn f = some fd → FnTab Try.prog E f fd := fnTab_of (l := fnTab) (fun _ => rfl) allFns
end Go.Proofs.Ythgenpcoelihiaa.D
end
section
/- Plain functions for the law's Go functions, each tied to the reading by the kernel (printed by a program of this workplace). -/
namespace Go.Proofs.Ythgenpcoelihiaa.D
open Go Go.Desk
set_option linter.unusedVariables false
noncomputable def x87.w : FnW E := xF32bits.w 87 (by kernel_rfl)

noncomputable def x115.w : FnW E := xAbs.w 115 (by kernel_rfl)

noncomputable def x124.w : FnW E := xIntegral_down.w 124 (by kernel_rfl)

noncomputable def x106.w : FnW E := xCopysign.w 106 (by kernel_rfl)

noncomputable def x128.w : FnW E := xIntegral_zero.w 128 (by kernel_rfl)

noncomputable def x117.w : FnW E := xF64frombits.w 117 (by kernel_rfl)

noncomputable def x118.w : FnW E := xF64bits.w 118 (by kernel_rfl)

def f50_l_toFloat32S.l0 (n : Nat) : Nat → Nat → List T → Nat → List T → Int → Option (Nat × List T)
  | 0, _, _, _, _, _ => none
  | m + 1, n1, l2, n3, l4, i5 =>
    br (decide (i5 < ((n1 : Nat) : Int))) (
     gd ((decide (((0 : Int) ≤ i5) ∧ (i5 < ((n1 : Nat) : Int)))) && (okAt [(CK.flt FloatKind.f32)] l2 (Int.toNat i5))) (
     gd (decide (((0 : Int) ≤ i5) ∧ (i5 < ((n3 : Nat) : Int)))) (
     gd (Nat.ble ((Int.toNat i5) + 1) (List.length l4)) (
     let l6 : List T := (setN l4 (Int.toNat i5) [(T.flt FloatKind.f32 (fAt l2 (Int.toNat i5)))])
     f50_l_toFloat32S.l0 n m n1 l2 n3 l6 (IntKind.i64.wrap (i5 + (1 : Int))))))) (
     some (n3, l4))
def f50_l_toFloat32S : Nat → Nat → List T → Option (Nat × List T)
  | 0, _, _ => none
  | n + 1, n1, l2 =>
    gd (decide (((0 : Int) ≤ ((n1 : Nat) : Int)) ∧ (((n1 : Nat) : Int) ≤ (2147483648 : Int)))) (
    let l3 : List T := (reps n1 [(T.flt FloatKind.f32 0)])
    bd (f50_l_toFloat32S.l0 n n n1 l2 n1 l3 (0 : Int)) fun r4 =>
    let n5 : Nat := r4.1
    let l6 : List T := r4.2
    some (n5, l6))
def sg_l : Sig (Nat × List T) where
  pk := fun v => [.lst v.1 v.2]
  up := fun ls => match ls with
    | [.lst a0 a1] => some (a0, a1)
    | _ => none
  ok := by
    intro ls v h
    split at h
    · cases h; rfl
    · cases h

def sg_lli : Sig (Nat × List T × Nat × List T × Int) where
  pk := fun v => [.lst v.1 v.2.1, .lst v.2.2.1 v.2.2.2.1, .int v.2.2.2.2]
  up := fun ls => match ls with
    | [.lst a0 a1, .lst a2 a3, .int a4] => some (a0, a1, a2, a3, a4)
    | _ => none
  ok := by
    intro ls v h
    split at h
    · cases h; rfl
    · cases h

def f50_l_toFloat32S.l0.P : AS := ⟨[(0, .val false [.sl .shr [.leaf]] [.lst 0 []] [] 0), (3, .val false [.sl .own [.leaf]] [.lst 0 []] [] 0), (4, .val false [.leaf] [.int .i64 0] [] 0)], 0⟩
def f50_l_toFloat32S.l0.A : Alt (Nat × List T) := .one (.exit 0) ⟨[(3, .val false [.sl .own [.leaf]] [.lst 0 []] [] 0)], 0⟩ sg_l
def f50_l_toFloat32S.l0.F (n m : Nat) (v : Nat × List T × Nat × List T × Int) := f50_l_toFloat32S.l0 n m v.1 v.2.1 v.2.2.1 v.2.2.2.1 v.2.2.2.2
def f50_l_toFloat32S.l0.W (n : Nat) : LpW := .of 48 f50_l_toFloat32S.l0.P sg_lli f50_l_toFloat32S.l0.A (f50_l_toFloat32S.l0.F n n)
def f50_l_toFloat32S.P : List Arg := [⟨.val, ⟨false, [.sl .shr [.leaf]], [.lst 0 []]⟩⟩]
def f50_l_toFloat32S.A : RAlt (Nat × List T) := .one ⟨[⟨false, [.sl .own [.leaf]], [.lst 0 []]⟩], [none]⟩ sg_l
def f50_l_toFloat32S.F (n : Nat) (v : Nat × List T) := f50_l_toFloat32S n v.1 v.2
noncomputable def f50_l_toFloat32S.O (n : Nat) : Orc := orcOf (E := E) [] [f50_l_toFloat32S.l0.W n] n
theorem f50_l_toFloat32S.l0.ok (n : Nat) : LpOk (f50_l_toFloat32S.O n) E (evalFn E n) n (keepAt 50) (.loop (loopAt c50 0)) :=
  lp_pure f50_l_toFloat32S.l0.P sg_lli f50_l_toFloat32S.l0.A (f50_l_toFloat32S.l0.F n) (orcOf_cf _ _ n) (lpOk_of (bs := []) (by kernel_rfl) .nil) (fun _ => rfl) (fun _ _ => by kernel_rfl) (fun _ _ _ => by kernel_rfl)
theorem f50_l_toFloat32S.ok : ∀ n v x, f50_l_toFloat32S.F n v = some x → evalFn E n 50 (flAs f50_l_toFloat32S.P (sg_l.pk v)) = some (f50_l_toFloat32S.A.enc x) :=
  fn_pure (modes := (fdAt 50).ms) (outs := (fdAt 50).os) (results := (fdAt 50).rs) f50_l_toFloat32S.O (c := c50) (keep := keepAt 50) (by kernel_rfl) (fun n => orcOf_cf _ _ n) (fun n => lpOk_of (bs := [loopAt c50 0]) (by kernel_rfl) (.cons (f50_l_toFloat32S.l0.ok n) .nil)) (fun _ => rfl) (fun _ _ => by kernel_rfl)
noncomputable def f50_l_toFloat32S.w : FnW E := fnW 50 f50_l_toFloat32S.P sg_l f50_l_toFloat32S.A f50_l_toFloat32S.F f50_l_toFloat32S.ok

def f98_s_l01Few : Nat → Nat → List T → Option (Bool)
  | 0, _, _ => none
  | n + 1, n1, l2 =>
    some (decide (((n1 : Nat) : Int) ≤ (256 : Int)))
def sg_b : Sig (Bool) where
  pk := fun v => [.bool v]
  up := fun ls => match ls with
    | [.bool a0] => some a0
    | _ => none
  ok := by
    intro ls v h
    split at h
    · cases h; rfl
    · cases h

def f98_s_l01Few.P : List Arg := [⟨.val, ⟨false, [.sl .shr [.leaf]], [.lst 0 []]⟩⟩]
def f98_s_l01Few.A : RAlt (Bool) := .one ⟨[⟨false, [.leaf], [.bool false]⟩], [none]⟩ sg_b
def f98_s_l01Few.F (n : Nat) (v : Nat × List T) := f98_s_l01Few n v.1 v.2
noncomputable def f98_s_l01Few.O (n : Nat) : Orc := orcOf (E := E) [] [] n
theorem f98_s_l01Few.ok : ∀ n v x, f98_s_l01Few.F n v = some x → evalFn E n 98 (flAs f98_s_l01Few.P (sg_l.pk v)) = some (f98_s_l01Few.A.enc x) :=
  fn_pure (modes := (fdAt 98).ms) (outs := (fdAt 98).os) (results := (fdAt 98).rs) f98_s_l01Few.O (c := c98) (keep := keepAt 98) (by kernel_rfl) (fun n => orcOf_cf _ _ n) (fun n => lpOk_of (bs := []) (by kernel_rfl) .nil) (fun _ => rfl) (fun _ _ => by kernel_rfl)
noncomputable def f98_s_l01Few.w : FnW E := fnW 98 f98_s_l01Few.P sg_l f98_s_l01Few.A f98_s_l01Few.F f98_s_l01Few.ok

def f123_s_l00Min : Nat → Int → Int → Option (Int)
  | 0, _, _ => none
  | n + 1, i1, i2 =>
    br (decide (i1 < i2)) (
     some i1) (
     some i2)
def sg_ii : Sig (Int × Int) where
  pk := fun v => [.int v.1, .int v.2]
  up := fun ls => match ls with
    | [.int a0, .int a1] => some (a0, a1)
    | _ => none
  ok := by
    intro ls v h
    split at h
    · cases h; rfl
    · cases h

def sg_i : Sig (Int) where
  pk := fun v => [.int v]
  up := fun ls => match ls with
    | [.int a0] => some a0
    | _ => none
  ok := by
    intro ls v h
    split at h
    · cases h; rfl
    · cases h

def f123_s_l00Min.P : List Arg := [⟨.val, ⟨false, [.leaf], [.int .i64 0]⟩⟩, ⟨.val, ⟨false, [.leaf], [.int .i64 0]⟩⟩]
def f123_s_l00Min.A : RAlt (Int) := .one ⟨[⟨false, [.leaf], [.int .i64 0]⟩], [none, none]⟩ sg_i
def f123_s_l00Min.F (n : Nat) (v : Int × Int) := f123_s_l00Min n v.1 v.2
noncomputable def f123_s_l00Min.O (n : Nat) : Orc := orcOf (E := E) [] [] n
theorem f123_s_l00Min.ok : ∀ n v x, f123_s_l00Min.F n v = some x → evalFn E n 123 (flAs f123_s_l00Min.P (sg_ii.pk v)) = some (f123_s_l00Min.A.enc x) :=
  fn_pure (modes := (fdAt 123).ms) (outs := (fdAt 123).os) (results := (fdAt 123).rs) f123_s_l00Min.O (c := c123) (keep := keepAt 123) (by kernel_rfl) (fun n => orcOf_cf _ _ n) (fun n => lpOk_of (bs := []) (by kernel_rfl) .nil) (fun _ => rfl) (fun _ _ => by kernel_rfl)
noncomputable def f123_s_l00Min.w : FnW E := fnW 123 f123_s_l00Min.P sg_ii f123_s_l00Min.A f123_s_l00Min.F f123_s_l00Min.ok

def f122_s_l00Max : Nat → Int → Int → Option (Int)
  | 0, _, _ => none
  | n + 1, i1, i2 =>
    br (decide (i1 > i2)) (
     some i1) (
     some i2)
def f122_s_l00Max.P : List Arg := [⟨.val, ⟨false, [.leaf], [.int .i64 0]⟩⟩, ⟨.val, ⟨false, [.leaf], [.int .i64 0]⟩⟩]
def f122_s_l00Max.A : RAlt (Int) := .one ⟨[⟨false, [.leaf], [.int .i64 0]⟩], [none, none]⟩ sg_i
def f122_s_l00Max.F (n : Nat) (v : Int × Int) := f122_s_l00Max n v.1 v.2
noncomputable def f122_s_l00Max.O (n : Nat) : Orc := orcOf (E := E) [] [] n
theorem f122_s_l00Max.ok : ∀ n v x, f122_s_l00Max.F n v = some x → evalFn E n 122 (flAs f122_s_l00Max.P (sg_ii.pk v)) = some (f122_s_l00Max.A.enc x) :=
  fn_pure (modes := (fdAt 122).ms) (outs := (fdAt 122).os) (results := (fdAt 122).rs) f122_s_l00Max.O (c := c122) (keep := keepAt 122) (by kernel_rfl) (fun n => orcOf_cf _ _ n) (fun n => lpOk_of (bs := []) (by kernel_rfl) .nil) (fun _ => rfl) (fun _ _ => by kernel_rfl)
noncomputable def f122_s_l00Max.w : FnW E := fnW 122 f122_s_l00Max.P sg_ii f122_s_l00Max.A f122_s_l00Max.F f122_s_l00Max.ok

def f119_s_l06Sample : Nat → Nat → List T → Int → Option (Nat)
  | 0, _, _, _ => none
  | n + 1, n1, l2, i3 =>
    bd (f123_s_l00Min n i3 (IntKind.i64.wrap (((n1 : Nat) : Int) - (1 : Int)))) fun r4 =>
    let i5 : Int := r4
    bd (f122_s_l00Max n (0 : Int) i5) fun r6 =>
    let i7 : Int := r6
    gd ((decide (((0 : Int) ≤ i7) ∧ (i7 < ((n1 : Nat) : Int)))) && (okAt [(CK.flt FloatKind.f32)] l2 (Int.toNat i7))) (
    some (fAt l2 (Int.toNat i7)))
def sg_li : Sig (Nat × List T × Int) where
  pk := fun v => [.lst v.1 v.2.1, .int v.2.2]
  up := fun ls => match ls with
    | [.lst a0 a1, .int a2] => some (a0, a1, a2)
    | _ => none
  ok := by
    intro ls v h
    split at h
    · cases h; rfl
    · cases h

def sg_f : Sig (Nat) where
  pk := fun v => [.flt v]
  up := fun ls => match ls with
    | [.flt a0] => some a0
    | _ => none
  ok := by
    intro ls v h
    split at h
    · cases h; rfl
    · cases h

def f119_s_l06Sample.P : List Arg := [⟨.val, ⟨false, [.sl .shr [.leaf]], [.lst 0 []]⟩⟩, ⟨.val, ⟨false, [.leaf], [.int .i64 0]⟩⟩]
def f119_s_l06Sample.A : RAlt (Nat) := .one ⟨[⟨false, [.leaf], [.flt .f32 0]⟩], [none, none]⟩ sg_f
def f119_s_l06Sample.F (n : Nat) (v : Nat × List T × Int) := f119_s_l06Sample n v.1 v.2.1 v.2.2
noncomputable def f119_s_l06Sample.O (n : Nat) : Orc := orcOf (E := E) [f123_s_l00Min.w, f122_s_l00Max.w] [] n
theorem f119_s_l06Sample.ok : ∀ n v x, f119_s_l06Sample.F n v = some x → evalFn E n 119 (flAs f119_s_l06Sample.P (sg_li.pk v)) = some (f119_s_l06Sample.A.enc x) :=
  fn_pure (modes := (fdAt 119).ms) (outs := (fdAt 119).os) (results := (fdAt 119).rs) f119_s_l06Sample.O (c := c119) (keep := keepAt 119) (by kernel_rfl) (fun n => orcOf_cf _ _ n) (fun n => lpOk_of (bs := []) (by kernel_rfl) .nil) (fun _ => rfl) (fun _ _ => by kernel_rfl)
noncomputable def f119_s_l06Sample.w : FnW E := fnW 119 f119_s_l06Sample.P sg_li f119_s_l06Sample.A f119_s_l06Sample.F f119_s_l06Sample.ok

def f108_s_l06Read : Nat → Int → Nat → List T → Nat → Option (Nat × Bool)
  | 0, _, _, _, _ => none
  | n + 1, i1, n2, l3, x4 =>
    br (fge FloatKind.f64 x4 0) (
     br (!(fle FloatKind.f64 x4 (FloatKind.nearest FloatKind.f64 (IntKind.i64.wrap (((n2 : Nat) : Int) - (1 : Int)))))) (
      some (0, false)) (
      bd ((fltToInt FloatKind.f64 x4 IntKind.i64)) fun y5 =>
      bd ((fltToFlt FloatKind.f64 (fsub FloatKind.f64 x4 (FloatKind.nearest FloatKind.f64 y5)) FloatKind.f32)) fun y6 =>
      bd (f119_s_l06Sample n n2 l3 y5) fun r7 =>
      let x8 : Nat := r7
      bd (f119_s_l06Sample n n2 l3 (IntKind.i64.wrap (y5 + (1 : Int)))) fun r9 =>
      let x10 : Nat := r9
      br (i1 == (0 : Int)) (
       br (fge FloatKind.f32 y6 1056964608) (
        some (x10, true)) (
        some (x8, true))) (
       br (i1 == (1 : Int)) (
        let x11 : Nat := (fsub FloatKind.f32 x10 x8)
        some ((fadd FloatKind.f32 x8 (fmul FloatKind.f32 y6 x11)), true)) (
        bd (f119_s_l06Sample n n2 l3 (IntKind.i64.wrap (y5 - (1 : Int)))) fun r12 =>
        let x13 : Nat := r12
        bd (f119_s_l06Sample n n2 l3 (IntKind.i64.wrap (y5 + (2 : Int)))) fun r14 =>
        let x15 : Nat := r14
        let x16 : Nat := (fmul FloatKind.f32 1056964608 (fsub FloatKind.f32 x10 x13))
        let x17 : Nat := (fsub FloatKind.f32 x13 (fmul FloatKind.f32 1075838976 x8))
        let x18 : Nat := (fadd FloatKind.f32 x17 (fmul FloatKind.f32 1073741824 x10))
        let x19 : Nat := (fsub FloatKind.f32 x18 (fmul FloatKind.f32 1056964608 x15))
        let x20 : Nat := (fadd FloatKind.f32 (fmul FloatKind.f32 1069547520 (fsub FloatKind.f32 x8 x10)) (fmul FloatKind.f32 1056964608 (fsub FloatKind.f32 x15 x13)))
        let x21 : Nat := (fadd FloatKind.f32 (fmul FloatKind.f32 x20 y6) x19)
        let x22 : Nat := (fadd FloatKind.f32 (fmul FloatKind.f32 x21 y6) x16)
        some ((fadd FloatKind.f32 (fmul FloatKind.f32 x22 y6) x8), true))))) (
     some (0, false))
def sg_ilf : Sig (Int × Nat × List T × Nat) where
  pk := fun v => [.int v.1, .lst v.2.1 v.2.2.1, .flt v.2.2.2]
  up := fun ls => match ls with
    | [.int a0, .lst a1 a2, .flt a3] => some (a0, a1, a2, a3)
    | _ => none
  ok := by
    intro ls v h
    split at h
    · cases h; rfl
    · cases h

def sg_fb : Sig (Nat × Bool) where
  pk := fun v => [.flt v.1, .bool v.2]
  up := fun ls => match ls with
    | [.flt a0, .bool a1] => some (a0, a1)
    | _ => none
  ok := by
    intro ls v h
    split at h
    · cases h; rfl
    · cases h

def f108_s_l06Read.P : List Arg := [⟨.val, ⟨false, [.leaf], [.int .i64 0]⟩⟩, ⟨.val, ⟨false, [.sl .shr [.leaf]], [.lst 0 []]⟩⟩, ⟨.val, ⟨false, [.leaf], [.flt .f64 0]⟩⟩]
def f108_s_l06Read.A : RAlt (Nat × Bool) := .one ⟨[⟨false, [.leaf], [.flt .f32 0]⟩, ⟨false, [.leaf], [.bool false]⟩], [none, none, none]⟩ sg_fb
def f108_s_l06Read.F (n : Nat) (v : Int × Nat × List T × Nat) := f108_s_l06Read n v.1 v.2.1 v.2.2.1 v.2.2.2
noncomputable def f108_s_l06Read.O (n : Nat) : Orc := orcOf (E := E) [f119_s_l06Sample.w] [] n
theorem f108_s_l06Read.ok : ∀ n v x, f108_s_l06Read.F n v = some x → evalFn E n 108 (flAs f108_s_l06Read.P (sg_ilf.pk v)) = some (f108_s_l06Read.A.enc x) :=
  fn_pure (modes := (fdAt 108).ms) (outs := (fdAt 108).os) (results := (fdAt 108).rs) f108_s_l06Read.O (c := c108) (keep := keepAt 108) (by kernel_rfl) (fun n => orcOf_cf _ _ n) (fun n => lpOk_of (bs := []) (by kernel_rfl) .nil) (fun _ => rfl) (fun _ _ => by kernel_rfl)
noncomputable def f108_s_l06Read.w : FnW E := fnW 108 f108_s_l06Read.P sg_ilf f108_s_l06Read.A f108_s_l06Read.F f108_s_l06Read.ok

def f68_s_PeakBetween.l0 (n : Nat) : Nat → Nat → List T → Nat → List T → Int → Option (Nat × List T)
  | 0, _, _, _, _, _ => none
  | m + 1, n1, l2, n3, l4, i5 =>
    br (decide (i5 ≤ (IntKind.i64.wrap ((4 : Int) * (IntKind.i64.wrap (((n1 : Nat) : Int) - (1 : Int))))))) (
     br (decide (((n1 : Nat) : Int) > (0 : Int))) (
      bd (f108_s_l06Read n (2 : Int) n1 l2 (fdiv FloatKind.f64 (FloatKind.nearest FloatKind.f64 i5) 4616189618054758400)) fun r6 =>
      let x7 : Nat := r6.1
      let b8 : Bool := r6.2
      gd (Nat.ble (n3 + 1) 2147483648) (
      let n9 : Nat := (n3 + 1)
      let l10 : List T := (l4 ++ (setN (reps 1 [(T.flt FloatKind.f32 0)]) 0 [(T.flt FloatKind.f32 x7)]))
      f68_s_PeakBetween.l0 n m n1 l2 n9 l10 (IntKind.i64.wrap (i5 + (1 : Int))))) (
      some (n3, l4))) (
     some (n3, l4))
def f79_s_l01Bits : Nat → Nat → Option (Int)
  | 0, _ => none
  | n + 1, x1 =>
    br (fne FloatKind.f32 x1 x1) (
     some (2143289344 : Int)) (
     bd (xF32bits n x1) fun r2 =>
     let i3 : Int := r2
     some (IntKind.i64.wrap i3))
def f79_s_l01Bits.P : List Arg := [⟨.val, ⟨false, [.leaf], [.flt .f32 0]⟩⟩]
def f79_s_l01Bits.A : RAlt (Int) := .one ⟨[⟨false, [.leaf], [.int .i64 0]⟩], [none]⟩ sg_i
def f79_s_l01Bits.F (n : Nat) (v : Nat) := f79_s_l01Bits n v
noncomputable def f79_s_l01Bits.O (n : Nat) : Orc := orcOf (E := E) [x87.w] [] n
theorem f79_s_l01Bits.ok : ∀ n v x, f79_s_l01Bits.F n v = some x → evalFn E n 79 (flAs f79_s_l01Bits.P (sg_f.pk v)) = some (f79_s_l01Bits.A.enc x) :=
  fn_pure (modes := (fdAt 79).ms) (outs := (fdAt 79).os) (results := (fdAt 79).rs) f79_s_l01Bits.O (c := c79) (keep := keepAt 79) (by kernel_rfl) (fun n => orcOf_cf _ _ n) (fun n => lpOk_of (bs := []) (by kernel_rfl) .nil) (fun _ => rfl) (fun _ _ => by kernel_rfl)
noncomputable def f79_s_l01Bits.w : FnW E := fnW 79 f79_s_l01Bits.P sg_f f79_s_l01Bits.A f79_s_l01Bits.F f79_s_l01Bits.ok

def f100_s_l04Size : Nat → Nat → Option (Nat)
  | 0, _ => none
  | n + 1, x1 =>
    br (flt FloatKind.f32 x1 0) (
     some (negF FloatKind.f32 x1)) (
     bd (f79_s_l01Bits n x1) fun r2 =>
     let i3 : Int := r2
     br (i3 == (2147483648 : Int)) (
      some (negF FloatKind.f32 x1)) (
      some x1))
def f100_s_l04Size.P : List Arg := [⟨.val, ⟨false, [.leaf], [.flt .f32 0]⟩⟩]
def f100_s_l04Size.A : RAlt (Nat) := .one ⟨[⟨false, [.leaf], [.flt .f32 0]⟩], [none]⟩ sg_f
def f100_s_l04Size.F (n : Nat) (v : Nat) := f100_s_l04Size n v
noncomputable def f100_s_l04Size.O (n : Nat) : Orc := orcOf (E := E) [f79_s_l01Bits.w] [] n
theorem f100_s_l04Size.ok : ∀ n v x, f100_s_l04Size.F n v = some x → evalFn E n 100 (flAs f100_s_l04Size.P (sg_f.pk v)) = some (f100_s_l04Size.A.enc x) :=
  fn_pure (modes := (fdAt 100).ms) (outs := (fdAt 100).os) (results := (fdAt 100).rs) f100_s_l04Size.O (c := c100) (keep := keepAt 100) (by kernel_rfl) (fun n => orcOf_cf _ _ n) (fun n => lpOk_of (bs := []) (by kernel_rfl) .nil) (fun _ => rfl) (fun _ _ => by kernel_rfl)
noncomputable def f100_s_l04Size.w : FnW E := fnW 100 f100_s_l04Size.P sg_f f100_s_l04Size.A f100_s_l04Size.F f100_s_l04Size.ok

def f109_s_l10Peak.l0 (n : Nat) : Nat → Nat → List T → Nat → Int → Option (Nat)
  | 0, _, _, _, _ => none
  | m + 1, n1, l2, x3, i4 =>
    br (decide (i4 < ((n1 : Nat) : Int))) (
     gd ((decide (((0 : Int) ≤ i4) ∧ (i4 < ((n1 : Nat) : Int)))) && (okAt [(CK.flt FloatKind.f32)] l2 (Int.toNat i4))) (
     bd (f100_s_l04Size n (fAt l2 (Int.toNat i4))) fun r5 =>
     let x6 : Nat := r5
     br (fgt FloatKind.f32 x6 x3) (
      gd ((decide (((0 : Int) ≤ i4) ∧ (i4 < ((n1 : Nat) : Int)))) && (okAt [(CK.flt FloatKind.f32)] l2 (Int.toNat i4))) (
      bd (f100_s_l04Size n (fAt l2 (Int.toNat i4))) fun r7 =>
      let x8 : Nat := r7
      f109_s_l10Peak.l0 n m n1 l2 x8 (IntKind.i64.wrap (i4 + (1 : Int))))) (
      f109_s_l10Peak.l0 n m n1 l2 x3 (IntKind.i64.wrap (i4 + (1 : Int)))))) (
     some x3)
def f109_s_l10Peak : Nat → Nat → List T → Option (Nat)
  | 0, _, _ => none
  | n + 1, n1, l2 =>
    bd (f109_s_l10Peak.l0 n n n1 l2 0 (0 : Int)) fun r3 =>
    let x4 : Nat := r3
    some x4
def sg_lfi : Sig (Nat × List T × Nat × Int) where
  pk := fun v => [.lst v.1 v.2.1, .flt v.2.2.1, .int v.2.2.2]
  up := fun ls => match ls with
    | [.lst a0 a1, .flt a2, .int a3] => some (a0, a1, a2, a3)
    | _ => none
  ok := by
    intro ls v h
    split at h
    · cases h; rfl
    · cases h

def f109_s_l10Peak.l0.P : AS := ⟨[(0, .val false [.sl .shr [.leaf]] [.lst 0 []] [] 0), (3, .val false [.leaf] [.flt .f32 0] [] 0), (4, .val false [.leaf] [.int .i64 0] [] 0)], 0⟩
def f109_s_l10Peak.l0.A : Alt (Nat) := .one (.exit 0) ⟨[(3, .val false [.leaf] [.flt .f32 0] [] 0)], 0⟩ sg_f
def f109_s_l10Peak.l0.F (n m : Nat) (v : Nat × List T × Nat × Int) := f109_s_l10Peak.l0 n m v.1 v.2.1 v.2.2.1 v.2.2.2
def f109_s_l10Peak.l0.W (n : Nat) : LpW := .of 48 f109_s_l10Peak.l0.P sg_lfi f109_s_l10Peak.l0.A (f109_s_l10Peak.l0.F n n)
def f109_s_l10Peak.P : List Arg := [⟨.val, ⟨false, [.sl .shr [.leaf]], [.lst 0 []]⟩⟩]
def f109_s_l10Peak.A : RAlt (Nat) := .one ⟨[⟨false, [.leaf], [.flt .f32 0]⟩], [none]⟩ sg_f
def f109_s_l10Peak.F (n : Nat) (v : Nat × List T) := f109_s_l10Peak n v.1 v.2
noncomputable def f109_s_l10Peak.O (n : Nat) : Orc := orcOf (E := E) [f100_s_l04Size.w] [f109_s_l10Peak.l0.W n] n
theorem f109_s_l10Peak.l0.ok (n : Nat) : LpOk (f109_s_l10Peak.O n) E (evalFn E n) n (keepAt 109) (.loop (loopAt c109 0)) :=
  lp_pure f109_s_l10Peak.l0.P sg_lfi f109_s_l10Peak.l0.A (f109_s_l10Peak.l0.F n) (orcOf_cf _ _ n) (lpOk_of (bs := []) (by kernel_rfl) .nil) (fun _ => rfl) (fun _ _ => by kernel_rfl) (fun _ _ _ => by kernel_rfl)
theorem f109_s_l10Peak.ok : ∀ n v x, f109_s_l10Peak.F n v = some x → evalFn E n 109 (flAs f109_s_l10Peak.P (sg_l.pk v)) = some (f109_s_l10Peak.A.enc x) :=
  fn_pure (modes := (fdAt 109).ms) (outs := (fdAt 109).os) (results := (fdAt 109).rs) f109_s_l10Peak.O (c := c109) (keep := keepAt 109) (by kernel_rfl) (fun n => orcOf_cf _ _ n) (fun n => lpOk_of (bs := [loopAt c109 0]) (by kernel_rfl) (.cons (f109_s_l10Peak.l0.ok n) .nil)) (fun _ => rfl) (fun _ _ => by kernel_rfl)
noncomputable def f109_s_l10Peak.w : FnW E := fnW 109 f109_s_l10Peak.P sg_l f109_s_l10Peak.A f109_s_l10Peak.F f109_s_l10Peak.ok

def f68_s_PeakBetween : Nat → Nat → List T → Option (Nat × Bool)
  | 0, _, _ => none
  | n + 1, n1, l2 =>
    bd (f98_s_l01Few n n1 l2) fun r3 =>
    let b4 : Bool := r3
    br (!b4) (
     some (0, false)) (
     bd (f68_s_PeakBetween.l0 n n n1 l2 0 (reps 0 [(T.flt FloatKind.f32 0)]) (0 : Int)) fun r5 =>
     let n6 : Nat := r5.1
     let l7 : List T := r5.2
     bd (f109_s_l10Peak n n6 l7) fun r8 =>
     let x9 : Nat := r8
     some (x9, true))
def f68_s_PeakBetween.l0.P : AS := ⟨[(0, .val false [.sl .shr [.leaf]] [.lst 0 []] [] 0), (4, .val false [.sl .own [.leaf]] [.lst 0 []] [] 0), (5, .val false [.leaf] [.int .i64 0] [] 0)], 0⟩
def f68_s_PeakBetween.l0.A : Alt (Nat × List T) := .one (.exit 0) ⟨[(4, .val false [.sl .own [.leaf]] [.lst 0 []] [] 0)], 0⟩ sg_l
def f68_s_PeakBetween.l0.F (n m : Nat) (v : Nat × List T × Nat × List T × Int) := f68_s_PeakBetween.l0 n m v.1 v.2.1 v.2.2.1 v.2.2.2.1 v.2.2.2.2
def f68_s_PeakBetween.l0.W (n : Nat) : LpW := .of 80 f68_s_PeakBetween.l0.P sg_lli f68_s_PeakBetween.l0.A (f68_s_PeakBetween.l0.F n n)
def f68_s_PeakBetween.P : List Arg := [⟨.val, ⟨false, [.sl .shr [.leaf]], [.lst 0 []]⟩⟩]
def f68_s_PeakBetween.A : RAlt (Nat × Bool) := .one ⟨[⟨false, [.leaf], [.flt .f32 0]⟩, ⟨false, [.leaf], [.bool false]⟩], [none]⟩ sg_fb
def f68_s_PeakBetween.F (n : Nat) (v : Nat × List T) := f68_s_PeakBetween n v.1 v.2
noncomputable def f68_s_PeakBetween.O (n : Nat) : Orc := orcOf (E := E) [f98_s_l01Few.w, f108_s_l06Read.w, f109_s_l10Peak.w] [f68_s_PeakBetween.l0.W n] n
theorem f68_s_PeakBetween.l0.ok (n : Nat) : LpOk (f68_s_PeakBetween.O n) E (evalFn E n) n (keepAt 68) (.loop (loopAt c68 0)) :=
  lp_pure f68_s_PeakBetween.l0.P sg_lli f68_s_PeakBetween.l0.A (f68_s_PeakBetween.l0.F n) (orcOf_cf _ _ n) (lpOk_of (bs := []) (by kernel_rfl) .nil) (fun _ => rfl) (fun _ _ => by kernel_rfl) (fun _ _ _ => by kernel_rfl)
theorem f68_s_PeakBetween.ok : ∀ n v x, f68_s_PeakBetween.F n v = some x → evalFn E n 68 (flAs f68_s_PeakBetween.P (sg_l.pk v)) = some (f68_s_PeakBetween.A.enc x) :=
  fn_pure (modes := (fdAt 68).ms) (outs := (fdAt 68).os) (results := (fdAt 68).rs) f68_s_PeakBetween.O (c := c68) (keep := keepAt 68) (by kernel_rfl) (fun n => orcOf_cf _ _ n) (fun n => lpOk_of (bs := [loopAt c68 0]) (by kernel_rfl) (.cons (f68_s_PeakBetween.l0.ok n) .nil)) (fun _ => rfl) (fun _ _ => by kernel_rfl)
noncomputable def f68_s_PeakBetween.w : FnW E := fnW 68 f68_s_PeakBetween.P sg_l f68_s_PeakBetween.A f68_s_PeakBetween.F f68_s_PeakBetween.ok

def f82_i_areSamples : Nat → Nat → List T → Option (Bool)
  | 0, _, _ => none
  | n + 1, n1, l2 =>
    some (decide (((n1 : Nat) : Int) ≤ (256 : Int)))
def f82_i_areSamples.P : List Arg := [⟨.val, ⟨false, [.sl .shr [.leaf]], [.lst 0 []]⟩⟩]
def f82_i_areSamples.A : RAlt (Bool) := .one ⟨[⟨false, [.leaf], [.bool false]⟩], [none]⟩ sg_b
def f82_i_areSamples.F (n : Nat) (v : Nat × List T) := f82_i_areSamples n v.1 v.2
noncomputable def f82_i_areSamples.O (n : Nat) : Orc := orcOf (E := E) [] [] n
theorem f82_i_areSamples.ok : ∀ n v x, f82_i_areSamples.F n v = some x → evalFn E n 82 (flAs f82_i_areSamples.P (sg_l.pk v)) = some (f82_i_areSamples.A.enc x) :=
  fn_pure (modes := (fdAt 82).ms) (outs := (fdAt 82).os) (results := (fdAt 82).rs) f82_i_areSamples.O (c := c82) (keep := keepAt 82) (by kernel_rfl) (fun n => orcOf_cf _ _ n) (fun n => lpOk_of (bs := []) (by kernel_rfl) .nil) (fun _ => rfl) (fun _ _ => by kernel_rfl)
noncomputable def f82_i_areSamples.w : FnW E := fnW 82 f82_i_areSamples.P sg_l f82_i_areSamples.A f82_i_areSamples.F f82_i_areSamples.ok

def f120_mathFloor : Nat → Nat → Option (Nat)
  | 0, _ => none
  | n + 1, x1 =>
    bd (xIntegral_down n x1) fun r2 =>
    let x3 : Nat := r2
    some x3
def f120_mathFloor.P : List Arg := [⟨.val, ⟨false, [.leaf], [.flt .f64 0]⟩⟩]
def f120_mathFloor.A : RAlt (Nat) := .one ⟨[⟨false, [.leaf], [.flt .f64 0]⟩], [none]⟩ sg_f
def f120_mathFloor.F (n : Nat) (v : Nat) := f120_mathFloor n v
noncomputable def f120_mathFloor.O (n : Nat) : Orc := orcOf (E := E) [x124.w] [] n
theorem f120_mathFloor.ok : ∀ n v x, f120_mathFloor.F n v = some x → evalFn E n 120 (flAs f120_mathFloor.P (sg_f.pk v)) = some (f120_mathFloor.A.enc x) :=
  fn_pure (modes := (fdAt 120).ms) (outs := (fdAt 120).os) (results := (fdAt 120).rs) f120_mathFloor.O (c := c120) (keep := keepAt 120) (by kernel_rfl) (fun n => orcOf_cf _ _ n) (fun n => lpOk_of (bs := []) (by kernel_rfl) .nil) (fun _ => rfl) (fun _ _ => by kernel_rfl)
noncomputable def f120_mathFloor.w : FnW E := fnW 120 f120_mathFloor.P sg_f f120_mathFloor.A f120_mathFloor.F f120_mathFloor.ok

def f121_i_readAt1 : Nat → Int → Nat → List T → Nat → Option (Nat)
  | 0, _, _, _, _ => none
  | n + 1, i1, n2, l3, x4 =>
    bd ((fltToInt FloatKind.f64 x4 IntKind.i64)) fun y5 =>
    gd ((decide (((0 : Int) ≤ (if ((IntKind.i64.wrap (((n2 : Nat) : Int) - (1 : Int))) < (if ((IntKind.i64.wrap (y5 + i1)) > (0 : Int)) then (IntKind.i64.wrap (y5 + i1)) else (0 : Int))) then (IntKind.i64.wrap (((n2 : Nat) : Int) - (1 : Int))) else (if ((IntKind.i64.wrap (y5 + i1)) > (0 : Int)) then (IntKind.i64.wrap (y5 + i1)) else (0 : Int)))) ∧ ((if ((IntKind.i64.wrap (((n2 : Nat) : Int) - (1 : Int))) < (if ((IntKind.i64.wrap (y5 + i1)) > (0 : Int)) then (IntKind.i64.wrap (y5 + i1)) else (0 : Int))) then (IntKind.i64.wrap (((n2 : Nat) : Int) - (1 : Int))) else (if ((IntKind.i64.wrap (y5 + i1)) > (0 : Int)) then (IntKind.i64.wrap (y5 + i1)) else (0 : Int))) < ((n2 : Nat) : Int)))) && (okAt [(CK.flt FloatKind.f32)] l3 (Int.toNat (if ((IntKind.i64.wrap (((n2 : Nat) : Int) - (1 : Int))) < (if ((IntKind.i64.wrap (y5 + i1)) > (0 : Int)) then (IntKind.i64.wrap (y5 + i1)) else (0 : Int))) then (IntKind.i64.wrap (((n2 : Nat) : Int) - (1 : Int))) else (if ((IntKind.i64.wrap (y5 + i1)) > (0 : Int)) then (IntKind.i64.wrap (y5 + i1)) else (0 : Int)))))) (
    some (fAt l3 (Int.toNat (if ((IntKind.i64.wrap (((n2 : Nat) : Int) - (1 : Int))) < (if ((IntKind.i64.wrap (y5 + i1)) > (0 : Int)) then (IntKind.i64.wrap (y5 + i1)) else (0 : Int))) then (IntKind.i64.wrap (((n2 : Nat) : Int) - (1 : Int))) else (if ((IntKind.i64.wrap (y5 + i1)) > (0 : Int)) then (IntKind.i64.wrap (y5 + i1)) else (0 : Int))))))
def f121_i_readAt1.P : List Arg := [⟨.val, ⟨false, [.leaf], [.int .i64 0]⟩⟩, ⟨.val, ⟨false, [.rf .shr [.sl .shr [.leaf]]], [.ref [.lst 0 []]]⟩⟩, ⟨.val, ⟨false, [.rf .shr [.leaf]], [.ref [.flt .f64 0]]⟩⟩]
def f121_i_readAt1.A : RAlt (Nat) := .one ⟨[⟨false, [.leaf], [.flt .f32 0]⟩], [none, none, none]⟩ sg_f
def f121_i_readAt1.F (n : Nat) (v : Int × Nat × List T × Nat) := f121_i_readAt1 n v.1 v.2.1 v.2.2.1 v.2.2.2
noncomputable def f121_i_readAt1.O (n : Nat) : Orc := orcOf (E := E) [] [] n
theorem f121_i_readAt1.ok : ∀ n v x, f121_i_readAt1.F n v = some x → evalFn E n 121 (flAs f121_i_readAt1.P (sg_ilf.pk v)) = some (f121_i_readAt1.A.enc x) :=
  fn_pure (modes := (fdAt 121).ms) (outs := (fdAt 121).os) (results := (fdAt 121).rs) f121_i_readAt1.O (c := c121) (keep := keepAt 121) (by kernel_rfl) (fun n => orcOf_cf _ _ n) (fun n => lpOk_of (bs := []) (by kernel_rfl) .nil) (fun _ => rfl) (fun _ _ => by kernel_rfl)
noncomputable def f121_i_readAt1.w : FnW E := fnW 121 f121_i_readAt1.P sg_ilf f121_i_readAt1.A f121_i_readAt1.F f121_i_readAt1.ok

def f110_i_readAt : Nat → Int → Nat → List T → Nat → Option (Nat)
  | 0, _, _, _, _ => none
  | n + 1, i1, n2, l3, x4 =>
    bd (f120_mathFloor n x4) fun r5 =>
    let x6 : Nat := r5
    br (feq FloatKind.f64 x6 0) (
     bd ((fltToFlt FloatKind.f64 (fsub FloatKind.f64 x4 0) FloatKind.f32)) fun y7 =>
     bd (f121_i_readAt1 n (0 : Int) n2 l3 0) fun r8 =>
     let x9 : Nat := r8
     bd (f121_i_readAt1 n (1 : Int) n2 l3 0) fun r10 =>
     let x11 : Nat := r10
     br (i1 == (0 : Int)) (
      br (fge FloatKind.f32 y7 1056964608) (
       some x11) (
       some x9)) (
      br (i1 == (1 : Int)) (
       some (fadd FloatKind.f32 x9 (fmul FloatKind.f32 y7 (fsub FloatKind.f32 x11 x9)))) (
       bd (f121_i_readAt1 n (-1 : Int) n2 l3 0) fun r12 =>
       let x13 : Nat := r12
       bd (f121_i_readAt1 n (2 : Int) n2 l3 0) fun r14 =>
       let x15 : Nat := r14
       let x16 : Nat := (fmul FloatKind.f32 1056964608 (fsub FloatKind.f32 x11 x13))
       let x17 : Nat := (fsub FloatKind.f32 (fadd FloatKind.f32 (fsub FloatKind.f32 x13 (fmul FloatKind.f32 1075838976 x9)) (fmul FloatKind.f32 1073741824 x11)) (fmul FloatKind.f32 1056964608 x15))
       let x18 : Nat := (fadd FloatKind.f32 (fmul FloatKind.f32 1069547520 (fsub FloatKind.f32 x9 x11)) (fmul FloatKind.f32 1056964608 (fsub FloatKind.f32 x15 x13)))
       some (fadd FloatKind.f32 (fmul FloatKind.f32 (fadd FloatKind.f32 (fmul FloatKind.f32 (fadd FloatKind.f32 (fmul FloatKind.f32 x18 y7) x17) y7) x16) y7) x9)))) (
     bd ((fltToFlt FloatKind.f64 (fsub FloatKind.f64 x4 x6) FloatKind.f32)) fun y19 =>
     bd (f121_i_readAt1 n (0 : Int) n2 l3 x6) fun r20 =>
     let x21 : Nat := r20
     bd (f121_i_readAt1 n (1 : Int) n2 l3 x6) fun r22 =>
     let x23 : Nat := r22
     br (i1 == (0 : Int)) (
      br (fge FloatKind.f32 y19 1056964608) (
       some x23) (
       some x21)) (
      br (i1 == (1 : Int)) (
       some (fadd FloatKind.f32 x21 (fmul FloatKind.f32 y19 (fsub FloatKind.f32 x23 x21)))) (
       bd (f121_i_readAt1 n (-1 : Int) n2 l3 x6) fun r24 =>
       let x25 : Nat := r24
       bd (f121_i_readAt1 n (2 : Int) n2 l3 x6) fun r26 =>
       let x27 : Nat := r26
       let x28 : Nat := (fmul FloatKind.f32 1056964608 (fsub FloatKind.f32 x23 x25))
       let x29 : Nat := (fsub FloatKind.f32 (fadd FloatKind.f32 (fsub FloatKind.f32 x25 (fmul FloatKind.f32 1075838976 x21)) (fmul FloatKind.f32 1073741824 x23)) (fmul FloatKind.f32 1056964608 x27))
       let x30 : Nat := (fadd FloatKind.f32 (fmul FloatKind.f32 1069547520 (fsub FloatKind.f32 x21 x23)) (fmul FloatKind.f32 1056964608 (fsub FloatKind.f32 x27 x25)))
       some (fadd FloatKind.f32 (fmul FloatKind.f32 (fadd FloatKind.f32 (fmul FloatKind.f32 (fadd FloatKind.f32 (fmul FloatKind.f32 x30 y19) x29) y19) x28) y19) x21))))
def f110_i_readAt.P : List Arg := [⟨.val, ⟨false, [.leaf], [.int .i64 0]⟩⟩, ⟨.val, ⟨false, [.sl .shr [.leaf]], [.lst 0 []]⟩⟩, ⟨.val, ⟨false, [.leaf], [.flt .f64 0]⟩⟩]
def f110_i_readAt.A : RAlt (Nat) := .one ⟨[⟨false, [.leaf], [.flt .f32 0]⟩], [none, none, none]⟩ sg_f
def f110_i_readAt.F (n : Nat) (v : Int × Nat × List T × Nat) := f110_i_readAt n v.1 v.2.1 v.2.2.1 v.2.2.2
noncomputable def f110_i_readAt.O (n : Nat) : Orc := orcOf (E := E) [f120_mathFloor.w, f121_i_readAt1.w] [] n
theorem f110_i_readAt.ok : ∀ n v x, f110_i_readAt.F n v = some x → evalFn E n 110 (flAs f110_i_readAt.P (sg_ilf.pk v)) = some (f110_i_readAt.A.enc x) :=
  fn_pure (modes := (fdAt 110).ms) (outs := (fdAt 110).os) (results := (fdAt 110).rs) f110_i_readAt.O (c := c110) (keep := keepAt 110) (by kernel_rfl) (fun n => orcOf_cf _ _ n) (fun n => lpOk_of (bs := []) (by kernel_rfl) .nil) (fun _ => rfl) (fun _ _ => by kernel_rfl)
noncomputable def f110_i_readAt.w : FnW E := fnW 110 f110_i_readAt.P sg_ilf f110_i_readAt.A f110_i_readAt.F f110_i_readAt.ok

def f69_i_PeakBetween.l0 (n : Nat) : Nat → Nat → List T → Nat → List T → Int → Option (Nat × List T)
  | 0, _, _, _, _, _ => none
  | m + 1, n1, l2, n3, l4, i5 =>
    br (decide (i5 ≤ (IntKind.i64.wrap ((4 : Int) * (IntKind.i64.wrap (((n1 : Nat) : Int) - (1 : Int))))))) (
     bd (f110_i_readAt n (2 : Int) n1 l2 (fdiv FloatKind.f64 (FloatKind.nearest FloatKind.f64 i5) 4616189618054758400)) fun r6 =>
     let x7 : Nat := r6
     gd (Nat.ble (n3 + 1) 2147483648) (
     let n8 : Nat := (n3 + 1)
     let l9 : List T := (l4 ++ (setN (reps 1 [(T.flt FloatKind.f32 0)]) 0 [(T.flt FloatKind.f32 x7)]))
     f69_i_PeakBetween.l0 n m n1 l2 n8 l9 (IntKind.i64.wrap (i5 + (1 : Int))))) (
     some (n3, l4))
def f92_i_absolute : Nat → Nat → Option (Nat)
  | 0, _ => none
  | n + 1, x1 =>
    bd ((fltToFlt FloatKind.f32 x1 FloatKind.f64)) fun y2 =>
    bd (xAbs n y2) fun r3 =>
    let x4 : Nat := r3
    bd ((fltToFlt FloatKind.f64 x4 FloatKind.f32)) fun y5 =>
    some y5
def f92_i_absolute.P : List Arg := [⟨.val, ⟨false, [.leaf], [.flt .f32 0]⟩⟩]
def f92_i_absolute.A : RAlt (Nat) := .one ⟨[⟨false, [.leaf], [.flt .f32 0]⟩], [none]⟩ sg_f
def f92_i_absolute.F (n : Nat) (v : Nat) := f92_i_absolute n v
noncomputable def f92_i_absolute.O (n : Nat) : Orc := orcOf (E := E) [x115.w] [] n
theorem f92_i_absolute.ok : ∀ n v x, f92_i_absolute.F n v = some x → evalFn E n 92 (flAs f92_i_absolute.P (sg_f.pk v)) = some (f92_i_absolute.A.enc x) :=
  fn_pure (modes := (fdAt 92).ms) (outs := (fdAt 92).os) (results := (fdAt 92).rs) f92_i_absolute.O (c := c92) (keep := keepAt 92) (by kernel_rfl) (fun n => orcOf_cf _ _ n) (fun n => lpOk_of (bs := []) (by kernel_rfl) .nil) (fun _ => rfl) (fun _ _ => by kernel_rfl)
noncomputable def f92_i_absolute.w : FnW E := fnW 92 f92_i_absolute.P sg_f f92_i_absolute.A f92_i_absolute.F f92_i_absolute.ok

def f97_i_peakOf.l0 (n : Nat) : Nat → Nat → List T → Nat → Nat → List T → Int → Int → Option (Nat)
  | 0, _, _, _, _, _, _, _ => none
  | m + 1, n1, l2, x3, n4, l5, i6, i7 =>
    br (decide (i7 < i6)) (
     gd ((decide (((0 : Int) ≤ i7) ∧ (i7 < ((n4 : Nat) : Int)))) && (okAt [(CK.flt FloatKind.f32)] l5 (Int.toNat i7))) (
     let x8 : Nat := (fAt l5 (Int.toNat i7))
     bd (f92_i_absolute n x8) fun r9 =>
     let x10 : Nat := r9
     br (fgt FloatKind.f32 x10 x3) (
      f97_i_peakOf.l0 n m n1 l2 x10 n4 l5 i6 (IntKind.i64.wrap (i7 + (1 : Int)))) (
      f97_i_peakOf.l0 n m n1 l2 x3 n4 l5 i6 (IntKind.i64.wrap (i7 + (1 : Int)))))) (
     some x3)
def f97_i_peakOf : Nat → Nat → List T → Option (Nat)
  | 0, _, _ => none
  | n + 1, n1, l2 =>
    bd (f97_i_peakOf.l0 n n n1 l2 0 n1 l2 ((n1 : Nat) : Int) (0 : Int)) fun r3 =>
    let x4 : Nat := r3
    some x4
def sg_lflii : Sig (Nat × List T × Nat × Nat × List T × Int × Int) where
  pk := fun v => [.lst v.1 v.2.1, .flt v.2.2.1, .lst v.2.2.2.1 v.2.2.2.2.1, .int v.2.2.2.2.2.1, .int v.2.2.2.2.2.2]
  up := fun ls => match ls with
    | [.lst a0 a1, .flt a2, .lst a3 a4, .int a5, .int a6] => some (a0, a1, a2, a3, a4, a5, a6)
    | _ => none
  ok := by
    intro ls v h
    split at h
    · cases h; rfl
    · cases h

def f97_i_peakOf.l0.P : AS := ⟨[(0, .val false [.sl .shr [.leaf]] [.lst 0 []] [] 0), (3, .val false [.leaf] [.flt .f32 0] [] 0), (7, .val false [.sl .shr [.leaf]] [.lst 0 []] [] 0), (8, .val false [.leaf] [.int .i64 0] [] 0), (9, .val false [.leaf] [.int .i64 0] [] 0)], 0⟩
def f97_i_peakOf.l0.A : Alt (Nat) := .one (.exit 0) ⟨[(3, .val false [.leaf] [.flt .f32 0] [] 0)], 0⟩ sg_f
def f97_i_peakOf.l0.F (n m : Nat) (v : Nat × List T × Nat × Nat × List T × Int × Int) := f97_i_peakOf.l0 n m v.1 v.2.1 v.2.2.1 v.2.2.2.1 v.2.2.2.2.1 v.2.2.2.2.2.1 v.2.2.2.2.2.2
def f97_i_peakOf.l0.W (n : Nat) : LpW := .of 48 f97_i_peakOf.l0.P sg_lflii f97_i_peakOf.l0.A (f97_i_peakOf.l0.F n n)
def f97_i_peakOf.P : List Arg := [⟨.val, ⟨false, [.sl .shr [.leaf]], [.lst 0 []]⟩⟩]
def f97_i_peakOf.A : RAlt (Nat) := .one ⟨[⟨false, [.leaf], [.flt .f32 0]⟩], [none]⟩ sg_f
def f97_i_peakOf.F (n : Nat) (v : Nat × List T) := f97_i_peakOf n v.1 v.2
noncomputable def f97_i_peakOf.O (n : Nat) : Orc := orcOf (E := E) [f92_i_absolute.w] [f97_i_peakOf.l0.W n] n
theorem f97_i_peakOf.l0.ok (n : Nat) : LpOk (f97_i_peakOf.O n) E (evalFn E n) n (keepAt 97) (.loop (loopAt c97 0)) :=
  lp_pure f97_i_peakOf.l0.P sg_lflii f97_i_peakOf.l0.A (f97_i_peakOf.l0.F n) (orcOf_cf _ _ n) (lpOk_of (bs := []) (by kernel_rfl) .nil) (fun _ => rfl) (fun _ _ => by kernel_rfl) (fun _ _ _ => by kernel_rfl)
theorem f97_i_peakOf.ok : ∀ n v x, f97_i_peakOf.F n v = some x → evalFn E n 97 (flAs f97_i_peakOf.P (sg_l.pk v)) = some (f97_i_peakOf.A.enc x) :=
  fn_pure (modes := (fdAt 97).ms) (outs := (fdAt 97).os) (results := (fdAt 97).rs) f97_i_peakOf.O (c := c97) (keep := keepAt 97) (by kernel_rfl) (fun n => orcOf_cf _ _ n) (fun n => lpOk_of (bs := [loopAt c97 0]) (by kernel_rfl) (.cons (f97_i_peakOf.l0.ok n) .nil)) (fun _ => rfl) (fun _ _ => by kernel_rfl)
noncomputable def f97_i_peakOf.w : FnW E := fnW 97 f97_i_peakOf.P sg_l f97_i_peakOf.A f97_i_peakOf.F f97_i_peakOf.ok

def f69_i_PeakBetween : Nat → Nat → List T → Option (Nat × Bool)
  | 0, _, _ => none
  | n + 1, n1, l2 =>
    bd (f82_i_areSamples n n1 l2) fun r3 =>
    let b4 : Bool := r3
    br (!b4) (
     some (0, false)) (
     bd (f69_i_PeakBetween.l0 n n n1 l2 0 [] (0 : Int)) fun r5 =>
     let n6 : Nat := r5.1
     let l7 : List T := r5.2
     bd (f97_i_peakOf n n6 l7) fun r8 =>
     let x9 : Nat := r8
     some (x9, true))
def f69_i_PeakBetween.l0.P : AS := ⟨[(0, .val false [.sl .shr [.leaf]] [.lst 0 []] [] 0), (4, .val false [.sl .own [.leaf]] [.lst 0 []] [] 0), (5, .val false [.leaf] [.int .i64 0] [] 0)], 0⟩
def f69_i_PeakBetween.l0.A : Alt (Nat × List T) := .one (.exit 0) ⟨[(4, .val false [.sl .own [.leaf]] [.lst 0 []] [] 0)], 0⟩ sg_l
def f69_i_PeakBetween.l0.F (n m : Nat) (v : Nat × List T × Nat × List T × Int) := f69_i_PeakBetween.l0 n m v.1 v.2.1 v.2.2.1 v.2.2.2.1 v.2.2.2.2
def f69_i_PeakBetween.l0.W (n : Nat) : LpW := .of 80 f69_i_PeakBetween.l0.P sg_lli f69_i_PeakBetween.l0.A (f69_i_PeakBetween.l0.F n n)
def f69_i_PeakBetween.P : List Arg := [⟨.val, ⟨false, [.sl .shr [.leaf]], [.lst 0 []]⟩⟩]
def f69_i_PeakBetween.A : RAlt (Nat × Bool) := .one ⟨[⟨false, [.leaf], [.flt .f32 0]⟩, ⟨false, [.leaf], [.bool false]⟩], [none]⟩ sg_fb
def f69_i_PeakBetween.F (n : Nat) (v : Nat × List T) := f69_i_PeakBetween n v.1 v.2
noncomputable def f69_i_PeakBetween.O (n : Nat) : Orc := orcOf (E := E) [f82_i_areSamples.w, f110_i_readAt.w, f97_i_peakOf.w] [f69_i_PeakBetween.l0.W n] n
theorem f69_i_PeakBetween.l0.ok (n : Nat) : LpOk (f69_i_PeakBetween.O n) E (evalFn E n) n (keepAt 69) (.loop (loopAt c69 0)) :=
  lp_pure f69_i_PeakBetween.l0.P sg_lli f69_i_PeakBetween.l0.A (f69_i_PeakBetween.l0.F n) (orcOf_cf _ _ n) (lpOk_of (bs := []) (by kernel_rfl) .nil) (fun _ => rfl) (fun _ _ => by kernel_rfl) (fun _ _ _ => by kernel_rfl)
theorem f69_i_PeakBetween.ok : ∀ n v x, f69_i_PeakBetween.F n v = some x → evalFn E n 69 (flAs f69_i_PeakBetween.P (sg_l.pk v)) = some (f69_i_PeakBetween.A.enc x) :=
  fn_pure (modes := (fdAt 69).ms) (outs := (fdAt 69).os) (results := (fdAt 69).rs) f69_i_PeakBetween.O (c := c69) (keep := keepAt 69) (by kernel_rfl) (fun n => orcOf_cf _ _ n) (fun n => lpOk_of (bs := [loopAt c69 0]) (by kernel_rfl) (.cons (f69_i_PeakBetween.l0.ok n) .nil)) (fun _ => rfl) (fun _ _ => by kernel_rfl)
noncomputable def f69_i_PeakBetween.w : FnW E := fnW 69 f69_i_PeakBetween.P sg_l f69_i_PeakBetween.A f69_i_PeakBetween.F f69_i_PeakBetween.ok

def f70_l_sameFloat : Nat → Nat → Nat → Option (Bool)
  | 0, _, _ => none
  | n + 1, x1, x2 =>
    br (fne FloatKind.f64 x1 x1) (
     br (fne FloatKind.f64 x1 x1) (
      some (fne FloatKind.f64 x2 x2)) (
      some false)) (
     br (fne FloatKind.f64 x2 x2) (
      br (fne FloatKind.f64 x1 x1) (
       some (fne FloatKind.f64 x2 x2)) (
       some false)) (
      br (feq FloatKind.f64 x1 0) (
       br (feq FloatKind.f64 x2 0) (
        some ((fgt FloatKind.f64 (fdiv FloatKind.f64 4607182418800017408 x1) 0) == (fgt FloatKind.f64 (fdiv FloatKind.f64 4607182418800017408 x2) 0))) (
        some (feq FloatKind.f64 x1 x2))) (
       some (feq FloatKind.f64 x1 x2))))
def sg_ff : Sig (Nat × Nat) where
  pk := fun v => [.flt v.1, .flt v.2]
  up := fun ls => match ls with
    | [.flt a0, .flt a1] => some (a0, a1)
    | _ => none
  ok := by
    intro ls v h
    split at h
    · cases h; rfl
    · cases h

def f70_l_sameFloat.P : List Arg := [⟨.val, ⟨false, [.leaf], [.flt .f64 0]⟩⟩, ⟨.val, ⟨false, [.leaf], [.flt .f64 0]⟩⟩]
def f70_l_sameFloat.A : RAlt (Bool) := .one ⟨[⟨false, [.leaf], [.bool false]⟩], [none, none]⟩ sg_b
def f70_l_sameFloat.F (n : Nat) (v : Nat × Nat) := f70_l_sameFloat n v.1 v.2
noncomputable def f70_l_sameFloat.O (n : Nat) : Orc := orcOf (E := E) [] [] n
theorem f70_l_sameFloat.ok : ∀ n v x, f70_l_sameFloat.F n v = some x → evalFn E n 70 (flAs f70_l_sameFloat.P (sg_ff.pk v)) = some (f70_l_sameFloat.A.enc x) :=
  fn_pure (modes := (fdAt 70).ms) (outs := (fdAt 70).os) (results := (fdAt 70).rs) f70_l_sameFloat.O (c := c70) (keep := keepAt 70) (by kernel_rfl) (fun n => orcOf_cf _ _ n) (fun n => lpOk_of (bs := []) (by kernel_rfl) .nil) (fun _ => rfl) (fun _ _ => by kernel_rfl)
noncomputable def f70_l_sameFloat.w : FnW E := fnW 70 f70_l_sameFloat.P sg_ff f70_l_sameFloat.A f70_l_sameFloat.F f70_l_sameFloat.ok

def f53_l_eqFloat32S.l0 (n : Nat) : Nat → Nat → List T → Nat → List T → Int → Option ((Bool) ⊕ (Unit))
  | 0, _, _, _, _, _ => none
  | m + 1, n1, l2, n3, l4, i5 =>
    br (decide (i5 < ((n1 : Nat) : Int))) (
     gd ((decide (((0 : Int) ≤ i5) ∧ (i5 < ((n1 : Nat) : Int)))) && (okAt [(CK.flt FloatKind.f32)] l2 (Int.toNat i5))) (
     bd ((fltToFlt FloatKind.f32 (fAt l2 (Int.toNat i5)) FloatKind.f64)) fun y6 =>
     gd ((decide (((0 : Int) ≤ i5) ∧ (i5 < ((n3 : Nat) : Int)))) && (okAt [(CK.flt FloatKind.f32)] l4 (Int.toNat i5))) (
     bd ((fltToFlt FloatKind.f32 (fAt l4 (Int.toNat i5)) FloatKind.f64)) fun y7 =>
     bd (f70_l_sameFloat n y6 y7) fun r8 =>
     let b9 : Bool := r8
     br (!b9) (
      some (Sum.inl false)) (
      f53_l_eqFloat32S.l0 n m n1 l2 n3 l4 (IntKind.i64.wrap (i5 + (1 : Int))))))) (
     some (Sum.inr ()))
def f53_l_eqFloat32S : Nat → Nat → List T → Nat → List T → Option (Bool)
  | 0, _, _, _, _ => none
  | n + 1, n1, l2, n3, l4 =>
    br (((n1 : Nat) : Int) != ((n3 : Nat) : Int)) (
     some false) (
     bd (f53_l_eqFloat32S.l0 n n n1 l2 n3 l4 (0 : Int)) fun r5 =>
     sm r5 (fun u6 =>
      let b7 : Bool := u6
      some b7) (fun u8 =>
      some true))
def sg_ll : Sig (Nat × List T × Nat × List T) where
  pk := fun v => [.lst v.1 v.2.1, .lst v.2.2.1 v.2.2.2]
  up := fun ls => match ls with
    | [.lst a0 a1, .lst a2 a3] => some (a0, a1, a2, a3)
    | _ => none
  ok := by
    intro ls v h
    split at h
    · cases h; rfl
    · cases h

def sg : Sig (Unit) where
  pk := fun v => []
  up := fun ls => match ls with
    | [] => some ()
    | _ => none
  ok := by
    intro ls v h
    split at h
    · cases h; rfl
    · cases h

def f53_l_eqFloat32S.l0.P : AS := ⟨[(0, .val false [.sl .shr [.leaf]] [.lst 0 []] [] 0), (1, .val false [.sl .shr [.leaf]] [.lst 0 []] [] 0), (5, .val false [.leaf] [.int .i64 0] [] 0)], 0⟩
def f53_l_eqFloat32S.l0.A : Alt ((Bool) ⊕ (Unit)) := .or (.one .ret ⟨[(4, .val false [.leaf] [.bool false] [] 0)], 0⟩ sg_b) (.one (.exit 0) ⟨[(4, .dead)], 0⟩ sg)
def f53_l_eqFloat32S.l0.F (n m : Nat) (v : Nat × List T × Nat × List T × Int) := f53_l_eqFloat32S.l0 n m v.1 v.2.1 v.2.2.1 v.2.2.2.1 v.2.2.2.2
def f53_l_eqFloat32S.l0.W (n : Nat) : LpW := .of 64 f53_l_eqFloat32S.l0.P sg_lli f53_l_eqFloat32S.l0.A (f53_l_eqFloat32S.l0.F n n)
def f53_l_eqFloat32S.P : List Arg := [⟨.val, ⟨false, [.sl .shr [.leaf]], [.lst 0 []]⟩⟩, ⟨.val, ⟨false, [.sl .shr [.leaf]], [.lst 0 []]⟩⟩]
def f53_l_eqFloat32S.A : RAlt (Bool) := .one ⟨[⟨false, [.leaf], [.bool false]⟩], [none, none]⟩ sg_b
def f53_l_eqFloat32S.F (n : Nat) (v : Nat × List T × Nat × List T) := f53_l_eqFloat32S n v.1 v.2.1 v.2.2.1 v.2.2.2
noncomputable def f53_l_eqFloat32S.O (n : Nat) : Orc := orcOf (E := E) [f70_l_sameFloat.w] [f53_l_eqFloat32S.l0.W n] n
theorem f53_l_eqFloat32S.l0.ok (n : Nat) : LpOk (f53_l_eqFloat32S.O n) E (evalFn E n) n (keepAt 53) (.loop (loopAt c53 0)) :=
  lp_pure f53_l_eqFloat32S.l0.P sg_lli f53_l_eqFloat32S.l0.A (f53_l_eqFloat32S.l0.F n) (orcOf_cf _ _ n) (lpOk_of (bs := []) (by kernel_rfl) .nil) (fun _ => rfl) (fun _ _ => by kernel_rfl) (fun _ _ _ => by kernel_rfl)
theorem f53_l_eqFloat32S.ok : ∀ n v x, f53_l_eqFloat32S.F n v = some x → evalFn E n 53 (flAs f53_l_eqFloat32S.P (sg_ll.pk v)) = some (f53_l_eqFloat32S.A.enc x) :=
  fn_pure (modes := (fdAt 53).ms) (outs := (fdAt 53).os) (results := (fdAt 53).rs) f53_l_eqFloat32S.O (c := c53) (keep := keepAt 53) (by kernel_rfl) (fun n => orcOf_cf _ _ n) (fun n => lpOk_of (bs := [loopAt c53 0]) (by kernel_rfl) (.cons (f53_l_eqFloat32S.l0.ok n) .nil)) (fun _ => rfl) (fun _ _ => by kernel_rfl)
noncomputable def f53_l_eqFloat32S.w : FnW E := fnW 53 f53_l_eqFloat32S.P sg_ll f53_l_eqFloat32S.A f53_l_eqFloat32S.F f53_l_eqFloat32S.ok

def f14_l_FnExactPeakBetween : Nat → Nat → List T → Option (Bool)
  | 0, _, _ => none
  | n + 1, n1, l2 =>
    br (decide (((n1 : Nat) : Int) > (1048576 : Int))) (
     some true) (
     bd (f50_l_toFloat32S n n1 l2) fun r3 =>
     let n4 : Nat := r3.1
     let l5 : List T := r3.2
     bd (f68_s_PeakBetween n n4 l5) fun r6 =>
     let x7 : Nat := r6.1
     let b8 : Bool := r6.2
     bd (f50_l_toFloat32S n n1 l2) fun r9 =>
     let n10 : Nat := r9.1
     let l11 : List T := r9.2
     bd (f69_i_PeakBetween n n10 l11) fun r12 =>
     let x13 : Nat := r12.1
     let b14 : Bool := r12.2
     bd ((fltToFlt FloatKind.f32 x13 FloatKind.f64)) fun y15 =>
     bd ((fltToFlt FloatKind.f32 x7 FloatKind.f64)) fun y16 =>
     bd (f70_l_sameFloat n y15 y16) fun r17 =>
     let b18 : Bool := r17
     br (!b18) (
      some false) (
      br (!(b14 == b8)) (
       some false) (
       bd (f50_l_toFloat32S n n1 l2) fun r19 =>
       let n20 : Nat := r19.1
       let l21 : List T := r19.2
       bd (f53_l_eqFloat32S n n10 l11 n20 l21) fun r22 =>
       let b23 : Bool := r22
       br (!b23) (
        some false) (
        some true))))
def f14_l_FnExactPeakBetween.P : List Arg := [⟨.val, ⟨false, [.sl .shr [.leaf]], [.lst 0 []]⟩⟩]
def f14_l_FnExactPeakBetween.A : RAlt (Bool) := .one ⟨[⟨false, [.leaf], [.bool false]⟩], [none]⟩ sg_b
def f14_l_FnExactPeakBetween.F (n : Nat) (v : Nat × List T) := f14_l_FnExactPeakBetween n v.1 v.2
noncomputable def f14_l_FnExactPeakBetween.O (n : Nat) : Orc := orcOf (E := E) [f50_l_toFloat32S.w, f68_s_PeakBetween.w, f69_i_PeakBetween.w, f70_l_sameFloat.w, f53_l_eqFloat32S.w] [] n
theorem f14_l_FnExactPeakBetween.ok : ∀ n v x, f14_l_FnExactPeakBetween.F n v = some x → evalFn E n 14 (flAs f14_l_FnExactPeakBetween.P (sg_l.pk v)) = some (f14_l_FnExactPeakBetween.A.enc x) :=
  fn_pure (modes := (fdAt 14).ms) (outs := (fdAt 14).os) (results := (fdAt 14).rs) f14_l_FnExactPeakBetween.O (c := c14) (keep := keepAt 14) (by kernel_rfl) (fun n => orcOf_cf _ _ n) (fun n => lpOk_of (bs := []) (by kernel_rfl) .nil) (fun _ => rfl) (fun _ _ => by kernel_rfl)
noncomputable def f14_l_FnExactPeakBetween.w : FnW E := fnW 14 f14_l_FnExactPeakBetween.P sg_l f14_l_FnExactPeakBetween.A f14_l_FnExactPeakBetween.F f14_l_FnExactPeakBetween.ok
end Go.Proofs.Ythgenpcoelihiaa.D
end
section
/- FnExactPeakBetween, in plain Lean. -/
namespace Go.Proofs.Ythgenpcoelihiaa.D
open Go Go.Desk
set_option linter.unusedVariables false
/-- a copy in single precision -/
theorem copy_loop (n : Nat) (xs : List Nat) (hx : xs.length ≤ 1048576) : ∀ (j i m : Nat) (ys : List Nat), ys.length = xs.length → i + j = xs.length → j < m →
    f50_l_toFloat32S.l0 n m xs.length (fls .f32 xs) xs.length (fls .f32 (xs.take i ++ ys.drop i)) (i : Int) = some (xs.length, fls .f32 xs) := by
  intro j
  induction j with
  | zero =>
    intro i m ys hl hi hm
    obtain ⟨m, rfl⟩ : ∃ k, m = k + 1 := ⟨m - 1, by omega⟩
    rw [f50_l_toFloat32S.l0, nlt_dec (by omega)]
    simp only [br]
    rw [List.take_of_length_le (by omega), List.drop_eq_nil_of_le (by omega), List.append_nil]
  | succ j ih =>
    intro i m ys hl hi hm
    obtain ⟨m, rfl⟩ : ∃ k, m = k + 1 := ⟨m - 1, by omega⟩
    have hlt : i < xs.length := by omega
    rw [f50_l_toFloat32S.l0, lt_dec hlt, in_dec hlt, Int.toNat_natCast, okAt_fls hlt, wrap_succ (by omega)]
    have hlen : Nat.ble (i + 1) (fls .f32 (xs.take i ++ ys.drop i)).length = true := by
      rw [Nat.ble_eq, fls_length]; simp; omega
    rw [hlen]
    simp only [br, gd, Bool.and_self]
    rw [setN_one, fAt_fls, set_fls]
    have : xs.getD i 0 = xs[i] := by simp [List.getD, hlt]
    rw [this, take_set_drop hlt hl]
    exact ih (i + 1) m ys hl (by omega) (by omega)

theorem copied (n : Nat) (xs : List Nat) (hx : xs.length ≤ 1048576) (hn : xs.length < n) : f50_l_toFloat32S (n + 1) xs.length (fls .f32 xs) = some (xs.length, fls .f32 xs) := by
  rw [f50_l_toFloat32S]
  have h := copy_loop n xs hx xs.length 0 n (List.replicate xs.length 0) (by simp) (by omega) hn
  rw [List.take_zero, List.drop_zero, List.nil_append] at h
  have e : decide ((0 : Int) ≤ ((xs.length : Nat) : Int) ∧ ((xs.length : Nat) : Int) ≤ (2147483648 : Int)) = true := by simp; omega
  rw [reps_fls, e]
  simp only [gd]
  rw [show ((0 : Nat) : Int) = 0 from rfl] at h
  rw [h]; rfl

theorem same_self (n y : Nat) : f70_l_sameFloat (n + 1) y y = some true := by
  unfold f70_l_sameFloat
  simp only [fne_feq]
  cases h : feq FloatKind.f64 y y
  · simp [br]
  · cases h0 : feq FloatKind.f64 y 0 <;> simp [br]

/-- equal to itself -/
theorem eq_loop (n : Nat) (xs : List Nat) (hx : xs.length ≤ 2147483648) : ∀ (j i m : Nat), i + j = xs.length → j < m →
    f53_l_eqFloat32S.l0 (n + 1) m xs.length (fls .f32 xs) xs.length (fls .f32 xs) (i : Int) = some (Sum.inr ()) := by
  intro j
  induction j with
  | zero =>
    intro i m hi hm
    obtain ⟨m, rfl⟩ : ∃ k, m = k + 1 := ⟨m - 1, by omega⟩
    rw [f53_l_eqFloat32S.l0, nlt_dec (by omega)]
    rfl
  | succ j ih =>
    intro i m hi hm
    obtain ⟨m, rfl⟩ : ∃ k, m = k + 1 := ⟨m - 1, by omega⟩
    have hlt : i < xs.length := by omega
    rw [f53_l_eqFloat32S.l0, lt_dec hlt, in_dec hlt, Int.toNat_natCast, okAt_fls hlt, wrap_succ (by omega), fltToFlt_wide]
    simp only [br, gd, bd, Bool.and_self, same_self, Bool.not_true]
    exact ih (i + 1) m (by omega) (by omega)

theorem eq_self (n : Nat) (xs : List Nat) (hx : xs.length ≤ 2147483648) (hn : xs.length < n + 1) : f53_l_eqFloat32S (n + 2) xs.length (fls .f32 xs) xs.length (fls .f32 xs) = some true := by
  rw [f53_l_eqFloat32S]
  have h := eq_loop n xs hx xs.length 0 (n + 1) (by omega) hn
  rw [show ((0 : Nat) : Int) = 0 from rfl] at h
  rw [h, show (((xs.length : Nat) : Int) != ((xs.length : Nat) : Int)) = false by simp]
  rfl

theorem s_few (n k : Nat) (l : List T) : f98_s_l01Few (n + 1) k l = some (decide ((k : Int) ≤ 256)) := by rw [f98_s_l01Few]
theorem i_few (n k : Nat) (l : List T) : f82_i_areSamples (n + 1) k l = some (decide ((k : Int) ≤ 256)) := by rw [f82_i_areSamples]


theorem i_absolute (n : Nat) {x : Nat} (hg : W32 x) : f92_i_absolute (n + 2) x = some (size32 x) := by
  obtain ⟨h1, h2⟩ := abs_size hg.1 hg.2 n
  rw [f92_i_absolute, fltToFlt_wide]
  simp only [bd, h1, h2]

theorem s_sizeW (n : Nat) {x : Nat} (hg : W32 x) : f100_s_l04Size (n + 3) x = some (size32 x) := by
  have hx := hg.1
  rw [f100_s_l04Size]
  cases hn : isNaN .f32 x
  · obtain ⟨c1, c2, c3⟩ := neg_size hx hn
    cases hf : flt .f32 x 0
    · have hb : f79_s_l01Bits (n + 2) x = some (x : Int) := by
        rw [f79_s_l01Bits, fne_nan, hn]
        show bd (if isNaN .f32 x then none else some (x : Int)) _ = _
        rw [hn]
        show some (IntKind.i64.wrap (x : Int)) = _
        rw [wrap64] <;> omega
      rw [hb]
      simp only [br, bd]
      by_cases h : x = 2147483648
      · subst h
        rw [c3]; rfl
      · rw [show (((x : Nat) : Int) == 2147483648) = false by simp; omega]
        rcases c2 hf with h' | h'
        · exact absurd h' h
        · simp only; rw [← h']
    · simp only [br]; rw [c1 hf]
  · have hq : x = qnan .f32 := by rw [← hg.2, canon_nan hn]
    rw [flt_nan 0 hn, size_nan hn]
    have hb : f79_s_l01Bits (n + 2) x = some 2143289344 := by rw [f79_s_l01Bits, fne_nan, hn]; rfl
    rw [hb, hq]; rfl
theorem s_size (n : Nat) {x : Nat} (hg : GoodF .f32 x) : f100_s_l04Size (n + 3) x = some (size32 x) := s_sizeW n hg.w32
theorem i_size32 (n : Nat) {x : Nat} (hg : GoodF .f32 x) : f92_i_absolute (n + 2) x = some (size32 x) := by
  obtain ⟨h1, h2⟩ := abs_size hg.lt32 hg.1 n
  rw [f92_i_absolute, fltToFlt_wide]
  simp only [bd, h1, h2]

/-- the greatest size so far -/
def peakM (m : Nat) (xs : List Nat) : Nat := xs.foldl (fun m x => if fgt .f32 (size32 x) m then size32 x else m) m
theorem w32_peak : ∀ (xs : List Nat) (m : Nat), W32 m → (∀ x ∈ xs, W32 x) → W32 (peakM m xs)
  | [], m, h, _ => h
  | x :: xs, m, h, hx => by
    show W32 (peakM (if fgt .f32 (size32 x) m then size32 x else m) xs)
    refine w32_peak xs _ ?_ (fun y hy => hx y (by simp [hy]))
    split
    · exact w32_size (hx x (by simp))
    · exact h
theorem i_peak_loop (n : Nat) (N : Nat) (cs : List T) : ∀ (zs p : List Nat) (mx m : Nat), (∀ x ∈ zs, W32 x) → p.length + zs.length < 1048576 → zs.length < m →
    f97_i_peakOf.l0 (n + 2) m N cs mx (p ++ zs).length (fls .f32 (p ++ zs)) ((p ++ zs).length : Int) (p.length : Int) = some (peakM mx zs) := by
  intro zs
  induction zs with
  | nil =>
    intro p mx m _ _ hm
    obtain ⟨m, rfl⟩ : ∃ k, m = k + 1 := ⟨m - 1, by omega⟩
    rw [f97_i_peakOf.l0, lt_end]; rfl
  | cons z zs ih =>
    intro p mx m hz hp hm
    obtain ⟨m, rfl⟩ : ∃ k, m = k + 1 := ⟨m - 1, by omega⟩
    have ih' := fun mx => ih (p ++ [z]) mx m (fun x hx => hz x (by simp [hx])) (by simp at hp ⊢; omega) (by simp at hm; omega)
    simp only [List.append_assoc, List.cons_append, List.nil_append] at ih'
    rw [f97_i_peakOf.l0, lt_mid, in_mid, toNat_len, okAt_mid, fAt_mid]
    simp only [br_t, gd_t, Bool.and_self, i_absolute n (hz z (by simp)), bd_s, wrap_len (z := z) (show p.length < 4611686018427387904 by simp at hp; omega)]
    show _ = some (peakM (if fgt .f32 (size32 z) mx then size32 z else mx) zs)
    cases fgt .f32 (size32 z) mx
    · exact ih' mx
    · exact ih' _
theorem i_peak (n : Nat) (xs : List Nat) (hx : ∀ x ∈ xs, W32 x) (hl : xs.length < 1048576) (hn : xs.length < n) : f97_i_peakOf (n + 3) xs.length (fls .f32 xs) = some (peakM 0 xs) := by
  rw [f97_i_peakOf]
  have e := i_peak_loop n xs.length (fls .f32 xs) xs [] 0 (n + 2) hx (by simpa using hl) (by omega)
  have e : f97_i_peakOf.l0 (n + 2) (n + 2) xs.length (fls .f32 xs) 0 xs.length (fls .f32 xs) (xs.length : Int) 0 = some (peakM 0 xs) := e
  rw [e]; rfl
theorem s_peak_loop (n : Nat) : ∀ (zs p : List Nat) (mx m : Nat), (∀ x ∈ zs, W32 x) → p.length + zs.length < 1048576 → zs.length < m →
    f109_s_l10Peak.l0 (n + 3) m (p ++ zs).length (fls .f32 (p ++ zs)) mx (p.length : Int) = some (peakM mx zs) := by
  intro zs
  induction zs with
  | nil =>
    intro p mx m _ _ hm
    obtain ⟨m, rfl⟩ : ∃ k, m = k + 1 := ⟨m - 1, by omega⟩
    rw [f109_s_l10Peak.l0, lt_end]; rfl
  | cons z zs ih =>
    intro p mx m hz hp hm
    obtain ⟨m, rfl⟩ : ∃ k, m = k + 1 := ⟨m - 1, by omega⟩
    have ih' := fun mx => ih (p ++ [z]) mx m (fun x hx => hz x (by simp [hx])) (by simp at hp ⊢; omega) (by simp at hm; omega)
    simp only [List.append_assoc, List.cons_append, List.nil_append] at ih'
    rw [f109_s_l10Peak.l0, lt_mid, in_mid, toNat_len, okAt_mid, fAt_mid]
    simp only [br_t, gd_t, Bool.and_self, s_sizeW n (hz z (by simp)), bd_s, wrap_len (z := z) (show p.length < 4611686018427387904 by simp at hp; omega)]
    show _ = some (peakM (if fgt .f32 (size32 z) mx then size32 z else mx) zs)
    cases fgt .f32 (size32 z) mx
    · exact ih' mx
    · exact ih' _
theorem s_peak (n : Nat) (xs : List Nat) (hx : ∀ x ∈ xs, W32 x) (hl : xs.length < 1048576) (hn : xs.length < n) : f109_s_l10Peak (n + 4) xs.length (fls .f32 xs) = some (peakM 0 xs) := by
  rw [f109_s_l10Peak]
  have e := s_peak_loop n xs [] 0 (n + 3) hx (by simpa using hl) (by omega)
  have e : f109_s_l10Peak.l0 (n + 3) (n + 3) xs.length (fls .f32 xs) 0 0 = some (peakM 0 xs) := e
  rw [e]; rfl

def qk (k : Nat) : Nat := fdiv .f64 (FloatKind.f64.nearest (k : Int)) 4616189618054758400
def fk (k : Nat) : Nat := match fltToFlt .f64 (fsub .f64 (qk k) (FloatKind.f64.nearest ((k / 4 : Nat) : Int))) .f32 with
  | some y => y
  | none => 0
def placeOk (k : Nat) : Bool := (fltToInt .f64 (qk k) .i64 == some ((k / 4 : Nat) : Int)) && (integralF .down (qk k) == FloatKind.f64.nearest ((k / 4 : Nat) : Int)) && fge .f64 (qk k) 0 &&
  (fltToFlt .f64 (fsub .f64 (qk k) (FloatKind.f64.nearest ((k / 4 : Nat) : Int))) .f32 == some (fk k)) && (fltToInt .f64 (FloatKind.f64.nearest ((k / 4 : Nat) : Int)) .i64 == some ((k / 4 : Nat) : Int)) &&
  decide (key .f64 (qk k) ≤ key .f64 (qk (k + 1))) && !isNaN .f64 (qk k) && (feq .f64 (FloatKind.f64.nearest ((k / 4 : Nat) : Int)) 0 == decide (k / 4 = 0)) && (!(k % 4 == 0) || (qk k == FloatKind.f64.nearest ((k / 4 : Nat) : Int)))
theorem places : ∀ k, k < 1024 → placeOk k = true := by decide +kernel
theorem place (k : Nat) (h : k < 1024) : fltToInt .f64 (qk k) .i64 = some ((k / 4 : Nat) : Int) ∧ integralF .down (qk k) = FloatKind.f64.nearest ((k / 4 : Nat) : Int) ∧ fge .f64 (qk k) 0 = true ∧
    fltToFlt .f64 (fsub .f64 (qk k) (FloatKind.f64.nearest ((k / 4 : Nat) : Int))) .f32 = some (fk k) ∧ fltToInt .f64 (FloatKind.f64.nearest ((k / 4 : Nat) : Int)) .i64 = some ((k / 4 : Nat) : Int) ∧
    key .f64 (qk k) ≤ key .f64 (qk (k + 1)) ∧ isNaN .f64 (qk k) = false ∧ (feq .f64 (FloatKind.f64.nearest ((k / 4 : Nat) : Int)) 0 = decide (k / 4 = 0)) ∧ (k % 4 = 0 → qk k = FloatKind.f64.nearest ((k / 4 : Nat) : Int)) := by
  have := places k h
  unfold placeOk at this
  simp only [Bool.and_eq_true, beq_iff_eq, decide_eq_true_eq, Bool.not_eq_true', Bool.or_eq_true, Bool.not_eq_eq_eq_not, Bool.not_true, beq_eq_false_iff_ne] at this
  obtain ⟨⟨⟨⟨⟨⟨⟨⟨h1, h2⟩, h3⟩, h4⟩, h5⟩, h6⟩, h7⟩, h8⟩, h9⟩ := this
  exact ⟨h1, h2, h3, h4, h5, h6, h7, h8, fun h => h9.elim (fun e => absurd h e) id⟩
theorem key_up (j : Nat) : ∀ k, k + j < 1024 → key .f64 (qk k) ≤ key .f64 (qk (k + j)) := by
  induction j with
  | zero => intro k _; exact Int.le_refl _
  | succ j ih =>
    intro k h
    have h1 := ih k (by omega)
    have h2 := (place (k + j) (by omega)).2.2.2.2.2.1
    rw [show k + (j + 1) = k + j + 1 by omega]
    omega
theorem below {k N : Nat} (h : k ≤ 4 * N) (hN : N < 256) : fle .f64 (qk k) (FloatKind.f64.nearest (N : Int)) = true := by
  have h1 := key_up (4 * N - k) k (by omega)
  rw [show k + (4 * N - k) = 4 * N by omega] at h1
  have h2 := (place (4 * N) (by omega)).2.2.2.2.2.2.2.2 (by omega)
  rw [show 4 * N / 4 = N by omega] at h2
  have h3 := (place k (by omega)).2.2.2.2.2.2.1
  have h4 := (place (4 * N) (by omega)).2.2.2.2.2.2.1
  rw [fle_key]
  unfold num2
  rw [← h2, h3, h4]
  simpa using h1
/-- the sample next to a place -/
def sampM (xs : List Nat) (i : Int) : Nat := xs.getD (min (max 0 i) ((xs.length : Int) - 1)).toNat 0
theorem s_sample (n : Nat) (xs : List Nat) (i : Int) (h1 : 1 ≤ xs.length) (h2 : xs.length ≤ 256) : f119_s_l06Sample (n + 2) xs.length (fls .f32 xs) i = some (sampM xs i) := by
  have hmin : ∀ a b : Int, f123_s_l00Min (n + 1) a b = some (min a b) := by
    intro a b; rw [f123_s_l00Min]
    by_cases h : a < b
    · rw [decide_eq_true h, br_t, Int.min_eq_left (by omega)]
    · rw [decide_eq_false h, br_f, Int.min_eq_right (by omega)]
  have hmax : ∀ a b : Int, f122_s_l00Max (n + 1) a b = some (max a b) := by
    intro a b; rw [f122_s_l00Max]
    by_cases h : a > b
    · rw [decide_eq_true h, br_t, Int.max_eq_left (by omega)]
    · rw [decide_eq_false h, br_f, Int.max_eq_right (by omega)]
  rw [f119_s_l06Sample, hmin, show IntKind.i64.wrap ((xs.length : Int) - 1) = (xs.length : Int) - 1 by rw [wrap64] <;> omega]
  simp only [bd_s, hmax]
  obtain ⟨j, hj⟩ := Int.eq_ofNat_of_zero_le (show 0 ≤ max 0 (min i ((xs.length : Int) - 1)) by omega)
  have hjl : j < xs.length := by omega
  rw [hj, in_dec hjl, Int.toNat_natCast, okAt_fls hjl, fAt_fls]
  show some _ = some (sampM xs i)
  unfold sampM
  congr 2
  omega
theorem i_sample (n : Nat) (xs : List Nat) (y : Nat) (q : Nat) (c : Int) (hq : fltToInt .f64 y .i64 = some (q : Int)) (hq2 : q ≤ 1024) (hc : -1 ≤ c ∧ c ≤ 2) (h1 : 1 ≤ xs.length) (h2 : xs.length ≤ 256) : f121_i_readAt1 (n + 1) c xs.length (fls .f32 xs) y = some (sampM xs ((q : Int) + c)) := by
  rw [f121_i_readAt1, hq]
  simp only [bd_s]
  rw [show IntKind.i64.wrap ((xs.length : Int) - 1) = (xs.length : Int) - 1 by rw [wrap64] <;> omega, show IntKind.i64.wrap ((q : Int) + c) = (q : Int) + c by rw [wrap64] <;> omega]
  have e : (if (xs.length : Int) - 1 < (if (q : Int) + c > 0 then (q : Int) + c else 0) then (xs.length : Int) - 1 else (if (q : Int) + c > 0 then (q : Int) + c else 0)) = min (max 0 ((q : Int) + c)) ((xs.length : Int) - 1) := by
    split <;> split <;> omega
  rw [e]
  unfold sampM
  obtain ⟨j, hj⟩ := Int.eq_ofNat_of_zero_le (show 0 ≤ min (max 0 ((q : Int) + c)) ((xs.length : Int) - 1) by omega)
  have hjl : j < xs.length := by omega
  rw [hj, in_dec hjl, Int.toNat_natCast, okAt_fls hjl, fAt_fls]
  rfl
theorem reads (n n' k : Nat) (xs : List Nat) (h1 : 1 ≤ xs.length) (h2 : xs.length ≤ 256) (hk : k ≤ 4 * (xs.length - 1)) : ∃ r, W32 r ∧ f108_s_l06Read (n + 3) 2 xs.length (fls .f32 xs) (qk k) = some (r, true) ∧ f110_i_readAt (n' + 3) 2 xs.length (fls .f32 xs) (qk k) = some r := by
  obtain ⟨p1, p2, p3, p4, p5, p6, p7, p8, -⟩ := place k (by omega)
  have hb := below (k := k) (N := xs.length - 1) (by omega) (by omega)
  rw [f108_s_l06Read, f110_i_readAt, p3, show IntKind.i64.wrap ((xs.length : Int) - 1) = ((xs.length - 1 : Nat) : Int) by rw [wrap64] <;> omega, hb, p1]
  have f1 : f120_mathFloor (n' + 2) (qk k) = some (FloatKind.f64.nearest ((k / 4 : Nat) : Int)) := by
    rw [f120_mathFloor]
    show bd (some (integralF .down (qk k))) _ = _
    rw [p2]; rfl
  have w1 : IntKind.i64.wrap (((k / 4 : Nat) : Int) + 1) = ((k / 4 : Nat) : Int) + 1 := by rw [wrap64] <;> omega
  have w2 : IntKind.i64.wrap (((k / 4 : Nat) : Int) - 1) = ((k / 4 : Nat) : Int) + (-1) := by rw [wrap64] <;> omega
  have w3 : IntKind.i64.wrap (((k / 4 : Nat) : Int) + 2) = ((k / 4 : Nat) : Int) + 2 := by rw [wrap64] <;> omega
  have a0 : ((2 : Int) == 0) = false := by decide
  have a1 : ((2 : Int) == 1) = false := by decide
  have i0 : ∀ c : Int, -1 ≤ c ∧ c ≤ 2 → f121_i_readAt1 (n' + 2) c xs.length (fls .f32 xs) (FloatKind.f64.nearest ((k / 4 : Nat) : Int)) = some (sampM xs (((k / 4 : Nat) : Int) + c)) := fun c hc => i_sample (n' + 1) xs _ _ c p5 (by omega) hc h1 h2
  have e0 : ((k / 4 : Nat) : Int) + 0 = ((k / 4 : Nat) : Int) := Int.add_zero _
  simp only [br_t, Bool.not_true, br_f, bd_s, p4, s_sample n xs _ h1 h2, w1, w2, w3, a0, a1, f1, p8]
  refine ⟨_, w32_fadd _ _, rfl, ?_⟩
  cases hz : decide (k / 4 = 0)
  · simp only [br_f, p4, bd_s, i0 0 (by omega), i0 1 (by omega), i0 (-1) (by omega), i0 2 (by omega), e0]
  · have hz : k / 4 = 0 := by simpa using hz
    have n0 : FloatKind.f64.nearest ((0 : Nat) : Int) = 0 := by decide
    rw [hz, n0] at p4 i0
    rw [hz] at e0
    simp only [br_t, p4, bd_s, i0 0 (by omega), i0 1 (by omega), i0 (-1) (by omega), i0 2 (by omega), e0, hz]
theorem all_loop (n n' : Nat) (xs : List Nat) (h2 : xs.length ≤ 256) : ∀ (j i m m' : Nat) (acc : List Nat), 4 * (xs.length - 1) + 1 ≤ i + j → acc.length = i → i ≤ 2000 → (∀ x ∈ acc, W32 x) → j < m → j < m' →
    ∃ ys, (∀ x ∈ ys, W32 x) ∧ ys.length ≤ 2100 ∧ f68_s_PeakBetween.l0 (n + 3) m xs.length (fls .f32 xs) acc.length (fls .f32 acc) (i : Int) = some (ys.length, fls .f32 ys) ∧ f69_i_PeakBetween.l0 (n' + 3) m' xs.length (fls .f32 xs) acc.length (fls .f32 acc) (i : Int) = some (ys.length, fls .f32 ys) := by
  intro j
  induction j with
  | zero =>
    intro i m m' acc hj ha hi hw hm hm'
    obtain ⟨m, rfl⟩ : ∃ k, m = k + 1 := ⟨m - 1, by omega⟩
    obtain ⟨m', rfl⟩ : ∃ k, m' = k + 1 := ⟨m' - 1, by omega⟩
    have : decide ((i : Int) ≤ IntKind.i64.wrap (4 * IntKind.i64.wrap ((xs.length : Int) - 1))) = false := by
      rw [show IntKind.i64.wrap ((xs.length : Int) - 1) = (xs.length : Int) - 1 by rw [wrap64] <;> omega, show IntKind.i64.wrap (4 * ((xs.length : Int) - 1)) = 4 * ((xs.length : Int) - 1) by rw [wrap64] <;> omega]
      simp; omega
    refine ⟨acc, hw, by omega, ?_, ?_⟩
    · rw [f68_s_PeakBetween.l0, this]; rfl
    · rw [f69_i_PeakBetween.l0, this]; rfl
  | succ j ih =>
    intro i m m' acc hj ha hi hw hm hm'
    obtain ⟨m, rfl⟩ : ∃ k, m = k + 1 := ⟨m - 1, by omega⟩
    obtain ⟨m', rfl⟩ : ∃ k, m' = k + 1 := ⟨m' - 1, by omega⟩
    rw [f68_s_PeakBetween.l0, f69_i_PeakBetween.l0, show IntKind.i64.wrap ((xs.length : Int) - 1) = (xs.length : Int) - 1 by rw [wrap64] <;> omega, show IntKind.i64.wrap (4 * ((xs.length : Int) - 1)) = 4 * ((xs.length : Int) - 1) by rw [wrap64] <;> omega]
    by_cases hc : (i : Int) ≤ 4 * ((xs.length : Int) - 1)
    case neg => rw [decide_eq_false hc]; exact ⟨acc, hw, by omega, rfl, rfl⟩
    rw [decide_eq_true hc, decide_eq_true (show (xs.length : Int) > 0 by omega)]
    obtain ⟨r, wr, e1, e2⟩ := reads n n' i xs (by omega) h2 (by omega)
    unfold qk at e1 e2
    simp only [br_t, e1, e2, bd_s, push_ok (show acc.length < 2147483648 by omega), gd_t, push_fls, wrap_succ (show i < 9223372036854775807 by omega)]
    rw [push_len (z := r)]
    exact ih (i + 1) m m' (acc ++ [r]) (by omega) (by simp; omega) (by omega) (by
      intro x hx; simp only [List.mem_append, List.mem_singleton] at hx
      rcases hx with hx | rfl
      · exact hw x hx
      · exact wr) (by omega) (by omega)
theorem both (n n' : Nat) (xs : List Nat) (hn : 3000 < n) (hn' : 3000 < n') : ∃ r c, f68_s_PeakBetween (n + 5) xs.length (fls .f32 xs) = some (r, c) ∧ f69_i_PeakBetween (n' + 5) xs.length (fls .f32 xs) = some (r, c) := by
  rw [f68_s_PeakBetween, f69_i_PeakBetween]
  simp only [s_few, i_few, bd_s, br_not]
  by_cases h0 : (xs.length : Int) ≤ 256
  case neg => rw [decide_eq_false h0]; exact ⟨0, false, rfl, rfl⟩
  rw [decide_eq_true h0]
  obtain ⟨ys, wy, hy, e1, e2⟩ := all_loop (n + 1) (n' + 1) xs (by omega) 1100 0 (n + 4) (n' + 4) [] (by omega) rfl (by omega) (by simp) (by omega) (by omega)
  have e1 : f68_s_PeakBetween.l0 (n + 4) (n + 4) xs.length (fls .f32 xs) 0 (reps 0 [(T.flt FloatKind.f32 0)]) 0 = some (ys.length, fls .f32 ys) := e1
  have e2 : f69_i_PeakBetween.l0 (n' + 4) (n' + 4) xs.length (fls .f32 xs) 0 [] 0 = some (ys.length, fls .f32 ys) := e2
  simp only [br_t, e1, e2, bd_s, s_peak n ys wy (by omega) (by omega), i_peak (n' + 1) ys wy (by omega) (by omega)]
  exact ⟨_, _, rfl, rfl⟩
theorem exact_ (xs : List Nat) (hg : ∀ x ∈ xs, GoodF .f32 x) (hl : xs.length ≤ maxLen) : ∃ n, f14_l_FnExactPeakBetween n xs.length (fls .f32 xs) = some true := by
  refine ⟨xs.length + 6000, ?_⟩
  rw [f14_l_FnExactPeakBetween]
  cases h : decide (((xs.length : Nat) : Int) > (1048576 : Int))
  · have hx : xs.length ≤ 1048576 := by simp at h; omega
    obtain ⟨y, c, h1, h2⟩ := both (xs.length + 5994) (xs.length + 5994) xs (by omega) (by omega)
    simp only [br, copied (xs.length + 5998) xs hx (by omega), bd, h1, h2, fltToFlt_wide, same_self, beq_self_eq_true, Bool.not_true, eq_self (xs.length + 5997) xs (by omega) (by omega)]
  · rfl
theorem law14 : ∀ args, LawArgs E Try.f14.params.toList args → ∃ N os, evalFn E N 14 args = some ⟨[⟨false, [.leaf], [.bool true]⟩], os⟩ := by
  intro args h0
  have hp : Try.f14.params.toList = [33] := by kernel_rfl
  rw [hp] at h0
  obtain ⟨ts0, r0, rfl, hw0, h1⟩ := h0.cons_inv (d := ⟨false, 1, 24, [.sl .own [.leaf]], [.lst 0 []], .slc 24⟩) (by kernel_rfl)
  obtain ⟨n0, cs0, rfl, gl0, hs0⟩ := hw0.slc_inv (e := 24) (d := ⟨false, 1, 24, [.sl .own [.leaf]], [.lst 0 []], .slc 24⟩) (by kernel_rfl) rfl
  obtain ⟨a0, rfl, rfl, g0⟩ := hs0.flts (k := .f32) (d := ⟨false, 1, 4, [.leaf], [.flt .f32 0], .flt .f32⟩) (by kernel_rfl) rfl
  obtain rfl := h1.nil_inv
  obtain ⟨N, hN⟩ := exact_ a0 g0 gl0
  exact ⟨N, _, f14_l_FnExactPeakBetween.ok N (a0.length, fls .f32 a0) true hN⟩


end Go.Proofs.Ythgenpcoelihiaa.D
end
section
/- FnExactPeakBetween holds: for every input the law returns true, and its arguments read as before. -/
namespace Go.Proofs.Ythgenpcoelihiaa.fnExactPeakBetween
open Go Go.ChangeShapes Go.WideShapes Go.ChangeAt Go.RowKit Go.Desk
set_option linter.unusedVariables false
theorem own : ownKnob Try.prog.godebug = none := by kernel_rfl
theorem laidOut : laidOutB Try.prog = true := by kernel_rfl
set_option maxRecDepth 100000 in
theorem lifted (os : Os) (started : os.Started) (H : Type) (enc : TypeId × Value → H) :
    ReturnsInHanded {} Try.checked os 14 .any (Rows.fnExactPeakBetweenSpec.pre6 enc Try.prog Try.f14 Rows.fnExactPeakBetweenRow.domain false) (Rows.fnExactPeakBetweenSpec.post enc Try.prog Try.f14 false true false false) := by
  refine returnsInHanded_of_change (C := Try.checked) own started (by kernel_rfl) Try.func14
    (ChangeSpec.witness6 (enc := enc) (C := Try.checked) false ⟨#[], #[.slice none 0 0], []⟩ 8 (by kernel_rfl) (by kernel_rfl) (by kernel_rfl) (by kernel_rfl)) ?_
  intro W base args ds gs before hval hW hcnd _
  exact law_contract (c := D.c14) Try.checked.mixed D.tysOk D.fnOk Try.func14 (by kernel_rfl) (by kernel_rfl) (by kernel_rfl) Try.underlying4 rfl
    (fun ds h => by
      rw [show Try.f14.params.toList.length = 1 by kernel_rfl] at h
      match ds, h with
      | [_], _ => rfl)
    laidOut (N := 8) (by kernel_rfl) (by kernel_rfl) D.law14 hval hW
theorem over : Rows.fnExactPeakBetweenRow.holds Try.pinned (OpenSpec.ofChange Rows.fnExactPeakBetweenSpec) :=
  OpenClaim.holds_of_wide 14 Try.f14 rfl rfl rfl rfl rfl rfl rfl ⟨rfl, rfl, rfl, rfl, rfl⟩ rfl rfl rfl rfl rfl (by kernel_rfl) Try.func14 (by kernel_rfl)
    (of_decide_eq_true (by kernel_rfl)) (by unfold Func.isWrapper; first | (rw [if_pos (by decide +kernel)]; kernel_rfl) | (rw [if_neg (by decide +kernel)]; exact ⟨rfl, rfl⟩))
    (fun os started H enc _ => lifted os started H enc)
theorem proved : Rows.FnExactPeakBetweenSaid := over
#print axioms proved
end Go.Proofs.Ythgenpcoelihiaa.fnExactPeakBetween
namespace Go.Proofs.Ythgenpcoelihiaa
/-- The row, under a short name, for the claim. -/
theorem fnExactPeakBetween_holds : Rows.FnExactPeakBetweenSaid := fnExactPeakBetween.proved
end Go.Proofs.Ythgenpcoelihiaa
end
