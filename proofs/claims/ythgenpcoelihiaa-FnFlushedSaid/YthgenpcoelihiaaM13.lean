/- FnFlushed holds: for every input the law returns true, and its arguments read as before. -/
import Derived.Test.YthgenpcoelihiaaChecked
import Derived.Test.YthgenpcoelihiaaDeskE
import Derived.KernelRfl
import Derived.Test.YthgenpcoelihiaaRows
import Derived.WalkKit
import Derived.ProofKit
import Derived.OpenShut
import Derived.ShutString
import Derived.ChangeOld
import Derived.Below
import Derived.SizedLaws
set_option linter.all false
section
/- What math.Abs owes: tables of its own, and the reading of its code. -/
namespace Go.Proofs.Ythgenpcoelihiaa.DA
open Go Go.Desk
def bodyOf (f : Func) : Code := match f.body with
  | some c => c
  | none => .skip
def tyTab : List (Nat × TD) := [
  (28, ⟨false, 1, 8, [.leaf], [.flt .f64 0], .flt .f64⟩),
  (103, ⟨false, 1, 8, [.leaf], [.int .u64 0], .int .u64⟩)]
noncomputable def c115 : Code := bodyOf Try.f115
noncomputable def fnTab : List (Nat × FD) := [
  (115, .code c115 [.val] [] [(2, none)] [(0, [0]), (1, [0])]),
  (117, .ext (pF64frombits)),
  (118, .ext (pF64bits))]
noncomputable def E : Env := ⟨fun t => lookT tyTab t, lookF fnTab⟩
noncomputable def fdAt (n : Nat) : FD := match lookF fnTab n with
  | some d => d
  | none => .ext fun _ => none
noncomputable def keepAt (n : Nat) : List (Nat × List Nat) := match lookF fnTab n with
  | some d => d.keep
  | none => []
theorem tysOk : TysOk Try.prog E := tysOk_of (l := tyTab) (fun _ => rfl) (by kernel_rfl)
theorem ft115 : FnTab Try.prog E 115 (fdAt 115) := fnTab_code (c := c115) (modes := (fdAt 115).ms) (outs := (fdAt 115).os) (results := (fdAt 115).rs) (keep := (fdAt 115).keep) Try.func115 (by kernel_rfl) (by kernel_rfl) (by kernel_rfl)
theorem ft117 : FnTab Try.prog E 117 (.ext (pF64frombits)) := ext_pF64frombits Try.func117 (by kernel_rfl) (by kernel_rfl) (by kernel_rfl) (by kernel_rfl)
theorem ft118 : FnTab Try.prog E 118 (.ext (pF64bits)) := ext_pF64bits Try.func118 (by kernel_rfl) (by kernel_rfl) (by kernel_rfl) (by kernel_rfl)
theorem allFns : AllFns Try.prog E fnTab := .cons ft115 (.cons ft117 (.cons ft118 (.nil)))
theorem fnOk : ∀ f fd, E.fn f = some fd → FnTab Try.prog E f fd := fnTab_of (l := fnTab) (fun _ => rfl) allFns
end Go.Proofs.Ythgenpcoelihiaa.DA
section
namespace Go.Proofs.Ythgenpcoelihiaa.DA
open Go Go.Desk
set_option linter.unusedVariables false
noncomputable def x117.w : FnW E := xF64frombits.w 117 (by kernel_rfl)

noncomputable def x118.w : FnW E := xF64bits.w 118 (by kernel_rfl)

def f115_mathAbs : Nat → Nat → Option (Nat)
  | 0, _ => none
  | n + 1, x1 =>
    bd (xF64bits n x1) fun r2 =>
    let i3 : Int := r2
    bd (xF64frombits n (intBits BinOp.andNot IntKind.u64 i3 (9223372036854775808 : Int))) fun r4 =>
    let x5 : Nat := r4
    some x5
def sg_f : Sig (Nat) where
  pk := fun v => [.flt v]
  up := fun ls => match ls with
    | [.flt a0] => some a0
    | _ => none
  ok := by
    intro ls v h
    split at h
    · cases h; rfl
    · cases h

def f115_mathAbs.P : List Arg := [⟨.val, ⟨false, [.leaf], [.flt .f64 0]⟩⟩]
def f115_mathAbs.A : RAlt (Nat) := .one ⟨[⟨false, [.leaf], [.flt .f64 0]⟩], [none]⟩ sg_f
def f115_mathAbs.F (n : Nat) (v : Nat) := f115_mathAbs n v
noncomputable def f115_mathAbs.O (n : Nat) : Orc := orcOf (E := E) [x117.w, x118.w] [] n
theorem f115_mathAbs.ok : ∀ n v x, f115_mathAbs.F n v = some x → evalFn E n 115 (flAs f115_mathAbs.P (sg_f.pk v)) = some (f115_mathAbs.A.enc x) :=
  fn_pure (modes := (fdAt 115).ms) (outs := (fdAt 115).os) (results := (fdAt 115).rs) f115_mathAbs.O (c := c115) (keep := keepAt 115) (by kernel_rfl) (fun n => orcOf_cf _ _ n) (fun n => lpOk_of (bs := []) (by kernel_rfl) .nil) (fun _ => rfl) (fun _ _ => by kernel_rfl)
noncomputable def f115_mathAbs.w : FnW E := fnW 115 f115_mathAbs.P sg_f f115_mathAbs.A f115_mathAbs.F f115_mathAbs.ok
end Go.Proofs.Ythgenpcoelihiaa.DA
end
namespace Go.Proofs.Ythgenpcoelihiaa.DA
open Go Go.Desk
theorem absOk : ExtOk Try.prog 115 pAbs := ext_pAbs_of Try.checked.mixed tysOk fnOk
  (fun x hN hx => ⟨3, f115_mathAbs.ok 3 x _ (abs_plain 1 hN)⟩)
  ⟨5, by kernel_rfl⟩
end Go.Proofs.Ythgenpcoelihiaa.DA
end
section
/- What math.Copysign owes: tables of its own, and the reading of its code. -/
namespace Go.Proofs.Ythgenpcoelihiaa.DC
open Go Go.Desk
def bodyOf (f : Func) : Code := match f.body with
  | some c => c
  | none => .skip
def tyTab : List (Nat × TD) := [
  (28, ⟨false, 1, 8, [.leaf], [.flt .f64 0], .flt .f64⟩),
  (103, ⟨false, 1, 8, [.leaf], [.int .u64 0], .int .u64⟩)]
noncomputable def c106 : Code := bodyOf Try.f106
noncomputable def fnTab : List (Nat × FD) := [
  (106, .code c106 [.val, .val] [] [(4, none)] [(0, [0, 1]), (1, [0, 1])]),
  (117, .ext (pF64frombits)),
  (118, .ext (pF64bits))]
noncomputable def E : Env := ⟨fun t => lookT tyTab t, lookF fnTab⟩
noncomputable def fdAt (n : Nat) : FD := match lookF fnTab n with
  | some d => d
  | none => .ext fun _ => none
noncomputable def keepAt (n : Nat) : List (Nat × List Nat) := match lookF fnTab n with
  | some d => d.keep
  | none => []
theorem tysOk : TysOk Try.prog E := tysOk_of (l := tyTab) (fun _ => rfl) (by kernel_rfl)
theorem ft106 : FnTab Try.prog E 106 (fdAt 106) := fnTab_code (c := c106) (modes := (fdAt 106).ms) (outs := (fdAt 106).os) (results := (fdAt 106).rs) (keep := (fdAt 106).keep) Try.func106 (by kernel_rfl) (by kernel_rfl) (by kernel_rfl)
theorem ft117 : FnTab Try.prog E 117 (.ext (pF64frombits)) := ext_pF64frombits Try.func117 (by kernel_rfl) (by kernel_rfl) (by kernel_rfl) (by kernel_rfl)
theorem ft118 : FnTab Try.prog E 118 (.ext (pF64bits)) := ext_pF64bits Try.func118 (by kernel_rfl) (by kernel_rfl) (by kernel_rfl) (by kernel_rfl)
theorem allFns : AllFns Try.prog E fnTab := .cons ft106 (.cons ft117 (.cons ft118 (.nil)))
theorem fnOk : ∀ f fd, E.fn f = some fd → FnTab Try.prog E f fd := fnTab_of (l := fnTab) (fun _ => rfl) allFns
end Go.Proofs.Ythgenpcoelihiaa.DC
section
namespace Go.Proofs.Ythgenpcoelihiaa.DC
open Go Go.Desk
set_option linter.unusedVariables false
noncomputable def x117.w : FnW E := xF64frombits.w 117 (by kernel_rfl)

noncomputable def x118.w : FnW E := xF64bits.w 118 (by kernel_rfl)

def f106_mathCopysign : Nat → Nat → Nat → Option (Nat)
  | 0, _, _ => none
  | n + 1, x1, x2 =>
    bd (xF64bits n x1) fun r3 =>
    let i4 : Int := r3
    bd (xF64bits n x2) fun r5 =>
    let i6 : Int := r5
    bd (xF64frombits n (intBits BinOp.or IntKind.u64 (intBits BinOp.andNot IntKind.u64 i4 (9223372036854775808 : Int)) (intBits BinOp.and IntKind.u64 i6 (9223372036854775808 : Int)))) fun r7 =>
    let x8 : Nat := r7
    some x8
def sg_ff : Sig (Nat × Nat) where
  pk := fun v => [.flt v.1, .flt v.2]
  up := fun ls => match ls with
    | [.flt a0, .flt a1] => some (a0, a1)
    | _ => none
  ok := by
    intro ls v h
    split at h
    · cases h; rfl
    · cases h

def sg_f : Sig (Nat) where
  pk := fun v => [.flt v]
  up := fun ls => match ls with
    | [.flt a0] => some a0
    | _ => none
  ok := by
    intro ls v h
    split at h
    · cases h; rfl
    · cases h

def f106_mathCopysign.P : List Arg := [⟨.val, ⟨false, [.leaf], [.flt .f64 0]⟩⟩, ⟨.val, ⟨false, [.leaf], [.flt .f64 0]⟩⟩]
def f106_mathCopysign.A : RAlt (Nat) := .one ⟨[⟨false, [.leaf], [.flt .f64 0]⟩], [none, none]⟩ sg_f
def f106_mathCopysign.F (n : Nat) (v : Nat × Nat) := f106_mathCopysign n v.1 v.2
noncomputable def f106_mathCopysign.O (n : Nat) : Orc := orcOf (E := E) [x117.w, x118.w] [] n
theorem f106_mathCopysign.ok : ∀ n v x, f106_mathCopysign.F n v = some x → evalFn E n 106 (flAs f106_mathCopysign.P (sg_ff.pk v)) = some (f106_mathCopysign.A.enc x) :=
  fn_pure (modes := (fdAt 106).ms) (outs := (fdAt 106).os) (results := (fdAt 106).rs) f106_mathCopysign.O (c := c106) (keep := keepAt 106) (by kernel_rfl) (fun n => orcOf_cf _ _ n) (fun n => lpOk_of (bs := []) (by kernel_rfl) .nil) (fun _ => rfl) (fun _ _ => by kernel_rfl)
noncomputable def f106_mathCopysign.w : FnW E := fnW 106 f106_mathCopysign.P sg_ff f106_mathCopysign.A f106_mathCopysign.F f106_mathCopysign.ok
end Go.Proofs.Ythgenpcoelihiaa.DC
end
namespace Go.Proofs.Ythgenpcoelihiaa.DC
open Go Go.Desk
theorem signOk : ExtOk Try.prog 106 pCopysign := ext_pCopysign_of Try.checked.mixed tysOk fnOk
  (fun x s hx hs hx' hs' => ⟨3, f106_mathCopysign.ok 3 (x, s) _ (copysign_plain 1 hx hs hx' hs')⟩)
end Go.Proofs.Ythgenpcoelihiaa.DC
end
section
/- The tables of the reading: types and functions of the translation, with what is kept at each region's beginning (written by a program of this workplace). -/
namespace Go.Proofs.Ythgenpcoelihiaa.D
open Go Go.Desk
def bodyOf (f : Func) : Code := match f.body with
  | some c => c
  | none => .skip
def tyTab : List (Nat × TD) := [
  (2, ⟨false, 1, 8, [.leaf], [.int .i64 0], .int .i64⟩),
  (3, ⟨false, 1, 8, [.leaf], [.int .i64 0], .int .i64⟩),
  (4, ⟨false, 1, 1, [.leaf], [.bool false], .bool⟩),
  (5, ⟨false, 1, 1, [.leaf], [.int .u8 0], .int .u8⟩),
  (22, ⟨false, 1, 24, [.sl .own [.leaf]], [.lst 0 []], .slc 5⟩),
  (24, ⟨false, 1, 4, [.leaf], [.flt .f32 0], .flt .f32⟩),
  (28, ⟨false, 1, 8, [.leaf], [.flt .f64 0], .flt .f64⟩),
  (33, ⟨false, 1, 24, [.sl .own [.leaf]], [.lst 0 []], .slc 24⟩),
  (75, ⟨false, 1, 8, [.leaf], [.nil], .ptr 105⟩),
  (87, ⟨false, 1, 4, [.leaf], [.int .u32 0], .int .u32⟩),
  (96, ⟨false, 1, 24, [.sl .own [.leaf]], [.lst 0 []], .slc 2⟩),
  (103, ⟨false, 1, 8, [.leaf], [.int .u64 0], .int .u64⟩),
  (105, ⟨true, 3, 40, [.sl .own [.leaf], .leaf, .leaf], [.lst 0 [], .int .i64 0, .int .u64 0], .st [(0, 22), (1, 3), (2, 103)]⟩),
  (116, ⟨false, 1, 8, [.leaf], [.int .u64 0], .int .u64⟩)]
noncomputable def c13 : Code := bodyOf Try.f13
noncomputable def c15 : Code := bodyOf Try.f15
noncomputable def c16 : Code := bodyOf Try.f16
noncomputable def c17 : Code := bodyOf Try.f17
noncomputable def c21 : Code := bodyOf Try.f21
noncomputable def c48 : Code := bodyOf Try.f48
noncomputable def c57 : Code := bodyOf Try.f57
noncomputable def c58 : Code := bodyOf Try.f58
noncomputable def c63 : Code := bodyOf Try.f63
noncomputable def c64 : Code := bodyOf Try.f64
noncomputable def c65 : Code := bodyOf Try.f65
noncomputable def c66 : Code := bodyOf Try.f66
noncomputable def c67 : Code := bodyOf Try.f67
noncomputable def c71 : Code := bodyOf Try.f71
noncomputable def c72 : Code := bodyOf Try.f72
noncomputable def c73 : Code := bodyOf Try.f73
noncomputable def c74 : Code := bodyOf Try.f74
noncomputable def c75 : Code := bodyOf Try.f75
noncomputable def c76 : Code := bodyOf Try.f76
noncomputable def c79 : Code := bodyOf Try.f79
noncomputable def c80 : Code := bodyOf Try.f80
noncomputable def c82 : Code := bodyOf Try.f82
noncomputable def c91 : Code := bodyOf Try.f91
noncomputable def c92 : Code := bodyOf Try.f92
noncomputable def c97 : Code := bodyOf Try.f97
noncomputable def c99 : Code := bodyOf Try.f99
noncomputable def c107 : Code := bodyOf Try.f107
noncomputable def c111 : Code := bodyOf Try.f111
noncomputable def c112 : Code := bodyOf Try.f112
noncomputable def fnTab : List (Nat × FD) := [
  (13, .code c13 [.val, .val] [] [(4, none)] [(0, [0, 1]), (1, [0, 1]), (2, []), (3, [0, 1]), (4, [0, 1, 5]), (5, [0, 1, 5, 6]), (6, [0, 1, 5, 6, 7, 8]), (7, []), (8, [0, 1, 5]), (9, [0, 1, 5, 9]), (10, [1, 5, 9, 10]), (11, [5, 9, 10, 11]), (12, [5, 9, 10, 11, 12, 13]), (13, [5, 9, 10, 11, 12, 13, 14, 15]), (14, [5, 9, 10, 11, 12, 13, 14, 15, 16, 17]), (15, []), (16, [5, 9, 10, 11, 12, 14, 16]), (17, [5, 9, 10, 11, 12, 14, 16, 18]), (18, [5, 9, 10, 11, 12, 14, 16, 18, 19]), (19, [5, 9, 10, 11, 12, 14, 16, 18, 19]), (20, [5, 9, 10, 11, 12, 14, 16, 18, 19]), (21, []), (22, [5, 9, 10, 11, 12, 14, 16, 18, 19]), (23, [18]), (1000018, [4, 18])]),
  (15, .code c15 [.val, .val] [] [(4, none)] [(0, [0, 1]), (1, [0, 1])]),
  (16, .code c16 [.val] [] [(2, none)] [(0, [0]), (1, [0]), (2, [3]), (3, [3]), (4, [3, 4]), (5, [3])]),
  (17, .code c17 [.val, .val] [] [(4, none)] [(0, [0, 1]), (1, [0, 1])]),
  (21, .code c21 [.val] [] [(2, none)] [(0, [0]), (1, [0])]),
  (48, .code c48 [.val] [] [(2, none), (3, none)] [(0, [0]), (1, [0]), (2, []), (3, [0])]),
  (57, .code c57 [.val, .val, .val] [] [(6, none)] [(0, [0, 1, 2]), (1, [0, 1, 2]), (2, []), (3, [0, 1, 2]), (4, [0, 1, 2]), (5, [1, 2])]),
  (58, .code c58 [.val, .val] [] [(4, none)] [(0, [0, 1]), (1, [0, 1]), (2, [1, 5])]),
  (63, .code c63 [.val] [] [(2, none)] [(0, [0]), (1, [0]), (2, [0]), (3, [0])]),
  (64, .code c64 [.val] [] [(2, none), (3, none)] [(0, [0]), (1, [0]), (2, []), (3, [0])]),
  (65, .code c65 [.val] [] [(2, none)] [(0, [0]), (1, [0])]),
  (66, .code c66 [.val, .val] [] [(4, none), (5, none)] [(0, [0, 1]), (1, [0, 1]), (2, []), (3, [0, 1]), (4, [0, 1, 6]), (5, [0, 1, 6, 19, 20]), (6, [0, 1, 6, 19, 20]), (7, [0, 1, 6, 7, 19, 20]), (8, [0, 1, 6, 19, 20]), (9, [6]), (1000005, [6])]),
  (67, .code c67 [.val, .val] [] [(4, none), (5, none)] [(0, [0, 1]), (1, [0, 1]), (2, []), (3, [0, 1])]),
  (71, .code c71 [.val] [] [(2, none)] [(0, [0]), (1, [0])]),
  (72, .code c72 [.iop, .val] [0] [(4, none)] [(0, [0, 1]), (1, [0, 1])]),
  (73, .code c73 [.iop, .val] [0] [(4, none)] [(0, [0, 1]), (1, [0, 1]), (2, [0]), (3, [0, 1]), (4, [0, 1, 5]), (5, [0, 1, 5]), (6, [0, 1, 5])]),
  (74, .code c74 [.val] [] [(2, none)] [(0, [0]), (1, [0])]),
  (75, .code c75 [.iop] [0] [(2, none)] [(0, [0]), (1, [0]), (2, [0]), (3, [0]), (4, [0, 10]), (5, [0]), (6, [0, 10]), (7, [0]), (8, [0, 3]), (9, [0, 10]), (10, [0]), (11, [0])]),
  (76, .code c76 [.val, .val] [] [(4, none)] [(0, [0, 1]), (1, [0, 1])]),
  (79, .code c79 [.val] [] [(2, none)] [(0, [0]), (1, [0]), (2, []), (3, [0])]),
  (80, .code c80 [.iop] [0] [(2, none)] [(0, [0]), (1, [0]), (2, [0, 3]), (3, [0, 3]), (4, [0, 3])]),
  (82, .code c82 [.val] [] [(2, none)] [(0, [0]), (1, [0])]),
  (87, .ext (pF32bits)),
  (91, .code c91 [.iop, .val] [0] [(4, none)] [(0, [0, 1]), (1, [0, 1]), (2, [0, 1, 5]), (3, [0, 1, 5, 6]), (4, [0, 1, 5, 6]), (5, [0, 1, 5, 6]), (6, [0, 1, 5, 6]), (7, [0, 1, 5, 6]), (8, [0, 5]), (1000003, [0, 5])]),
  (92, .code c92 [.val] [] [(2, none)] [(0, [0]), (1, [0])]),
  (93, .ext (pF32frombits)),
  (97, .code c97 [.val] [] [(2, none)] [(0, [0]), (1, [0]), (2, [0, 3]), (3, [0, 3, 7, 8, 9]), (4, [0, 3, 7, 8, 9]), (5, [0, 3, 5, 7, 8, 9]), (6, [0, 3, 6, 7, 8, 9]), (7, [0, 6, 7, 8, 9]), (8, [0, 3, 7, 8, 9]), (9, [3]), (1000003, [3])]),
  (99, .code c99 [.val, .val, .val] [] [(6, none)] [(0, [0, 1, 2]), (1, [0, 1, 2])]),
  (106, .ext (pCopysign)),
  (107, .code c107 [.val, .val] [] [(4, none)] [(0, [0, 1]), (1, [0, 1]), (2, [0, 1, 5]), (3, [0, 1, 5, 8, 9, 10]), (4, [0, 1, 5, 8, 9, 10]), (5, [0, 1, 5, 7, 8, 9, 10]), (6, [0, 1, 5, 8, 9, 10]), (7, [5]), (1000003, [5])]),
  (111, .code c111 [.iop] [0] [(2, none)] [(0, [0]), (1, [0]), (2, [0, 3]), (3, [0]), (4, [0, 3]), (5, [0, 3]), (6, [0, 3]), (7, [0, 3]), (8, [0])]),
  (112, .code c112 [.iop, .io] [0, 1] [(4, none)] [(0, [0, 1]), (1, [0, 1])]),
  (115, .ext (pAbs))]
noncomputable def E : Env := ⟨fun t => lookT tyTab t, lookF fnTab⟩
noncomputable def fdAt (n : Nat) : FD := match lookF fnTab n with
  | some d => d
  | none => .ext fun _ => none
noncomputable def keepAt (n : Nat) : List (Nat × List Nat) := match lookF fnTab n with
  | some d => d.keep
  | none => []
theorem tysOk : TysOk Try.prog E := tysOk_of (l := tyTab) (fun _ => rfl) (by kernel_rfl)
theorem ft13 : FnTab Try.prog E 13 (fdAt 13) := fnTab_code (c := c13) (modes := (fdAt 13).ms) (outs := (fdAt 13).os) (results := (fdAt 13).rs) (keep := (fdAt 13).keep) Try.func13 (by kernel_rfl) (by kernel_rfl) (by kernel_rfl)
theorem ft15 : FnTab Try.prog E 15 (fdAt 15) := fnTab_code (c := c15) (modes := (fdAt 15).ms) (outs := (fdAt 15).os) (results := (fdAt 15).rs) (keep := (fdAt 15).keep) Try.func15 (by kernel_rfl) (by kernel_rfl) (by kernel_rfl)
theorem ft16 : FnTab Try.prog E 16 (fdAt 16) := fnTab_code (c := c16) (modes := (fdAt 16).ms) (outs := (fdAt 16).os) (results := (fdAt 16).rs) (keep := (fdAt 16).keep) Try.func16 (by kernel_rfl) (by kernel_rfl) (by kernel_rfl)
theorem ft17 : FnTab Try.prog E 17 (fdAt 17) := fnTab_code (c := c17) (modes := (fdAt 17).ms) (outs := (fdAt 17).os) (results := (fdAt 17).rs) (keep := (fdAt 17).keep) Try.func17 (by kernel_rfl) (by kernel_rfl) (by kernel_rfl)
theorem ft21 : FnTab Try.prog E 21 (fdAt 21) := fnTab_code (c := c21) (modes := (fdAt 21).ms) (outs := (fdAt 21).os) (results := (fdAt 21).rs) (keep := (fdAt 21).keep) Try.func21 (by kernel_rfl) (by kernel_rfl) (by kernel_rfl)
theorem ft48 : FnTab Try.prog E 48 (fdAt 48) := fnTab_code (c := c48) (modes := (fdAt 48).ms) (outs := (fdAt 48).os) (results := (fdAt 48).rs) (keep := (fdAt 48).keep) Try.func48 (by kernel_rfl) (by kernel_rfl) (by kernel_rfl)
theorem ft57 : FnTab Try.prog E 57 (fdAt 57) := fnTab_code (c := c57) (modes := (fdAt 57).ms) (outs := (fdAt 57).os) (results := (fdAt 57).rs) (keep := (fdAt 57).keep) Try.func57 (by kernel_rfl) (by kernel_rfl) (by kernel_rfl)
theorem ft58 : FnTab Try.prog E 58 (fdAt 58) := fnTab_code (c := c58) (modes := (fdAt 58).ms) (outs := (fdAt 58).os) (results := (fdAt 58).rs) (keep := (fdAt 58).keep) Try.func58 (by kernel_rfl) (by kernel_rfl) (by kernel_rfl)
theorem ft63 : FnTab Try.prog E 63 (fdAt 63) := fnTab_code (c := c63) (modes := (fdAt 63).ms) (outs := (fdAt 63).os) (results := (fdAt 63).rs) (keep := (fdAt 63).keep) Try.func63 (by kernel_rfl) (by kernel_rfl) (by kernel_rfl)
theorem ft64 : FnTab Try.prog E 64 (fdAt 64) := fnTab_code (c := c64) (modes := (fdAt 64).ms) (outs := (fdAt 64).os) (results := (fdAt 64).rs) (keep := (fdAt 64).keep) Try.func64 (by kernel_rfl) (by kernel_rfl) (by kernel_rfl)
theorem ft65 : FnTab Try.prog E 65 (fdAt 65) := fnTab_code (c := c65) (modes := (fdAt 65).ms) (outs := (fdAt 65).os) (results := (fdAt 65).rs) (keep := (fdAt 65).keep) Try.func65 (by kernel_rfl) (by kernel_rfl) (by kernel_rfl)
theorem ft66 : FnTab Try.prog E 66 (fdAt 66) := fnTab_code (c := c66) (modes := (fdAt 66).ms) (outs := (fdAt 66).os) (results := (fdAt 66).rs) (keep := (fdAt 66).keep) Try.func66 (by kernel_rfl) (by kernel_rfl) (by kernel_rfl)
theorem ft67 : FnTab Try.prog E 67 (fdAt 67) := fnTab_code (c := c67) (modes := (fdAt 67).ms) (outs := (fdAt 67).os) (results := (fdAt 67).rs) (keep := (fdAt 67).keep) Try.func67 (by kernel_rfl) (by kernel_rfl) (by kernel_rfl)
theorem ft71 : FnTab Try.prog E 71 (fdAt 71) := fnTab_code (c := c71) (modes := (fdAt 71).ms) (outs := (fdAt 71).os) (results := (fdAt 71).rs) (keep := (fdAt 71).keep) Try.func71 (by kernel_rfl) (by kernel_rfl) (by kernel_rfl)
theorem ft72 : FnTab Try.prog E 72 (fdAt 72) := fnTab_code (c := c72) (modes := (fdAt 72).ms) (outs := (fdAt 72).os) (results := (fdAt 72).rs) (keep := (fdAt 72).keep) Try.func72 (by kernel_rfl) (by kernel_rfl) (by kernel_rfl)
theorem ft73 : FnTab Try.prog E 73 (fdAt 73) := fnTab_code (c := c73) (modes := (fdAt 73).ms) (outs := (fdAt 73).os) (results := (fdAt 73).rs) (keep := (fdAt 73).keep) Try.func73 (by kernel_rfl) (by kernel_rfl) (by kernel_rfl)
theorem ft74 : FnTab Try.prog E 74 (fdAt 74) := fnTab_code (c := c74) (modes := (fdAt 74).ms) (outs := (fdAt 74).os) (results := (fdAt 74).rs) (keep := (fdAt 74).keep) Try.func74 (by kernel_rfl) (by kernel_rfl) (by kernel_rfl)
theorem ft75 : FnTab Try.prog E 75 (fdAt 75) := fnTab_code (c := c75) (modes := (fdAt 75).ms) (outs := (fdAt 75).os) (results := (fdAt 75).rs) (keep := (fdAt 75).keep) Try.func75 (by kernel_rfl) (by kernel_rfl) (by kernel_rfl)
theorem ft76 : FnTab Try.prog E 76 (fdAt 76) := fnTab_code (c := c76) (modes := (fdAt 76).ms) (outs := (fdAt 76).os) (results := (fdAt 76).rs) (keep := (fdAt 76).keep) Try.func76 (by kernel_rfl) (by kernel_rfl) (by kernel_rfl)
theorem ft79 : FnTab Try.prog E 79 (fdAt 79) := fnTab_code (c := c79) (modes := (fdAt 79).ms) (outs := (fdAt 79).os) (results := (fdAt 79).rs) (keep := (fdAt 79).keep) Try.func79 (by kernel_rfl) (by kernel_rfl) (by kernel_rfl)
theorem ft80 : FnTab Try.prog E 80 (fdAt 80) := fnTab_code (c := c80) (modes := (fdAt 80).ms) (outs := (fdAt 80).os) (results := (fdAt 80).rs) (keep := (fdAt 80).keep) Try.func80 (by kernel_rfl) (by kernel_rfl) (by kernel_rfl)
theorem ft82 : FnTab Try.prog E 82 (fdAt 82) := fnTab_code (c := c82) (modes := (fdAt 82).ms) (outs := (fdAt 82).os) (results := (fdAt 82).rs) (keep := (fdAt 82).keep) Try.func82 (by kernel_rfl) (by kernel_rfl) (by kernel_rfl)
theorem ft87 : FnTab Try.prog E 87 (.ext (pF32bits)) := ext_pF32bits Try.func87 (by kernel_rfl) (by kernel_rfl) (by kernel_rfl) (by kernel_rfl)
theorem ft91 : FnTab Try.prog E 91 (fdAt 91) := fnTab_code (c := c91) (modes := (fdAt 91).ms) (outs := (fdAt 91).os) (results := (fdAt 91).rs) (keep := (fdAt 91).keep) Try.func91 (by kernel_rfl) (by kernel_rfl) (by kernel_rfl)
theorem ft92 : FnTab Try.prog E 92 (fdAt 92) := fnTab_code (c := c92) (modes := (fdAt 92).ms) (outs := (fdAt 92).os) (results := (fdAt 92).rs) (keep := (fdAt 92).keep) Try.func92 (by kernel_rfl) (by kernel_rfl) (by kernel_rfl)
theorem ft93 : FnTab Try.prog E 93 (.ext (pF32frombits)) := ext_pF32frombits Try.func93 (by kernel_rfl) (by kernel_rfl) (by kernel_rfl) (by kernel_rfl)
theorem ft97 : FnTab Try.prog E 97 (fdAt 97) := fnTab_code (c := c97) (modes := (fdAt 97).ms) (outs := (fdAt 97).os) (results := (fdAt 97).rs) (keep := (fdAt 97).keep) Try.func97 (by kernel_rfl) (by kernel_rfl) (by kernel_rfl)
theorem ft99 : FnTab Try.prog E 99 (fdAt 99) := fnTab_code (c := c99) (modes := (fdAt 99).ms) (outs := (fdAt 99).os) (results := (fdAt 99).rs) (keep := (fdAt 99).keep) Try.func99 (by kernel_rfl) (by kernel_rfl) (by kernel_rfl)
theorem ft106 : FnTab Try.prog E 106 (.ext (pCopysign)) := DC.signOk
theorem ft107 : FnTab Try.prog E 107 (fdAt 107) := fnTab_code (c := c107) (modes := (fdAt 107).ms) (outs := (fdAt 107).os) (results := (fdAt 107).rs) (keep := (fdAt 107).keep) Try.func107 (by kernel_rfl) (by kernel_rfl) (by kernel_rfl)
theorem ft111 : FnTab Try.prog E 111 (fdAt 111) := fnTab_code (c := c111) (modes := (fdAt 111).ms) (outs := (fdAt 111).os) (results := (fdAt 111).rs) (keep := (fdAt 111).keep) Try.func111 (by kernel_rfl) (by kernel_rfl) (by kernel_rfl)
theorem ft112 : FnTab Try.prog E 112 (fdAt 112) := fnTab_code (c := c112) (modes := (fdAt 112).ms) (outs := (fdAt 112).os) (results := (fdAt 112).rs) (keep := (fdAt 112).keep) Try.func112 (by kernel_rfl) (by kernel_rfl) (by kernel_rfl)
theorem ft115 : FnTab Try.prog E 115 (.ext (pAbs)) := DA.absOk
theorem allFns : AllFns Try.prog E fnTab := .cons ft13 (.cons ft15 (.cons ft16 (.cons ft17 (.cons ft21 (.cons ft48 (.cons ft57 (.cons ft58 (.cons ft63 (.cons ft64 (.cons ft65 (.cons ft66 (.cons ft67 (.cons ft71 (.cons ft72 (.cons ft73 (.cons ft74 (.cons ft75 (.cons ft76 (.cons ft79 (.cons ft80 (.cons ft82 (.cons ft87 (.cons ft91 (.cons ft92 (.cons ft93 (.cons ft97 (.cons ft99 (.cons ft106 (.cons ft107 (.cons ft111 (.cons ft112 (.cons ft115 (.nil)))))))))))))))))))))))))))))))))
theorem fnOk : ∀ f fd, E.fn f = some fd → FnTab Try.prog E f fd := fnTab_of (l := fnTab) (fun _ => rfl) allFns
end Go.Proofs.Ythgenpcoelihiaa.D
end
section
/- Plain functions for the law's Go functions, each tied to the reading by the kernel (printed by a program of this workplace). -/
namespace Go.Proofs.Ythgenpcoelihiaa.D
open Go Go.Desk
set_option linter.unusedVariables false
noncomputable def x93.w : FnW E := xF32frombits.w 93 (by kernel_rfl)

noncomputable def x87.w : FnW E := xF32bits.w 87 (by kernel_rfl)

noncomputable def x115.w : FnW E := xAbs.w 115 (by kernel_rfl)

noncomputable def x106.w : FnW E := xCopysign.w 106 (by kernel_rfl)

def f15_l_b10Long : Nat → Nat → List T → Nat → List T → Option (Bool)
  | 0, _, _, _, _ => none
  | n + 1, n1, l2, n3, l4 =>
    br (decide (((n1 : Nat) : Int) > (1048576 : Int))) (
     some true) (
     some (decide (((n3 : Nat) : Int) > (1048576 : Int))))
def sg_ll : Sig (Nat × List T × Nat × List T) where
  pk := fun v => [.lst v.1 v.2.1, .lst v.2.2.1 v.2.2.2]
  up := fun ls => match ls with
    | [.lst a0 a1, .lst a2 a3] => some (a0, a1, a2, a3)
    | _ => none
  ok := by
    intro ls v h
    split at h
    · cases h; rfl
    · cases h

def sg_b : Sig (Bool) where
  pk := fun v => [.bool v]
  up := fun ls => match ls with
    | [.bool a0] => some a0
    | _ => none
  ok := by
    intro ls v h
    split at h
    · cases h; rfl
    · cases h

def f15_l_b10Long.P : List Arg := [⟨.val, ⟨false, [.sl .shr [.leaf]], [.lst 0 []]⟩⟩, ⟨.val, ⟨false, [.sl .shr [.leaf]], [.lst 0 []]⟩⟩]
def f15_l_b10Long.A : RAlt (Bool) := .one ⟨[⟨false, [.leaf], [.bool false]⟩], [none, none]⟩ sg_b
def f15_l_b10Long.F (n : Nat) (v : Nat × List T × Nat × List T) := f15_l_b10Long n v.1 v.2.1 v.2.2.1 v.2.2.2
noncomputable def f15_l_b10Long.O (n : Nat) : Orc := orcOf (E := E) [] [] n
theorem f15_l_b10Long.ok : ∀ n v x, f15_l_b10Long.F n v = some x → evalFn E n 15 (flAs f15_l_b10Long.P (sg_ll.pk v)) = some (f15_l_b10Long.A.enc x) :=
  fn_pure (modes := (fdAt 15).ms) (outs := (fdAt 15).os) (results := (fdAt 15).rs) f15_l_b10Long.O (c := c15) (keep := keepAt 15) (by kernel_rfl) (fun n => orcOf_cf _ _ n) (fun n => lpOk_of (bs := []) (by kernel_rfl) .nil) (fun _ => rfl) (fun _ _ => by kernel_rfl)
noncomputable def f15_l_b10Long.w : FnW E := fnW 15 f15_l_b10Long.P sg_ll f15_l_b10Long.A f15_l_b10Long.F f15_l_b10Long.ok

def f71_s_l00From : Nat → Nat → List T → Option (Nat × List T × Int × Int)
  | 0, _, _ => none
  | n + 1, n1, l2 =>
    some (n1, l2, (0 : Int), (0 : Int))
def sg_l : Sig (Nat × List T) where
  pk := fun v => [.lst v.1 v.2]
  up := fun ls => match ls with
    | [.lst a0 a1] => some (a0, a1)
    | _ => none
  ok := by
    intro ls v h
    split at h
    · cases h; rfl
    · cases h

def sg_lii : Sig (Nat × List T × Int × Int) where
  pk := fun v => [.lst v.1 v.2.1, .int v.2.2.1, .int v.2.2.2]
  up := fun ls => match ls with
    | [.lst a0 a1, .int a2, .int a3] => some (a0, a1, a2, a3)
    | _ => none
  ok := by
    intro ls v h
    split at h
    · cases h; rfl
    · cases h

def f71_s_l00From.P : List Arg := [⟨.val, ⟨false, [.sl .shr [.leaf]], [.lst 0 []]⟩⟩]
def f71_s_l00From.A : RAlt (Nat × List T × Int × Int) := .one ⟨[⟨false, [.rf .own [.sl .shr [.leaf], .leaf, .leaf]], [.ref [.lst 0 [], .int .i64 0, .int .u64 0]]⟩], [none]⟩ sg_lii
def f71_s_l00From.F (n : Nat) (v : Nat × List T) := f71_s_l00From n v.1 v.2
noncomputable def f71_s_l00From.O (n : Nat) : Orc := orcOf (E := E) [] [] n
theorem f71_s_l00From.ok : ∀ n v x, f71_s_l00From.F n v = some x → evalFn E n 71 (flAs f71_s_l00From.P (sg_l.pk v)) = some (f71_s_l00From.A.enc x) :=
  fn_pure (modes := (fdAt 71).ms) (outs := (fdAt 71).os) (results := (fdAt 71).rs) f71_s_l00From.O (c := c71) (keep := keepAt 71) (by kernel_rfl) (fun n => orcOf_cf _ _ n) (fun n => lpOk_of (bs := []) (by kernel_rfl) .nil) (fun _ => rfl) (fun _ _ => by kernel_rfl)
noncomputable def f71_s_l00From.w : FnW E := fnW 71 f71_s_l00From.P sg_l f71_s_l00From.A f71_s_l00From.F f71_s_l00From.ok

def f111_s_l00Srcnext : Nat → Nat → List T → Int → Int → Option (Int × Nat × List T × Int × Int)
  | 0, _, _, _, _ => none
  | n + 1, n1, l2, i3, i4 =>
    br (decide (i3 < ((n1 : Nat) : Int))) (
     gd ((decide (((0 : Int) ≤ i3) ∧ (i3 < ((n1 : Nat) : Int)))) && (okAt [(CK.int IntKind.u8)] l2 (Int.toNat i3))) (
     let i5 : Int := (IntKind.i64.wrap (iAt l2 (Int.toNat i3)))
     let i6 : Int := (IntKind.i64.wrap (i3 + (1 : Int)))
     let i7 : Int := (IntKind.u64.wrap ((IntKind.u64.wrap ((IntKind.u64.wrap (i4 * (6364136223846793005 : Int))) + (IntKind.u64.wrap i5))) + (1442695040888963407 : Int)))
     br (decide (i6 ≤ ((n1 : Nat) : Int))) (
      some (i5, n1, l2, i6, i7)) (
      some ((IntKind.i64.wrap (intBits BinOp.and IntKind.u64 (Int.fdiv i7 (1099511627776 : Int)) (255 : Int))), n1, l2, i6, i7)))) (
     let i8 : Int := (IntKind.i64.wrap (i3 + (1 : Int)))
     let i9 : Int := (IntKind.u64.wrap ((IntKind.u64.wrap ((IntKind.u64.wrap (i4 * (6364136223846793005 : Int))) + (0 : Int))) + (1442695040888963407 : Int)))
     br (decide (i8 ≤ ((n1 : Nat) : Int))) (
      some ((0 : Int), n1, l2, i8, i9)) (
      some ((IntKind.i64.wrap (intBits BinOp.and IntKind.u64 (Int.fdiv i9 (1099511627776 : Int)) (255 : Int))), n1, l2, i8, i9)))
def sg_ilii : Sig (Int × Nat × List T × Int × Int) where
  pk := fun v => [.int v.1, .lst v.2.1 v.2.2.1, .int v.2.2.2.1, .int v.2.2.2.2]
  up := fun ls => match ls with
    | [.int a0, .lst a1 a2, .int a3, .int a4] => some (a0, a1, a2, a3, a4)
    | _ => none
  ok := by
    intro ls v h
    split at h
    · cases h; rfl
    · cases h

def f111_s_l00Srcnext.P : List Arg := [⟨.iop, ⟨false, [.rf .own [.sl .shr [.leaf], .leaf, .leaf]], [.ref [.lst 0 [], .int .i64 0, .int .u64 0]]⟩⟩]
def f111_s_l00Srcnext.A : RAlt (Int × Nat × List T × Int × Int) := .one ⟨[⟨false, [.leaf], [.int .i64 0]⟩], [some ⟨false, [.rf .own [.sl .shr [.leaf], .leaf, .leaf]], [.ref [.lst 0 [], .int .i64 0, .int .u64 0]]⟩]⟩ sg_ilii
def f111_s_l00Srcnext.F (n : Nat) (v : Nat × List T × Int × Int) := f111_s_l00Srcnext n v.1 v.2.1 v.2.2.1 v.2.2.2
noncomputable def f111_s_l00Srcnext.O (n : Nat) : Orc := orcOf (E := E) [] [] n
theorem f111_s_l00Srcnext.ok : ∀ n v x, f111_s_l00Srcnext.F n v = some x → evalFn E n 111 (flAs f111_s_l00Srcnext.P (sg_lii.pk v)) = some (f111_s_l00Srcnext.A.enc x) :=
  fn_pure (modes := (fdAt 111).ms) (outs := (fdAt 111).os) (results := (fdAt 111).rs) f111_s_l00Srcnext.O (c := c111) (keep := keepAt 111) (by kernel_rfl) (fun n => orcOf_cf _ _ n) (fun n => lpOk_of (bs := []) (by kernel_rfl) .nil) (fun _ => rfl) (fun _ _ => by kernel_rfl)
noncomputable def f111_s_l00Srcnext.w : FnW E := fnW 111 f111_s_l00Srcnext.P sg_lii f111_s_l00Srcnext.A f111_s_l00Srcnext.F f111_s_l00Srcnext.ok

def f73_s_l00Srcpick : Nat → Nat → List T → Int → Int → Int → Option (Int × Nat × List T × Int × Int)
  | 0, _, _, _, _, _ => none
  | n + 1, n1, l2, i3, i4, i5 =>
    br (decide (i5 ≤ (1 : Int))) (
     some ((0 : Int), n1, l2, i3, i4)) (
     bd (f111_s_l00Srcnext n n1 l2 i3 i4) fun r6 =>
     let i7 : Int := r6.1
     let n8 : Nat := r6.2.1
     let l9 : List T := r6.2.2.1
     let i10 : Int := r6.2.2.2.1
     let i11 : Int := r6.2.2.2.2
     br (decide (i5 > (200 : Int))) (
      bd (f111_s_l00Srcnext n n8 l9 i10 i11) fun r12 =>
      let i13 : Int := r12.1
      let n14 : Nat := r12.2.1
      let l15 : List T := r12.2.2.1
      let i16 : Int := r12.2.2.2.1
      let i17 : Int := r12.2.2.2.2
      let i18 : Int := (IntKind.i64.wrap ((IntKind.i64.wrap (i7 * (256 : Int))) + i13))
      gd (!(decide (i5 = (0 : Int)))) (
      some ((Int.tmod i18 i5), n14, l15, i16, i17))) (
      gd (!(decide (i5 = (0 : Int)))) (
      some ((Int.tmod i7 i5), n8, l9, i10, i11))))
def sg_liii : Sig (Nat × List T × Int × Int × Int) where
  pk := fun v => [.lst v.1 v.2.1, .int v.2.2.1, .int v.2.2.2.1, .int v.2.2.2.2]
  up := fun ls => match ls with
    | [.lst a0 a1, .int a2, .int a3, .int a4] => some (a0, a1, a2, a3, a4)
    | _ => none
  ok := by
    intro ls v h
    split at h
    · cases h; rfl
    · cases h

def f73_s_l00Srcpick.P : List Arg := [⟨.iop, ⟨false, [.rf .own [.sl .shr [.leaf], .leaf, .leaf]], [.ref [.lst 0 [], .int .i64 0, .int .u64 0]]⟩⟩, ⟨.val, ⟨false, [.leaf], [.int .i64 0]⟩⟩]
def f73_s_l00Srcpick.A : RAlt (Int × Nat × List T × Int × Int) := .one ⟨[⟨false, [.leaf], [.int .i64 0]⟩], [some ⟨false, [.rf .own [.sl .shr [.leaf], .leaf, .leaf]], [.ref [.lst 0 [], .int .i64 0, .int .u64 0]]⟩, none]⟩ sg_ilii
def f73_s_l00Srcpick.F (n : Nat) (v : Nat × List T × Int × Int × Int) := f73_s_l00Srcpick n v.1 v.2.1 v.2.2.1 v.2.2.2.1 v.2.2.2.2
noncomputable def f73_s_l00Srcpick.O (n : Nat) : Orc := orcOf (E := E) [f111_s_l00Srcnext.w] [] n
theorem f73_s_l00Srcpick.ok : ∀ n v x, f73_s_l00Srcpick.F n v = some x → evalFn E n 73 (flAs f73_s_l00Srcpick.P (sg_liii.pk v)) = some (f73_s_l00Srcpick.A.enc x) :=
  fn_pure (modes := (fdAt 73).ms) (outs := (fdAt 73).os) (results := (fdAt 73).rs) f73_s_l00Srcpick.O (c := c73) (keep := keepAt 73) (by kernel_rfl) (fun n => orcOf_cf _ _ n) (fun n => lpOk_of (bs := []) (by kernel_rfl) .nil) (fun _ => rfl) (fun _ _ => by kernel_rfl)
noncomputable def f73_s_l00Srcpick.w : FnW E := fnW 73 f73_s_l00Srcpick.P sg_liii f73_s_l00Srcpick.A f73_s_l00Srcpick.F f73_s_l00Srcpick.ok

def f72_s_l00Srcone : Nat → Nat → List T → Int → Int → Int → Option (Bool × Nat × List T × Int × Int)
  | 0, _, _, _, _, _ => none
  | n + 1, n1, l2, i3, i4, i5 =>
    bd (f73_s_l00Srcpick n n1 l2 i3 i4 i5) fun r6 =>
    let i7 : Int := r6.1
    let n8 : Nat := r6.2.1
    let l9 : List T := r6.2.2.1
    let i10 : Int := r6.2.2.2.1
    let i11 : Int := r6.2.2.2.2
    some ((i7 == (0 : Int)), n8, l9, i10, i11)
def sg_blii : Sig (Bool × Nat × List T × Int × Int) where
  pk := fun v => [.bool v.1, .lst v.2.1 v.2.2.1, .int v.2.2.2.1, .int v.2.2.2.2]
  up := fun ls => match ls with
    | [.bool a0, .lst a1 a2, .int a3, .int a4] => some (a0, a1, a2, a3, a4)
    | _ => none
  ok := by
    intro ls v h
    split at h
    · cases h; rfl
    · cases h

def f72_s_l00Srcone.P : List Arg := [⟨.iop, ⟨false, [.rf .own [.sl .shr [.leaf], .leaf, .leaf]], [.ref [.lst 0 [], .int .i64 0, .int .u64 0]]⟩⟩, ⟨.val, ⟨false, [.leaf], [.int .i64 0]⟩⟩]
def f72_s_l00Srcone.A : RAlt (Bool × Nat × List T × Int × Int) := .one ⟨[⟨false, [.leaf], [.bool false]⟩], [some ⟨false, [.rf .own [.sl .shr [.leaf], .leaf, .leaf]], [.ref [.lst 0 [], .int .i64 0, .int .u64 0]]⟩, none]⟩ sg_blii
def f72_s_l00Srcone.F (n : Nat) (v : Nat × List T × Int × Int × Int) := f72_s_l00Srcone n v.1 v.2.1 v.2.2.1 v.2.2.2.1 v.2.2.2.2
noncomputable def f72_s_l00Srcone.O (n : Nat) : Orc := orcOf (E := E) [f73_s_l00Srcpick.w] [] n
theorem f72_s_l00Srcone.ok : ∀ n v x, f72_s_l00Srcone.F n v = some x → evalFn E n 72 (flAs f72_s_l00Srcone.P (sg_liii.pk v)) = some (f72_s_l00Srcone.A.enc x) :=
  fn_pure (modes := (fdAt 72).ms) (outs := (fdAt 72).os) (results := (fdAt 72).rs) f72_s_l00Srcone.O (c := c72) (keep := keepAt 72) (by kernel_rfl) (fun n => orcOf_cf _ _ n) (fun n => lpOk_of (bs := []) (by kernel_rfl) .nil) (fun _ => rfl) (fun _ _ => by kernel_rfl)
noncomputable def f72_s_l00Srcone.w : FnW E := fnW 72 f72_s_l00Srcone.P sg_liii f72_s_l00Srcone.A f72_s_l00Srcone.F f72_s_l00Srcone.ok

def f74_s_l01From : Nat → Int → Option (Nat)
  | 0, _ => none
  | n + 1, i1 =>
    bd (xF32frombits n (IntKind.u32.wrap i1)) fun r2 =>
    let x3 : Nat := r2
    some x3
def sg_i : Sig (Int) where
  pk := fun v => [.int v]
  up := fun ls => match ls with
    | [.int a0] => some a0
    | _ => none
  ok := by
    intro ls v h
    split at h
    · cases h; rfl
    · cases h

def sg_f : Sig (Nat) where
  pk := fun v => [.flt v]
  up := fun ls => match ls with
    | [.flt a0] => some a0
    | _ => none
  ok := by
    intro ls v h
    split at h
    · cases h; rfl
    · cases h

def f74_s_l01From.P : List Arg := [⟨.val, ⟨false, [.leaf], [.int .i64 0]⟩⟩]
def f74_s_l01From.A : RAlt (Nat) := .one ⟨[⟨false, [.leaf], [.flt .f32 0]⟩], [none]⟩ sg_f
def f74_s_l01From.F (n : Nat) (v : Int) := f74_s_l01From n v
noncomputable def f74_s_l01From.O (n : Nat) : Orc := orcOf (E := E) [x93.w] [] n
theorem f74_s_l01From.ok : ∀ n v x, f74_s_l01From.F n v = some x → evalFn E n 74 (flAs f74_s_l01From.P (sg_i.pk v)) = some (f74_s_l01From.A.enc x) :=
  fn_pure (modes := (fdAt 74).ms) (outs := (fdAt 74).os) (results := (fdAt 74).rs) f74_s_l01From.O (c := c74) (keep := keepAt 74) (by kernel_rfl) (fun n => orcOf_cf _ _ n) (fun n => lpOk_of (bs := []) (by kernel_rfl) .nil) (fun _ => rfl) (fun _ _ => by kernel_rfl)
noncomputable def f74_s_l01From.w : FnW E := fnW 74 f74_s_l01From.P sg_i f74_s_l01From.A f74_s_l01From.F f74_s_l01From.ok

def f80_s_l01DrawPlain : Nat → Nat → List T → Int → Int → Option (Nat × Nat × List T × Int × Int)
  | 0, _, _, _, _ => none
  | n + 1, n1, l2, i3, i4 =>
    bd (f73_s_l00Srcpick n n1 l2 i3 i4 (129 : Int)) fun r5 =>
    let i6 : Int := r5.1
    let n7 : Nat := r5.2.1
    let l8 : List T := r5.2.2.1
    let i9 : Int := r5.2.2.2.1
    let i10 : Int := r5.2.2.2.2
    let i11 : Int := (IntKind.i64.wrap (i6 - (64 : Int)))
    bd (f72_s_l00Srcone n n7 l8 i9 i10 (4 : Int)) fun r12 =>
    let b13 : Bool := r12.1
    let n14 : Nat := r12.2.1
    let l15 : List T := r12.2.2.1
    let i16 : Int := r12.2.2.2.1
    let i17 : Int := r12.2.2.2.2
    br b13 (
     some ((fdiv FloatKind.f32 (FloatKind.nearest FloatKind.f32 i11) 1088421888), n14, l15, i16, i17)) (
     some ((fdiv FloatKind.f32 (FloatKind.nearest FloatKind.f32 i11) 1098907648), n14, l15, i16, i17))
def sg_flii : Sig (Nat × Nat × List T × Int × Int) where
  pk := fun v => [.flt v.1, .lst v.2.1 v.2.2.1, .int v.2.2.2.1, .int v.2.2.2.2]
  up := fun ls => match ls with
    | [.flt a0, .lst a1 a2, .int a3, .int a4] => some (a0, a1, a2, a3, a4)
    | _ => none
  ok := by
    intro ls v h
    split at h
    · cases h; rfl
    · cases h

def f80_s_l01DrawPlain.P : List Arg := [⟨.iop, ⟨false, [.rf .own [.sl .shr [.leaf], .leaf, .leaf]], [.ref [.lst 0 [], .int .i64 0, .int .u64 0]]⟩⟩]
def f80_s_l01DrawPlain.A : RAlt (Nat × Nat × List T × Int × Int) := .one ⟨[⟨false, [.leaf], [.flt .f32 0]⟩], [some ⟨false, [.rf .own [.sl .shr [.leaf], .leaf, .leaf]], [.ref [.lst 0 [], .int .i64 0, .int .u64 0]]⟩]⟩ sg_flii
def f80_s_l01DrawPlain.F (n : Nat) (v : Nat × List T × Int × Int) := f80_s_l01DrawPlain n v.1 v.2.1 v.2.2.1 v.2.2.2
noncomputable def f80_s_l01DrawPlain.O (n : Nat) : Orc := orcOf (E := E) [f73_s_l00Srcpick.w, f72_s_l00Srcone.w] [] n
theorem f80_s_l01DrawPlain.ok : ∀ n v x, f80_s_l01DrawPlain.F n v = some x → evalFn E n 80 (flAs f80_s_l01DrawPlain.P (sg_lii.pk v)) = some (f80_s_l01DrawPlain.A.enc x) :=
  fn_pure (modes := (fdAt 80).ms) (outs := (fdAt 80).os) (results := (fdAt 80).rs) f80_s_l01DrawPlain.O (c := c80) (keep := keepAt 80) (by kernel_rfl) (fun n => orcOf_cf _ _ n) (fun n => lpOk_of (bs := []) (by kernel_rfl) .nil) (fun _ => rfl) (fun _ _ => by kernel_rfl)
noncomputable def f80_s_l01DrawPlain.w : FnW E := fnW 80 f80_s_l01DrawPlain.P sg_lii f80_s_l01DrawPlain.A f80_s_l01DrawPlain.F f80_s_l01DrawPlain.ok

def f112_s_l00Srcamong : Nat → Nat → List T → Int → Int → Nat → List T → Option (Int × Nat × List T × Int × Int × Nat × List T)
  | 0, _, _, _, _, _, _ => none
  | n + 1, n1, l2, i3, i4, n5, l6 =>
    bd (f73_s_l00Srcpick n n1 l2 i3 i4 ((n5 : Nat) : Int)) fun r7 =>
    let i8 : Int := r7.1
    let n9 : Nat := r7.2.1
    let l10 : List T := r7.2.2.1
    let i11 : Int := r7.2.2.2.1
    let i12 : Int := r7.2.2.2.2
    gd (decide (((0 : Int) ≤ i8) ∧ (i8 < ((n5 : Nat) : Int)))) (
    gd (okAt [(CK.int IntKind.i64)] l6 (Int.toNat i8)) (
    some ((iAt l6 (Int.toNat i8)), n9, l10, i11, i12, n5, l6)))
def sg_liil : Sig (Nat × List T × Int × Int × Nat × List T) where
  pk := fun v => [.lst v.1 v.2.1, .int v.2.2.1, .int v.2.2.2.1, .lst v.2.2.2.2.1 v.2.2.2.2.2]
  up := fun ls => match ls with
    | [.lst a0 a1, .int a2, .int a3, .lst a4 a5] => some (a0, a1, a2, a3, a4, a5)
    | _ => none
  ok := by
    intro ls v h
    split at h
    · cases h; rfl
    · cases h

def sg_iliil : Sig (Int × Nat × List T × Int × Int × Nat × List T) where
  pk := fun v => [.int v.1, .lst v.2.1 v.2.2.1, .int v.2.2.2.1, .int v.2.2.2.2.1, .lst v.2.2.2.2.2.1 v.2.2.2.2.2.2]
  up := fun ls => match ls with
    | [.int a0, .lst a1 a2, .int a3, .int a4, .lst a5 a6] => some (a0, a1, a2, a3, a4, a5, a6)
    | _ => none
  ok := by
    intro ls v h
    split at h
    · cases h; rfl
    · cases h

def f112_s_l00Srcamong.P : List Arg := [⟨.iop, ⟨false, [.rf .own [.sl .shr [.leaf], .leaf, .leaf]], [.ref [.lst 0 [], .int .i64 0, .int .u64 0]]⟩⟩, ⟨.io, ⟨false, [.sl .own [.leaf]], [.lst 0 []]⟩⟩]
def f112_s_l00Srcamong.A : RAlt (Int × Nat × List T × Int × Int × Nat × List T) := .one ⟨[⟨false, [.leaf], [.int .i64 0]⟩], [some ⟨false, [.rf .own [.sl .shr [.leaf], .leaf, .leaf]], [.ref [.lst 0 [], .int .i64 0, .int .u64 0]]⟩, some ⟨false, [.sl .own [.leaf]], [.lst 0 []]⟩]⟩ sg_iliil
def f112_s_l00Srcamong.F (n : Nat) (v : Nat × List T × Int × Int × Nat × List T) := f112_s_l00Srcamong n v.1 v.2.1 v.2.2.1 v.2.2.2.1 v.2.2.2.2.1 v.2.2.2.2.2
noncomputable def f112_s_l00Srcamong.O (n : Nat) : Orc := orcOf (E := E) [f73_s_l00Srcpick.w] [] n
theorem f112_s_l00Srcamong.ok : ∀ n v x, f112_s_l00Srcamong.F n v = some x → evalFn E n 112 (flAs f112_s_l00Srcamong.P (sg_liil.pk v)) = some (f112_s_l00Srcamong.A.enc x) :=
  fn_pure (modes := (fdAt 112).ms) (outs := (fdAt 112).os) (results := (fdAt 112).rs) f112_s_l00Srcamong.O (c := c112) (keep := keepAt 112) (by kernel_rfl) (fun n => orcOf_cf _ _ n) (fun n => lpOk_of (bs := []) (by kernel_rfl) .nil) (fun _ => rfl) (fun _ _ => by kernel_rfl)
noncomputable def f112_s_l00Srcamong.w : FnW E := fnW 112 f112_s_l00Srcamong.P sg_liil f112_s_l00Srcamong.A f112_s_l00Srcamong.F f112_s_l00Srcamong.ok

def f75_s_l01DrawFloat : Nat → Nat → List T → Int → Int → Option (Nat × Nat × List T × Int × Int)
  | 0, _, _, _, _ => none
  | n + 1, n1, l2, i3, i4 =>
    bd (f72_s_l00Srcone n n1 l2 i3 i4 (12 : Int)) fun r5 =>
    let b6 : Bool := r5.1
    let n7 : Nat := r5.2.1
    let l8 : List T := r5.2.2.1
    let i9 : Int := r5.2.2.2.1
    let i10 : Int := r5.2.2.2.2
    br (!b6) (
     bd (f80_s_l01DrawPlain n n7 l8 i9 i10) fun r11 =>
     let x12 : Nat := r11.1
     let n13 : Nat := r11.2.1
     let l14 : List T := r11.2.2.1
     let i15 : Int := r11.2.2.2.1
     let i16 : Int := r11.2.2.2.2
     some (x12, n13, l14, i15, i16)) (
     bd (f73_s_l00Srcpick n n7 l8 i9 i10 (4 : Int)) fun r17 =>
     let i18 : Int := r17.1
     let n19 : Nat := r17.2.1
     let l20 : List T := r17.2.2.1
     let i21 : Int := r17.2.2.2.1
     let i22 : Int := r17.2.2.2.2
     br (i18 == (0 : Int)) (
      bd (f112_s_l00Srcamong n n19 l20 i21 i22 10 (setN (setN (setN (setN (setN (setN (setN (setN (setN (setN (reps 10 [(T.int IntKind.i64 (0 : Int))]) 0 [(T.int IntKind.i64 (0 : Int))]) 1 [(T.int IntKind.i64 (2147483648 : Int))]) 2 [(T.int IntKind.i64 (2139095040 : Int))]) 3 [(T.int IntKind.i64 (4286578688 : Int))]) 4 [(T.int IntKind.i64 (2143289344 : Int))]) 5 [(T.int IntKind.i64 (1 : Int))]) 6 [(T.int IntKind.i64 (2139095039 : Int))]) 7 [(T.int IntKind.i64 (8388608 : Int))]) 8 [(T.int IntKind.i64 (8388607 : Int))]) 9 [(T.int IntKind.i64 (2147483649 : Int))])) fun r23 =>
      let i24 : Int := r23.1
      let n25 : Nat := r23.2.1
      let l26 : List T := r23.2.2.1
      let i27 : Int := r23.2.2.2.1
      let i28 : Int := r23.2.2.2.2.1
      let n29 : Nat := r23.2.2.2.2.2.1
      let l30 : List T := r23.2.2.2.2.2.2
      bd (f74_s_l01From n i24) fun r31 =>
      let x32 : Nat := r31
      some (x32, n25, l26, i27, i28)) (
      br (i18 == (1 : Int)) (
       bd (f73_s_l00Srcpick n n19 l20 i21 i22 (65536 : Int)) fun r33 =>
       let i34 : Int := r33.1
       let n35 : Nat := r33.2.1
       let l36 : List T := r33.2.2.1
       let i37 : Int := r33.2.2.2.1
       let i38 : Int := r33.2.2.2.2
       let i39 : Int := (IntKind.i64.wrap (i34 * (65536 : Int)))
       bd (f73_s_l00Srcpick n n35 l36 i37 i38 (65536 : Int)) fun r40 =>
       let i41 : Int := r40.1
       let n42 : Nat := r40.2.1
       let l43 : List T := r40.2.2.1
       let i44 : Int := r40.2.2.2.1
       let i45 : Int := r40.2.2.2.2
       bd (f74_s_l01From n (IntKind.i64.wrap (i39 + i41))) fun r46 =>
       let x47 : Nat := r46
       some (x47, n42, l43, i44, i45)) (
       br (i18 == (2 : Int)) (
        bd (f73_s_l00Srcpick n n19 l20 i21 i22 (65536 : Int)) fun r48 =>
        let i49 : Int := r48.1
        let n50 : Nat := r48.2.1
        let l51 : List T := r48.2.2.1
        let i52 : Int := r48.2.2.2.1
        let i53 : Int := r48.2.2.2.2
        bd (f74_s_l01From n (IntKind.i64.wrap (i49 * (65536 : Int)))) fun r54 =>
        let x55 : Nat := r54
        some (x55, n50, l51, i52, i53)) (
        bd (f80_s_l01DrawPlain n n19 l20 i21 i22) fun r56 =>
        let x57 : Nat := r56.1
        let n58 : Nat := r56.2.1
        let l59 : List T := r56.2.2.1
        let i60 : Int := r56.2.2.2.1
        let i61 : Int := r56.2.2.2.2
        bd (f112_s_l00Srcamong n n58 l59 i60 i61 4 (setN (setN (setN (setN (reps 4 [(T.int IntKind.i64 (0 : Int))]) 0 [(T.int IntKind.i64 (8388608 : Int))]) 1 [(T.int IntKind.i64 (2130706432 : Int))]) 2 [(T.int IntKind.i64 (1610612736 : Int))]) 3 [(T.int IntKind.i64 (536870912 : Int))])) fun r62 =>
        let i63 : Int := r62.1
        let n64 : Nat := r62.2.1
        let l65 : List T := r62.2.2.1
        let i66 : Int := r62.2.2.2.1
        let i67 : Int := r62.2.2.2.2.1
        let n68 : Nat := r62.2.2.2.2.2.1
        let l69 : List T := r62.2.2.2.2.2.2
        bd (f74_s_l01From n i63) fun r70 =>
        let x71 : Nat := r70
        some ((fmul FloatKind.f32 x57 x71), n64, l65, i66, i67)))))
def f75_s_l01DrawFloat.P : List Arg := [⟨.iop, ⟨false, [.rf .own [.sl .shr [.leaf], .leaf, .leaf]], [.ref [.lst 0 [], .int .i64 0, .int .u64 0]]⟩⟩]
def f75_s_l01DrawFloat.A : RAlt (Nat × Nat × List T × Int × Int) := .one ⟨[⟨false, [.leaf], [.flt .f32 0]⟩], [some ⟨false, [.rf .own [.sl .shr [.leaf], .leaf, .leaf]], [.ref [.lst 0 [], .int .i64 0, .int .u64 0]]⟩]⟩ sg_flii
def f75_s_l01DrawFloat.F (n : Nat) (v : Nat × List T × Int × Int) := f75_s_l01DrawFloat n v.1 v.2.1 v.2.2.1 v.2.2.2
noncomputable def f75_s_l01DrawFloat.O (n : Nat) : Orc := orcOf (E := E) [f73_s_l00Srcpick.w, f72_s_l00Srcone.w, f74_s_l01From.w, f80_s_l01DrawPlain.w, f112_s_l00Srcamong.w] [] n
theorem f75_s_l01DrawFloat.ok : ∀ n v x, f75_s_l01DrawFloat.F n v = some x → evalFn E n 75 (flAs f75_s_l01DrawFloat.P (sg_lii.pk v)) = some (f75_s_l01DrawFloat.A.enc x) :=
  fn_pure (modes := (fdAt 75).ms) (outs := (fdAt 75).os) (results := (fdAt 75).rs) f75_s_l01DrawFloat.O (c := c75) (keep := keepAt 75) (by kernel_rfl) (fun n => orcOf_cf _ _ n) (fun n => lpOk_of (bs := []) (by kernel_rfl) .nil) (fun _ => rfl) (fun _ _ => by kernel_rfl)
noncomputable def f75_s_l01DrawFloat.w : FnW E := fnW 75 f75_s_l01DrawFloat.P sg_lii f75_s_l01DrawFloat.A f75_s_l01DrawFloat.F f75_s_l01DrawFloat.ok

def f16_s_B10Number : Nat → Nat → List T → Option (Nat)
  | 0, _, _ => none
  | n + 1, n1, l2 =>
    bd (f71_s_l00From n n1 l2) fun r3 =>
    let n4 : Nat := r3.1
    let l5 : List T := r3.2.1
    let i6 : Int := r3.2.2.1
    let i7 : Int := r3.2.2.2
    bd (f72_s_l00Srcone n n4 l5 i6 i7 (2 : Int)) fun r8 =>
    let b9 : Bool := r8.1
    let n10 : Nat := r8.2.1
    let l11 : List T := r8.2.2.1
    let i12 : Int := r8.2.2.2.1
    let i13 : Int := r8.2.2.2.2
    br b9 (
     bd (f73_s_l00Srcpick n n10 l11 i12 i13 (65536 : Int)) fun r14 =>
     let i15 : Int := r14.1
     let n16 : Nat := r14.2.1
     let l17 : List T := r14.2.2.1
     let i18 : Int := r14.2.2.2.1
     let i19 : Int := r14.2.2.2.2
     let i20 : Int := (IntKind.i64.wrap (i15 * (65536 : Int)))
     bd (f73_s_l00Srcpick n n16 l17 i18 i19 (65536 : Int)) fun r21 =>
     let i22 : Int := r21.1
     let n23 : Nat := r21.2.1
     let l24 : List T := r21.2.2.1
     let i25 : Int := r21.2.2.2.1
     let i26 : Int := r21.2.2.2.2
     bd (f74_s_l01From n (IntKind.i64.wrap (i20 + i22))) fun r27 =>
     let x28 : Nat := r27
     some x28) (
     bd (f75_s_l01DrawFloat n n10 l11 i12 i13) fun r29 =>
     let x30 : Nat := r29.1
     let n31 : Nat := r29.2.1
     let l32 : List T := r29.2.2.1
     let i33 : Int := r29.2.2.2.1
     let i34 : Int := r29.2.2.2.2
     some x30)
def f16_s_B10Number.P : List Arg := [⟨.val, ⟨false, [.sl .shr [.leaf]], [.lst 0 []]⟩⟩]
def f16_s_B10Number.A : RAlt (Nat) := .one ⟨[⟨false, [.leaf], [.flt .f32 0]⟩], [none]⟩ sg_f
def f16_s_B10Number.F (n : Nat) (v : Nat × List T) := f16_s_B10Number n v.1 v.2
noncomputable def f16_s_B10Number.O (n : Nat) : Orc := orcOf (E := E) [f71_s_l00From.w, f73_s_l00Srcpick.w, f72_s_l00Srcone.w, f74_s_l01From.w, f75_s_l01DrawFloat.w] [] n
theorem f16_s_B10Number.ok : ∀ n v x, f16_s_B10Number.F n v = some x → evalFn E n 16 (flAs f16_s_B10Number.P (sg_l.pk v)) = some (f16_s_B10Number.A.enc x) :=
  fn_pure (modes := (fdAt 16).ms) (outs := (fdAt 16).os) (results := (fdAt 16).rs) f16_s_B10Number.O (c := c16) (keep := keepAt 16) (by kernel_rfl) (fun n => orcOf_cf _ _ n) (fun n => lpOk_of (bs := []) (by kernel_rfl) .nil) (fun _ => rfl) (fun _ _ => by kernel_rfl)
noncomputable def f16_s_B10Number.w : FnW E := fnW 16 f16_s_B10Number.P sg_l f16_s_B10Number.A f16_s_B10Number.F f16_s_B10Number.ok

def f65_i_IsSubnormal : Nat → Nat → Option (Bool)
  | 0, _ => none
  | n + 1, x1 =>
    br (fne FloatKind.f32 x1 0) (
     br (flt FloatKind.f32 x1 8388608) (
      some (fgt FloatKind.f32 x1 2155872256)) (
      some false)) (
     some false)
def f65_i_IsSubnormal.P : List Arg := [⟨.val, ⟨false, [.leaf], [.flt .f32 0]⟩⟩]
def f65_i_IsSubnormal.A : RAlt (Bool) := .one ⟨[⟨false, [.leaf], [.bool false]⟩], [none]⟩ sg_b
def f65_i_IsSubnormal.F (n : Nat) (v : Nat) := f65_i_IsSubnormal n v
noncomputable def f65_i_IsSubnormal.O (n : Nat) : Orc := orcOf (E := E) [] [] n
theorem f65_i_IsSubnormal.ok : ∀ n v x, f65_i_IsSubnormal.F n v = some x → evalFn E n 65 (flAs f65_i_IsSubnormal.P (sg_f.pk v)) = some (f65_i_IsSubnormal.A.enc x) :=
  fn_pure (modes := (fdAt 65).ms) (outs := (fdAt 65).os) (results := (fdAt 65).rs) f65_i_IsSubnormal.O (c := c65) (keep := keepAt 65) (by kernel_rfl) (fun n => orcOf_cf _ _ n) (fun n => lpOk_of (bs := []) (by kernel_rfl) .nil) (fun _ => rfl) (fun _ _ => by kernel_rfl)
noncomputable def f65_i_IsSubnormal.w : FnW E := fnW 65 f65_i_IsSubnormal.P sg_f f65_i_IsSubnormal.A f65_i_IsSubnormal.F f65_i_IsSubnormal.ok

def f63_i_FlushNumber : Nat → Nat → Option (Nat)
  | 0, _ => none
  | n + 1, x1 =>
    bd (f65_i_IsSubnormal n x1) fun r2 =>
    let b3 : Bool := r2
    br (!b3) (
     some x1) (
     bd ((fltToFlt FloatKind.f32 x1 FloatKind.f64)) fun y4 =>
     bd (xCopysign n 0 y4) fun r5 =>
     let x6 : Nat := r5
     bd ((fltToFlt FloatKind.f64 x6 FloatKind.f32)) fun y7 =>
     some y7)
def f63_i_FlushNumber.P : List Arg := [⟨.val, ⟨false, [.leaf], [.flt .f32 0]⟩⟩]
def f63_i_FlushNumber.A : RAlt (Nat) := .one ⟨[⟨false, [.leaf], [.flt .f32 0]⟩], [none]⟩ sg_f
def f63_i_FlushNumber.F (n : Nat) (v : Nat) := f63_i_FlushNumber n v
noncomputable def f63_i_FlushNumber.O (n : Nat) : Orc := orcOf (E := E) [x106.w, f65_i_IsSubnormal.w] [] n
theorem f63_i_FlushNumber.ok : ∀ n v x, f63_i_FlushNumber.F n v = some x → evalFn E n 63 (flAs f63_i_FlushNumber.P (sg_f.pk v)) = some (f63_i_FlushNumber.A.enc x) :=
  fn_pure (modes := (fdAt 63).ms) (outs := (fdAt 63).os) (results := (fdAt 63).rs) f63_i_FlushNumber.O (c := c63) (keep := keepAt 63) (by kernel_rfl) (fun n => orcOf_cf _ _ n) (fun n => lpOk_of (bs := []) (by kernel_rfl) .nil) (fun _ => rfl) (fun _ _ => by kernel_rfl)
noncomputable def f63_i_FlushNumber.w : FnW E := fnW 63 f63_i_FlushNumber.P sg_f f63_i_FlushNumber.A f63_i_FlushNumber.F f63_i_FlushNumber.ok

def f79_s_l01Bits : Nat → Nat → Option (Int)
  | 0, _ => none
  | n + 1, x1 =>
    br (fne FloatKind.f32 x1 x1) (
     some (2143289344 : Int)) (
     bd (xF32bits n x1) fun r2 =>
     let i3 : Int := r2
     some (IntKind.i64.wrap i3))
def f79_s_l01Bits.P : List Arg := [⟨.val, ⟨false, [.leaf], [.flt .f32 0]⟩⟩]
def f79_s_l01Bits.A : RAlt (Int) := .one ⟨[⟨false, [.leaf], [.int .i64 0]⟩], [none]⟩ sg_i
def f79_s_l01Bits.F (n : Nat) (v : Nat) := f79_s_l01Bits n v
noncomputable def f79_s_l01Bits.O (n : Nat) : Orc := orcOf (E := E) [x87.w] [] n
theorem f79_s_l01Bits.ok : ∀ n v x, f79_s_l01Bits.F n v = some x → evalFn E n 79 (flAs f79_s_l01Bits.P (sg_f.pk v)) = some (f79_s_l01Bits.A.enc x) :=
  fn_pure (modes := (fdAt 79).ms) (outs := (fdAt 79).os) (results := (fdAt 79).rs) f79_s_l01Bits.O (c := c79) (keep := keepAt 79) (by kernel_rfl) (fun n => orcOf_cf _ _ n) (fun n => lpOk_of (bs := []) (by kernel_rfl) .nil) (fun _ => rfl) (fun _ _ => by kernel_rfl)
noncomputable def f79_s_l01Bits.w : FnW E := fnW 79 f79_s_l01Bits.P sg_f f79_s_l01Bits.A f79_s_l01Bits.F f79_s_l01Bits.ok

def f21_s_BitsOf : Nat → Nat → Option (Int)
  | 0, _ => none
  | n + 1, x1 =>
    bd (f79_s_l01Bits n x1) fun r2 =>
    let i3 : Int := r2
    some i3
def f21_s_BitsOf.P : List Arg := [⟨.val, ⟨false, [.leaf], [.flt .f32 0]⟩⟩]
def f21_s_BitsOf.A : RAlt (Int) := .one ⟨[⟨false, [.leaf], [.int .i64 0]⟩], [none]⟩ sg_i
def f21_s_BitsOf.F (n : Nat) (v : Nat) := f21_s_BitsOf n v
noncomputable def f21_s_BitsOf.O (n : Nat) : Orc := orcOf (E := E) [f79_s_l01Bits.w] [] n
theorem f21_s_BitsOf.ok : ∀ n v x, f21_s_BitsOf.F n v = some x → evalFn E n 21 (flAs f21_s_BitsOf.P (sg_f.pk v)) = some (f21_s_BitsOf.A.enc x) :=
  fn_pure (modes := (fdAt 21).ms) (outs := (fdAt 21).os) (results := (fdAt 21).rs) f21_s_BitsOf.O (c := c21) (keep := keepAt 21) (by kernel_rfl) (fun n => orcOf_cf _ _ n) (fun n => lpOk_of (bs := []) (by kernel_rfl) .nil) (fun _ => rfl) (fun _ _ => by kernel_rfl)
noncomputable def f21_s_BitsOf.w : FnW E := fnW 21 f21_s_BitsOf.P sg_f f21_s_BitsOf.A f21_s_BitsOf.F f21_s_BitsOf.ok

def f99_s_l00In : Nat → Int → Int → Int → Option (Bool)
  | 0, _, _, _ => none
  | n + 1, i1, i2, i3 =>
    br (decide (i1 ≥ i2)) (
     some (decide (i1 ≤ i3))) (
     some false)
def sg_iii : Sig (Int × Int × Int) where
  pk := fun v => [.int v.1, .int v.2.1, .int v.2.2]
  up := fun ls => match ls with
    | [.int a0, .int a1, .int a2] => some (a0, a1, a2)
    | _ => none
  ok := by
    intro ls v h
    split at h
    · cases h; rfl
    · cases h

def f99_s_l00In.P : List Arg := [⟨.val, ⟨false, [.leaf], [.int .i64 0]⟩⟩, ⟨.val, ⟨false, [.leaf], [.int .i64 0]⟩⟩, ⟨.val, ⟨false, [.leaf], [.int .i64 0]⟩⟩]
def f99_s_l00In.A : RAlt (Bool) := .one ⟨[⟨false, [.leaf], [.bool false]⟩], [none, none, none]⟩ sg_b
def f99_s_l00In.F (n : Nat) (v : Int × Int × Int) := f99_s_l00In n v.1 v.2.1 v.2.2
noncomputable def f99_s_l00In.O (n : Nat) : Orc := orcOf (E := E) [] [] n
theorem f99_s_l00In.ok : ∀ n v x, f99_s_l00In.F n v = some x → evalFn E n 99 (flAs f99_s_l00In.P (sg_iii.pk v)) = some (f99_s_l00In.A.enc x) :=
  fn_pure (modes := (fdAt 99).ms) (outs := (fdAt 99).os) (results := (fdAt 99).rs) f99_s_l00In.O (c := c99) (keep := keepAt 99) (by kernel_rfl) (fun n => orcOf_cf _ _ n) (fun n => lpOk_of (bs := []) (by kernel_rfl) .nil) (fun _ => rfl) (fun _ _ => by kernel_rfl)
noncomputable def f99_s_l00In.w : FnW E := fnW 99 f99_s_l00In.P sg_iii f99_s_l00In.A f99_s_l00In.F f99_s_l00In.ok

def f64_s_FromBits : Nat → Int → Option (Nat × Bool)
  | 0, _ => none
  | n + 1, i1 =>
    bd (f99_s_l00In n i1 (0 : Int) (4294967295 : Int)) fun r2 =>
    let b3 : Bool := r2
    br (!b3) (
     some (0, false)) (
     bd (f74_s_l01From n i1) fun r4 =>
     let x5 : Nat := r4
     some (x5, true))
def sg_fb : Sig (Nat × Bool) where
  pk := fun v => [.flt v.1, .bool v.2]
  up := fun ls => match ls with
    | [.flt a0, .bool a1] => some (a0, a1)
    | _ => none
  ok := by
    intro ls v h
    split at h
    · cases h; rfl
    · cases h

def f64_s_FromBits.P : List Arg := [⟨.val, ⟨false, [.leaf], [.int .i64 0]⟩⟩]
def f64_s_FromBits.A : RAlt (Nat × Bool) := .one ⟨[⟨false, [.leaf], [.flt .f32 0]⟩, ⟨false, [.leaf], [.bool false]⟩], [none]⟩ sg_fb
def f64_s_FromBits.F (n : Nat) (v : Int) := f64_s_FromBits n v
noncomputable def f64_s_FromBits.O (n : Nat) : Orc := orcOf (E := E) [f74_s_l01From.w, f99_s_l00In.w] [] n
theorem f64_s_FromBits.ok : ∀ n v x, f64_s_FromBits.F n v = some x → evalFn E n 64 (flAs f64_s_FromBits.P (sg_i.pk v)) = some (f64_s_FromBits.A.enc x) :=
  fn_pure (modes := (fdAt 64).ms) (outs := (fdAt 64).os) (results := (fdAt 64).rs) f64_s_FromBits.O (c := c64) (keep := keepAt 64) (by kernel_rfl) (fun n => orcOf_cf _ _ n) (fun n => lpOk_of (bs := []) (by kernel_rfl) .nil) (fun _ => rfl) (fun _ _ => by kernel_rfl)
noncomputable def f64_s_FromBits.w : FnW E := fnW 64 f64_s_FromBits.P sg_i f64_s_FromBits.A f64_s_FromBits.F f64_s_FromBits.ok

def f76_s_l01Same : Nat → Nat → Nat → Option (Bool)
  | 0, _, _ => none
  | n + 1, x1, x2 =>
    bd (f79_s_l01Bits n x1) fun r3 =>
    let i4 : Int := r3
    bd (f79_s_l01Bits n x2) fun r5 =>
    let i6 : Int := r5
    some (i4 == i6)
def sg_ff : Sig (Nat × Nat) where
  pk := fun v => [.flt v.1, .flt v.2]
  up := fun ls => match ls with
    | [.flt a0, .flt a1] => some (a0, a1)
    | _ => none
  ok := by
    intro ls v h
    split at h
    · cases h; rfl
    · cases h

def f76_s_l01Same.P : List Arg := [⟨.val, ⟨false, [.leaf], [.flt .f32 0]⟩⟩, ⟨.val, ⟨false, [.leaf], [.flt .f32 0]⟩⟩]
def f76_s_l01Same.A : RAlt (Bool) := .one ⟨[⟨false, [.leaf], [.bool false]⟩], [none, none]⟩ sg_b
def f76_s_l01Same.F (n : Nat) (v : Nat × Nat) := f76_s_l01Same n v.1 v.2
noncomputable def f76_s_l01Same.O (n : Nat) : Orc := orcOf (E := E) [f79_s_l01Bits.w] [] n
theorem f76_s_l01Same.ok : ∀ n v x, f76_s_l01Same.F n v = some x → evalFn E n 76 (flAs f76_s_l01Same.P (sg_ff.pk v)) = some (f76_s_l01Same.A.enc x) :=
  fn_pure (modes := (fdAt 76).ms) (outs := (fdAt 76).os) (results := (fdAt 76).rs) f76_s_l01Same.O (c := c76) (keep := keepAt 76) (by kernel_rfl) (fun n => orcOf_cf _ _ n) (fun n => lpOk_of (bs := []) (by kernel_rfl) .nil) (fun _ => rfl) (fun _ _ => by kernel_rfl)
noncomputable def f76_s_l01Same.w : FnW E := fnW 76 f76_s_l01Same.P sg_ff f76_s_l01Same.A f76_s_l01Same.F f76_s_l01Same.ok

def f17_s_SameNumber : Nat → Nat → Nat → Option (Bool)
  | 0, _, _ => none
  | n + 1, x1, x2 =>
    bd (f76_s_l01Same n x1 x2) fun r3 =>
    let b4 : Bool := r3
    some b4
def f17_s_SameNumber.P : List Arg := [⟨.val, ⟨false, [.leaf], [.flt .f32 0]⟩⟩, ⟨.val, ⟨false, [.leaf], [.flt .f32 0]⟩⟩]
def f17_s_SameNumber.A : RAlt (Bool) := .one ⟨[⟨false, [.leaf], [.bool false]⟩], [none, none]⟩ sg_b
def f17_s_SameNumber.F (n : Nat) (v : Nat × Nat) := f17_s_SameNumber n v.1 v.2
noncomputable def f17_s_SameNumber.O (n : Nat) : Orc := orcOf (E := E) [f76_s_l01Same.w] [] n
theorem f17_s_SameNumber.ok : ∀ n v x, f17_s_SameNumber.F n v = some x → evalFn E n 17 (flAs f17_s_SameNumber.P (sg_ff.pk v)) = some (f17_s_SameNumber.A.enc x) :=
  fn_pure (modes := (fdAt 17).ms) (outs := (fdAt 17).os) (results := (fdAt 17).rs) f17_s_SameNumber.O (c := c17) (keep := keepAt 17) (by kernel_rfl) (fun n => orcOf_cf _ _ n) (fun n => lpOk_of (bs := []) (by kernel_rfl) .nil) (fun _ => rfl) (fun _ _ => by kernel_rfl)
noncomputable def f17_s_SameNumber.w : FnW E := fnW 17 f17_s_SameNumber.P sg_ff f17_s_SameNumber.A f17_s_SameNumber.F f17_s_SameNumber.ok

def f57_l_b10At : Nat → Nat → List T → Int → Int → Option (Int)
  | 0, _, _, _, _ => none
  | n + 1, n1, l2, i3, i4 =>
    br (decide (i4 ≤ (1 : Int))) (
     some (0 : Int)) (
     br (decide (i3 < ((n1 : Nat) : Int))) (
      gd ((decide (((0 : Int) ≤ i3) ∧ (i3 < ((n1 : Nat) : Int)))) && (okAt [(CK.int IntKind.u8)] l2 (Int.toNat i3))) (
      gd (!(decide (i4 = (0 : Int)))) (
      some (Int.tmod (IntKind.i64.wrap (iAt l2 (Int.toNat i3))) i4)))) (
      gd (!(decide (i4 = (0 : Int)))) (
      some (Int.tmod (IntKind.i64.wrap ((IntKind.i64.wrap (i3 * (37 : Int))) + (11 : Int))) i4))))
def f57_l_b10At.P : List Arg := [⟨.val, ⟨false, [.sl .shr [.leaf]], [.lst 0 []]⟩⟩, ⟨.val, ⟨false, [.leaf], [.int .i64 0]⟩⟩, ⟨.val, ⟨false, [.leaf], [.int .i64 0]⟩⟩]
def f57_l_b10At.A : RAlt (Int) := .one ⟨[⟨false, [.leaf], [.int .i64 0]⟩], [none, none, none]⟩ sg_i
def f57_l_b10At.F (n : Nat) (v : Nat × List T × Int × Int) := f57_l_b10At n v.1 v.2.1 v.2.2.1 v.2.2.2
noncomputable def f57_l_b10At.O (n : Nat) : Orc := orcOf (E := E) [] [] n
theorem f57_l_b10At.ok : ∀ n v x, f57_l_b10At.F n v = some x → evalFn E n 57 (flAs f57_l_b10At.P (sg_lii.pk v)) = some (f57_l_b10At.A.enc x) :=
  fn_pure (modes := (fdAt 57).ms) (outs := (fdAt 57).os) (results := (fdAt 57).rs) f57_l_b10At.O (c := c57) (keep := keepAt 57) (by kernel_rfl) (fun n => orcOf_cf _ _ n) (fun n => lpOk_of (bs := []) (by kernel_rfl) .nil) (fun _ => rfl) (fun _ _ => by kernel_rfl)
noncomputable def f57_l_b10At.w : FnW E := fnW 57 f57_l_b10At.P sg_lii f57_l_b10At.A f57_l_b10At.F f57_l_b10At.ok

def f91_s_l01DrawFloats.l0 (n : Nat) : Nat → Nat → List T → Int → Int → Int → Nat → List T → Bool → Option (Nat × List T × Int × Int × Nat × List T)
  | 0, _, _, _, _, _, _, _, _ => none
  | m + 1, n1, l2, i3, i4, i5, n6, l7, b8 =>
    br (decide (i5 > (0 : Int))) (
     br b8 (
      bd (f75_s_l01DrawFloat n n1 l2 i3 i4) fun r9 =>
      let x10 : Nat := r9.1
      let n11 : Nat := r9.2.1
      let l12 : List T := r9.2.2.1
      let i13 : Int := r9.2.2.2.1
      let i14 : Int := r9.2.2.2.2
      gd (Nat.ble (n6 + 1) 2147483648) (
      let n15 : Nat := (n6 + 1)
      let l16 : List T := (l7 ++ (setN (reps 1 [(T.flt FloatKind.f32 0)]) 0 [(T.flt FloatKind.f32 x10)]))
      f91_s_l01DrawFloats.l0 n m n11 l12 i13 i14 (IntKind.i64.wrap (i5 - (1 : Int))) n15 l16 b8)) (
      bd (f80_s_l01DrawPlain n n1 l2 i3 i4) fun r17 =>
      let x18 : Nat := r17.1
      let n19 : Nat := r17.2.1
      let l20 : List T := r17.2.2.1
      let i21 : Int := r17.2.2.2.1
      let i22 : Int := r17.2.2.2.2
      gd (Nat.ble (n6 + 1) 2147483648) (
      let n23 : Nat := (n6 + 1)
      let l24 : List T := (l7 ++ (setN (reps 1 [(T.flt FloatKind.f32 0)]) 0 [(T.flt FloatKind.f32 x18)]))
      f91_s_l01DrawFloats.l0 n m n19 l20 i21 i22 (IntKind.i64.wrap (i5 - (1 : Int))) n23 l24 b8))) (
     some (n1, l2, i3, i4, n6, l7))
def f91_s_l01DrawFloats : Nat → Nat → List T → Int → Int → Int → Option (Nat × List T × Nat × List T × Int × Int)
  | 0, _, _, _, _, _ => none
  | n + 1, n1, l2, i3, i4, i5 =>
    bd (f72_s_l00Srcone n n1 l2 i3 i4 (4 : Int)) fun r6 =>
    let b7 : Bool := r6.1
    let n8 : Nat := r6.2.1
    let l9 : List T := r6.2.2.1
    let i10 : Int := r6.2.2.2.1
    let i11 : Int := r6.2.2.2.2
    bd (f91_s_l01DrawFloats.l0 n n n8 l9 i10 i11 i5 0 (reps 0 [(T.flt FloatKind.f32 0)]) b7) fun r12 =>
    let n13 : Nat := r12.1
    let l14 : List T := r12.2.1
    let i15 : Int := r12.2.2.1
    let i16 : Int := r12.2.2.2.1
    let n17 : Nat := r12.2.2.2.2.1
    let l18 : List T := r12.2.2.2.2.2
    some (n17, l18, n13, l14, i15, i16)
def sg_llii : Sig (Nat × List T × Nat × List T × Int × Int) where
  pk := fun v => [.lst v.1 v.2.1, .lst v.2.2.1 v.2.2.2.1, .int v.2.2.2.2.1, .int v.2.2.2.2.2]
  up := fun ls => match ls with
    | [.lst a0 a1, .lst a2 a3, .int a4, .int a5] => some (a0, a1, a2, a3, a4, a5)
    | _ => none
  ok := by
    intro ls v h
    split at h
    · cases h; rfl
    · cases h

def sg_liiilb : Sig (Nat × List T × Int × Int × Int × Nat × List T × Bool) where
  pk := fun v => [.lst v.1 v.2.1, .int v.2.2.1, .int v.2.2.2.1, .int v.2.2.2.2.1, .lst v.2.2.2.2.2.1 v.2.2.2.2.2.2.1, .bool v.2.2.2.2.2.2.2]
  up := fun ls => match ls with
    | [.lst a0 a1, .int a2, .int a3, .int a4, .lst a5 a6, .bool a7] => some (a0, a1, a2, a3, a4, a5, a6, a7)
    | _ => none
  ok := by
    intro ls v h
    split at h
    · cases h; rfl
    · cases h

def f91_s_l01DrawFloats.l0.P : AS := ⟨[(0, .box [.sl .shr [.leaf], .leaf, .leaf] [.lst 0 [], .int .i64 0, .int .u64 0] [] 0), (1, .val false [.leaf] [.int .i64 0] [] 0), (5, .val false [.sl .own [.leaf]] [.lst 0 []] [] 0), (6, .val false [.leaf] [.bool false] [] 0)], 0⟩
def f91_s_l01DrawFloats.l0.A : Alt (Nat × List T × Int × Int × Nat × List T) := .one (.exit 0) ⟨[(0, .box [.sl .shr [.leaf], .leaf, .leaf] [.lst 0 [], .int .i64 0, .int .u64 0] [] 0), (5, .val false [.sl .own [.leaf]] [.lst 0 []] [] 0)], 0⟩ sg_liil
def f91_s_l01DrawFloats.l0.F (n m : Nat) (v : Nat × List T × Int × Int × Int × Nat × List T × Bool) := f91_s_l01DrawFloats.l0 n m v.1 v.2.1 v.2.2.1 v.2.2.2.1 v.2.2.2.2.1 v.2.2.2.2.2.1 v.2.2.2.2.2.2.1 v.2.2.2.2.2.2.2
def f91_s_l01DrawFloats.l0.W (n : Nat) : LpW := .of 48 f91_s_l01DrawFloats.l0.P sg_liiilb f91_s_l01DrawFloats.l0.A (f91_s_l01DrawFloats.l0.F n n)
def f91_s_l01DrawFloats.P : List Arg := [⟨.iop, ⟨false, [.rf .own [.sl .shr [.leaf], .leaf, .leaf]], [.ref [.lst 0 [], .int .i64 0, .int .u64 0]]⟩⟩, ⟨.val, ⟨false, [.leaf], [.int .i64 0]⟩⟩]
def f91_s_l01DrawFloats.A : RAlt (Nat × List T × Nat × List T × Int × Int) := .one ⟨[⟨false, [.sl .own [.leaf]], [.lst 0 []]⟩], [some ⟨false, [.rf .own [.sl .shr [.leaf], .leaf, .leaf]], [.ref [.lst 0 [], .int .i64 0, .int .u64 0]]⟩, none]⟩ sg_llii
def f91_s_l01DrawFloats.F (n : Nat) (v : Nat × List T × Int × Int × Int) := f91_s_l01DrawFloats n v.1 v.2.1 v.2.2.1 v.2.2.2.1 v.2.2.2.2
noncomputable def f91_s_l01DrawFloats.O (n : Nat) : Orc := orcOf (E := E) [f72_s_l00Srcone.w, f80_s_l01DrawPlain.w, f75_s_l01DrawFloat.w] [f91_s_l01DrawFloats.l0.W n] n
theorem f91_s_l01DrawFloats.l0.ok (n : Nat) : LpOk (f91_s_l01DrawFloats.O n) E (evalFn E n) n (keepAt 91) (.loop (loopAt c91 0)) :=
  lp_pure f91_s_l01DrawFloats.l0.P sg_liiilb f91_s_l01DrawFloats.l0.A (f91_s_l01DrawFloats.l0.F n) (orcOf_cf _ _ n) (lpOk_of (bs := []) (by kernel_rfl) .nil) (fun _ => rfl) (fun _ _ => by kernel_rfl) (fun _ _ _ => by kernel_rfl)
theorem f91_s_l01DrawFloats.ok : ∀ n v x, f91_s_l01DrawFloats.F n v = some x → evalFn E n 91 (flAs f91_s_l01DrawFloats.P (sg_liii.pk v)) = some (f91_s_l01DrawFloats.A.enc x) :=
  fn_pure (modes := (fdAt 91).ms) (outs := (fdAt 91).os) (results := (fdAt 91).rs) f91_s_l01DrawFloats.O (c := c91) (keep := keepAt 91) (by kernel_rfl) (fun n => orcOf_cf _ _ n) (fun n => lpOk_of (bs := [loopAt c91 0]) (by kernel_rfl) (.cons (f91_s_l01DrawFloats.l0.ok n) .nil)) (fun _ => rfl) (fun _ _ => by kernel_rfl)
noncomputable def f91_s_l01DrawFloats.w : FnW E := fnW 91 f91_s_l01DrawFloats.P sg_liii f91_s_l01DrawFloats.A f91_s_l01DrawFloats.F f91_s_l01DrawFloats.ok

def f58_s_B10Numbers : Nat → Nat → List T → Int → Option (Nat × List T)
  | 0, _, _, _ => none
  | n + 1, n1, l2, i3 =>
    bd (f71_s_l00From n n1 l2) fun r4 =>
    let n5 : Nat := r4.1
    let l6 : List T := r4.2.1
    let i7 : Int := r4.2.2.1
    let i8 : Int := r4.2.2.2
    bd (f91_s_l01DrawFloats n n5 l6 i7 i8 i3) fun r9 =>
    let n10 : Nat := r9.1
    let l11 : List T := r9.2.1
    let n12 : Nat := r9.2.2.1
    let l13 : List T := r9.2.2.2.1
    let i14 : Int := r9.2.2.2.2.1
    let i15 : Int := r9.2.2.2.2.2
    some (n10, l11)
def sg_li : Sig (Nat × List T × Int) where
  pk := fun v => [.lst v.1 v.2.1, .int v.2.2]
  up := fun ls => match ls with
    | [.lst a0 a1, .int a2] => some (a0, a1, a2)
    | _ => none
  ok := by
    intro ls v h
    split at h
    · cases h; rfl
    · cases h

def f58_s_B10Numbers.P : List Arg := [⟨.val, ⟨false, [.sl .shr [.leaf]], [.lst 0 []]⟩⟩, ⟨.val, ⟨false, [.leaf], [.int .i64 0]⟩⟩]
def f58_s_B10Numbers.A : RAlt (Nat × List T) := .one ⟨[⟨false, [.sl .own [.leaf]], [.lst 0 []]⟩], [none, none]⟩ sg_l
def f58_s_B10Numbers.F (n : Nat) (v : Nat × List T × Int) := f58_s_B10Numbers n v.1 v.2.1 v.2.2
noncomputable def f58_s_B10Numbers.O (n : Nat) : Orc := orcOf (E := E) [f71_s_l00From.w, f91_s_l01DrawFloats.w] [] n
theorem f58_s_B10Numbers.ok : ∀ n v x, f58_s_B10Numbers.F n v = some x → evalFn E n 58 (flAs f58_s_B10Numbers.P (sg_li.pk v)) = some (f58_s_B10Numbers.A.enc x) :=
  fn_pure (modes := (fdAt 58).ms) (outs := (fdAt 58).os) (results := (fdAt 58).rs) f58_s_B10Numbers.O (c := c58) (keep := keepAt 58) (by kernel_rfl) (fun n => orcOf_cf _ _ n) (fun n => lpOk_of (bs := []) (by kernel_rfl) .nil) (fun _ => rfl) (fun _ _ => by kernel_rfl)
noncomputable def f58_s_B10Numbers.w : FnW E := fnW 58 f58_s_B10Numbers.P sg_li f58_s_B10Numbers.A f58_s_B10Numbers.F f58_s_B10Numbers.ok

def f82_i_areSamples : Nat → Nat → List T → Option (Bool)
  | 0, _, _ => none
  | n + 1, n1, l2 =>
    some (decide (((n1 : Nat) : Int) ≤ (256 : Int)))
def f82_i_areSamples.P : List Arg := [⟨.val, ⟨false, [.sl .shr [.leaf]], [.lst 0 []]⟩⟩]
def f82_i_areSamples.A : RAlt (Bool) := .one ⟨[⟨false, [.leaf], [.bool false]⟩], [none]⟩ sg_b
def f82_i_areSamples.F (n : Nat) (v : Nat × List T) := f82_i_areSamples n v.1 v.2
noncomputable def f82_i_areSamples.O (n : Nat) : Orc := orcOf (E := E) [] [] n
theorem f82_i_areSamples.ok : ∀ n v x, f82_i_areSamples.F n v = some x → evalFn E n 82 (flAs f82_i_areSamples.P (sg_l.pk v)) = some (f82_i_areSamples.A.enc x) :=
  fn_pure (modes := (fdAt 82).ms) (outs := (fdAt 82).os) (results := (fdAt 82).rs) f82_i_areSamples.O (c := c82) (keep := keepAt 82) (by kernel_rfl) (fun n => orcOf_cf _ _ n) (fun n => lpOk_of (bs := []) (by kernel_rfl) .nil) (fun _ => rfl) (fun _ _ => by kernel_rfl)
noncomputable def f82_i_areSamples.w : FnW E := fnW 82 f82_i_areSamples.P sg_l f82_i_areSamples.A f82_i_areSamples.F f82_i_areSamples.ok

def f66_i_MixSamples.l0 (n : Nat) : Nat → Nat → List T → Nat → List T → Nat → List T → Int → Int → Option (Nat × List T)
  | 0, _, _, _, _, _, _, _, _ => none
  | m + 1, n1, l2, n3, l4, n5, l6, i7, i8 =>
    br (decide (i8 < i7)) (
     gd ((decide (((0 : Int) ≤ i8) ∧ (i8 < ((n1 : Nat) : Int)))) && (okAt [(CK.flt FloatKind.f32)] l2 (Int.toNat i8))) (
     gd ((decide (((0 : Int) ≤ i8) ∧ (i8 < ((n3 : Nat) : Int)))) && (okAt [(CK.flt FloatKind.f32)] l4 (Int.toNat i8))) (
     gd (Nat.ble (n5 + 1) 2147483648) (
     let n9 : Nat := (n5 + 1)
     let l10 : List T := (l6 ++ (setN (reps 1 [(T.flt FloatKind.f32 0)]) 0 [(T.flt FloatKind.f32 (fadd FloatKind.f32 (fAt l2 (Int.toNat i8)) (fAt l4 (Int.toNat i8))))]))
     f66_i_MixSamples.l0 n m n1 l2 n3 l4 n9 l10 i7 (IntKind.i64.wrap (i8 + (1 : Int))))))) (
     some (n5, l6))
def f66_i_MixSamples : Nat → Nat → List T → Nat → List T → Option (Nat × List T × Bool)
  | 0, _, _, _, _ => none
  | n + 1, n1, l2, n3, l4 =>
    bd (f82_i_areSamples n n1 l2) fun r5 =>
    let b6 : Bool := r5
    br (!b6) (
     some (0, [], false)) (
     br (((n1 : Nat) : Int) != ((n3 : Nat) : Int)) (
      some (0, [], false)) (
      bd (f66_i_MixSamples.l0 n n n1 l2 n3 l4 0 [] ((n1 : Nat) : Int) (0 : Int)) fun r7 =>
      let n8 : Nat := r7.1
      let l9 : List T := r7.2
      some (n8, l9, true)))
def sg_lb : Sig (Nat × List T × Bool) where
  pk := fun v => [.lst v.1 v.2.1, .bool v.2.2]
  up := fun ls => match ls with
    | [.lst a0 a1, .bool a2] => some (a0, a1, a2)
    | _ => none
  ok := by
    intro ls v h
    split at h
    · cases h; rfl
    · cases h

def sg_lllii : Sig (Nat × List T × Nat × List T × Nat × List T × Int × Int) where
  pk := fun v => [.lst v.1 v.2.1, .lst v.2.2.1 v.2.2.2.1, .lst v.2.2.2.2.1 v.2.2.2.2.2.1, .int v.2.2.2.2.2.2.1, .int v.2.2.2.2.2.2.2]
  up := fun ls => match ls with
    | [.lst a0 a1, .lst a2 a3, .lst a4 a5, .int a6, .int a7] => some (a0, a1, a2, a3, a4, a5, a6, a7)
    | _ => none
  ok := by
    intro ls v h
    split at h
    · cases h; rfl
    · cases h

def f66_i_MixSamples.l0.P : AS := ⟨[(0, .val false [.sl .shr [.leaf]] [.lst 0 []] [] 0), (1, .val false [.sl .shr [.leaf]] [.lst 0 []] [] 0), (6, .val false [.sl .own [.leaf]] [.lst 0 []] [] 0), (19, .val false [.leaf] [.int .i64 0] [] 0), (20, .val false [.leaf] [.int .i64 0] [] 0)], 0⟩
def f66_i_MixSamples.l0.A : Alt (Nat × List T) := .one (.exit 0) ⟨[(6, .val false [.sl .own [.leaf]] [.lst 0 []] [] 0)], 0⟩ sg_l
def f66_i_MixSamples.l0.F (n m : Nat) (v : Nat × List T × Nat × List T × Nat × List T × Int × Int) := f66_i_MixSamples.l0 n m v.1 v.2.1 v.2.2.1 v.2.2.2.1 v.2.2.2.2.1 v.2.2.2.2.2.1 v.2.2.2.2.2.2.1 v.2.2.2.2.2.2.2
def f66_i_MixSamples.l0.W (n : Nat) : LpW := .of 80 f66_i_MixSamples.l0.P sg_lllii f66_i_MixSamples.l0.A (f66_i_MixSamples.l0.F n n)
def f66_i_MixSamples.P : List Arg := [⟨.val, ⟨false, [.sl .shr [.leaf]], [.lst 0 []]⟩⟩, ⟨.val, ⟨false, [.sl .shr [.leaf]], [.lst 0 []]⟩⟩]
def f66_i_MixSamples.A : RAlt (Nat × List T × Bool) := .one ⟨[⟨false, [.sl .own [.leaf]], [.lst 0 []]⟩, ⟨false, [.leaf], [.bool false]⟩], [none, none]⟩ sg_lb
def f66_i_MixSamples.F (n : Nat) (v : Nat × List T × Nat × List T) := f66_i_MixSamples n v.1 v.2.1 v.2.2.1 v.2.2.2
noncomputable def f66_i_MixSamples.O (n : Nat) : Orc := orcOf (E := E) [f82_i_areSamples.w] [f66_i_MixSamples.l0.W n] n
theorem f66_i_MixSamples.l0.ok (n : Nat) : LpOk (f66_i_MixSamples.O n) E (evalFn E n) n (keepAt 66) (.loop (loopAt c66 0)) :=
  lp_pure f66_i_MixSamples.l0.P sg_lllii f66_i_MixSamples.l0.A (f66_i_MixSamples.l0.F n) (orcOf_cf _ _ n) (lpOk_of (bs := []) (by kernel_rfl) .nil) (fun _ => rfl) (fun _ _ => by kernel_rfl) (fun _ _ _ => by kernel_rfl)
theorem f66_i_MixSamples.ok : ∀ n v x, f66_i_MixSamples.F n v = some x → evalFn E n 66 (flAs f66_i_MixSamples.P (sg_ll.pk v)) = some (f66_i_MixSamples.A.enc x) :=
  fn_pure (modes := (fdAt 66).ms) (outs := (fdAt 66).os) (results := (fdAt 66).rs) f66_i_MixSamples.O (c := c66) (keep := keepAt 66) (by kernel_rfl) (fun n => orcOf_cf _ _ n) (fun n => lpOk_of (bs := [loopAt c66 0]) (by kernel_rfl) (.cons (f66_i_MixSamples.l0.ok n) .nil)) (fun _ => rfl) (fun _ _ => by kernel_rfl)
noncomputable def f66_i_MixSamples.w : FnW E := fnW 66 f66_i_MixSamples.P sg_ll f66_i_MixSamples.A f66_i_MixSamples.F f66_i_MixSamples.ok

def f107_i_scaled.l0 (n : Nat) : Nat → Nat → List T → Nat → Nat → List T → Nat → List T → Int → Int → Option (Nat × List T)
  | 0, _, _, _, _, _, _, _, _, _ => none
  | m + 1, n1, l2, x3, n4, l5, n6, l7, i8, i9 =>
    br (decide (i9 < i8)) (
     gd ((decide (((0 : Int) ≤ i9) ∧ (i9 < ((n6 : Nat) : Int)))) && (okAt [(CK.flt FloatKind.f32)] l7 (Int.toNat i9))) (
     let x10 : Nat := (fAt l7 (Int.toNat i9))
     gd (Nat.ble (n4 + 1) 2147483648) (
     let n11 : Nat := (n4 + 1)
     let l12 : List T := (l5 ++ (setN (reps 1 [(T.flt FloatKind.f32 0)]) 0 [(T.flt FloatKind.f32 (fmul FloatKind.f32 x10 x3))]))
     f107_i_scaled.l0 n m n1 l2 x3 n11 l12 n6 l7 i8 (IntKind.i64.wrap (i9 + (1 : Int)))))) (
     some (n4, l5))
def f107_i_scaled : Nat → Nat → List T → Nat → Option (Nat × List T)
  | 0, _, _, _ => none
  | n + 1, n1, l2, x3 =>
    bd (f107_i_scaled.l0 n n n1 l2 x3 0 [] n1 l2 ((n1 : Nat) : Int) (0 : Int)) fun r4 =>
    let n5 : Nat := r4.1
    let l6 : List T := r4.2
    some (n5, l6)
def sg_lf : Sig (Nat × List T × Nat) where
  pk := fun v => [.lst v.1 v.2.1, .flt v.2.2]
  up := fun ls => match ls with
    | [.lst a0 a1, .flt a2] => some (a0, a1, a2)
    | _ => none
  ok := by
    intro ls v h
    split at h
    · cases h; rfl
    · cases h

def sg_lfllii : Sig (Nat × List T × Nat × Nat × List T × Nat × List T × Int × Int) where
  pk := fun v => [.lst v.1 v.2.1, .flt v.2.2.1, .lst v.2.2.2.1 v.2.2.2.2.1, .lst v.2.2.2.2.2.1 v.2.2.2.2.2.2.1, .int v.2.2.2.2.2.2.2.1, .int v.2.2.2.2.2.2.2.2]
  up := fun ls => match ls with
    | [.lst a0 a1, .flt a2, .lst a3 a4, .lst a5 a6, .int a7, .int a8] => some (a0, a1, a2, a3, a4, a5, a6, a7, a8)
    | _ => none
  ok := by
    intro ls v h
    split at h
    · cases h; rfl
    · cases h

def f107_i_scaled.l0.P : AS := ⟨[(0, .val false [.sl .shr [.leaf]] [.lst 0 []] [] 0), (1, .val false [.leaf] [.flt .f32 0] [] 0), (5, .val false [.sl .own [.leaf]] [.lst 0 []] [] 0), (8, .val false [.sl .shr [.leaf]] [.lst 0 []] [] 0), (9, .val false [.leaf] [.int .i64 0] [] 0), (10, .val false [.leaf] [.int .i64 0] [] 0)], 0⟩
def f107_i_scaled.l0.A : Alt (Nat × List T) := .one (.exit 0) ⟨[(5, .val false [.sl .own [.leaf]] [.lst 0 []] [] 0)], 0⟩ sg_l
def f107_i_scaled.l0.F (n m : Nat) (v : Nat × List T × Nat × Nat × List T × Nat × List T × Int × Int) := f107_i_scaled.l0 n m v.1 v.2.1 v.2.2.1 v.2.2.2.1 v.2.2.2.2.1 v.2.2.2.2.2.1 v.2.2.2.2.2.2.1 v.2.2.2.2.2.2.2.1 v.2.2.2.2.2.2.2.2
def f107_i_scaled.l0.W (n : Nat) : LpW := .of 48 f107_i_scaled.l0.P sg_lfllii f107_i_scaled.l0.A (f107_i_scaled.l0.F n n)
def f107_i_scaled.P : List Arg := [⟨.val, ⟨false, [.sl .shr [.leaf]], [.lst 0 []]⟩⟩, ⟨.val, ⟨false, [.leaf], [.flt .f32 0]⟩⟩]
def f107_i_scaled.A : RAlt (Nat × List T) := .one ⟨[⟨false, [.sl .own [.leaf]], [.lst 0 []]⟩], [none, none]⟩ sg_l
def f107_i_scaled.F (n : Nat) (v : Nat × List T × Nat) := f107_i_scaled n v.1 v.2.1 v.2.2
noncomputable def f107_i_scaled.O (n : Nat) : Orc := orcOf (E := E) [] [f107_i_scaled.l0.W n] n
theorem f107_i_scaled.l0.ok (n : Nat) : LpOk (f107_i_scaled.O n) E (evalFn E n) n (keepAt 107) (.loop (loopAt c107 0)) :=
  lp_pure f107_i_scaled.l0.P sg_lfllii f107_i_scaled.l0.A (f107_i_scaled.l0.F n) (orcOf_cf _ _ n) (lpOk_of (bs := []) (by kernel_rfl) .nil) (fun _ => rfl) (fun _ _ => by kernel_rfl) (fun _ _ _ => by kernel_rfl)
theorem f107_i_scaled.ok : ∀ n v x, f107_i_scaled.F n v = some x → evalFn E n 107 (flAs f107_i_scaled.P (sg_lf.pk v)) = some (f107_i_scaled.A.enc x) :=
  fn_pure (modes := (fdAt 107).ms) (outs := (fdAt 107).os) (results := (fdAt 107).rs) f107_i_scaled.O (c := c107) (keep := keepAt 107) (by kernel_rfl) (fun n => orcOf_cf _ _ n) (fun n => lpOk_of (bs := [loopAt c107 0]) (by kernel_rfl) (.cons (f107_i_scaled.l0.ok n) .nil)) (fun _ => rfl) (fun _ _ => by kernel_rfl)
noncomputable def f107_i_scaled.w : FnW E := fnW 107 f107_i_scaled.P sg_lf f107_i_scaled.A f107_i_scaled.F f107_i_scaled.ok

def f67_i_ScaleSamples : Nat → Nat → List T → Nat → Option (Nat × List T × Bool)
  | 0, _, _, _ => none
  | n + 1, n1, l2, x3 =>
    bd (f82_i_areSamples n n1 l2) fun r4 =>
    let b5 : Bool := r4
    br (!b5) (
     some (0, [], false)) (
     bd (f107_i_scaled n n1 l2 x3) fun r6 =>
     let n7 : Nat := r6.1
     let l8 : List T := r6.2
     some (n7, l8, true))
def f67_i_ScaleSamples.P : List Arg := [⟨.val, ⟨false, [.sl .shr [.leaf]], [.lst 0 []]⟩⟩, ⟨.val, ⟨false, [.leaf], [.flt .f32 0]⟩⟩]
def f67_i_ScaleSamples.A : RAlt (Nat × List T × Bool) := .one ⟨[⟨false, [.sl .own [.leaf]], [.lst 0 []]⟩, ⟨false, [.leaf], [.bool false]⟩], [none, none]⟩ sg_lb
def f67_i_ScaleSamples.F (n : Nat) (v : Nat × List T × Nat) := f67_i_ScaleSamples n v.1 v.2.1 v.2.2
noncomputable def f67_i_ScaleSamples.O (n : Nat) : Orc := orcOf (E := E) [f82_i_areSamples.w, f107_i_scaled.w] [] n
theorem f67_i_ScaleSamples.ok : ∀ n v x, f67_i_ScaleSamples.F n v = some x → evalFn E n 67 (flAs f67_i_ScaleSamples.P (sg_lf.pk v)) = some (f67_i_ScaleSamples.A.enc x) :=
  fn_pure (modes := (fdAt 67).ms) (outs := (fdAt 67).os) (results := (fdAt 67).rs) f67_i_ScaleSamples.O (c := c67) (keep := keepAt 67) (by kernel_rfl) (fun n => orcOf_cf _ _ n) (fun n => lpOk_of (bs := []) (by kernel_rfl) .nil) (fun _ => rfl) (fun _ _ => by kernel_rfl)
noncomputable def f67_i_ScaleSamples.w : FnW E := fnW 67 f67_i_ScaleSamples.P sg_lf f67_i_ScaleSamples.A f67_i_ScaleSamples.F f67_i_ScaleSamples.ok

def f92_i_absolute : Nat → Nat → Option (Nat)
  | 0, _ => none
  | n + 1, x1 =>
    bd ((fltToFlt FloatKind.f32 x1 FloatKind.f64)) fun y2 =>
    bd (xAbs n y2) fun r3 =>
    let x4 : Nat := r3
    bd ((fltToFlt FloatKind.f64 x4 FloatKind.f32)) fun y5 =>
    some y5
def f92_i_absolute.P : List Arg := [⟨.val, ⟨false, [.leaf], [.flt .f32 0]⟩⟩]
def f92_i_absolute.A : RAlt (Nat) := .one ⟨[⟨false, [.leaf], [.flt .f32 0]⟩], [none]⟩ sg_f
def f92_i_absolute.F (n : Nat) (v : Nat) := f92_i_absolute n v
noncomputable def f92_i_absolute.O (n : Nat) : Orc := orcOf (E := E) [x115.w] [] n
theorem f92_i_absolute.ok : ∀ n v x, f92_i_absolute.F n v = some x → evalFn E n 92 (flAs f92_i_absolute.P (sg_f.pk v)) = some (f92_i_absolute.A.enc x) :=
  fn_pure (modes := (fdAt 92).ms) (outs := (fdAt 92).os) (results := (fdAt 92).rs) f92_i_absolute.O (c := c92) (keep := keepAt 92) (by kernel_rfl) (fun n => orcOf_cf _ _ n) (fun n => lpOk_of (bs := []) (by kernel_rfl) .nil) (fun _ => rfl) (fun _ _ => by kernel_rfl)
noncomputable def f92_i_absolute.w : FnW E := fnW 92 f92_i_absolute.P sg_f f92_i_absolute.A f92_i_absolute.F f92_i_absolute.ok

def f97_i_peakOf.l0 (n : Nat) : Nat → Nat → List T → Nat → Nat → List T → Int → Int → Option (Nat)
  | 0, _, _, _, _, _, _, _ => none
  | m + 1, n1, l2, x3, n4, l5, i6, i7 =>
    br (decide (i7 < i6)) (
     gd ((decide (((0 : Int) ≤ i7) ∧ (i7 < ((n4 : Nat) : Int)))) && (okAt [(CK.flt FloatKind.f32)] l5 (Int.toNat i7))) (
     let x8 : Nat := (fAt l5 (Int.toNat i7))
     bd (f92_i_absolute n x8) fun r9 =>
     let x10 : Nat := r9
     br (fgt FloatKind.f32 x10 x3) (
      f97_i_peakOf.l0 n m n1 l2 x10 n4 l5 i6 (IntKind.i64.wrap (i7 + (1 : Int)))) (
      f97_i_peakOf.l0 n m n1 l2 x3 n4 l5 i6 (IntKind.i64.wrap (i7 + (1 : Int)))))) (
     some x3)
def f97_i_peakOf : Nat → Nat → List T → Option (Nat)
  | 0, _, _ => none
  | n + 1, n1, l2 =>
    bd (f97_i_peakOf.l0 n n n1 l2 0 n1 l2 ((n1 : Nat) : Int) (0 : Int)) fun r3 =>
    let x4 : Nat := r3
    some x4
def sg_lflii : Sig (Nat × List T × Nat × Nat × List T × Int × Int) where
  pk := fun v => [.lst v.1 v.2.1, .flt v.2.2.1, .lst v.2.2.2.1 v.2.2.2.2.1, .int v.2.2.2.2.2.1, .int v.2.2.2.2.2.2]
  up := fun ls => match ls with
    | [.lst a0 a1, .flt a2, .lst a3 a4, .int a5, .int a6] => some (a0, a1, a2, a3, a4, a5, a6)
    | _ => none
  ok := by
    intro ls v h
    split at h
    · cases h; rfl
    · cases h

def f97_i_peakOf.l0.P : AS := ⟨[(0, .val false [.sl .shr [.leaf]] [.lst 0 []] [] 0), (3, .val false [.leaf] [.flt .f32 0] [] 0), (7, .val false [.sl .shr [.leaf]] [.lst 0 []] [] 0), (8, .val false [.leaf] [.int .i64 0] [] 0), (9, .val false [.leaf] [.int .i64 0] [] 0)], 0⟩
def f97_i_peakOf.l0.A : Alt (Nat) := .one (.exit 0) ⟨[(3, .val false [.leaf] [.flt .f32 0] [] 0)], 0⟩ sg_f
def f97_i_peakOf.l0.F (n m : Nat) (v : Nat × List T × Nat × Nat × List T × Int × Int) := f97_i_peakOf.l0 n m v.1 v.2.1 v.2.2.1 v.2.2.2.1 v.2.2.2.2.1 v.2.2.2.2.2.1 v.2.2.2.2.2.2
def f97_i_peakOf.l0.W (n : Nat) : LpW := .of 48 f97_i_peakOf.l0.P sg_lflii f97_i_peakOf.l0.A (f97_i_peakOf.l0.F n n)
def f97_i_peakOf.P : List Arg := [⟨.val, ⟨false, [.sl .shr [.leaf]], [.lst 0 []]⟩⟩]
def f97_i_peakOf.A : RAlt (Nat) := .one ⟨[⟨false, [.leaf], [.flt .f32 0]⟩], [none]⟩ sg_f
def f97_i_peakOf.F (n : Nat) (v : Nat × List T) := f97_i_peakOf n v.1 v.2
noncomputable def f97_i_peakOf.O (n : Nat) : Orc := orcOf (E := E) [f92_i_absolute.w] [f97_i_peakOf.l0.W n] n
theorem f97_i_peakOf.l0.ok (n : Nat) : LpOk (f97_i_peakOf.O n) E (evalFn E n) n (keepAt 97) (.loop (loopAt c97 0)) :=
  lp_pure f97_i_peakOf.l0.P sg_lflii f97_i_peakOf.l0.A (f97_i_peakOf.l0.F n) (orcOf_cf _ _ n) (lpOk_of (bs := []) (by kernel_rfl) .nil) (fun _ => rfl) (fun _ _ => by kernel_rfl) (fun _ _ _ => by kernel_rfl)
theorem f97_i_peakOf.ok : ∀ n v x, f97_i_peakOf.F n v = some x → evalFn E n 97 (flAs f97_i_peakOf.P (sg_l.pk v)) = some (f97_i_peakOf.A.enc x) :=
  fn_pure (modes := (fdAt 97).ms) (outs := (fdAt 97).os) (results := (fdAt 97).rs) f97_i_peakOf.O (c := c97) (keep := keepAt 97) (by kernel_rfl) (fun n => orcOf_cf _ _ n) (fun n => lpOk_of (bs := [loopAt c97 0]) (by kernel_rfl) (.cons (f97_i_peakOf.l0.ok n) .nil)) (fun _ => rfl) (fun _ _ => by kernel_rfl)
noncomputable def f97_i_peakOf.w : FnW E := fnW 97 f97_i_peakOf.P sg_l f97_i_peakOf.A f97_i_peakOf.F f97_i_peakOf.ok

def f48_i_PeakOf : Nat → Nat → List T → Option (Nat × Bool)
  | 0, _, _ => none
  | n + 1, n1, l2 =>
    bd (f82_i_areSamples n n1 l2) fun r3 =>
    let b4 : Bool := r3
    br (!b4) (
     some (0, false)) (
     bd (f97_i_peakOf n n1 l2) fun r5 =>
     let x6 : Nat := r5
     some (x6, true))
def f48_i_PeakOf.P : List Arg := [⟨.val, ⟨false, [.sl .shr [.leaf]], [.lst 0 []]⟩⟩]
def f48_i_PeakOf.A : RAlt (Nat × Bool) := .one ⟨[⟨false, [.leaf], [.flt .f32 0]⟩, ⟨false, [.leaf], [.bool false]⟩], [none]⟩ sg_fb
def f48_i_PeakOf.F (n : Nat) (v : Nat × List T) := f48_i_PeakOf n v.1 v.2
noncomputable def f48_i_PeakOf.O (n : Nat) : Orc := orcOf (E := E) [f82_i_areSamples.w, f97_i_peakOf.w] [] n
theorem f48_i_PeakOf.ok : ∀ n v x, f48_i_PeakOf.F n v = some x → evalFn E n 48 (flAs f48_i_PeakOf.P (sg_l.pk v)) = some (f48_i_PeakOf.A.enc x) :=
  fn_pure (modes := (fdAt 48).ms) (outs := (fdAt 48).os) (results := (fdAt 48).rs) f48_i_PeakOf.O (c := c48) (keep := keepAt 48) (by kernel_rfl) (fun n => orcOf_cf _ _ n) (fun n => lpOk_of (bs := []) (by kernel_rfl) .nil) (fun _ => rfl) (fun _ _ => by kernel_rfl)
noncomputable def f48_i_PeakOf.w : FnW E := fnW 48 f48_i_PeakOf.P sg_l f48_i_PeakOf.A f48_i_PeakOf.F f48_i_PeakOf.ok

def f13_l_FnFlushed.l0 (n : Nat) : Nat → Nat → Int → Nat → List T → Nat → List T → Nat → List T → Nat → List T → Nat → Bool → Int → Option ((Bool) ⊕ (Bool))
  | 0, _, _, _, _, _, _, _, _, _, _, _, _, _ => none
  | m + 1, x1, i2, n3, l4, n5, l6, n7, l8, n9, l10, x11, b12, i13 =>
    br (decide (i13 < i2)) (
     gd (decide (((0 : Int) ≤ i13) ∧ (i13 < ((n7 : Nat) : Int)))) (
     gd (okAt [(CK.flt FloatKind.f32)] l8 (Int.toNat i13)) (
     gd (decide (((0 : Int) ≤ i13) ∧ (i13 < ((n3 : Nat) : Int)))) (
     gd (okAt [(CK.flt FloatKind.f32)] l4 (Int.toNat i13)) (
     gd (decide (((0 : Int) ≤ i13) ∧ (i13 < ((n5 : Nat) : Int)))) (
     gd (okAt [(CK.flt FloatKind.f32)] l6 (Int.toNat i13)) (
     bd (f17_s_SameNumber n (fAt l8 (Int.toNat i13)) (fadd FloatKind.f32 (fAt l4 (Int.toNat i13)) (fAt l6 (Int.toNat i13)))) fun r14 =>
     let b15 : Bool := r14
     br (!b15) (
      some (Sum.inl false)) (
      gd (decide (((0 : Int) ≤ i13) ∧ (i13 < ((n9 : Nat) : Int)))) (
      gd (okAt [(CK.flt FloatKind.f32)] l10 (Int.toNat i13)) (
      gd (decide (((0 : Int) ≤ i13) ∧ (i13 < ((n3 : Nat) : Int)))) (
      gd (okAt [(CK.flt FloatKind.f32)] l4 (Int.toNat i13)) (
      bd (f17_s_SameNumber n (fAt l10 (Int.toNat i13)) (fmul FloatKind.f32 (fAt l4 (Int.toNat i13)) x1)) fun r16 =>
      let b17 : Bool := r16
      br (!b17) (
       some (Sum.inl false)) (
       gd (decide (((0 : Int) ≤ i13) ∧ (i13 < ((n3 : Nat) : Int)))) (
       gd (okAt [(CK.flt FloatKind.f32)] l4 (Int.toNat i13)) (
       br (fgt FloatKind.f32 (fAt l4 (Int.toNat i13)) x11) (
        some (Sum.inl false)) (
        gd (decide (((0 : Int) ≤ i13) ∧ (i13 < ((n3 : Nat) : Int)))) (
        gd (okAt [(CK.flt FloatKind.f32)] l4 (Int.toNat i13)) (
        br (fgt FloatKind.f32 (negF FloatKind.f32 (fAt l4 (Int.toNat i13))) x11) (
         some (Sum.inl false)) (
         br b12 (
          f13_l_FnFlushed.l0 n m x1 i2 n3 l4 n5 l6 n7 l8 n9 l10 x11 true (IntKind.i64.wrap (i13 + (1 : Int)))) (
          gd (decide (((0 : Int) ≤ i13) ∧ (i13 < ((n3 : Nat) : Int)))) (
          gd (okAt [(CK.flt FloatKind.f32)] l4 (Int.toNat i13)) (
          br (feq FloatKind.f32 (fAt l4 (Int.toNat i13)) x11) (
           f13_l_FnFlushed.l0 n m x1 i2 n3 l4 n5 l6 n7 l8 n9 l10 x11 true (IntKind.i64.wrap (i13 + (1 : Int)))) (
           gd (decide (((0 : Int) ≤ i13) ∧ (i13 < ((n3 : Nat) : Int)))) (
           gd (okAt [(CK.flt FloatKind.f32)] l4 (Int.toNat i13)) (
           let b18 : Bool := (feq FloatKind.f32 (negF FloatKind.f32 (fAt l4 (Int.toNat i13))) x11)
           f13_l_FnFlushed.l0 n m x1 i2 n3 l4 n5 l6 n7 l8 n9 l10 x11 b18 (IntKind.i64.wrap (i13 + (1 : Int)))))))))))))))))))))))))))) (
     some (Sum.inr b12))
termination_by structural x => x
def f13_l_FnFlushed : Nat → Nat → List T → Nat → List T → Option (Bool)
  | 0, _, _, _, _ => none
  | n + 1, n1, l2, n3, l4 =>
    bd (f15_l_b10Long n n1 l2 n3 l4) fun r5 =>
    let b6 : Bool := r5
    br b6 (
     some true) (
     bd (f16_s_B10Number n n1 l2) fun r7 =>
     let x8 : Nat := r7
     bd (f63_i_FlushNumber n x8) fun r9 =>
     let x10 : Nat := r9
     bd (f21_s_BitsOf n x8) fun r11 =>
     let i12 : Int := r11
     bd (f64_s_FromBits n (Int.tmod i12 (8388608 : Int))) fun r13 =>
     let x14 : Nat := r13.1
     let b15 : Bool := r13.2
     br (!b15) (
      some false) (
      bd (f65_i_IsSubnormal n x10) fun r16 =>
      let b17 : Bool := r16
      br b17 (
       some false) (
       bd (f65_i_IsSubnormal n x8) fun r18 =>
       let b19 : Bool := r18
       bd (f17_s_SameNumber n x8 x10) fun r20 =>
       let b21 : Bool := r20
       br (b19 == b21) (
        some false) (
        br (feq FloatKind.f32 x8 x8) (
         bd (f21_s_BitsOf n x8) fun r22 =>
         let i23 : Int := r22
         bd (f21_s_BitsOf n x10) fun r24 =>
         let i25 : Int := r24
         br ((IntKind.i64.wrap (Int.tdiv i23 (2147483648 : Int))) != (IntKind.i64.wrap (Int.tdiv i25 (2147483648 : Int)))) (
          some false) (
          br (fne FloatKind.f32 x14 0) (
           bd (f65_i_IsSubnormal n x14) fun r26 =>
           let b27 : Bool := r26
           br (!b27) (
            some false) (
            bd (f63_i_FlushNumber n x14) fun r28 =>
            let x29 : Nat := r28
            br (fne FloatKind.f32 x29 0) (
             some false) (
             bd (f57_l_b10At n n3 l4 (0 : Int) (10 : Int)) fun r30 =>
             let i31 : Int := r30
             bd (f58_s_B10Numbers n n1 l2 i31) fun r32 =>
             let n33 : Nat := r32.1
             let l34 : List T := r32.2
             bd (f58_s_B10Numbers n n3 l4 i31) fun r35 =>
             let n36 : Nat := r35.1
             let l37 : List T := r35.2
             bd (f66_i_MixSamples n n33 l34 n36 l37) fun r38 =>
             let n39 : Nat := r38.1
             let l40 : List T := r38.2.1
             let b41 : Bool := r38.2.2
             bd (f67_i_ScaleSamples n n33 l34 x8) fun r42 =>
             let n43 : Nat := r42.1
             let l44 : List T := r42.2.1
             let b45 : Bool := r42.2.2
             bd (f48_i_PeakOf n n33 l34) fun r46 =>
             let x47 : Nat := r46.1
             let b48 : Bool := r46.2
             br (!b41) (
              some false) (
              br (!b45) (
               some false) (
               br (!b48) (
                some false) (
                br (((n39 : Nat) : Int) != i31) (
                 some false) (
                 br (((n43 : Nat) : Int) != i31) (
                  some false) (
                  br (!(fge FloatKind.f32 x47 0)) (
                   some false) (
                   let b49 : Bool := (feq FloatKind.f32 x47 0)
                   bd (f13_l_FnFlushed.l0 n n x8 i31 n33 l34 n36 l37 n39 l40 n43 l44 x47 b49 (0 : Int)) fun r50 =>
                   sm r50 (fun u51 =>
                    let b52 : Bool := u51
                    some b52) (fun u53 =>
                    let b54 : Bool := u53
                    some b54)))))))))) (
           bd (f57_l_b10At n n3 l4 (0 : Int) (10 : Int)) fun r55 =>
           let i56 : Int := r55
           bd (f58_s_B10Numbers n n1 l2 i56) fun r57 =>
           let n58 : Nat := r57.1
           let l59 : List T := r57.2
           bd (f58_s_B10Numbers n n3 l4 i56) fun r60 =>
           let n61 : Nat := r60.1
           let l62 : List T := r60.2
           bd (f66_i_MixSamples n n58 l59 n61 l62) fun r63 =>
           let n64 : Nat := r63.1
           let l65 : List T := r63.2.1
           let b66 : Bool := r63.2.2
           bd (f67_i_ScaleSamples n n58 l59 x8) fun r67 =>
           let n68 : Nat := r67.1
           let l69 : List T := r67.2.1
           let b70 : Bool := r67.2.2
           bd (f48_i_PeakOf n n58 l59) fun r71 =>
           let x72 : Nat := r71.1
           let b73 : Bool := r71.2
           br (!b66) (
            some false) (
            br (!b70) (
             some false) (
             br (!b73) (
              some false) (
              br (((n64 : Nat) : Int) != i56) (
               some false) (
               br (((n68 : Nat) : Int) != i56) (
                some false) (
                br (!(fge FloatKind.f32 x72 0)) (
                 some false) (
                 let b74 : Bool := (feq FloatKind.f32 x72 0)
                 bd (f13_l_FnFlushed.l0 n n x8 i56 n58 l59 n61 l62 n64 l65 n68 l69 x72 b74 (0 : Int)) fun r75 =>
                 sm r75 (fun u76 =>
                  let b77 : Bool := u76
                  some b77) (fun u78 =>
                  let b79 : Bool := u78
                  some b79)))))))))) (
         br (fne FloatKind.f32 x14 0) (
          bd (f65_i_IsSubnormal n x14) fun r80 =>
          let b81 : Bool := r80
          br (!b81) (
           some false) (
           bd (f63_i_FlushNumber n x14) fun r82 =>
           let x83 : Nat := r82
           br (fne FloatKind.f32 x83 0) (
            some false) (
            bd (f57_l_b10At n n3 l4 (0 : Int) (10 : Int)) fun r84 =>
            let i85 : Int := r84
            bd (f58_s_B10Numbers n n1 l2 i85) fun r86 =>
            let n87 : Nat := r86.1
            let l88 : List T := r86.2
            bd (f58_s_B10Numbers n n3 l4 i85) fun r89 =>
            let n90 : Nat := r89.1
            let l91 : List T := r89.2
            bd (f66_i_MixSamples n n87 l88 n90 l91) fun r92 =>
            let n93 : Nat := r92.1
            let l94 : List T := r92.2.1
            let b95 : Bool := r92.2.2
            bd (f67_i_ScaleSamples n n87 l88 x8) fun r96 =>
            let n97 : Nat := r96.1
            let l98 : List T := r96.2.1
            let b99 : Bool := r96.2.2
            bd (f48_i_PeakOf n n87 l88) fun r100 =>
            let x101 : Nat := r100.1
            let b102 : Bool := r100.2
            br (!b95) (
             some false) (
             br (!b99) (
              some false) (
              br (!b102) (
               some false) (
               br (((n93 : Nat) : Int) != i85) (
                some false) (
                br (((n97 : Nat) : Int) != i85) (
                 some false) (
                 br (!(fge FloatKind.f32 x101 0)) (
                  some false) (
                  let b103 : Bool := (feq FloatKind.f32 x101 0)
                  bd (f13_l_FnFlushed.l0 n n x8 i85 n87 l88 n90 l91 n93 l94 n97 l98 x101 b103 (0 : Int)) fun r104 =>
                  sm r104 (fun u105 =>
                   let b106 : Bool := u105
                   some b106) (fun u107 =>
                   let b108 : Bool := u107
                   some b108)))))))))) (
          bd (f57_l_b10At n n3 l4 (0 : Int) (10 : Int)) fun r109 =>
          let i110 : Int := r109
          bd (f58_s_B10Numbers n n1 l2 i110) fun r111 =>
          let n112 : Nat := r111.1
          let l113 : List T := r111.2
          bd (f58_s_B10Numbers n n3 l4 i110) fun r114 =>
          let n115 : Nat := r114.1
          let l116 : List T := r114.2
          bd (f66_i_MixSamples n n112 l113 n115 l116) fun r117 =>
          let n118 : Nat := r117.1
          let l119 : List T := r117.2.1
          let b120 : Bool := r117.2.2
          bd (f67_i_ScaleSamples n n112 l113 x8) fun r121 =>
          let n122 : Nat := r121.1
          let l123 : List T := r121.2.1
          let b124 : Bool := r121.2.2
          bd (f48_i_PeakOf n n112 l113) fun r125 =>
          let x126 : Nat := r125.1
          let b127 : Bool := r125.2
          br (!b120) (
           some false) (
           br (!b124) (
            some false) (
            br (!b127) (
             some false) (
             br (((n118 : Nat) : Int) != i110) (
              some false) (
              br (((n122 : Nat) : Int) != i110) (
               some false) (
               br (!(fge FloatKind.f32 x126 0)) (
                some false) (
                let b128 : Bool := (feq FloatKind.f32 x126 0)
                bd (f13_l_FnFlushed.l0 n n x8 i110 n112 l113 n115 l116 n118 l119 n122 l123 x126 b128 (0 : Int)) fun r129 =>
                sm r129 (fun u130 =>
                 let b131 : Bool := u130
                 some b131) (fun u132 =>
                 let b133 : Bool := u132
                 some b133)))))))))))))
def sg_fillllfbi : Sig (Nat × Int × Nat × List T × Nat × List T × Nat × List T × Nat × List T × Nat × Bool × Int) where
  pk := fun v => [.flt v.1, .int v.2.1, .lst v.2.2.1 v.2.2.2.1, .lst v.2.2.2.2.1 v.2.2.2.2.2.1, .lst v.2.2.2.2.2.2.1 v.2.2.2.2.2.2.2.1, .lst v.2.2.2.2.2.2.2.2.1 v.2.2.2.2.2.2.2.2.2.1, .flt v.2.2.2.2.2.2.2.2.2.2.1, .bool v.2.2.2.2.2.2.2.2.2.2.2.1, .int v.2.2.2.2.2.2.2.2.2.2.2.2]
  up := fun ls => match ls with
    | [.flt a0, .int a1, .lst a2 a3, .lst a4 a5, .lst a6 a7, .lst a8 a9, .flt a10, .bool a11, .int a12] => some (a0, a1, a2, a3, a4, a5, a6, a7, a8, a9, a10, a11, a12)
    | _ => none
  ok := by
    intro ls v h
    split at h
    · cases h; rfl
    · cases h

def f13_l_FnFlushed.l0.P : AS := ⟨[(5, .val false [.leaf] [.flt .f32 0] [] 0), (9, .val false [.leaf] [.int .i64 0] [] 0), (10, .val false [.sl .own [.leaf]] [.lst 0 []] [] 0), (11, .val false [.sl .own [.leaf]] [.lst 0 []] [] 0), (12, .val false [.sl .own [.leaf]] [.lst 0 []] [] 0), (14, .val false [.sl .own [.leaf]] [.lst 0 []] [] 0), (16, .val false [.leaf] [.flt .f32 0] [] 0), (18, .val false [.leaf] [.bool false] [] 0), (19, .val false [.leaf] [.int .i64 0] [] 0)], 0⟩
def f13_l_FnFlushed.l0.A : Alt ((Bool) ⊕ (Bool)) := .or (.one .ret ⟨[(4, .val false [.leaf] [.bool false] [] 0), (18, .dead)], 0⟩ sg_b) (.one (.exit 0) ⟨[(4, .dead), (18, .val false [.leaf] [.bool false] [] 0)], 0⟩ sg_b)
def f13_l_FnFlushed.l0.F (n m : Nat) (v : Nat × Int × Nat × List T × Nat × List T × Nat × List T × Nat × List T × Nat × Bool × Int) := f13_l_FnFlushed.l0 n m v.1 v.2.1 v.2.2.1 v.2.2.2.1 v.2.2.2.2.1 v.2.2.2.2.2.1 v.2.2.2.2.2.2.1 v.2.2.2.2.2.2.2.1 v.2.2.2.2.2.2.2.2.1 v.2.2.2.2.2.2.2.2.2.1 v.2.2.2.2.2.2.2.2.2.2.1 v.2.2.2.2.2.2.2.2.2.2.2.1 v.2.2.2.2.2.2.2.2.2.2.2.2
def f13_l_FnFlushed.l0.W (n : Nat) : LpW := .of 288 f13_l_FnFlushed.l0.P sg_fillllfbi f13_l_FnFlushed.l0.A (f13_l_FnFlushed.l0.F n n)
def f13_l_FnFlushed.P : List Arg := [⟨.val, ⟨false, [.sl .shr [.leaf]], [.lst 0 []]⟩⟩, ⟨.val, ⟨false, [.sl .shr [.leaf]], [.lst 0 []]⟩⟩]
def f13_l_FnFlushed.A : RAlt (Bool) := .one ⟨[⟨false, [.leaf], [.bool false]⟩], [none, none]⟩ sg_b
def f13_l_FnFlushed.F (n : Nat) (v : Nat × List T × Nat × List T) := f13_l_FnFlushed n v.1 v.2.1 v.2.2.1 v.2.2.2
noncomputable def f13_l_FnFlushed.O (n : Nat) : Orc := orcOf (E := E) [f15_l_b10Long.w, f16_s_B10Number.w, f65_i_IsSubnormal.w, f63_i_FlushNumber.w, f21_s_BitsOf.w, f64_s_FromBits.w, f17_s_SameNumber.w, f57_l_b10At.w, f58_s_B10Numbers.w, f66_i_MixSamples.w, f67_i_ScaleSamples.w, f48_i_PeakOf.w] [f13_l_FnFlushed.l0.W n] n
theorem f13_l_FnFlushed.l0.ok (n : Nat) : LpOk (f13_l_FnFlushed.O n) E (evalFn E n) n (keepAt 13) (.loop (loopAt c13 0)) :=
  lp_pure f13_l_FnFlushed.l0.P sg_fillllfbi f13_l_FnFlushed.l0.A (f13_l_FnFlushed.l0.F n) (orcOf_cf _ _ n) (lpOk_of (bs := []) (by kernel_rfl) .nil) (fun _ => rfl) (fun _ _ => by kernel_rfl) (fun _ _ _ => by kernel_rfl)
theorem f13_l_FnFlushed.ok : ∀ n v x, f13_l_FnFlushed.F n v = some x → evalFn E n 13 (flAs f13_l_FnFlushed.P (sg_ll.pk v)) = some (f13_l_FnFlushed.A.enc x) :=
  fn_pure (modes := (fdAt 13).ms) (outs := (fdAt 13).os) (results := (fdAt 13).rs) f13_l_FnFlushed.O (c := c13) (keep := keepAt 13) (by kernel_rfl) (fun n => orcOf_cf _ _ n) (fun n => lpOk_of (bs := [loopAt c13 0]) (by kernel_rfl) (.cons (f13_l_FnFlushed.l0.ok n) .nil)) (fun _ => rfl) (fun _ _ => by kernel_rfl)
noncomputable def f13_l_FnFlushed.w : FnW E := fnW 13 f13_l_FnFlushed.P sg_ll f13_l_FnFlushed.A f13_l_FnFlushed.F f13_l_FnFlushed.ok
end Go.Proofs.Ythgenpcoelihiaa.D
end
section
/- FnFlushed, in plain Lean. -/
namespace Go.Proofs.Ythgenpcoelihiaa.D
open Go Go.Desk
set_option linter.unusedVariables false
theorem s_from (n l : Nat) (c : List T) : f71_s_l00From (n + 1) l c = some (l, c, 0, 0) := by rw [f71_s_l00From]
theorem s_next (n : Nat) {bs : List Int} (hb : Bytes bs) {a : Int} (h0 : 0 ≤ a) (h1 : a ≤ 1125899906842624) (sd : Int) :
    ∃ r sd', (0 ≤ r ∧ r ≤ 255) ∧ f111_s_l00Srcnext (n + 1) bs.length (its .u8 bs) a sd = some (r, bs.length, its .u8 bs, a + 1, sd') := by
  rw [f111_s_l00Srcnext]
  rw [show IntKind.i64.wrap (a + 1) = a + 1 by rw [wrap64] <;> omega]
  cases h : decide (a < (bs.length : Int))
  · simp only [br_f]
    cases decide (a + 1 ≤ (bs.length : Int))
    · exact ⟨_, _, and255 _, rfl⟩
    · exact ⟨0, _, by omega, rfl⟩
  · simp only [decide_eq_true_eq] at h
    obtain ⟨i, rfl⟩ := Int.eq_ofNat_of_zero_le h0
    have hi : i < bs.length := by omega
    have hr := hb (bs[i]) (List.getElem_mem _)
    simp only [br_t, in_dec hi, Int.toNat_natCast, okAt_its hi, Bool.and_self, gd_t, iAt_its]
    rw [show bs.getD i 0 = bs[i] by simp [List.getD, hi], show IntKind.i64.wrap bs[i] = bs[i] by rw [wrap64] <;> omega]
    cases decide ((i : Int) + 1 ≤ (bs.length : Int))
    · exact ⟨_, _, and255 _, rfl⟩
    · exact ⟨_, _, hr, rfl⟩
theorem s_pick (n : Nat) {bs : List Int} (hb : Bytes bs) {a : Int} (h0 : 0 ≤ a) (h1 : a ≤ 1125899906842622) (sd k : Int) :
    ∃ r a' sd', (0 ≤ r ∧ (1 < k → r < k) ∧ (k ≤ 1 → r = 0)) ∧ (a ≤ a' ∧ a' ≤ a + 2) ∧ f73_s_l00Srcpick (n + 2) bs.length (its .u8 bs) a sd k = some (r, bs.length, its .u8 bs, a', sd') := by
  rw [f73_s_l00Srcpick]
  by_cases hk : k ≤ 1
  · rw [decide_eq_true hk]; exact ⟨0, a, sd, by omega, by omega, rfl⟩
  rw [decide_eq_false hk]
  obtain ⟨r, s1, hr, e1⟩ := s_next n hb h0 (by omega) sd
  simp only [br_f, e1, bd_s]
  have hk0 : (!decide (k = 0)) = true := by simp; omega
  by_cases hk2 : k > 200
  · rw [decide_eq_true hk2]
    obtain ⟨r', s2, hr', e2⟩ := s_next n hb (a := a + 1) (by omega) (by omega) s1
    simp only [br_t, e2, bd_s, hk0, gd_t]
    rw [show IntKind.i64.wrap (r * 256) = r * 256 by rw [wrap64] <;> omega, show IntKind.i64.wrap (r * 256 + r') = r * 256 + r' by rw [wrap64] <;> omega]
    refine ⟨_, _, _, ?_, ?_, rfl⟩
    · rw [Int.tmod_eq_emod_of_nonneg (by omega)]
      have := Int.emod_nonneg (r * 256 + r') (show k ≠ 0 by omega)
      have := Int.emod_lt_of_pos (r * 256 + r') (show 0 < k by omega)
      omega
    · omega
  · rw [decide_eq_false hk2]
    simp only [br_f, hk0, gd_t]
    refine ⟨_, _, _, ?_, ?_, rfl⟩
    · rw [Int.tmod_eq_emod_of_nonneg (by omega)]
      have := Int.emod_nonneg r (show k ≠ 0 by omega)
      have := Int.emod_lt_of_pos r (show 0 < k by omega)
      omega
    · omega
theorem s_one (n : Nat) {bs : List Int} (hb : Bytes bs) {a : Int} (h0 : 0 ≤ a) (h1 : a ≤ 1125899906842622) (sd k : Int) :
    ∃ r a' sd', (a ≤ a' ∧ a' ≤ a + 2) ∧ f72_s_l00Srcone (n + 3) bs.length (its .u8 bs) a sd k = some (r, bs.length, its .u8 bs, a', sd') := by
  obtain ⟨r, a', s', -, ha, e⟩ := s_pick n hb h0 h1 sd k
  rw [f72_s_l00Srcone, e]
  exact ⟨_, _, _, ha, rfl⟩
theorem s_plain (n : Nat) {bs : List Int} (hb : Bytes bs) {a : Int} (h0 : 0 ≤ a) (h1 : a ≤ 1125899906842620) (sd : Int) :
    ∃ x a' sd', Plain x ∧ (a ≤ a' ∧ a' ≤ a + 4) ∧ f80_s_l01DrawPlain (n + 4) bs.length (its .u8 bs) a sd = some (x, bs.length, its .u8 bs, a', sd') := by
  obtain ⟨r, a1, s1, hr, ha, e⟩ := s_pick (n + 1) hb h0 (by omega) sd 129
  obtain ⟨b, a2, s2, ha2, e2⟩ := s_one n hb (a := a1) (by omega) (by omega) s1 4
  rw [f80_s_l01DrawPlain, e]
  simp only [bd_s, e2]
  rw [show IntKind.i64.wrap (r - 64) = r - 64 by rw [wrap64] <;> omega]
  cases b
  · exact ⟨_, a2, s2, ⟨r - 64, by omega, .inr rfl⟩, by omega, rfl⟩
  · exact ⟨_, a2, s2, ⟨r - 64, by omega, .inl rfl⟩, by omega, rfl⟩
theorem s_among (n : Nat) {bs : List Int} (hb : Bytes bs) {a : Int} (h0 : 0 ≤ a) (h1 : a ≤ 1125899906842622) (sd : Int) (L : List Int) (hL : 0 < L.length) :
    ∃ r a' sd', r ∈ L ∧ (a ≤ a' ∧ a' ≤ a + 2) ∧ f112_s_l00Srcamong (n + 3) bs.length (its .u8 bs) a sd L.length (its .i64 L) = some (r, bs.length, its .u8 bs, a', sd', L.length, its .i64 L) := by
  obtain ⟨r, a1, s1, hr, ha, e⟩ := s_pick n hb h0 h1 sd (L.length : Int)
  rw [f112_s_l00Srcamong, e]
  obtain ⟨i, rfl⟩ := Int.eq_ofNat_of_zero_le hr.1
  have hi : i < L.length := by
    by_cases h : (L.length : Int) ≤ 1
    · have := hr.2.2 h; omega
    · have := hr.2.1 (by omega); omega
  simp only [bd_s, in_dec hi, Int.toNat_natCast, okAt_its hi, Bool.and_self, gd_t, iAt_its]
  refine ⟨_, _, _, ?_, ha, rfl⟩
  rw [show L.getD i 0 = L[i] by simp [List.getD, hi]]
  exact List.getElem_mem _
theorem s_from32 (n : Nat) {i : Int} (h0 : 0 ≤ i) (h1 : i < 4294967296) : ∃ x, W32 x ∧ f74_s_l01From (n + 2) i = some x := by
  rw [f74_s_l01From]
  refine ⟨canon .f32 i.toNat, w32_canon (by omega), ?_⟩
  rw [u32_wrap h0 h1]
  show bd (if 0 ≤ i then some (canon .f32 i.toNat) else none) _ = _
  rw [if_pos h0]; rfl
theorem s_float (n : Nat) {bs : List Int} (hb : Bytes bs) {a : Int} (h0 : 0 ≤ a) (h1 : a ≤ 1125899906842600) (sd : Int) :
    ∃ x a' sd', W32 x ∧ (a ≤ a' ∧ a' ≤ a + 16) ∧ f75_s_l01DrawFloat (n + 5) bs.length (its .u8 bs) a sd = some (x, bs.length, its .u8 bs, a', sd') := by
  obtain ⟨b, a1, s1, ha1, e1⟩ := s_one (n + 1) hb h0 (by omega) sd 12
  rw [f75_s_l01DrawFloat, e1]
  simp only [bd_s, br_not]
  cases b
  · obtain ⟨x, a2, s2, hx, ha2, e2⟩ := s_plain n hb (a := a1) (by omega) (by omega) s1
    simp only [br_f, e2, bd_s]
    exact ⟨_, _, _, hx.w32, by omega, rfl⟩
  obtain ⟨q, a2, s2, -, ha2, e2⟩ := s_pick (n + 2) hb (a := a1) (by omega) (by omega) s1 4
  simp only [br_t, e2, bd_s]
  cases q == 0
  case true =>
    obtain ⟨r, a3, s3, hr, ha3, e3⟩ := s_among (n + 1) hb (a := a2) (by omega) (by omega) s2 [0, 2147483648, 2139095040, 4286578688, 2143289344, 1, 2139095039, 8388608, 8388607, 2147483649] (by decide)
    have hr' : 0 ≤ r ∧ r < 4294967296 := by simp only [List.mem_cons, List.not_mem_nil, or_false] at hr; omega
    obtain ⟨x, hx, e4⟩ := s_from32 (n + 2) hr'.1 hr'.2
    rw [br_t]
    refine ⟨x, a3, s3, hx, by omega, ?_⟩
    refine Eq.trans (congrArg (fun o => bd o _) e3) ?_
    simp only [bd_s, e4]
  cases q == 1
  case true =>
    obtain ⟨r, a3, s3, hr, ha3, e3⟩ := s_pick (n + 2) hb (a := a2) (by omega) (by omega) s2 65536
    obtain ⟨r', a4, s4, hr', ha4, e4⟩ := s_pick (n + 2) hb (a := a3) (by omega) (by omega) s3 65536
    obtain ⟨x, hx, e5⟩ := s_from32 (n + 2) (i := r * 65536 + r') (by omega) (by omega)
    simp only [br_f, br_t, e3, e4, bd_s]
    rw [show IntKind.i64.wrap (r * 65536) = r * 65536 by rw [wrap64] <;> omega, show IntKind.i64.wrap (r * 65536 + r') = r * 65536 + r' by rw [wrap64] <;> omega, e5]
    exact ⟨x, _, _, hx, by omega, rfl⟩
  cases q == 2
  case true =>
    obtain ⟨r, a3, s3, hr, ha3, e3⟩ := s_pick (n + 2) hb (a := a2) (by omega) (by omega) s2 65536
    obtain ⟨x, hx, e5⟩ := s_from32 (n + 2) (i := r * 65536) (by omega) (by omega)
    simp only [br_f, br_t, e3, bd_s]
    rw [show IntKind.i64.wrap (r * 65536) = r * 65536 by rw [wrap64] <;> omega, e5]
    exact ⟨x, _, _, hx, by omega, rfl⟩
  obtain ⟨x, a3, s3, hx, ha3, e3⟩ := s_plain n hb (a := a2) (by omega) (by omega) s2
  obtain ⟨r, a4, s4, hr, ha4, e4⟩ := s_among (n + 1) hb (a := a3) (by omega) (by omega) s3 [8388608, 2130706432, 1610612736, 536870912] (by decide)
  have hr' : 0 ≤ r ∧ r < 4294967296 := by simp only [List.mem_cons, List.not_mem_nil, or_false] at hr; omega
  obtain ⟨y, hy, e5⟩ := s_from32 (n + 2) hr'.1 hr'.2
  simp only [br_f, e3, bd_s]
  refine ⟨_, a4, s4, w32_fmul x y, by omega, ?_⟩
  refine Eq.trans (congrArg (fun o => bd o _) e4) ?_
  simp only [bd_s, e5]
theorem s_floats_loop (n : Nat) {bs : List Int} (hb : Bytes bs) (str : Bool) : ∀ (j m : Nat) (a sd : Int) (acc : List Nat), 0 ≤ a → a + 16 * (j : Int) ≤ 1125899906842000 → acc.length + j ≤ 2147483647 → j < m → (∀ x ∈ acc, W32 x) →
    ∃ ys a' sd', ys.length = acc.length + j ∧ (∀ x ∈ ys, W32 x) ∧ (a ≤ a' ∧ a' ≤ a + 16 * (j : Int)) ∧
      f91_s_l01DrawFloats.l0 (n + 5) m bs.length (its .u8 bs) a sd (j : Int) acc.length (fls .f32 acc) str = some (bs.length, its .u8 bs, a', sd', ys.length, fls .f32 ys) := by
  intro j
  induction j with
  | zero =>
    intro m a sd acc h0 h1 hl hm hw
    obtain ⟨m, rfl⟩ : ∃ k, m = k + 1 := ⟨m - 1, by omega⟩
    rw [f91_s_l01DrawFloats.l0]
    exact ⟨acc, a, sd, by omega, hw, by omega, rfl⟩
  | succ j ih =>
    intro m a sd acc h0 h1 hl hm hw
    obtain ⟨m, rfl⟩ : ∃ k, m = k + 1 := ⟨m - 1, by omega⟩
    rw [f91_s_l01DrawFloats.l0, decide_eq_true (show (((j + 1 : Nat) : Int) > 0) by omega), show IntKind.i64.wrap (((j + 1 : Nat) : Int) - 1) = (j : Int) by rw [wrap64] <;> omega]
    have key : ∀ x a1 s1, W32 x → a ≤ a1 → a1 ≤ a + 16 → ∃ ys a' sd', ys.length = acc.length + (j + 1) ∧ (∀ x ∈ ys, W32 x) ∧ (a ≤ a' ∧ a' ≤ a + 16 * ((j + 1 : Nat) : Int)) ∧
        f91_s_l01DrawFloats.l0 (n + 5) m bs.length (its .u8 bs) a1 s1 (j : Int) (acc ++ [x]).length (fls .f32 (acc ++ [x])) str = some (bs.length, its .u8 bs, a', sd', ys.length, fls .f32 ys) := by
      intro x a1 s1 hx h2 h3
      obtain ⟨ys, a', sd', hy, hyw, ha, e⟩ := ih m a1 s1 (acc ++ [x]) (by omega) (by omega) (by simp; omega) (by omega) (by
        intro y hy; simp only [List.mem_append, List.mem_singleton] at hy; rcases hy with hy | rfl
        · exact hw y hy
        · exact hx)
      exact ⟨ys, a', sd', by simp at hy; omega, hyw, by omega, e⟩
    simp only [br_t]
    cases str
    · obtain ⟨x, a1, s1, hx, ha, e⟩ := s_plain (n + 1) hb h0 (by omega) sd
      simp only [br_f, e, bd_s, push_ok (show acc.length < 2147483648 by omega), gd_t, push_fls]
      rw [show acc.length + 1 = (acc ++ [x]).length by simp]
      exact key x a1 s1 hx.w32 (by omega) (by omega)
    · obtain ⟨x, a1, s1, hx, ha, e⟩ := s_float n hb h0 (by omega) sd
      simp only [br_t, e, bd_s, push_ok (show acc.length < 2147483648 by omega), gd_t, push_fls]
      rw [show acc.length + 1 = (acc ++ [x]).length by simp]
      exact key x a1 s1 hx (by omega) (by omega)
theorem s_floats (n : Nat) {bs : List Int} (hb : Bytes bs) {a : Int} (h0 : 0 ≤ a) (j : Nat) (h1 : a + 16 * (j : Int) ≤ 1125899906841000) (hj : j ≤ 2147483647) (hn : j < n) (sd : Int) :
    ∃ ys a' sd', ys.length = j ∧ (∀ x ∈ ys, W32 x) ∧ (a ≤ a' ∧ a' ≤ a + 2 + 16 * (j : Int)) ∧ f91_s_l01DrawFloats (n + 6) bs.length (its .u8 bs) a sd (j : Int) = some (ys.length, fls .f32 ys, bs.length, its .u8 bs, a', sd') := by
  obtain ⟨b, a1, s1, ha1, e1⟩ := s_one (n + 2) hb h0 (by omega) sd 4
  obtain ⟨ys, a2, s2, hy, hw, ha2, e2⟩ := s_floats_loop n hb b j (n + 5) a1 s1 [] (by omega) (by omega) (by simp; omega) (by omega) (by simp)
  rw [f91_s_l01DrawFloats, e1]
  refine ⟨ys, a2, s2, by simpa using hy, hw, by omega, ?_⟩
  have e2 : f91_s_l01DrawFloats.l0 (n + 5) (n + 5) bs.length (its .u8 bs) a1 s1 (j : Int) 0 (reps 0 [(T.flt FloatKind.f32 0)]) b = some (bs.length, its .u8 bs, a2, s2, ys.length, fls .f32 ys) := e2
  simp only [bd_s, e2]

theorem l_long10 (n : Nat) (bs cs : List Int) : f15_l_b10Long (n + 1) bs.length (its .u8 bs) cs.length (its .u8 cs) = some (decide (1048576 < bs.length ∨ 1048576 < cs.length)) := by
  rw [f15_l_b10Long]
  by_cases h : 1048576 < bs.length
  · rw [decide_eq_true (show (bs.length : Int) > 1048576 by omega), decide_eq_true (Or.inl h)]; rfl
  · rw [decide_eq_false (show ¬ (bs.length : Int) > 1048576 by omega), br_f]
    congr 1
    simp [h]; omega
theorem l_at10 (n : Nat) {bs : List Int} (hb : Bytes bs) {i k : Int} (hi : 0 ≤ i) (hi2 : i ≤ 1000000) (hk : 1 ≤ k) : ∃ r, (0 ≤ r ∧ r < k) ∧ f57_l_b10At (n + 1) bs.length (its .u8 bs) i k = some r := by
  rw [f57_l_b10At]
  by_cases h : k ≤ 1
  · rw [decide_eq_true h]; exact ⟨0, by omega, rfl⟩
  rw [decide_eq_false h]
  have hk0 : (!decide (k = 0)) = true := by simp; omega
  by_cases h2 : i < (bs.length : Int)
  · rw [decide_eq_true h2]
    obtain ⟨i, rfl⟩ := Int.eq_ofNat_of_zero_le hi
    have hi : i < bs.length := by omega
    have hr := hb (bs[i]) (List.getElem_mem _)
    simp only [br_f, br_t, in_dec hi, Int.toNat_natCast, okAt_its hi, Bool.and_self, gd_t, iAt_its, hk0]
    rw [show bs.getD i 0 = bs[i] by simp [List.getD, hi], show IntKind.i64.wrap bs[i] = bs[i] by rw [wrap64] <;> omega]
    refine ⟨_, ?_, rfl⟩
    rw [Int.tmod_eq_emod_of_nonneg (by omega)]
    have := Int.emod_nonneg bs[i] (show k ≠ 0 by omega)
    have := Int.emod_lt_of_pos bs[i] (show 0 < k by omega)
    omega
  · rw [decide_eq_false h2]
    simp only [br_f, hk0, gd_t]
    rw [show IntKind.i64.wrap (i * 37) = i * 37 by rw [wrap64] <;> omega, show IntKind.i64.wrap (i * 37 + 11) = i * 37 + 11 by rw [wrap64] <;> omega]
    refine ⟨_, ?_, rfl⟩
    rw [Int.tmod_eq_emod_of_nonneg (by omega)]
    have := Int.emod_nonneg (i * 37 + 11) (show k ≠ 0 by omega)
    have := Int.emod_lt_of_pos (i * 37 + 11) (show 0 < k by omega)
    omega
theorem s_bits (n : Nat) {x : Nat} (h : W32 x) : f79_s_l01Bits (n + 2) x = some (x : Int) := by
  rw [f79_s_l01Bits, fne_nan]
  cases hn : isNaN .f32 x
  · have : xF32bits (n + 1) x = some (x : Int) := by simp [xF32bits, hn]
    have hx := h.1
    simp only [br_f, this, bd_s]
    rw [wrap64] <;> omega
  · rw [br_t, ← h.2, canon_nan hn]; rfl
theorem s_same1 (n : Nat) {x y : Nat} (hx : W32 x) (hy : W32 y) : f76_s_l01Same (n + 3) x y = some (x == y) := by
  rw [f76_s_l01Same, s_bits n hx]
  simp only [bd_s, s_bits n hy]
  congr 1
  rw [Bool.eq_iff_iff]; simp; constructor <;> omega
theorem s_same (n : Nat) {x y : Nat} (hx : W32 x) (hy : W32 y) : f17_s_SameNumber (n + 4) x y = some (x == y) := by
  rw [f17_s_SameNumber, s_same1 n hx hy]; rfl
theorem s_b10numbers (n : Nat) {bs : List Int} (hb : Bytes bs) (k : Nat) (hk : k ≤ 1000000) (hn : k < n) : ∃ xs, xs.length = k ∧ (∀ x ∈ xs, W32 x) ∧ f58_s_B10Numbers (n + 7) bs.length (its .u8 bs) (k : Int) = some (xs.length, fls .f32 xs) := by
  obtain ⟨ys, a2, s2, hy, hw, ha2, e2⟩ := s_floats n hb (a := 0) (by omega) k (by omega) (by omega) (by omega) 0
  rw [f58_s_B10Numbers, s_from]
  simp only [bd_s, e2]
  exact ⟨ys, by omega, hw, rfl⟩


theorem i_absolute (n : Nat) {x : Nat} (hg : W32 x) : f92_i_absolute (n + 2) x = some (size32 x) := by
  obtain ⟨h1, h2⟩ := abs_size hg.1 hg.2 n
  rw [f92_i_absolute, fltToFlt_wide]
  simp only [bd, h1, h2]

theorem i_few (n k : Nat) (l : List T) : f82_i_areSamples (n + 1) k l = some (decide ((k : Int) ≤ 256)) := by rw [f82_i_areSamples]

theorem s_in (n : Nat) (a b c : Int) : f99_s_l00In (n + 1) a b c = some (decide (b ≤ a ∧ a ≤ c)) := by
  rw [f99_s_l00In]
  by_cases h : b ≤ a <;> simp [br, h]




theorem i_sub (n : Nat) {x : Nat} (h : x < 4294967296) : f65_i_IsSubnormal (n + 1) x = some (sub32 x) := by
  rw [f65_i_IsSubnormal, ← sub_key h]
  cases fne .f32 x 0 <;> cases flt .f32 x 8388608 <;> rfl
theorem i_flush (n : Nat) {x : Nat} (h : W32 x) : f63_i_FlushNumber (n + 2) x = some (flushM x) := by
  rw [f63_i_FlushNumber, i_sub n h.1, bd_s, br_not]
  have hx := h.1
  cases hs : sub32 x
  · rw [br_f]
    unfold sub32 at hs
    unfold flushM
    simp at hs
    split
    · congr 1; omega
    · rfl
  · have hs' := hs
    unfold sub32 at hs
    simp at hs
    have hn : isNaN .f32 x = false := by rw [nan32]; simp; omega
    obtain ⟨y, e1, e2⟩ := copy_zero n hx hn
    rw [br_t, fltToFlt_wide]
    simp only [bd_s, e1, e2]
    unfold flushM
    rw [if_pos hs.2]


theorem s_b10number (n : Nat) {bs : List Int} (hb : Bytes bs) : ∃ x, W32 x ∧ f16_s_B10Number (n + 6) bs.length (its .u8 bs) = some x := by
  obtain ⟨b, a1, s1, ha1, e1⟩ := s_one (n + 2) hb (a := 0) (by omega) (by omega) 0 2
  rw [f16_s_B10Number, s_from]
  simp only [bd_s, e1]
  cases b
  · obtain ⟨x, a2, s2, hx, ha2, e2⟩ := s_float n hb (a := a1) (by omega) (by omega) s1
    simp only [br_f, e2, bd_s]
    exact ⟨x, hx, rfl⟩
  · obtain ⟨r, a3, s3, hr, ha3, e3⟩ := s_pick (n + 3) hb (a := a1) (by omega) (by omega) s1 65536
    obtain ⟨r', a4, s4, hr', ha4, e4⟩ := s_pick (n + 3) hb (a := a3) (by omega) (by omega) s3 65536
    obtain ⟨x, hx, e5⟩ := s_from32 (n + 3) (i := r * 65536 + r') (by omega) (by omega)
    simp only [br_t, e3, e4, bd_s]
    rw [show IntKind.i64.wrap (r * 65536) = r * 65536 by rw [wrap64] <;> omega, show IntKind.i64.wrap (r * 65536 + r') = r * 65536 + r' by rw [wrap64] <;> omega, e5]
    exact ⟨x, hx, rfl⟩
theorem s_fromx (n : Nat) {i : Int} (h0 : 0 ≤ i) (h1 : i < 4294967296) : f74_s_l01From (n + 2) i = some (canon .f32 i.toNat) := by
  rw [f74_s_l01From, u32_wrap h0 h1]
  show bd (if 0 ≤ i then some (canon .f32 i.toNat) else none) _ = _
  rw [if_pos h0]; rfl
theorem s_frombits (n : Nat) {i : Int} (h0 : 0 ≤ i) (h1 : i < 4294967296) : f64_s_FromBits (n + 3) i = some (canon .f32 i.toNat, true) := by
  rw [f64_s_FromBits, s_in, decide_eq_true (show 0 ≤ i ∧ i ≤ 4294967295 by omega)]
  simp only [bd_s, br_not, br_t, s_fromx n h0 h1]
theorem s_bitsof (n : Nat) {x : Nat} (h : W32 x) : f21_s_BitsOf (n + 3) x = some (x : Int) := by
  rw [f21_s_BitsOf, s_bits n h]; rfl
theorem i_mix_loop (n : Nat) : ∀ (zs ys p q acc : List Nat) (m : Nat), ys.length = zs.length → q.length = p.length → acc.length + zs.length < 1048576 → p.length + zs.length < 1048576 → zs.length < m →
    f66_i_MixSamples.l0 n m (p ++ zs).length (fls .f32 (p ++ zs)) (q ++ ys).length (fls .f32 (q ++ ys)) acc.length (fls .f32 acc) ((p ++ zs).length : Int) (p.length : Int) = some ((acc ++ List.zipWith (fadd .f32) zs ys).length, fls .f32 (acc ++ List.zipWith (fadd .f32) zs ys)) := by
  intro zs
  induction zs with
  | nil =>
    intro ys p q acc m _ _ _ _ hm
    obtain ⟨m, rfl⟩ : ∃ k, m = k + 1 := ⟨m - 1, by omega⟩
    rw [f66_i_MixSamples.l0, lt_end]
    simp [br_f]
  | cons z zs ih =>
    intro ys p q acc m hl hq ha hp hm
    obtain ⟨m, rfl⟩ : ∃ k, m = k + 1 := ⟨m - 1, by omega⟩
    cases ys with
    | nil => simp at hl
    | cons y ys =>
      have e1 : okAt [.flt .f32] (fls .f32 (q ++ y :: ys)) p.length = true := by rw [← hq]; exact okAt_mid
      have e2 : fAt (fls .f32 (q ++ y :: ys)) p.length = y := by rw [← hq]; exact fAt_mid
      have e3 : decide ((0 : Int) ≤ (p.length : Int) ∧ (p.length : Int) < ((q ++ y :: ys).length : Int)) = true := by rw [← hq]; exact in_mid
      have ha' : acc.length < 1048576 := by simp at ha; omega
      rw [f66_i_MixSamples.l0, lt_mid, in_mid, toNat_len, okAt_mid, fAt_mid, e1, e2, e3, push_fls, push_ok (show acc.length < 2147483648 by omega)]
      have := ih ys (p ++ [z]) (q ++ [y]) (acc ++ [fadd .f32 z y]) m (by simpa using hl) (by simp [hq]) (by simp at ha ⊢; omega) (by simp at hp ⊢; omega) (by simp at hm; omega)
      simp only [br_t, gd_t, Bool.and_self, wrap_len (z := z) (show p.length < 4611686018427387904 by simp at hp; omega)]
      simpa using this
theorem i_mixed (n : Nat) (xs ys : List Nat) (hl : ys.length = xs.length) (hx : xs.length ≤ 256) (hn : xs.length < n) : f66_i_MixSamples (n + 1) xs.length (fls .f32 xs) ys.length (fls .f32 ys) = some ((List.zipWith (fadd .f32) xs ys).length, fls .f32 (List.zipWith (fadd .f32) xs ys), true) := by
  obtain ⟨n, rfl⟩ : ∃ k, n = k + 1 := ⟨n - 1, by omega⟩
  rw [f66_i_MixSamples, i_few, decide_eq_true (show (xs.length : Int) ≤ 256 by omega), show (((xs.length : Nat) : Int) != ((ys.length : Nat) : Int)) = false by simp [hl]]
  have e := i_mix_loop (n + 1) xs ys [] [] [] (n + 1) hl rfl (by simp; omega) (by simp; omega) (by omega)
  have e : f66_i_MixSamples.l0 (n + 1) (n + 1) xs.length (fls .f32 xs) ys.length (fls .f32 ys) 0 [] (xs.length : Int) 0 = some ((List.zipWith (fadd .f32) xs ys).length, fls .f32 (List.zipWith (fadd .f32) xs ys)) := e
  simp only [bd_s, br_not, br_t, br_f, e]
theorem i_scale_loop (n : Nat) (N : Nat) (cs : List T) (by_ : Nat) : ∀ (zs p acc : List Nat) (m : Nat), acc.length + zs.length < 1048576 → p.length + zs.length < 1048576 → zs.length < m →
    f107_i_scaled.l0 n m N cs by_ acc.length (fls .f32 acc) (p ++ zs).length (fls .f32 (p ++ zs)) ((p ++ zs).length : Int) (p.length : Int) = some ((acc ++ zs.map fun z => fmul .f32 z by_).length, fls .f32 (acc ++ zs.map fun z => fmul .f32 z by_)) := by
  intro zs
  induction zs with
  | nil =>
    intro p acc m _ _ hm
    obtain ⟨m, rfl⟩ : ∃ k, m = k + 1 := ⟨m - 1, by omega⟩
    rw [f107_i_scaled.l0, lt_end]
    simp [br_f]
  | cons z zs ih =>
    intro p acc m ha hp hm
    obtain ⟨m, rfl⟩ : ∃ k, m = k + 1 := ⟨m - 1, by omega⟩
    have ha' : acc.length < 1048576 := by simp at ha; omega
    rw [f107_i_scaled.l0, lt_mid, in_mid, toNat_len, okAt_mid, fAt_mid]
    have := ih (p ++ [z]) (acc ++ [fmul .f32 z by_]) m (by simp at ha ⊢; omega) (by simp at hp ⊢; omega) (by simp at hm; omega)
    simp only [br_t, gd_t, Bool.and_self, push_fls, push_ok (show acc.length < 2147483648 by omega), wrap_len (z := z) (show p.length < 4611686018427387904 by simp at hp; omega)]
    simpa using this
theorem i_scaledq (n : Nat) (xs : List Nat) (by_ : Nat) (hx : xs.length < 1048576) (hn : xs.length < n) : f107_i_scaled (n + 1) xs.length (fls .f32 xs) by_ = some ((xs.map fun z => fmul .f32 z by_).length, fls .f32 (xs.map fun z => fmul .f32 z by_)) := by
  rw [f107_i_scaled]
  have e := i_scale_loop n xs.length (fls .f32 xs) by_ xs [] [] n (by simpa using hx) (by simpa using hx) (by omega)
  have e : f107_i_scaled.l0 n n xs.length (fls .f32 xs) by_ 0 [] xs.length (fls .f32 xs) (xs.length : Int) 0 = some ((xs.map fun z => fmul .f32 z by_).length, fls .f32 (xs.map fun z => fmul .f32 z by_)) := e
  rw [e]; rfl
theorem i_scalesamples (n : Nat) (xs : List Nat) (by_ : Nat) (hx : xs.length ≤ 256) (hn : xs.length < n) : f67_i_ScaleSamples (n + 2) xs.length (fls .f32 xs) by_ = some ((xs.map fun z => fmul .f32 z by_).length, fls .f32 (xs.map fun z => fmul .f32 z by_), true) := by
  rw [f67_i_ScaleSamples, i_few, decide_eq_true (show (xs.length : Int) ≤ 256 by omega)]
  simp only [bd_s, br_not, br_t, i_scaledq n xs by_ (by omega) hn]

/-- the greatest size so far -/
def peakM (m : Nat) (xs : List Nat) : Nat := xs.foldl (fun m x => if fgt .f32 (size32 x) m then size32 x else m) m
theorem w32_peak : ∀ (xs : List Nat) (m : Nat), W32 m → (∀ x ∈ xs, W32 x) → W32 (peakM m xs)
  | [], m, h, _ => h
  | x :: xs, m, h, hx => by
    show W32 (peakM (if fgt .f32 (size32 x) m then size32 x else m) xs)
    refine w32_peak xs _ ?_ (fun y hy => hx y (by simp [hy]))
    split
    · exact w32_size (hx x (by simp))
    · exact h
theorem i_peak_loop (n : Nat) (N : Nat) (cs : List T) : ∀ (zs p : List Nat) (mx m : Nat), (∀ x ∈ zs, W32 x) → p.length + zs.length < 1048576 → zs.length < m →
    f97_i_peakOf.l0 (n + 2) m N cs mx (p ++ zs).length (fls .f32 (p ++ zs)) ((p ++ zs).length : Int) (p.length : Int) = some (peakM mx zs) := by
  intro zs
  induction zs with
  | nil =>
    intro p mx m _ _ hm
    obtain ⟨m, rfl⟩ : ∃ k, m = k + 1 := ⟨m - 1, by omega⟩
    rw [f97_i_peakOf.l0, lt_end]; rfl
  | cons z zs ih =>
    intro p mx m hz hp hm
    obtain ⟨m, rfl⟩ : ∃ k, m = k + 1 := ⟨m - 1, by omega⟩
    have ih' := fun mx => ih (p ++ [z]) mx m (fun x hx => hz x (by simp [hx])) (by simp at hp ⊢; omega) (by simp at hm; omega)
    simp only [List.append_assoc, List.cons_append, List.nil_append] at ih'
    rw [f97_i_peakOf.l0, lt_mid, in_mid, toNat_len, okAt_mid, fAt_mid]
    simp only [br_t, gd_t, Bool.and_self, i_absolute n (hz z (by simp)), bd_s, wrap_len (z := z) (show p.length < 4611686018427387904 by simp at hp; omega)]
    show _ = some (peakM (if fgt .f32 (size32 z) mx then size32 z else mx) zs)
    cases fgt .f32 (size32 z) mx
    · exact ih' mx
    · exact ih' _
theorem i_peak (n : Nat) (xs : List Nat) (hx : ∀ x ∈ xs, W32 x) (hl : xs.length < 1048576) (hn : xs.length < n) : f97_i_peakOf (n + 3) xs.length (fls .f32 xs) = some (peakM 0 xs) := by
  rw [f97_i_peakOf]
  have e := i_peak_loop n xs.length (fls .f32 xs) xs [] 0 (n + 2) hx (by simpa using hl) (by omega)
  have e : f97_i_peakOf.l0 (n + 2) (n + 2) xs.length (fls .f32 xs) 0 xs.length (fls .f32 xs) (xs.length : Int) 0 = some (peakM 0 xs) := e
  rw [e]; rfl
theorem i_peakof (n : Nat) (xs : List Nat) (hx : ∀ x ∈ xs, W32 x) (hl : xs.length ≤ 256) (hn : xs.length < n) : f48_i_PeakOf (n + 4) xs.length (fls .f32 xs) = some (peakM 0 xs, true) := by
  rw [f48_i_PeakOf, i_few, decide_eq_true (show (xs.length : Int) ≤ 256 by omega)]
  simp only [bd_s, br_not, br_t, i_peak n xs hx (by omega) hn]
theorem peak_facts : ∀ (xs : List Nat) (m : Nat), W32 m → isNaN .f32 m = false → 0 ≤ key .f32 m → (∀ x ∈ xs, W32 x) →
    isNaN .f32 (peakM m xs) = false ∧ key .f32 m ≤ key .f32 (peakM m xs) ∧ (∀ x ∈ xs, isNaN .f32 x = false → (key .f32 x).natAbs ≤ key .f32 (peakM m xs)) ∧ (peakM m xs = m ∨ ∃ x ∈ xs, isNaN .f32 x = false ∧ peakM m xs = size32 x)
  | [], m, _, hn, _, _ => ⟨hn, Int.le_refl _, by simp, .inl rfl⟩
  | x :: xs, m, hm, hn, h0, hx => by
    have hw := hx x (by simp)
    show isNaN .f32 (peakM (if fgt .f32 (size32 x) m then size32 x else m) xs) = false ∧ _
    cases hc : fgt .f32 (size32 x) m
    · obtain ⟨h1, h2, h3, h4⟩ := peak_facts xs m hm hn h0 (fun y hy => hx y (by simp [hy]))
      have e : peakM m (x :: xs) = peakM m xs := by show peakM (if fgt .f32 (size32 x) m then size32 x else m) xs = _; rw [hc]; rfl
      rw [e]
      refine ⟨h1, h2, fun y hy hyn => ?_, ?_⟩
      · simp only [List.mem_cons] at hy
        rcases hy with rfl | hy
        · rw [fgt_key] at hc
          unfold num2 at hc
          rw [nan_size, hyn, hn, key_size32 hw.1 hyn] at hc
          simp at hc
          omega
        · exact h3 y hy hyn
      · rcases h4 with h4 | ⟨y, hy, h5⟩
        · exact .inl h4
        · exact .inr ⟨y, by simp [hy], h5⟩
    · have hxn : isNaN .f32 x = false := by
        cases h : isNaN .f32 x
        · rfl
        · rw [fgt_nan _ (by rw [nan_size]; exact h)] at hc; cases hc
      have hk := key_size32 hw.1 hxn
      rw [fgt_key] at hc
      unfold num2 at hc
      rw [nan_size, hxn, hn, hk] at hc
      simp at hc
      obtain ⟨h1, h2, h3, h4⟩ := peak_facts xs (size32 x) (w32_size hw) (by rw [nan_size]; exact hxn) (by rw [hk]; omega) (fun y hy => hx y (by simp [hy]))
      have e : peakM m (x :: xs) = peakM (size32 x) xs := by
        show peakM (if fgt .f32 (size32 x) m then size32 x else m) xs = _
        rw [fgt_key]; unfold num2; rw [nan_size, hxn, hn, hk]; simp [hc]
      rw [e]
      refine ⟨h1, by omega, fun y hy hyn => ?_, ?_⟩
      · simp only [List.mem_cons] at hy
        rcases hy with rfl | hy
        · omega
        · exact h3 y hy hyn
      · rcases h4 with h4 | ⟨y, hy, h5⟩
        · exact .inr ⟨x, by simp, hxn, h4⟩
        · exact .inr ⟨y, by simp [hy], h5⟩

theorem told_loop (n : Nat) (x P : Nat) (hP : isNaN .f32 P = false) : ∀ (zs ys p q u v : List Nat) (b : Bool) (m : Nat), ys.length = zs.length → q.length = p.length → u.length = p.length → v.length = p.length → (∀ z ∈ zs, W32 z) → (∀ z ∈ zs, isNaN .f32 z = false → (key .f32 z).natAbs ≤ key .f32 P) → p.length + zs.length < 1048576 → zs.length < m →
    f13_l_FnFlushed.l0 (n + 4) m x ((p ++ zs).length : Int) (p ++ zs).length (fls .f32 (p ++ zs)) (q ++ ys).length (fls .f32 (q ++ ys)) (u ++ List.zipWith (fadd .f32) zs ys).length (fls .f32 (u ++ List.zipWith (fadd .f32) zs ys)) (v ++ zs.map fun z => fmul .f32 z x).length (fls .f32 (v ++ zs.map fun z => fmul .f32 z x)) P b (p.length : Int) =
      some (.inr (b || zs.any fun z => feq .f32 z P || feq .f32 (negF .f32 z) P)) := by
  intro zs
  induction zs with
  | nil =>
    intro ys p q u v b m _ _ _ _ _ _ _ hm
    obtain ⟨m, rfl⟩ : ∃ k, m = k + 1 := ⟨m - 1, by omega⟩
    rw [f13_l_FnFlushed.l0, lt_end]; simp [br_f]
  | cons z zs ih =>
    intro ys p q u v b m hl hq hu hv hz hk hp hm
    obtain ⟨m, rfl⟩ : ∃ k, m = k + 1 := ⟨m - 1, by omega⟩
    cases ys with
    | nil => simp at hl
    | cons y ys =>
      have f1 : okAt [.flt .f32] (fls .f32 (q ++ y :: ys)) p.length = true := by rw [← hq]; exact okAt_mid
      have f2 : fAt (fls .f32 (q ++ y :: ys)) p.length = y := by rw [← hq]; exact fAt_mid
      have f3 : decide ((0 : Int) ≤ (p.length : Int) ∧ (p.length : Int) < ((q ++ y :: ys).length : Int)) = true := by rw [← hq]; exact in_mid
      have g1 : okAt [.flt .f32] (fls .f32 (u ++ List.zipWith (fadd .f32) (z :: zs) (y :: ys))) p.length = true := by rw [← hu]; exact okAt_mid
      have g2 : fAt (fls .f32 (u ++ List.zipWith (fadd .f32) (z :: zs) (y :: ys))) p.length = fadd .f32 z y := by rw [← hu]; exact fAt_mid
      have g3 : decide ((0 : Int) ≤ (p.length : Int) ∧ (p.length : Int) < ((u ++ List.zipWith (fadd .f32) (z :: zs) (y :: ys)).length : Int)) = true := by rw [← hu]; exact in_mid
      have h1 : okAt [.flt .f32] (fls .f32 (v ++ (z :: zs).map fun z => fmul .f32 z x)) p.length = true := by rw [← hv]; exact okAt_mid
      have h2 : fAt (fls .f32 (v ++ (z :: zs).map fun z => fmul .f32 z x)) p.length = fmul .f32 z x := by rw [← hv]; exact fAt_mid
      have h3 : decide ((0 : Int) ≤ (p.length : Int) ∧ (p.length : Int) < ((v ++ (z :: zs).map fun z => fmul .f32 z x).length : Int)) = true := by rw [← hv]; exact in_mid
      have hw := hz z (by simp)
      have k1 : fgt .f32 z P = false := by
        rw [fgt_key]; unfold num2; rw [hP]
        cases hn : isNaN .f32 z
        · have := hk z (by simp) hn
          simp; omega
        · rfl
      have k2 : fgt .f32 (negF .f32 z) P = false := by
        cases hn : isNaN .f32 z
        · have := hk z (by simp) hn
          rw [fgt_key]; unfold num2; rw [hP, isNaN_negF32 hw.1 hn, key_negF32 hw.1 hn]
          simp; omega
        · exact fgt_nan _ (by unfold negF; rw [hn, if_pos rfl]; decide)
      have ih' := fun b => ih ys (p ++ [z]) (q ++ [y]) (u ++ [fadd .f32 z y]) (v ++ [fmul .f32 z x]) b m (by simpa using hl) (by simp [hq]) (by simp [hu]) (by simp [hv]) (fun a ha => hz a (by simp [ha])) (fun a ha => hk a (by simp [ha])) (by simp at hp ⊢; omega) (by simp at hm; omega)
      rw [f13_l_FnFlushed.l0, lt_mid, in_mid, toNat_len, okAt_mid, fAt_mid, f1, f2, f3, g1, g2, g3, h1, h2, h3]
      simp only [br_t, gd_t, s_same n (w32_fadd z y) (w32_fadd z y), s_same n (w32_fmul z x) (w32_fmul z x), beq_self_eq_true, bd_s, br_not, k1, k2, br_f, wrap_len (z := z) (show p.length < 4611686018427387904 by simp at hp; omega)]
      cases b
      · cases c1 : feq .f32 z P
        · have := ih' (feq .f32 (negF .f32 z) P)
          simp only [br_f]
          simpa [c1] using this
        · have := ih' true
          simp only [br_f, br_t]
          simpa [c1] using this
      · have := ih' true
        simp only [br_t]
        simpa using this
theorem exact_ (cs : List Int) (hc : ∀ b ∈ cs, GoodI .u8 b) (lc : cs.length ≤ maxLen) (ms : List Int) (hm : ∀ b ∈ ms, GoodI .u8 b) (lm : ms.length ≤ maxLen) : ∃ n, f13_l_FnFlushed n cs.length (its .u8 cs) ms.length (its .u8 ms) = some true := by
  refine ⟨1000, ?_⟩
  suffices h : ∀ n, f13_l_FnFlushed (n + 500) cs.length (its .u8 cs) ms.length (its .u8 ms) = some true from h 500
  intro n
  rw [f13_l_FnFlushed, l_long10]
  cases hlong : decide (1048576 < cs.length ∨ 1048576 < ms.length)
  case true => rfl
  obtain ⟨x, hx, e1⟩ := s_b10number (n + 493) (bytes_of hc)
  obtain ⟨c, hc1, e2⟩ := l_at10 (n + 498) (bytes_of hm) (i := 0) (k := 10) (by omega) (by omega) (by omega)
  obtain ⟨c, rfl⟩ := Int.eq_ofNat_of_zero_le hc1.1
  obtain ⟨as_, hal, haw, e3⟩ := s_b10numbers (n + 492) (bytes_of hc) c (by omega) (by omega)
  obtain ⟨bs_, hbl, hbw, e4⟩ := s_b10numbers (n + 492) (bytes_of hm) c (by omega) (by omega)
  have hxl := hx.1
  have hy := w32_flush hx
  have hyl := hy.1
  have t1 : Int.tmod (x : Int) 8388608 = ((x % 8388608 : Nat) : Int) := by rw [Int.tmod_eq_emod_of_nonneg (by omega)]; omega
  have hsm : W32 (x % 8388608) := ⟨by omega, canon_num (by rw [nan32]; simp; omega)⟩
  have g1 := s_frombits (n + 496) (i := ((x % 8388608 : Nat) : Int)) (by omega) (by omega)
  rw [Int.toNat_natCast, hsm.2] at g1
  have d1 : ∀ a : Nat, a < 4294967296 → IntKind.i64.wrap (Int.tdiv (a : Int) 2147483648) = ((a / 2147483648 : Nat) : Int) := fun a h => by
    rw [Int.tdiv_eq_ediv_of_nonneg (by omega), wrap64] <;> omega
  have hdq : isNaN .f32 x = false → x / 2147483648 = flushM x / 2147483648 := fun _ => by unfold flushM; split <;> omega
  have hsub : (sub32 x == (x == flushM x)) = false := by
    unfold sub32 flushM
    by_cases h1 : x % 2147483648 < 8388608
    · by_cases h2 : 0 < x % 2147483648
      · rw [if_pos h1]; simp [h1, h2]; omega
      · rw [if_pos h1]; simp [h1, h2]; omega
    · rw [if_neg h1]; simp [h1]
  obtain ⟨pf1, pf2, pf3, pf4⟩ := peak_facts as_ 0 w32_zero (by decide) (by decide) haw
  have k0 : key .f32 0 = 0 := by decide
  have n0 : isNaN .f32 0 = false := by decide
  have told := told_loop (n + 495) x (peakM 0 as_) pf1 as_ bs_ [] [] [] [] (feq .f32 (peakM 0 as_) 0) (n + 499) (by omega) rfl rfl rfl haw pf3 (by simp; omega) (by omega)
  have hfound : (feq .f32 (peakM 0 as_) 0 || as_.any fun z => feq .f32 z (peakM 0 as_) || feq .f32 (negF .f32 z) (peakM 0 as_)) = true := by
    rcases pf4 with h | ⟨z, hz, hzn, h⟩
    · rw [h]; simp; exact .inl (by decide)
    · have hw := haw z hz
      have hk : key .f32 (peakM 0 as_) = (key .f32 z).natAbs := by rw [h, key_size32 hw.1 hzn]
      rw [Bool.or_eq_true]
      refine .inr ?_
      rw [List.any_eq_true]
      refine ⟨z, hz, ?_⟩
      rw [feq_key, feq_key]; unfold num2
      rw [hzn, pf1, isNaN_negF32 hw.1 hzn, key_negF32 hw.1 hzn, hk]
      simp; omega
  rw [hfound] at told
  have hge : fge .f32 (peakM 0 as_) 0 = true := by rw [fge_key]; unfold num2; rw [pf1, n0]; simp; omega
  have m1 := i_mixed (n + 498) as_ bs_ (by omega) (by omega) (by omega)
  have m2 := i_scalesamples (n + 497) as_ x (by omega) (by omega)
  have m3 := i_peakof (n + 495) as_ haw (by omega) (by omega)
  have lm1 : (List.zipWith (fadd .f32) as_ bs_).length = c := by simp; omega
  have lm2 : (as_.map fun z => fmul .f32 z x).length = c := by simp; omega
  have told : f13_l_FnFlushed.l0 (n + 499) (n + 499) x (as_.length : Int) as_.length (fls .f32 as_) bs_.length (fls .f32 bs_) (List.zipWith (fadd .f32) as_ bs_).length (fls .f32 (List.zipWith (fadd .f32) as_ bs_)) (as_.map fun z => fmul .f32 z x).length (fls .f32 (as_.map fun z => fmul .f32 z x)) (peakM 0 as_) (feq .f32 (peakM 0 as_) 0) 0 = some (.inr true) := told
  rw [lm1, lm2, hal, hbl] at told
  rw [lm1, hal, hbl] at m1
  rw [lm2, hal] at m2
  rw [hal] at e3 m3
  rw [hbl] at e4
  have hfs : x % 8388608 ≠ 0 → sub32 (x % 8388608) = true := fun h => by unfold sub32; simp; omega
  have hff : flushM (x % 8388608) = 0 := by unfold flushM; rw [if_pos (by omega)]; omega
  have hfz : fne .f32 0 0 = false := by decide
  have hfx : feq .f32 x x = !isNaN .f32 x := by rw [← fne_nan, fne_feq, Bool.not_not]
  have hne : fne .f32 (x % 8388608) 0 = decide (x % 8388608 ≠ 0) := by
    rw [fne_key]; unfold num2
    have h1 : isNaN .f32 (x % 8388608) = false := by rw [nan32]; simp; omega
    rw [h1, n0, k0, key32 hsm.1, if_pos (by omega), Bool.eq_iff_iff]; simp; omega
  simp only [br_f, br_not, bd_s, e1, i_flush (n + 497) hx, s_bitsof (n + 496) hx, t1, g1, br_t, i_sub (n + 498) hyl, sub_flush, i_sub (n + 498) hxl, s_same (n + 495) hx hy, hsub, hfx, hne, i_sub (n + 498) hsm.1, i_flush (n + 497) hsm, hff, hfz, s_bitsof (n + 496) hy, d1 x hxl, d1 _ hyl, e2, e3, e4, m1, m2, m3, bne_self_eq_false, hge, told, sm_r]
  cases hn : isNaN .f32 x
  · rw [← hdq hn]
    by_cases h : x % 8388608 = 0
    · simp [br, h]
    · simp [br, h, hfs h]
  · by_cases h : x % 8388608 = 0
    · simp [br, h]
    · simp [br, h, hfs h]
theorem law13 : ∀ args, LawArgs E Try.f13.params.toList args → ∃ N os, evalFn E N 13 args = some ⟨[⟨false, [.leaf], [.bool true]⟩], os⟩ := by
  intro args h0
  have hp : Try.f13.params.toList = [22, 22] := by kernel_rfl
  rw [hp] at h0
  obtain ⟨ts0, r0, rfl, hw0, h1⟩ := h0.cons_inv (d := ⟨false, 1, 24, [.sl .own [.leaf]], [.lst 0 []], .slc 5⟩) (by kernel_rfl)
  obtain ⟨n0, cs0, rfl, gl0, hs0⟩ := hw0.slc_inv (e := 5) (d := ⟨false, 1, 24, [.sl .own [.leaf]], [.lst 0 []], .slc 5⟩) (by kernel_rfl) rfl
  obtain ⟨a0, rfl, rfl, g0⟩ := hs0.ints (k := .u8) (d := ⟨false, 1, 1, [.leaf], [.int .u8 0], .int .u8⟩) (by kernel_rfl) rfl
  obtain ⟨ts1, r1, rfl, hw1, h2⟩ := h1.cons_inv (d := ⟨false, 1, 24, [.sl .own [.leaf]], [.lst 0 []], .slc 5⟩) (by kernel_rfl)
  obtain ⟨n1, cs1, rfl, gl1, hs1⟩ := hw1.slc_inv (e := 5) (d := ⟨false, 1, 24, [.sl .own [.leaf]], [.lst 0 []], .slc 5⟩) (by kernel_rfl) rfl
  obtain ⟨a1, rfl, rfl, g1⟩ := hs1.ints (k := .u8) (d := ⟨false, 1, 1, [.leaf], [.int .u8 0], .int .u8⟩) (by kernel_rfl) rfl
  obtain rfl := h2.nil_inv
  obtain ⟨N, hN⟩ := exact_ a0 g0 gl0 a1 g1 gl1
  exact ⟨N, _, f13_l_FnFlushed.ok N (a0.length, its .u8 a0, a1.length, its .u8 a1) true hN⟩


end Go.Proofs.Ythgenpcoelihiaa.D
end
section
/- FnFlushed holds: for every input the law returns true, and its arguments read as before. -/
namespace Go.Proofs.Ythgenpcoelihiaa.fnFlushed
open Go Go.ChangeShapes Go.WideShapes Go.ChangeAt Go.RowKit Go.Desk
set_option linter.unusedVariables false
theorem own : ownKnob Try.prog.godebug = none := by kernel_rfl
theorem laidOut : laidOutB Try.prog = true := by kernel_rfl
set_option maxRecDepth 100000 in
theorem lifted (os : Os) (started : os.Started) (H : Type) (enc : TypeId × Value → H) :
    ReturnsInHanded {} Try.checked os 13 .any (Rows.fnFlushedSpec.pre6 enc Try.prog Try.f13 Rows.fnFlushedRow.domain false) (Rows.fnFlushedSpec.post enc Try.prog Try.f13 false true false false) := by
  refine returnsInHanded_of_change (C := Try.checked) own started (by kernel_rfl) Try.func13
    (ChangeSpec.witness6 (enc := enc) (C := Try.checked) false ⟨#[], #[.slice none 0 0, .slice none 0 0], []⟩ 8 (by kernel_rfl) (by kernel_rfl) (by kernel_rfl) (by kernel_rfl)) ?_
  intro W base args ds gs before hval hW hcnd _
  exact law_contract (c := D.c13) Try.checked.mixed D.tysOk D.fnOk Try.func13 (by kernel_rfl) (by kernel_rfl) (by kernel_rfl) Try.underlying4 rfl
    (fun ds h => by
      rw [show Try.f13.params.toList.length = 2 by kernel_rfl] at h
      match ds, h with
      | [_, _], _ => rfl)
    laidOut (N := 8) (by kernel_rfl) (by kernel_rfl) D.law13 hval hW
theorem over : Rows.fnFlushedRow.holds Try.pinned (OpenSpec.ofChange Rows.fnFlushedSpec) :=
  OpenClaim.holds_of_wide 13 Try.f13 rfl rfl rfl rfl rfl rfl rfl ⟨rfl, rfl, rfl, rfl, rfl⟩ rfl rfl rfl rfl rfl (by kernel_rfl) Try.func13 (by kernel_rfl)
    (of_decide_eq_true (by kernel_rfl)) (by unfold Func.isWrapper; first | (rw [if_pos (by decide +kernel)]; kernel_rfl) | (rw [if_neg (by decide +kernel)]; exact ⟨rfl, rfl⟩))
    (fun os started H enc _ => lifted os started H enc)
theorem proved : Rows.FnFlushedSaid := over
#print axioms proved
end Go.Proofs.Ythgenpcoelihiaa.fnFlushed
namespace Go.Proofs.Ythgenpcoelihiaa
/-- The row, under a short name, for the claim. -/
theorem fnFlushed_holds : Rows.FnFlushedSaid := fnFlushed.proved
end Go.Proofs.Ythgenpcoelihiaa
end
