/- FnChainBlocks holds: for every input the law returns true, and its arguments read as before. -/
import Derived.Test.YtdobhipbgpiceaaChecked
import Derived.Test.YtdobhipbgpiceaaDeskF
import Derived.KernelRfl
import Derived.Test.YtdobhipbgpiceaaRows
import Derived.WalkKit
import Derived.ProofKit
import Derived.OpenShut
import Derived.ShutString
import Derived.ChangeOld
import Derived.Below
import Derived.SizedLaws
set_option linter.all false
section
/- What math.Abs owes: tables of its own, and the reading of its code. -/
namespace Go.Proofs.Ytdobhipbgpiceaa.DA
open Go Go.Desk
def bodyOf (f : Func) : Code := match f.body with
  | some c => c
  | none => .skip
def tyTab : List (Nat × TD) := [
  (34, ⟨false, 1, 8, [.leaf], [.flt .f64 0], .flt .f64⟩),
  (168, ⟨false, 1, 8, [.leaf], [.int .u64 0], .int .u64⟩)]
noncomputable def c206 : Code := bodyOf Try.f206
noncomputable def fnTab : List (Nat × FD) := [
  (200, .ext (pF64frombits)),
  (201, .ext (pF64bits)),
  (206, .code c206 [.val] [] [(2, none)] [(0, [0]), (1, [0])])]
noncomputable def E : Env := ⟨fun t => lookT tyTab t, lookF fnTab⟩
noncomputable def fdAt (n : Nat) : FD := match lookF fnTab n with
  | some d => d
  | none => .ext fun _ => none
noncomputable def keepAt (n : Nat) : List (Nat × List Nat) := match lookF fnTab n with
  | some d => d.keep
  | none => []
theorem tysOk : TysOk Try.prog E := tysOk_of (l := tyTab) (fun _ => rfl) (by kernel_rfl)
theorem ft200 : FnTab Try.prog E 200 (.ext (pF64frombits)) := ext_pF64frombits Try.func200 (by kernel_rfl) (by kernel_rfl) (by kernel_rfl) (by kernel_rfl)
theorem ft201 : FnTab Try.prog E 201 (.ext (pF64bits)) := ext_pF64bits Try.func201 (by kernel_rfl) (by kernel_rfl) (by kernel_rfl) (by kernel_rfl)
theorem ft206 : FnTab Try.prog E 206 (fdAt 206) := fnTab_code (c := c206) (modes := (fdAt 206).ms) (outs := (fdAt 206).os) (results := (fdAt 206).rs) (keep := (fdAt 206).keep) Try.func206 (by kernel_rfl) (by kernel_rfl) (by kernel_rfl)
theorem allFns : AllFns Try.prog E fnTab := .cons ft200 (.cons ft201 (.cons ft206 (.nil)))
theorem fnOk : ∀ f fd, E.fn f = some fd → FnTab Try.prog E f fd := fnTab_of (l := fnTab) (fun _ => rfl) allFns
end Go.Proofs.Ytdobhipbgpiceaa.DA
section
namespace Go.Proofs.Ytdobhipbgpiceaa.DA
open Go Go.Desk
set_option linter.unusedVariables false
noncomputable def x200.w : FnW E := xF64frombits.w 200 (by kernel_rfl)

noncomputable def x201.w : FnW E := xF64bits.w 201 (by kernel_rfl)

def f206_mathAbs : Nat → Nat → Option (Nat)
  | 0, _ => none
  | n + 1, x1 =>
    bd (xF64bits n x1) fun r2 =>
    let i3 : Int := r2
    bd (xF64frombits n (intBits BinOp.andNot IntKind.u64 i3 (9223372036854775808 : Int))) fun r4 =>
    let x5 : Nat := r4
    some x5
def sg_f : Sig (Nat) where
  pk := fun v => [.flt v]
  up := fun ls => match ls with
    | [.flt a0] => some a0
    | _ => none
  ok := by
    intro ls v h
    split at h
    · cases h; rfl
    · cases h

def f206_mathAbs.P : List Arg := [⟨.val, ⟨false, [.leaf], [.flt .f64 0]⟩⟩]
def f206_mathAbs.A : RAlt (Nat) := .one ⟨[⟨false, [.leaf], [.flt .f64 0]⟩], [none]⟩ sg_f
def f206_mathAbs.F (n : Nat) (v : Nat) := f206_mathAbs n v
noncomputable def f206_mathAbs.O (n : Nat) : Orc := orcOf (E := E) [x200.w, x201.w] [] n
theorem f206_mathAbs.ok : ∀ n v x, f206_mathAbs.F n v = some x → evalFn E n 206 (flAs f206_mathAbs.P (sg_f.pk v)) = some (f206_mathAbs.A.enc x) :=
  fn_pure (modes := (fdAt 206).ms) (outs := (fdAt 206).os) (results := (fdAt 206).rs) f206_mathAbs.O (c := c206) (keep := keepAt 206) (by kernel_rfl) (fun n => orcOf_cf _ _ n) (fun n => lpOk_of (bs := []) (by kernel_rfl) .nil) (fun _ => rfl) (fun _ _ => by kernel_rfl)
noncomputable def f206_mathAbs.w : FnW E := fnW 206 f206_mathAbs.P sg_f f206_mathAbs.A f206_mathAbs.F f206_mathAbs.ok
end Go.Proofs.Ytdobhipbgpiceaa.DA
end
namespace Go.Proofs.Ytdobhipbgpiceaa.DA
open Go Go.Desk
theorem absOk : ExtOk Try.prog 206 pAbs := ext_pAbs_of Try.checked.mixed tysOk fnOk
  (fun x hN hx => ⟨3, f206_mathAbs.ok 3 x _ (abs_plain 1 hN)⟩)
  ⟨5, by kernel_rfl⟩
end Go.Proofs.Ytdobhipbgpiceaa.DA
end
section
/- What math.Copysign owes: tables of its own, and the reading of its code. -/
namespace Go.Proofs.Ytdobhipbgpiceaa.DC
open Go Go.Desk
def bodyOf (f : Func) : Code := match f.body with
  | some c => c
  | none => .skip
def tyTab : List (Nat × TD) := [
  (34, ⟨false, 1, 8, [.leaf], [.flt .f64 0], .flt .f64⟩),
  (168, ⟨false, 1, 8, [.leaf], [.int .u64 0], .int .u64⟩)]
noncomputable def c190 : Code := bodyOf Try.f190
noncomputable def fnTab : List (Nat × FD) := [
  (190, .code c190 [.val, .val] [] [(4, none)] [(0, [0, 1]), (1, [0, 1])]),
  (200, .ext (pF64frombits)),
  (201, .ext (pF64bits))]
noncomputable def E : Env := ⟨fun t => lookT tyTab t, lookF fnTab⟩
noncomputable def fdAt (n : Nat) : FD := match lookF fnTab n with
  | some d => d
  | none => .ext fun _ => none
noncomputable def keepAt (n : Nat) : List (Nat × List Nat) := match lookF fnTab n with
  | some d => d.keep
  | none => []
theorem tysOk : TysOk Try.prog E := tysOk_of (l := tyTab) (fun _ => rfl) (by kernel_rfl)
theorem ft190 : FnTab Try.prog E 190 (fdAt 190) := fnTab_code (c := c190) (modes := (fdAt 190).ms) (outs := (fdAt 190).os) (results := (fdAt 190).rs) (keep := (fdAt 190).keep) Try.func190 (by kernel_rfl) (by kernel_rfl) (by kernel_rfl)
theorem ft200 : FnTab Try.prog E 200 (.ext (pF64frombits)) := ext_pF64frombits Try.func200 (by kernel_rfl) (by kernel_rfl) (by kernel_rfl) (by kernel_rfl)
theorem ft201 : FnTab Try.prog E 201 (.ext (pF64bits)) := ext_pF64bits Try.func201 (by kernel_rfl) (by kernel_rfl) (by kernel_rfl) (by kernel_rfl)
theorem allFns : AllFns Try.prog E fnTab := .cons ft190 (.cons ft200 (.cons ft201 (.nil)))
theorem fnOk : ∀ f fd, E.fn f = some fd → FnTab Try.prog E f fd := fnTab_of (l := fnTab) (fun _ => rfl) allFns
end Go.Proofs.Ytdobhipbgpiceaa.DC
section
namespace Go.Proofs.Ytdobhipbgpiceaa.DC
open Go Go.Desk
set_option linter.unusedVariables false
noncomputable def x200.w : FnW E := xF64frombits.w 200 (by kernel_rfl)

noncomputable def x201.w : FnW E := xF64bits.w 201 (by kernel_rfl)

def f190_mathCopysign : Nat → Nat → Nat → Option (Nat)
  | 0, _, _ => none
  | n + 1, x1, x2 =>
    bd (xF64bits n x1) fun r3 =>
    let i4 : Int := r3
    bd (xF64bits n x2) fun r5 =>
    let i6 : Int := r5
    bd (xF64frombits n (intBits BinOp.or IntKind.u64 (intBits BinOp.andNot IntKind.u64 i4 (9223372036854775808 : Int)) (intBits BinOp.and IntKind.u64 i6 (9223372036854775808 : Int)))) fun r7 =>
    let x8 : Nat := r7
    some x8
def sg_ff : Sig (Nat × Nat) where
  pk := fun v => [.flt v.1, .flt v.2]
  up := fun ls => match ls with
    | [.flt a0, .flt a1] => some (a0, a1)
    | _ => none
  ok := by
    intro ls v h
    split at h
    · cases h; rfl
    · cases h

def sg_f : Sig (Nat) where
  pk := fun v => [.flt v]
  up := fun ls => match ls with
    | [.flt a0] => some a0
    | _ => none
  ok := by
    intro ls v h
    split at h
    · cases h; rfl
    · cases h

def f190_mathCopysign.P : List Arg := [⟨.val, ⟨false, [.leaf], [.flt .f64 0]⟩⟩, ⟨.val, ⟨false, [.leaf], [.flt .f64 0]⟩⟩]
def f190_mathCopysign.A : RAlt (Nat) := .one ⟨[⟨false, [.leaf], [.flt .f64 0]⟩], [none, none]⟩ sg_f
def f190_mathCopysign.F (n : Nat) (v : Nat × Nat) := f190_mathCopysign n v.1 v.2
noncomputable def f190_mathCopysign.O (n : Nat) : Orc := orcOf (E := E) [x200.w, x201.w] [] n
theorem f190_mathCopysign.ok : ∀ n v x, f190_mathCopysign.F n v = some x → evalFn E n 190 (flAs f190_mathCopysign.P (sg_ff.pk v)) = some (f190_mathCopysign.A.enc x) :=
  fn_pure (modes := (fdAt 190).ms) (outs := (fdAt 190).os) (results := (fdAt 190).rs) f190_mathCopysign.O (c := c190) (keep := keepAt 190) (by kernel_rfl) (fun n => orcOf_cf _ _ n) (fun n => lpOk_of (bs := []) (by kernel_rfl) .nil) (fun _ => rfl) (fun _ _ => by kernel_rfl)
noncomputable def f190_mathCopysign.w : FnW E := fnW 190 f190_mathCopysign.P sg_ff f190_mathCopysign.A f190_mathCopysign.F f190_mathCopysign.ok
end Go.Proofs.Ytdobhipbgpiceaa.DC
end
namespace Go.Proofs.Ytdobhipbgpiceaa.DC
open Go Go.Desk
theorem signOk : ExtOk Try.prog 190 pCopysign := ext_pCopysign_of Try.checked.mixed tysOk fnOk
  (fun x s hx hs hx' hs' => ⟨3, f190_mathCopysign.ok 3 (x, s) _ (copysign_plain 1 hx hs hx' hs')⟩)
end Go.Proofs.Ytdobhipbgpiceaa.DC
end
section
/- The tables of the reading: types and functions of the translation, with what is kept at each region's beginning (written by a program of this workplace). -/
namespace Go.Proofs.Ytdobhipbgpiceaa.D
open Go Go.Desk
def bodyOf (f : Func) : Code := match f.body with
  | some c => c
  | none => .skip
def tyTab : List (Nat × TD) := [
  (2, ⟨false, 1, 8, [.leaf], [.int .i64 0], .int .i64⟩),
  (3, ⟨false, 1, 8, [.leaf], [.int .i64 0], .int .i64⟩),
  (4, ⟨false, 1, 1, [.leaf], [.bool false], .bool⟩),
  (5, ⟨false, 1, 1, [.leaf], [.int .u8 0], .int .u8⟩),
  (22, ⟨false, 1, 24, [.sl .own [.leaf]], [.lst 0 []], .slc 5⟩),
  (24, ⟨false, 1, 24, [.sl .own [.leaf]], [.lst 0 []], .slc 29⟩),
  (29, ⟨false, 1, 4, [.leaf], [.flt .f32 0], .flt .f32⟩),
  (34, ⟨false, 1, 8, [.leaf], [.flt .f64 0], .flt .f64⟩),
  (35, ⟨false, 1, 24, [.sl .own [.leaf, .leaf, .sl .own [.leaf]]], [.lst 0 []], .slc 54⟩),
  (37, ⟨false, 1, 24, [.sl .own [.sl .own [.leaf]]], [.lst 0 []], .slc 24⟩),
  (54, ⟨true, 3, 40, [.leaf, .leaf, .sl .own [.leaf]], [.int .i64 0, .int .i64 0, .lst 0 []], .st [(0, 2), (1, 2), (2, 24)]⟩),
  (60, ⟨false, 1, 24, [.sl .own [.leaf]], [.lst 0 []], .slc 2⟩),
  (68, ⟨true, 5, 20, [.leaf, .leaf, .leaf, .leaf, .leaf], [.flt .f32 0, .flt .f32 0, .flt .f32 0, .flt .f32 0, .flt .f32 0], .st [(0, 29), (1, 29), (2, 29), (3, 29), (4, 29)]⟩),
  (71, ⟨true, 4, 16, [.leaf, .leaf, .leaf, .leaf], [.flt .f32 0, .flt .f32 0, .flt .f32 0, .flt .f32 0], .st [(0, 29), (1, 29), (2, 29), (3, 29)]⟩),
  (105, ⟨false, 1, 8, [.leaf], [.nil], .ptr 170⟩),
  (113, ⟨false, 1, 4, [.leaf], [.int .u32 0], .int .u32⟩),
  (168, ⟨false, 1, 8, [.leaf], [.int .u64 0], .int .u64⟩),
  (170, ⟨true, 3, 40, [.sl .own [.leaf], .leaf, .leaf], [.lst 0 [], .int .i64 0, .int .u64 0], .st [(0, 22), (1, 3), (2, 168)]⟩),
  (207, ⟨true, 3, 12, [.leaf, .leaf, .leaf], [.flt .f32 0, .flt .f32 0, .flt .f32 0], .st [(0, 29), (1, 29), (2, 29)]⟩),
  (209, ⟨true, 5, 20, [.leaf, .leaf, .leaf, .leaf, .leaf], [.flt .f32 0, .flt .f32 0, .flt .f32 0, .flt .f32 0, .flt .f32 0], .st [(0, 207), (3, 29), (4, 29)]⟩),
  (211, ⟨false, 1, 8, [.leaf], [.int .u64 0], .int .u64⟩),
  (218, ⟨true, 4, 40, [.leaf, .leaf, .leaf, .sl .own [.leaf]], [.flt .f32 0, .flt .f32 0, .flt .f32 0, .lst 0 []], .st [(0, 29), (1, 29), (2, 29), (3, 24)]⟩),
  (244, ⟨false, 1, 8, [.leaf], [.nil], .ptr 207⟩)]
noncomputable def c4 : Code := bodyOf Try.f4
noncomputable def c12 : Code := bodyOf Try.f12
noncomputable def c14 : Code := bodyOf Try.f14
noncomputable def c18 : Code := bodyOf Try.f18
noncomputable def c19 : Code := bodyOf Try.f19
noncomputable def c20 : Code := bodyOf Try.f20
noncomputable def c21 : Code := bodyOf Try.f21
noncomputable def c22 : Code := bodyOf Try.f22
noncomputable def c23 : Code := bodyOf Try.f23
noncomputable def c24 : Code := bodyOf Try.f24
noncomputable def c25 : Code := bodyOf Try.f25
noncomputable def c64 : Code := bodyOf Try.f64
noncomputable def c65 : Code := bodyOf Try.f65
noncomputable def c66 : Code := bodyOf Try.f66
noncomputable def c67 : Code := bodyOf Try.f67
noncomputable def c71 : Code := bodyOf Try.f71
noncomputable def c72 : Code := bodyOf Try.f72
noncomputable def c73 : Code := bodyOf Try.f73
noncomputable def c74 : Code := bodyOf Try.f74
noncomputable def c75 : Code := bodyOf Try.f75
noncomputable def c76 : Code := bodyOf Try.f76
noncomputable def c77 : Code := bodyOf Try.f77
noncomputable def c84 : Code := bodyOf Try.f84
noncomputable def c86 : Code := bodyOf Try.f86
noncomputable def c91 : Code := bodyOf Try.f91
noncomputable def c93 : Code := bodyOf Try.f93
noncomputable def c96 : Code := bodyOf Try.f96
noncomputable def c130 : Code := bodyOf Try.f130
noncomputable def c132 : Code := bodyOf Try.f132
noncomputable def c133 : Code := bodyOf Try.f133
noncomputable def c134 : Code := bodyOf Try.f134
noncomputable def c135 : Code := bodyOf Try.f135
noncomputable def c136 : Code := bodyOf Try.f136
noncomputable def c137 : Code := bodyOf Try.f137
noncomputable def c138 : Code := bodyOf Try.f138
noncomputable def c139 : Code := bodyOf Try.f139
noncomputable def c141 : Code := bodyOf Try.f141
noncomputable def c142 : Code := bodyOf Try.f142
noncomputable def c165 : Code := bodyOf Try.f165
noncomputable def c166 : Code := bodyOf Try.f166
noncomputable def c167 : Code := bodyOf Try.f167
noncomputable def c168 : Code := bodyOf Try.f168
noncomputable def c169 : Code := bodyOf Try.f169
noncomputable def c170 : Code := bodyOf Try.f170
noncomputable def c171 : Code := bodyOf Try.f171
noncomputable def c172 : Code := bodyOf Try.f172
noncomputable def c173 : Code := bodyOf Try.f173
noncomputable def c174 : Code := bodyOf Try.f174
noncomputable def c176 : Code := bodyOf Try.f176
noncomputable def c188 : Code := bodyOf Try.f188
noncomputable def c189 : Code := bodyOf Try.f189
noncomputable def c191 : Code := bodyOf Try.f191
noncomputable def c192 : Code := bodyOf Try.f192
noncomputable def c193 : Code := bodyOf Try.f193
noncomputable def c202 : Code := bodyOf Try.f202
noncomputable def c203 : Code := bodyOf Try.f203
noncomputable def c204 : Code := bodyOf Try.f204
noncomputable def fnTab : List (Nat × FD) := [
  (4, .code c4 [.val, .val] [] [(4, none)] [(0, [0, 1]), (1, [0, 1]), (2, []), (3, [0, 1]), (4, [0, 1, 5]), (5, [0, 1, 5, 6]), (6, [0, 5, 6, 7]), (7, [5, 6, 7, 8]), (8, [5, 6, 7, 8, 9, 10, 11]), (9, [5, 6, 7, 8, 9, 10, 11, 12, 13, 14]), (10, [5, 6, 7, 9, 10, 11, 12, 14, 15, 16, 17]), (11, []), (12, [10, 16]), (13, [10, 16, 18]), (14, [10, 16, 18]), (15, [10, 16, 18]), (16, []), (17, []), (1000013, [4])]),
  (12, .code c12 [.val, .val] [] [(4, none)] [(0, [0, 1]), (1, [0, 1])]),
  (14, .code c14 [.val, .val, .val] [] [(6, none)] [(0, [0, 1, 2]), (1, [0, 1, 2]), (2, []), (3, [0, 1, 2])]),
  (18, .code c18 [.val, .val] [] [(4, none)] [(0, [0, 1]), (1, [0, 1]), (2, [0, 1]), (3, [0, 1])]),
  (19, .code c19 [.val] [] [(2, none)] [(0, [0]), (1, [0]), (2, [3])]),
  (20, .code c20 [.val, .val] [] [(4, none)] [(0, [0, 1]), (1, [0, 1]), (2, [1, 5]), (3, [5, 6]), (4, [5, 6, 7]), (5, [5, 6, 7]), (6, [5, 6, 7]), (7, [6]), (1000004, [6])]),
  (21, .code c21 [.val, .val] [] [(4, none)] [(0, [0, 1]), (1, [0, 1]), (2, [1, 5]), (3, [5, 6])]),
  (22, .code c22 [.val, .val, .val] [] [(6, none), (7, none), (8, none)] [(0, [0, 1, 2]), (1, [0, 1, 2]), (2, []), (3, [0, 1, 2]), (4, [9, 10])]),
  (23, .code c23 [.val] [] [(2, none)] [(0, [0]), (1, [0]), (2, []), (3, [0]), (4, [0, 8, 9, 10]), (5, [0, 8, 9, 10]), (6, [0, 4, 8, 9, 10]), (7, []), (8, [0, 8, 9, 10]), (9, []), (1000004, [2])]),
  (24, .code c24 [.val, .val] [] [(4, none)] [(0, [0, 1]), (1, [0, 1]), (2, []), (3, [0, 1]), (4, [0, 1, 17, 18, 19]), (5, [0, 1, 17, 18, 19]), (6, [0, 1, 5, 6, 17, 18, 19]), (7, []), (8, [0, 1, 17, 18, 19]), (9, []), (1000004, [4])]),
  (25, .code c25 [.val, .val] [] [(4, none)] [(0, [0, 1]), (1, [0, 1]), (2, []), (3, [0, 1]), (4, [0, 1, 5]), (5, [0, 1, 5]), (6, [0, 1, 5]), (7, []), (8, []), (1000004, [4])]),
  (64, .code c64 [.val] [] [(2, none)] [(0, [0]), (1, [0])]),
  (65, .code c65 [.iop] [0] [(2, none)] [(0, [0]), (1, [0]), (2, [0, 3]), (3, [0, 3]), (4, [0, 3])]),
  (66, .code c66 [.val] [] [(2, none)] [(0, [0]), (1, [0])]),
  (67, .code c67 [.val, .val, .val] [] [(6, none)] [(0, [0, 1, 2]), (1, [0, 1, 2])]),
  (70, .ext (pF32bits)),
  (71, .code c71 [.iop] [0] [(2, none)] [(0, [0]), (1, [0]), (2, [0, 3]), (3, [0, 3, 4]), (4, [0, 3]), (5, [0, 3, 4]), (6, [0, 3, 4]), (7, [0, 3, 4]), (8, [0, 3]), (1000005, [0, 3])]),
  (72, .code c72 [.val] [] [(2, none)] [(0, [0]), (1, [0]), (2, [0, 3]), (3, [0, 3, 4]), (4, [0, 3, 4]), (5, [0, 3, 4]), (6, [0, 3, 4, 6]), (7, [0, 3, 4, 7]), (8, [0, 3, 4, 7]), (9, [0, 3, 4, 7]), (10, [3]), (1000003, [3])]),
  (73, .code c73 [.iop, .val] [0] [(4, none)] [(0, [0, 1]), (1, [0, 1]), (2, [0, 1, 5]), (3, [0, 1, 5, 6]), (4, [0, 1, 5, 6]), (5, [0, 1, 5, 6]), (6, [0, 1, 5, 6]), (7, [0, 1, 5, 6]), (8, [0, 5]), (1000003, [0, 5])]),
  (74, .code c74 [.iop, .val] [0] [(4, none)] [(0, [0, 1]), (1, [0, 1]), (2, [0]), (3, [0, 1]), (4, [0, 1, 5]), (5, [0, 1, 5]), (6, [0, 1, 5])]),
  (75, .code c75 [.val, .val, .val] [] [(6, none), (7, none)] [(0, [0, 1, 2]), (1, [0, 1, 2]), (2, [0, 1, 8]), (3, [0, 1, 8, 9]), (4, [0, 1, 8, 9, 16, 17, 18]), (5, [0, 1, 8, 9, 16, 17, 18]), (6, [0, 1, 8, 9, 10, 11, 16, 17, 18]), (7, [0, 1, 9, 12, 13, 16, 17, 18]), (8, [0, 1, 8, 9, 13, 16, 17, 18]), (9, [0, 1, 8, 9, 16, 17, 18]), (10, [8, 9]), (1000004, [8, 9])]),
  (76, .code c76 [.val] [] [(2, none)] [(0, [0]), (1, [1]), (2, [1, 4]), (3, [1, 4]), (4, [1]), (5, [1, 4]), (6, [1]), (7, [1, 4]), (8, [1]), (9, [1, 4]), (10, [1]), (11, [1, 4]), (12, [1]), (13, [1, 4]), (14, [1]), (15, [])]),
  (77, .code c77 [.val] [] [(2, none)] [(0, [0]), (1, [1]), (2, [1, 4]), (3, []), (4, [1, 4]), (5, [1]), (6, [1, 4]), (7, []), (8, [1, 4]), (9, [1]), (10, [])]),
  (84, .code c84 [.val] [] [(2, none)] [(0, [0]), (1, [0])]),
  (86, .code c86 [.iop] [0] [(2, none)] [(0, [0]), (1, [0]), (2, [0]), (3, [0]), (4, [0, 10]), (5, [0]), (6, [0, 10]), (7, [0]), (8, [0, 3]), (9, [0, 10]), (10, [0]), (11, [0])]),
  (91, .code c91 [.val] [] [(2, none)] [(0, [0]), (1, [0])]),
  (93, .code c93 [.iop] [0] [(2, some (true, 5))] [(0, [0]), (1, [0, 2]), (2, [0, 2, 3]), (3, [0, 2, 3]), (4, [0, 2, 3]), (5, [0, 2, 3]), (6, [0, 2, 3]), (7, [0, 2, 3]), (8, [0, 2, 3]), (9, [0, 2, 3]), (10, [0, 2, 3])]),
  (96, .code c96 [.val, .val, .val, .val, .val] [] [(10, none), (11, some (true, 4))] [(0, [0, 1, 2, 3, 4]), (1, [1, 2, 4, 5, 8, 11]), (2, [1, 2, 4, 5, 8, 11, 12]), (3, [1, 2, 4, 5, 8, 11, 12, 17, 18, 19]), (4, [1, 2, 4, 5, 8, 11, 12, 17, 18, 19]), (5, [1, 2, 4, 5, 8, 11, 12, 14, 17, 18, 19]), (6, [1, 2, 4, 5, 8, 11, 12, 15, 16, 17, 18, 19]), (7, [1, 2, 4, 5, 8, 11, 12, 15, 17, 18, 19]), (8, [1, 2, 4, 5, 8, 11, 12, 17, 18, 19]), (9, [8, 11, 12]), (1000003, [8, 11, 12])]),
  (130, .code c130 [.iop, .val] [0] [(4, none)] [(0, [0, 1]), (1, [0, 1])]),
  (132, .code c132 [.iop] [0] [(2, some (true, 3))] [(0, [0]), (1, [0, 2]), (2, [0, 2, 3]), (3, [0, 2, 3, 11]), (4, [0, 2, 3, 11]), (5, [0, 2, 3]), (6, [0, 2, 3, 11]), (7, [0, 2, 3]), (8, [0, 2, 3, 4]), (9, [0, 2, 3, 11]), (10, [0, 2, 3]), (11, [0, 2, 3]), (12, [0, 2, 3]), (13, [0, 2, 3, 11]), (14, [0, 2, 3]), (15, [0, 2, 3, 5]), (16, [0, 2, 3, 11]), (17, [0, 2, 3]), (18, [0, 2, 3]), (19, [0, 2, 3]), (20, [0, 2, 3])]),
  (133, .code c133 [.val, .val] [] [(4, none), (5, none)] [(0, [0, 1]), (1, [0, 1]), (2, [0, 1, 6]), (3, [0, 1, 6]), (4, []), (5, [0, 1, 6]), (6, []), (7, [0, 1, 6]), (8, [1]), (9, [0, 1, 6]), (10, []), (11, [0, 1, 6]), (12, []), (13, [0, 1, 6]), (14, [1]), (15, [])]),
  (134, .code c134 [.iop] [0] [(2, none)] [(0, [0]), (1, [0]), (2, [0, 3]), (3, [0]), (4, [0, 3]), (5, [0, 3]), (6, [0, 3]), (7, [0, 3]), (8, [0])]),
  (135, .code c135 [.val, .val, .val] [] [(6, none), (7, none)] [(0, [0, 1, 2]), (1, [1, 2, 3]), (2, [1, 2, 3, 8]), (3, [1, 2, 3, 8, 31]), (4, [2, 8]), (5, [1, 2, 3, 8, 31]), (6, [1, 2, 8]), (7, [1, 2, 9]), (8, [10, 11]), (9, [1, 2, 3, 8, 31]), (10, [1, 2, 8]), (11, [2, 8, 12]), (12, [2, 8, 12, 13]), (13, [2, 8, 12, 13, 80, 81, 82]), (14, [2, 8, 12, 13, 80, 81, 82]), (15, [2, 8, 12, 13, 15, 80, 81, 82]), (16, [2, 8, 12, 13, 15, 16, 80, 81, 82]), (17, [2, 8, 12, 13, 15, 16, 80, 81, 82]), (18, [2, 8, 12, 13, 80, 81, 82]), (19, [12, 13]), (20, [1, 2, 3, 8, 31]), (21, [1, 2, 8]), (22, [2, 17]), (23, [17, 18]), (24, [1, 2, 3, 8, 31]), (25, [2, 8]), (26, [20]), (27, [1, 2, 3, 8, 31]), (28, [2]), (29, [2, 22]), (30, [2, 22, 156, 157, 158]), (31, [2, 22, 156, 157, 158]), (32, [2, 22, 24, 156, 157, 158]), (33, [2, 22, 156, 157, 158]), (34, [22]), (35, [1, 2, 8]), (36, [25, 26]), (1000013, [12, 13]), (1000030, [22])]),
  (136, .code c136 [.val, .val, .val, .val] [] [(8, none)] [(0, [0, 1, 2, 3]), (1, [1, 2, 3, 4])]),
  (137, .code c137 [.val] [] [(2, none)] [(0, [0]), (1, [0])]),
  (138, .code c138 [.val] [] [(2, none)] [(0, [0]), (1, [0])]),
  (139, .code c139 [.iop, .io] [0, 1] [(4, none)] [(0, [0, 1]), (1, [0, 1])]),
  (141, .code c141 [.iop] [0] [(2, none)] [(0, [0]), (1, [0]), (2, [0]), (3, [0]), (4, [0]), (5, [0])]),
  (142, .code c142 [.val, .val, .val, .val, .val] [] [(10, none), (11, some (true, 4))] [(0, [0, 1, 2, 3, 4]), (1, [1, 2, 4, 5, 8, 11]), (2, [1, 2, 4, 5, 8, 11]), (3, [2, 4, 5, 8, 11]), (4, [2, 5, 8, 11, 13]), (5, [2, 8, 11, 12, 13]), (6, [1, 2, 4, 5, 8, 11, 14]), (7, [2, 4, 5, 8, 11]), (8, [2, 4, 8, 11, 12]), (9, [2, 4, 8, 11, 12]), (10, [1, 2, 4, 5, 8, 11, 14]), (11, [2, 4, 5, 8, 11]), (12, [2, 4, 5, 8, 11, 12]), (13, [2, 8, 11, 12])]),
  (165, .code c165 [.iop] [0] [(2, none)] [(0, [0]), (1, [0]), (2, [0]), (3, [0])]),
  (166, .code c166 [.iop] [0] [(2, some (true, 5))] [(0, [0]), (1, [0, 2]), (2, [0, 2, 3]), (3, [0, 2, 3]), (4, [0, 2, 3]), (5, [0, 2, 3]), (6, [0, 2, 3])]),
  (167, .code c167 [.val, .val] [] [(4, none)] [(0, [0, 1]), (1, [0, 1]), (2, [0, 1, 5]), (3, [0, 1, 5, 8, 9, 10]), (4, [0, 1, 5, 8, 9, 10]), (5, [0, 1, 5, 7, 8, 9, 10]), (6, [0, 1, 5, 8, 9, 10]), (7, [5]), (1000003, [5])]),
  (168, .code c168 [.val, .val] [] [(4, none)] [(0, [0, 1]), (1, [0, 1])]),
  (169, .code c169 [.val] [] [(2, none)] [(0, [0]), (1, [0]), (2, [0]), (3, [0])]),
  (170, .code c170 [.val, .val] [] [(4, none), (5, some (true, 5)), (6, none)] [(0, [0, 1]), (1, [1, 2, 5])]),
  (171, .code c171 [.val, .val] [] [(4, none), (5, none)] [(0, [0, 1]), (1, [0, 1]), (2, []), (3, [0, 1]), (4, [0, 1, 6]), (5, [0, 1, 6, 12, 13, 14]), (6, [0, 1, 6, 12, 13, 14]), (7, [0, 1, 6, 8, 12, 13, 14]), (8, [0, 1, 6, 12, 13, 14]), (9, [6]), (1000005, [6])]),
  (172, .code c172 [.val] [] [(2, none)] [(0, [0]), (1, [0]), (2, []), (3, [0]), (4, []), (5, [0])]),
  (173, .code c173 [.val, .val] [] [(4, none), (5, some (true, 4)), (6, none)] [(0, [0, 1]), (1, [1, 2, 5]), (2, [5]), (3, [1, 2, 5]), (4, [1, 2, 5]), (5, [1, 2, 5, 7, 1000000002]), (6, [1, 2, 5, 7, 34, 35, 36, 1000000002]), (7, [1, 2, 5, 7, 34, 35, 36, 1000000002]), (8, [1, 2, 5, 7, 9, 34, 35, 36, 1000000002]), (9, [1, 2, 5, 7, 10, 34, 35, 36, 1000000010, 1000000002]), (10, [1, 2, 5, 7, 10, 11, 34, 35, 36, 1000000010, 1000000002]), (11, [1, 2, 5, 7, 10, 11, 12, 34, 35, 36, 1000000010, 1000000002]), (12, [1, 2, 5, 7, 10, 12, 34, 35, 36, 1000000010, 1000000002]), (13, [1, 2, 5, 7, 10, 11, 34, 35, 36, 1000000010, 1000000002]), (14, [1, 2, 5, 7, 10, 11, 13, 34, 35, 36, 1000000010, 1000000002]), (15, [1, 2, 5, 7, 10, 11, 34, 35, 36, 1000000010, 1000000002]), (16, [1, 2, 5, 7, 10, 13, 34, 35, 36, 1000000010, 1000000002]), (17, [1, 2, 5, 7, 10, 13, 34, 35, 36, 1000000010, 1000000002]), (18, [1, 2, 5, 7, 10, 13, 34, 35, 36, 1000000010, 1000000002]), (19, [1, 2, 5, 7, 34, 35, 36, 1000000002]), (20, [2, 5, 7]), (21, [2, 5, 7]), (1000006, [2, 5, 7, 1000000002])]),
  (174, .code c174 [.val] [] [(2, none)] [(0, [0]), (1, [0])]),
  (175, .ext (pF32frombits)),
  (176, .code c176 [.val, .val] [] [(4, none)] [(0, [0, 1]), (1, [0, 1]), (2, [0]), (3, [0])]),
  (188, .code c188 [.iop] [0] [(2, some (true, 3))] [(0, [0]), (1, [0, 2]), (2, [0, 2, 3]), (3, [0, 2, 3]), (4, [0, 2, 3]), (5, [0, 2, 3])]),
  (189, .code c189 [.val] [] [(2, none)] [(0, [0]), (1, [0])]),
  (190, .ext (pCopysign)),
  (191, .code c191 [.val, .val, .val] [] [(6, none), (7, some (true, 5)), (8, none)] [(0, [0, 1, 2]), (1, [1, 2, 3, 7]), (2, [7]), (3, [1, 2, 3, 7]), (4, [1, 2, 3, 7, 9]), (5, [1, 2, 3, 7, 9, 23, 24, 25]), (6, [1, 2, 3, 7, 9, 23, 24, 25]), (7, [1, 2, 3, 7, 9, 10, 11, 23, 24, 25]), (8, [1, 2, 3, 7, 9, 11, 23, 24, 25]), (9, [1, 2, 3, 7, 9, 23, 24, 25]), (10, [3, 7, 9]), (1000005, [3, 7, 9])]),
  (192, .code c192 [.val, .val] [] [(4, none)] [(0, [0, 1]), (1, [0, 1]), (2, [0]), (3, [0, 1]), (4, [1]), (5, [1])]),
  (193, .code c193 [.val] [] [(2, none)] [(0, [0]), (1, [0]), (2, [0, 3]), (3, [0, 3, 7, 8, 9]), (4, [0, 3, 7, 8, 9]), (5, [0, 3, 5, 7, 8, 9]), (6, [0, 3, 6, 7, 8, 9]), (7, [0, 6, 7, 8, 9]), (8, [0, 3, 7, 8, 9]), (9, [3]), (1000003, [3])]),
  (202, .code c202 [.iop, .val] [0] [] [(0, [0, 1]), (1, [0, 4]), (2, [0, 4, 5]), (3, [0, 4]), (4, [0, 4, 5])]),
  (203, .code c203 [.val, .val, .val] [] [(6, none)] [(0, [0, 1, 2]), (1, [0, 1, 2]), (2, []), (3, [0, 1, 2])]),
  (204, .code c204 [.val] [] [(2, none)] [(0, [0]), (1, [0])]),
  (206, .ext (pAbs))]
noncomputable def E : Env := ⟨fun t => lookT tyTab t, lookF fnTab⟩
noncomputable def fdAt (n : Nat) : FD := match lookF fnTab n with
  | some d => d
  | none => .ext fun _ => none
noncomputable def keepAt (n : Nat) : List (Nat × List Nat) := match lookF fnTab n with
  | some d => d.keep
  | none => []
theorem tysOk : TysOk Try.prog E := tysOk_of (l := tyTab) (fun _ => rfl) (by kernel_rfl)
theorem ft4 : FnTab Try.prog E 4 (fdAt 4) := fnTab_code (c := c4) (modes := (fdAt 4).ms) (outs := (fdAt 4).os) (results := (fdAt 4).rs) (keep := (fdAt 4).keep) Try.func4 (by kernel_rfl) (by kernel_rfl) (by kernel_rfl)
theorem ft12 : FnTab Try.prog E 12 (fdAt 12) := fnTab_code (c := c12) (modes := (fdAt 12).ms) (outs := (fdAt 12).os) (results := (fdAt 12).rs) (keep := (fdAt 12).keep) Try.func12 (by kernel_rfl) (by kernel_rfl) (by kernel_rfl)
theorem ft14 : FnTab Try.prog E 14 (fdAt 14) := fnTab_code (c := c14) (modes := (fdAt 14).ms) (outs := (fdAt 14).os) (results := (fdAt 14).rs) (keep := (fdAt 14).keep) Try.func14 (by kernel_rfl) (by kernel_rfl) (by kernel_rfl)
theorem ft18 : FnTab Try.prog E 18 (fdAt 18) := fnTab_code (c := c18) (modes := (fdAt 18).ms) (outs := (fdAt 18).os) (results := (fdAt 18).rs) (keep := (fdAt 18).keep) Try.func18 (by kernel_rfl) (by kernel_rfl) (by kernel_rfl)
theorem ft19 : FnTab Try.prog E 19 (fdAt 19) := fnTab_code (c := c19) (modes := (fdAt 19).ms) (outs := (fdAt 19).os) (results := (fdAt 19).rs) (keep := (fdAt 19).keep) Try.func19 (by kernel_rfl) (by kernel_rfl) (by kernel_rfl)
theorem ft20 : FnTab Try.prog E 20 (fdAt 20) := fnTab_code (c := c20) (modes := (fdAt 20).ms) (outs := (fdAt 20).os) (results := (fdAt 20).rs) (keep := (fdAt 20).keep) Try.func20 (by kernel_rfl) (by kernel_rfl) (by kernel_rfl)
theorem ft21 : FnTab Try.prog E 21 (fdAt 21) := fnTab_code (c := c21) (modes := (fdAt 21).ms) (outs := (fdAt 21).os) (results := (fdAt 21).rs) (keep := (fdAt 21).keep) Try.func21 (by kernel_rfl) (by kernel_rfl) (by kernel_rfl)
theorem ft22 : FnTab Try.prog E 22 (fdAt 22) := fnTab_code (c := c22) (modes := (fdAt 22).ms) (outs := (fdAt 22).os) (results := (fdAt 22).rs) (keep := (fdAt 22).keep) Try.func22 (by kernel_rfl) (by kernel_rfl) (by kernel_rfl)
theorem ft23 : FnTab Try.prog E 23 (fdAt 23) := fnTab_code (c := c23) (modes := (fdAt 23).ms) (outs := (fdAt 23).os) (results := (fdAt 23).rs) (keep := (fdAt 23).keep) Try.func23 (by kernel_rfl) (by kernel_rfl) (by kernel_rfl)
theorem ft24 : FnTab Try.prog E 24 (fdAt 24) := fnTab_code (c := c24) (modes := (fdAt 24).ms) (outs := (fdAt 24).os) (results := (fdAt 24).rs) (keep := (fdAt 24).keep) Try.func24 (by kernel_rfl) (by kernel_rfl) (by kernel_rfl)
theorem ft25 : FnTab Try.prog E 25 (fdAt 25) := fnTab_code (c := c25) (modes := (fdAt 25).ms) (outs := (fdAt 25).os) (results := (fdAt 25).rs) (keep := (fdAt 25).keep) Try.func25 (by kernel_rfl) (by kernel_rfl) (by kernel_rfl)
theorem ft64 : FnTab Try.prog E 64 (fdAt 64) := fnTab_code (c := c64) (modes := (fdAt 64).ms) (outs := (fdAt 64).os) (results := (fdAt 64).rs) (keep := (fdAt 64).keep) Try.func64 (by kernel_rfl) (by kernel_rfl) (by kernel_rfl)
theorem ft65 : FnTab Try.prog E 65 (fdAt 65) := fnTab_code (c := c65) (modes := (fdAt 65).ms) (outs := (fdAt 65).os) (results := (fdAt 65).rs) (keep := (fdAt 65).keep) Try.func65 (by kernel_rfl) (by kernel_rfl) (by kernel_rfl)
theorem ft66 : FnTab Try.prog E 66 (fdAt 66) := fnTab_code (c := c66) (modes := (fdAt 66).ms) (outs := (fdAt 66).os) (results := (fdAt 66).rs) (keep := (fdAt 66).keep) Try.func66 (by kernel_rfl) (by kernel_rfl) (by kernel_rfl)
theorem ft67 : FnTab Try.prog E 67 (fdAt 67) := fnTab_code (c := c67) (modes := (fdAt 67).ms) (outs := (fdAt 67).os) (results := (fdAt 67).rs) (keep := (fdAt 67).keep) Try.func67 (by kernel_rfl) (by kernel_rfl) (by kernel_rfl)
theorem ft70 : FnTab Try.prog E 70 (.ext (pF32bits)) := ext_pF32bits Try.func70 (by kernel_rfl) (by kernel_rfl) (by kernel_rfl) (by kernel_rfl)
theorem ft71 : FnTab Try.prog E 71 (fdAt 71) := fnTab_code (c := c71) (modes := (fdAt 71).ms) (outs := (fdAt 71).os) (results := (fdAt 71).rs) (keep := (fdAt 71).keep) Try.func71 (by kernel_rfl) (by kernel_rfl) (by kernel_rfl)
theorem ft72 : FnTab Try.prog E 72 (fdAt 72) := fnTab_code (c := c72) (modes := (fdAt 72).ms) (outs := (fdAt 72).os) (results := (fdAt 72).rs) (keep := (fdAt 72).keep) Try.func72 (by kernel_rfl) (by kernel_rfl) (by kernel_rfl)
theorem ft73 : FnTab Try.prog E 73 (fdAt 73) := fnTab_code (c := c73) (modes := (fdAt 73).ms) (outs := (fdAt 73).os) (results := (fdAt 73).rs) (keep := (fdAt 73).keep) Try.func73 (by kernel_rfl) (by kernel_rfl) (by kernel_rfl)
theorem ft74 : FnTab Try.prog E 74 (fdAt 74) := fnTab_code (c := c74) (modes := (fdAt 74).ms) (outs := (fdAt 74).os) (results := (fdAt 74).rs) (keep := (fdAt 74).keep) Try.func74 (by kernel_rfl) (by kernel_rfl) (by kernel_rfl)
theorem ft75 : FnTab Try.prog E 75 (fdAt 75) := fnTab_code (c := c75) (modes := (fdAt 75).ms) (outs := (fdAt 75).os) (results := (fdAt 75).rs) (keep := (fdAt 75).keep) Try.func75 (by kernel_rfl) (by kernel_rfl) (by kernel_rfl)
theorem ft76 : FnTab Try.prog E 76 (fdAt 76) := fnTab_code (c := c76) (modes := (fdAt 76).ms) (outs := (fdAt 76).os) (results := (fdAt 76).rs) (keep := (fdAt 76).keep) Try.func76 (by kernel_rfl) (by kernel_rfl) (by kernel_rfl)
theorem ft77 : FnTab Try.prog E 77 (fdAt 77) := fnTab_code (c := c77) (modes := (fdAt 77).ms) (outs := (fdAt 77).os) (results := (fdAt 77).rs) (keep := (fdAt 77).keep) Try.func77 (by kernel_rfl) (by kernel_rfl) (by kernel_rfl)
theorem ft84 : FnTab Try.prog E 84 (fdAt 84) := fnTab_code (c := c84) (modes := (fdAt 84).ms) (outs := (fdAt 84).os) (results := (fdAt 84).rs) (keep := (fdAt 84).keep) Try.func84 (by kernel_rfl) (by kernel_rfl) (by kernel_rfl)
theorem ft86 : FnTab Try.prog E 86 (fdAt 86) := fnTab_code (c := c86) (modes := (fdAt 86).ms) (outs := (fdAt 86).os) (results := (fdAt 86).rs) (keep := (fdAt 86).keep) Try.func86 (by kernel_rfl) (by kernel_rfl) (by kernel_rfl)
theorem ft91 : FnTab Try.prog E 91 (fdAt 91) := fnTab_code (c := c91) (modes := (fdAt 91).ms) (outs := (fdAt 91).os) (results := (fdAt 91).rs) (keep := (fdAt 91).keep) Try.func91 (by kernel_rfl) (by kernel_rfl) (by kernel_rfl)
theorem ft93 : FnTab Try.prog E 93 (fdAt 93) := fnTab_code (c := c93) (modes := (fdAt 93).ms) (outs := (fdAt 93).os) (results := (fdAt 93).rs) (keep := (fdAt 93).keep) Try.func93 (by kernel_rfl) (by kernel_rfl) (by kernel_rfl)
theorem ft96 : FnTab Try.prog E 96 (fdAt 96) := fnTab_code (c := c96) (modes := (fdAt 96).ms) (outs := (fdAt 96).os) (results := (fdAt 96).rs) (keep := (fdAt 96).keep) Try.func96 (by kernel_rfl) (by kernel_rfl) (by kernel_rfl)
theorem ft130 : FnTab Try.prog E 130 (fdAt 130) := fnTab_code (c := c130) (modes := (fdAt 130).ms) (outs := (fdAt 130).os) (results := (fdAt 130).rs) (keep := (fdAt 130).keep) Try.func130 (by kernel_rfl) (by kernel_rfl) (by kernel_rfl)
theorem ft132 : FnTab Try.prog E 132 (fdAt 132) := fnTab_code (c := c132) (modes := (fdAt 132).ms) (outs := (fdAt 132).os) (results := (fdAt 132).rs) (keep := (fdAt 132).keep) Try.func132 (by kernel_rfl) (by kernel_rfl) (by kernel_rfl)
theorem ft133 : FnTab Try.prog E 133 (fdAt 133) := fnTab_code (c := c133) (modes := (fdAt 133).ms) (outs := (fdAt 133).os) (results := (fdAt 133).rs) (keep := (fdAt 133).keep) Try.func133 (by kernel_rfl) (by kernel_rfl) (by kernel_rfl)
theorem ft134 : FnTab Try.prog E 134 (fdAt 134) := fnTab_code (c := c134) (modes := (fdAt 134).ms) (outs := (fdAt 134).os) (results := (fdAt 134).rs) (keep := (fdAt 134).keep) Try.func134 (by kernel_rfl) (by kernel_rfl) (by kernel_rfl)
theorem ft135 : FnTab Try.prog E 135 (fdAt 135) := fnTab_code (c := c135) (modes := (fdAt 135).ms) (outs := (fdAt 135).os) (results := (fdAt 135).rs) (keep := (fdAt 135).keep) Try.func135 (by kernel_rfl) (by kernel_rfl) (by kernel_rfl)
theorem ft136 : FnTab Try.prog E 136 (fdAt 136) := fnTab_code (c := c136) (modes := (fdAt 136).ms) (outs := (fdAt 136).os) (results := (fdAt 136).rs) (keep := (fdAt 136).keep) Try.func136 (by kernel_rfl) (by kernel_rfl) (by kernel_rfl)
theorem ft137 : FnTab Try.prog E 137 (fdAt 137) := fnTab_code (c := c137) (modes := (fdAt 137).ms) (outs := (fdAt 137).os) (results := (fdAt 137).rs) (keep := (fdAt 137).keep) Try.func137 (by kernel_rfl) (by kernel_rfl) (by kernel_rfl)
theorem ft138 : FnTab Try.prog E 138 (fdAt 138) := fnTab_code (c := c138) (modes := (fdAt 138).ms) (outs := (fdAt 138).os) (results := (fdAt 138).rs) (keep := (fdAt 138).keep) Try.func138 (by kernel_rfl) (by kernel_rfl) (by kernel_rfl)
theorem ft139 : FnTab Try.prog E 139 (fdAt 139) := fnTab_code (c := c139) (modes := (fdAt 139).ms) (outs := (fdAt 139).os) (results := (fdAt 139).rs) (keep := (fdAt 139).keep) Try.func139 (by kernel_rfl) (by kernel_rfl) (by kernel_rfl)
theorem ft141 : FnTab Try.prog E 141 (fdAt 141) := fnTab_code (c := c141) (modes := (fdAt 141).ms) (outs := (fdAt 141).os) (results := (fdAt 141).rs) (keep := (fdAt 141).keep) Try.func141 (by kernel_rfl) (by kernel_rfl) (by kernel_rfl)
theorem ft142 : FnTab Try.prog E 142 (fdAt 142) := fnTab_code (c := c142) (modes := (fdAt 142).ms) (outs := (fdAt 142).os) (results := (fdAt 142).rs) (keep := (fdAt 142).keep) Try.func142 (by kernel_rfl) (by kernel_rfl) (by kernel_rfl)
theorem ft165 : FnTab Try.prog E 165 (fdAt 165) := fnTab_code (c := c165) (modes := (fdAt 165).ms) (outs := (fdAt 165).os) (results := (fdAt 165).rs) (keep := (fdAt 165).keep) Try.func165 (by kernel_rfl) (by kernel_rfl) (by kernel_rfl)
theorem ft166 : FnTab Try.prog E 166 (fdAt 166) := fnTab_code (c := c166) (modes := (fdAt 166).ms) (outs := (fdAt 166).os) (results := (fdAt 166).rs) (keep := (fdAt 166).keep) Try.func166 (by kernel_rfl) (by kernel_rfl) (by kernel_rfl)
theorem ft167 : FnTab Try.prog E 167 (fdAt 167) := fnTab_code (c := c167) (modes := (fdAt 167).ms) (outs := (fdAt 167).os) (results := (fdAt 167).rs) (keep := (fdAt 167).keep) Try.func167 (by kernel_rfl) (by kernel_rfl) (by kernel_rfl)
theorem ft168 : FnTab Try.prog E 168 (fdAt 168) := fnTab_code (c := c168) (modes := (fdAt 168).ms) (outs := (fdAt 168).os) (results := (fdAt 168).rs) (keep := (fdAt 168).keep) Try.func168 (by kernel_rfl) (by kernel_rfl) (by kernel_rfl)
theorem ft169 : FnTab Try.prog E 169 (fdAt 169) := fnTab_code (c := c169) (modes := (fdAt 169).ms) (outs := (fdAt 169).os) (results := (fdAt 169).rs) (keep := (fdAt 169).keep) Try.func169 (by kernel_rfl) (by kernel_rfl) (by kernel_rfl)
theorem ft170 : FnTab Try.prog E 170 (fdAt 170) := fnTab_code (c := c170) (modes := (fdAt 170).ms) (outs := (fdAt 170).os) (results := (fdAt 170).rs) (keep := (fdAt 170).keep) Try.func170 (by kernel_rfl) (by kernel_rfl) (by kernel_rfl)
theorem ft171 : FnTab Try.prog E 171 (fdAt 171) := fnTab_code (c := c171) (modes := (fdAt 171).ms) (outs := (fdAt 171).os) (results := (fdAt 171).rs) (keep := (fdAt 171).keep) Try.func171 (by kernel_rfl) (by kernel_rfl) (by kernel_rfl)
theorem ft172 : FnTab Try.prog E 172 (fdAt 172) := fnTab_code (c := c172) (modes := (fdAt 172).ms) (outs := (fdAt 172).os) (results := (fdAt 172).rs) (keep := (fdAt 172).keep) Try.func172 (by kernel_rfl) (by kernel_rfl) (by kernel_rfl)
theorem ft173 : FnTab Try.prog E 173 (fdAt 173) := fnTab_code (c := c173) (modes := (fdAt 173).ms) (outs := (fdAt 173).os) (results := (fdAt 173).rs) (keep := (fdAt 173).keep) Try.func173 (by kernel_rfl) (by kernel_rfl) (by kernel_rfl)
theorem ft174 : FnTab Try.prog E 174 (fdAt 174) := fnTab_code (c := c174) (modes := (fdAt 174).ms) (outs := (fdAt 174).os) (results := (fdAt 174).rs) (keep := (fdAt 174).keep) Try.func174 (by kernel_rfl) (by kernel_rfl) (by kernel_rfl)
theorem ft175 : FnTab Try.prog E 175 (.ext (pF32frombits)) := ext_pF32frombits Try.func175 (by kernel_rfl) (by kernel_rfl) (by kernel_rfl) (by kernel_rfl)
theorem ft176 : FnTab Try.prog E 176 (fdAt 176) := fnTab_code (c := c176) (modes := (fdAt 176).ms) (outs := (fdAt 176).os) (results := (fdAt 176).rs) (keep := (fdAt 176).keep) Try.func176 (by kernel_rfl) (by kernel_rfl) (by kernel_rfl)
theorem ft188 : FnTab Try.prog E 188 (fdAt 188) := fnTab_code (c := c188) (modes := (fdAt 188).ms) (outs := (fdAt 188).os) (results := (fdAt 188).rs) (keep := (fdAt 188).keep) Try.func188 (by kernel_rfl) (by kernel_rfl) (by kernel_rfl)
theorem ft189 : FnTab Try.prog E 189 (fdAt 189) := fnTab_code (c := c189) (modes := (fdAt 189).ms) (outs := (fdAt 189).os) (results := (fdAt 189).rs) (keep := (fdAt 189).keep) Try.func189 (by kernel_rfl) (by kernel_rfl) (by kernel_rfl)
theorem ft190 : FnTab Try.prog E 190 (.ext (pCopysign)) := DC.signOk
theorem ft191 : FnTab Try.prog E 191 (fdAt 191) := fnTab_code (c := c191) (modes := (fdAt 191).ms) (outs := (fdAt 191).os) (results := (fdAt 191).rs) (keep := (fdAt 191).keep) Try.func191 (by kernel_rfl) (by kernel_rfl) (by kernel_rfl)
theorem ft192 : FnTab Try.prog E 192 (fdAt 192) := fnTab_code (c := c192) (modes := (fdAt 192).ms) (outs := (fdAt 192).os) (results := (fdAt 192).rs) (keep := (fdAt 192).keep) Try.func192 (by kernel_rfl) (by kernel_rfl) (by kernel_rfl)
theorem ft193 : FnTab Try.prog E 193 (fdAt 193) := fnTab_code (c := c193) (modes := (fdAt 193).ms) (outs := (fdAt 193).os) (results := (fdAt 193).rs) (keep := (fdAt 193).keep) Try.func193 (by kernel_rfl) (by kernel_rfl) (by kernel_rfl)
theorem ft202 : FnTab Try.prog E 202 (fdAt 202) := fnTab_code (c := c202) (modes := (fdAt 202).ms) (outs := (fdAt 202).os) (results := (fdAt 202).rs) (keep := (fdAt 202).keep) Try.func202 (by kernel_rfl) (by kernel_rfl) (by kernel_rfl)
theorem ft203 : FnTab Try.prog E 203 (fdAt 203) := fnTab_code (c := c203) (modes := (fdAt 203).ms) (outs := (fdAt 203).os) (results := (fdAt 203).rs) (keep := (fdAt 203).keep) Try.func203 (by kernel_rfl) (by kernel_rfl) (by kernel_rfl)
theorem ft204 : FnTab Try.prog E 204 (fdAt 204) := fnTab_code (c := c204) (modes := (fdAt 204).ms) (outs := (fdAt 204).os) (results := (fdAt 204).rs) (keep := (fdAt 204).keep) Try.func204 (by kernel_rfl) (by kernel_rfl) (by kernel_rfl)
theorem ft206 : FnTab Try.prog E 206 (.ext (pAbs)) := DA.absOk
theorem allFns : AllFns Try.prog E fnTab := .cons ft4 (.cons ft12 (.cons ft14 (.cons ft18 (.cons ft19 (.cons ft20 (.cons ft21 (.cons ft22 (.cons ft23 (.cons ft24 (.cons ft25 (.cons ft64 (.cons ft65 (.cons ft66 (.cons ft67 (.cons ft70 (.cons ft71 (.cons ft72 (.cons ft73 (.cons ft74 (.cons ft75 (.cons ft76 (.cons ft77 (.cons ft84 (.cons ft86 (.cons ft91 (.cons ft93 (.cons ft96 (.cons ft130 (.cons ft132 (.cons ft133 (.cons ft134 (.cons ft135 (.cons ft136 (.cons ft137 (.cons ft138 (.cons ft139 (.cons ft141 (.cons ft142 (.cons ft165 (.cons ft166 (.cons ft167 (.cons ft168 (.cons ft169 (.cons ft170 (.cons ft171 (.cons ft172 (.cons ft173 (.cons ft174 (.cons ft175 (.cons ft176 (.cons ft188 (.cons ft189 (.cons ft190 (.cons ft191 (.cons ft192 (.cons ft193 (.cons ft202 (.cons ft203 (.cons ft204 (.cons ft206 (.nil)))))))))))))))))))))))))))))))))))))))))))))))))))))))))))))
theorem fnOk : ∀ f fd, E.fn f = some fd → FnTab Try.prog E f fd := fnTab_of (l := fnTab) (fun _ => rfl) allFns
end Go.Proofs.Ytdobhipbgpiceaa.D
end
section
/- Plain functions for the law's Go functions, each tied to the reading by the kernel (printed by a program of this workplace). -/
namespace Go.Proofs.Ytdobhipbgpiceaa.D
open Go Go.Desk
set_option linter.unusedVariables false
noncomputable def x175.w : FnW E := xF32frombits.w 175 (by kernel_rfl)

noncomputable def x190.w : FnW E := xCopysign.w 190 (by kernel_rfl)

noncomputable def x206.w : FnW E := xAbs.w 206 (by kernel_rfl)

noncomputable def x70.w : FnW E := xF32bits.w 70 (by kernel_rfl)

def f12_l_r8Long : Nat → Nat → List T → Nat → List T → Option (Bool)
  | 0, _, _, _, _ => none
  | n + 1, n1, l2, n3, l4 =>
    br (decide (((n1 : Nat) : Int) > (48 : Int))) (
     some true) (
     some (decide (((n3 : Nat) : Int) > (48 : Int))))
def sg_ll : Sig (Nat × List T × Nat × List T) where
  pk := fun v => [.lst v.1 v.2.1, .lst v.2.2.1 v.2.2.2]
  up := fun ls => match ls with
    | [.lst a0 a1, .lst a2 a3] => some (a0, a1, a2, a3)
    | _ => none
  ok := by
    intro ls v h
    split at h
    · cases h; rfl
    · cases h

def sg_b : Sig (Bool) where
  pk := fun v => [.bool v]
  up := fun ls => match ls with
    | [.bool a0] => some a0
    | _ => none
  ok := by
    intro ls v h
    split at h
    · cases h; rfl
    · cases h

def f12_l_r8Long.P : List Arg := [⟨.val, ⟨false, [.sl .shr [.leaf]], [.lst 0 []]⟩⟩, ⟨.val, ⟨false, [.sl .shr [.leaf]], [.lst 0 []]⟩⟩]
def f12_l_r8Long.A : RAlt (Bool) := .one ⟨[⟨false, [.leaf], [.bool false]⟩], [none, none]⟩ sg_b
def f12_l_r8Long.F (n : Nat) (v : Nat × List T × Nat × List T) := f12_l_r8Long n v.1 v.2.1 v.2.2.1 v.2.2.2
noncomputable def f12_l_r8Long.O (n : Nat) : Orc := orcOf (E := E) [] [] n
theorem f12_l_r8Long.ok : ∀ n v x, f12_l_r8Long.F n v = some x → evalFn E n 12 (flAs f12_l_r8Long.P (sg_ll.pk v)) = some (f12_l_r8Long.A.enc x) :=
  fn_pure (modes := (fdAt 12).ms) (outs := (fdAt 12).os) (results := (fdAt 12).rs) f12_l_r8Long.O (c := c12) (keep := keepAt 12) (by kernel_rfl) (fun n => orcOf_cf _ _ n) (fun n => lpOk_of (bs := []) (by kernel_rfl) .nil) (fun _ => rfl) (fun _ _ => by kernel_rfl)
noncomputable def f12_l_r8Long.w : FnW E := fnW 12 f12_l_r8Long.P sg_ll f12_l_r8Long.A f12_l_r8Long.F f12_l_r8Long.ok

def f64_s_l00From : Nat → Nat → List T → Option (Nat × List T × Int × Int)
  | 0, _, _ => none
  | n + 1, n1, l2 =>
    some (n1, l2, (0 : Int), (0 : Int))
def sg_l : Sig (Nat × List T) where
  pk := fun v => [.lst v.1 v.2]
  up := fun ls => match ls with
    | [.lst a0 a1] => some (a0, a1)
    | _ => none
  ok := by
    intro ls v h
    split at h
    · cases h; rfl
    · cases h

def sg_lii : Sig (Nat × List T × Int × Int) where
  pk := fun v => [.lst v.1 v.2.1, .int v.2.2.1, .int v.2.2.2]
  up := fun ls => match ls with
    | [.lst a0 a1, .int a2, .int a3] => some (a0, a1, a2, a3)
    | _ => none
  ok := by
    intro ls v h
    split at h
    · cases h; rfl
    · cases h

def f64_s_l00From.P : List Arg := [⟨.val, ⟨false, [.sl .shr [.leaf]], [.lst 0 []]⟩⟩]
def f64_s_l00From.A : RAlt (Nat × List T × Int × Int) := .one ⟨[⟨false, [.rf .own [.sl .shr [.leaf], .leaf, .leaf]], [.ref [.lst 0 [], .int .i64 0, .int .u64 0]]⟩], [none]⟩ sg_lii
def f64_s_l00From.F (n : Nat) (v : Nat × List T) := f64_s_l00From n v.1 v.2
noncomputable def f64_s_l00From.O (n : Nat) : Orc := orcOf (E := E) [] [] n
theorem f64_s_l00From.ok : ∀ n v x, f64_s_l00From.F n v = some x → evalFn E n 64 (flAs f64_s_l00From.P (sg_l.pk v)) = some (f64_s_l00From.A.enc x) :=
  fn_pure (modes := (fdAt 64).ms) (outs := (fdAt 64).os) (results := (fdAt 64).rs) f64_s_l00From.O (c := c64) (keep := keepAt 64) (by kernel_rfl) (fun n => orcOf_cf _ _ n) (fun n => lpOk_of (bs := []) (by kernel_rfl) .nil) (fun _ => rfl) (fun _ _ => by kernel_rfl)
noncomputable def f64_s_l00From.w : FnW E := fnW 64 f64_s_l00From.P sg_l f64_s_l00From.A f64_s_l00From.F f64_s_l00From.ok

def f134_s_l00Srcnext : Nat → Nat → List T → Int → Int → Option (Int × Nat × List T × Int × Int)
  | 0, _, _, _, _ => none
  | n + 1, n1, l2, i3, i4 =>
    br (decide (i3 < ((n1 : Nat) : Int))) (
     gd ((decide (((0 : Int) ≤ i3) ∧ (i3 < ((n1 : Nat) : Int)))) && (okAt [(CK.int IntKind.u8)] l2 (Int.toNat i3))) (
     let i5 : Int := (IntKind.i64.wrap (iAt l2 (Int.toNat i3)))
     let i6 : Int := (IntKind.i64.wrap (i3 + (1 : Int)))
     let i7 : Int := (IntKind.u64.wrap ((IntKind.u64.wrap ((IntKind.u64.wrap (i4 * (6364136223846793005 : Int))) + (IntKind.u64.wrap i5))) + (1442695040888963407 : Int)))
     br (decide (i6 ≤ ((n1 : Nat) : Int))) (
      some (i5, n1, l2, i6, i7)) (
      some ((IntKind.i64.wrap (intBits BinOp.and IntKind.u64 (Int.fdiv i7 (1099511627776 : Int)) (255 : Int))), n1, l2, i6, i7)))) (
     let i8 : Int := (IntKind.i64.wrap (i3 + (1 : Int)))
     let i9 : Int := (IntKind.u64.wrap ((IntKind.u64.wrap ((IntKind.u64.wrap (i4 * (6364136223846793005 : Int))) + (0 : Int))) + (1442695040888963407 : Int)))
     br (decide (i8 ≤ ((n1 : Nat) : Int))) (
      some ((0 : Int), n1, l2, i8, i9)) (
      some ((IntKind.i64.wrap (intBits BinOp.and IntKind.u64 (Int.fdiv i9 (1099511627776 : Int)) (255 : Int))), n1, l2, i8, i9)))
def sg_ilii : Sig (Int × Nat × List T × Int × Int) where
  pk := fun v => [.int v.1, .lst v.2.1 v.2.2.1, .int v.2.2.2.1, .int v.2.2.2.2]
  up := fun ls => match ls with
    | [.int a0, .lst a1 a2, .int a3, .int a4] => some (a0, a1, a2, a3, a4)
    | _ => none
  ok := by
    intro ls v h
    split at h
    · cases h; rfl
    · cases h

def f134_s_l00Srcnext.P : List Arg := [⟨.iop, ⟨false, [.rf .own [.sl .shr [.leaf], .leaf, .leaf]], [.ref [.lst 0 [], .int .i64 0, .int .u64 0]]⟩⟩]
def f134_s_l00Srcnext.A : RAlt (Int × Nat × List T × Int × Int) := .one ⟨[⟨false, [.leaf], [.int .i64 0]⟩], [some ⟨false, [.rf .own [.sl .shr [.leaf], .leaf, .leaf]], [.ref [.lst 0 [], .int .i64 0, .int .u64 0]]⟩]⟩ sg_ilii
def f134_s_l00Srcnext.F (n : Nat) (v : Nat × List T × Int × Int) := f134_s_l00Srcnext n v.1 v.2.1 v.2.2.1 v.2.2.2
noncomputable def f134_s_l00Srcnext.O (n : Nat) : Orc := orcOf (E := E) [] [] n
theorem f134_s_l00Srcnext.ok : ∀ n v x, f134_s_l00Srcnext.F n v = some x → evalFn E n 134 (flAs f134_s_l00Srcnext.P (sg_lii.pk v)) = some (f134_s_l00Srcnext.A.enc x) :=
  fn_pure (modes := (fdAt 134).ms) (outs := (fdAt 134).os) (results := (fdAt 134).rs) f134_s_l00Srcnext.O (c := c134) (keep := keepAt 134) (by kernel_rfl) (fun n => orcOf_cf _ _ n) (fun n => lpOk_of (bs := []) (by kernel_rfl) .nil) (fun _ => rfl) (fun _ _ => by kernel_rfl)
noncomputable def f134_s_l00Srcnext.w : FnW E := fnW 134 f134_s_l00Srcnext.P sg_lii f134_s_l00Srcnext.A f134_s_l00Srcnext.F f134_s_l00Srcnext.ok

def f74_s_l00Srcpick : Nat → Nat → List T → Int → Int → Int → Option (Int × Nat × List T × Int × Int)
  | 0, _, _, _, _, _ => none
  | n + 1, n1, l2, i3, i4, i5 =>
    br (decide (i5 ≤ (1 : Int))) (
     some ((0 : Int), n1, l2, i3, i4)) (
     bd (f134_s_l00Srcnext n n1 l2 i3 i4) fun r6 =>
     let i7 : Int := r6.1
     let n8 : Nat := r6.2.1
     let l9 : List T := r6.2.2.1
     let i10 : Int := r6.2.2.2.1
     let i11 : Int := r6.2.2.2.2
     br (decide (i5 > (200 : Int))) (
      bd (f134_s_l00Srcnext n n8 l9 i10 i11) fun r12 =>
      let i13 : Int := r12.1
      let n14 : Nat := r12.2.1
      let l15 : List T := r12.2.2.1
      let i16 : Int := r12.2.2.2.1
      let i17 : Int := r12.2.2.2.2
      let i18 : Int := (IntKind.i64.wrap ((IntKind.i64.wrap (i7 * (256 : Int))) + i13))
      gd (!(decide (i5 = (0 : Int)))) (
      some ((Int.tmod i18 i5), n14, l15, i16, i17))) (
      gd (!(decide (i5 = (0 : Int)))) (
      some ((Int.tmod i7 i5), n8, l9, i10, i11))))
def sg_liii : Sig (Nat × List T × Int × Int × Int) where
  pk := fun v => [.lst v.1 v.2.1, .int v.2.2.1, .int v.2.2.2.1, .int v.2.2.2.2]
  up := fun ls => match ls with
    | [.lst a0 a1, .int a2, .int a3, .int a4] => some (a0, a1, a2, a3, a4)
    | _ => none
  ok := by
    intro ls v h
    split at h
    · cases h; rfl
    · cases h

def f74_s_l00Srcpick.P : List Arg := [⟨.iop, ⟨false, [.rf .own [.sl .shr [.leaf], .leaf, .leaf]], [.ref [.lst 0 [], .int .i64 0, .int .u64 0]]⟩⟩, ⟨.val, ⟨false, [.leaf], [.int .i64 0]⟩⟩]
def f74_s_l00Srcpick.A : RAlt (Int × Nat × List T × Int × Int) := .one ⟨[⟨false, [.leaf], [.int .i64 0]⟩], [some ⟨false, [.rf .own [.sl .shr [.leaf], .leaf, .leaf]], [.ref [.lst 0 [], .int .i64 0, .int .u64 0]]⟩, none]⟩ sg_ilii
def f74_s_l00Srcpick.F (n : Nat) (v : Nat × List T × Int × Int × Int) := f74_s_l00Srcpick n v.1 v.2.1 v.2.2.1 v.2.2.2.1 v.2.2.2.2
noncomputable def f74_s_l00Srcpick.O (n : Nat) : Orc := orcOf (E := E) [f134_s_l00Srcnext.w] [] n
theorem f74_s_l00Srcpick.ok : ∀ n v x, f74_s_l00Srcpick.F n v = some x → evalFn E n 74 (flAs f74_s_l00Srcpick.P (sg_liii.pk v)) = some (f74_s_l00Srcpick.A.enc x) :=
  fn_pure (modes := (fdAt 74).ms) (outs := (fdAt 74).os) (results := (fdAt 74).rs) f74_s_l00Srcpick.O (c := c74) (keep := keepAt 74) (by kernel_rfl) (fun n => orcOf_cf _ _ n) (fun n => lpOk_of (bs := []) (by kernel_rfl) .nil) (fun _ => rfl) (fun _ _ => by kernel_rfl)
noncomputable def f74_s_l00Srcpick.w : FnW E := fnW 74 f74_s_l00Srcpick.P sg_liii f74_s_l00Srcpick.A f74_s_l00Srcpick.F f74_s_l00Srcpick.ok

def f130_s_l00Srcone : Nat → Nat → List T → Int → Int → Int → Option (Bool × Nat × List T × Int × Int)
  | 0, _, _, _, _, _ => none
  | n + 1, n1, l2, i3, i4, i5 =>
    bd (f74_s_l00Srcpick n n1 l2 i3 i4 i5) fun r6 =>
    let i7 : Int := r6.1
    let n8 : Nat := r6.2.1
    let l9 : List T := r6.2.2.1
    let i10 : Int := r6.2.2.2.1
    let i11 : Int := r6.2.2.2.2
    some ((i7 == (0 : Int)), n8, l9, i10, i11)
def sg_blii : Sig (Bool × Nat × List T × Int × Int) where
  pk := fun v => [.bool v.1, .lst v.2.1 v.2.2.1, .int v.2.2.2.1, .int v.2.2.2.2]
  up := fun ls => match ls with
    | [.bool a0, .lst a1 a2, .int a3, .int a4] => some (a0, a1, a2, a3, a4)
    | _ => none
  ok := by
    intro ls v h
    split at h
    · cases h; rfl
    · cases h

def f130_s_l00Srcone.P : List Arg := [⟨.iop, ⟨false, [.rf .own [.sl .shr [.leaf], .leaf, .leaf]], [.ref [.lst 0 [], .int .i64 0, .int .u64 0]]⟩⟩, ⟨.val, ⟨false, [.leaf], [.int .i64 0]⟩⟩]
def f130_s_l00Srcone.A : RAlt (Bool × Nat × List T × Int × Int) := .one ⟨[⟨false, [.leaf], [.bool false]⟩], [some ⟨false, [.rf .own [.sl .shr [.leaf], .leaf, .leaf]], [.ref [.lst 0 [], .int .i64 0, .int .u64 0]]⟩, none]⟩ sg_blii
def f130_s_l00Srcone.F (n : Nat) (v : Nat × List T × Int × Int × Int) := f130_s_l00Srcone n v.1 v.2.1 v.2.2.1 v.2.2.2.1 v.2.2.2.2
noncomputable def f130_s_l00Srcone.O (n : Nat) : Orc := orcOf (E := E) [f74_s_l00Srcpick.w] [] n
theorem f130_s_l00Srcone.ok : ∀ n v x, f130_s_l00Srcone.F n v = some x → evalFn E n 130 (flAs f130_s_l00Srcone.P (sg_liii.pk v)) = some (f130_s_l00Srcone.A.enc x) :=
  fn_pure (modes := (fdAt 130).ms) (outs := (fdAt 130).os) (results := (fdAt 130).rs) f130_s_l00Srcone.O (c := c130) (keep := keepAt 130) (by kernel_rfl) (fun n => orcOf_cf _ _ n) (fun n => lpOk_of (bs := []) (by kernel_rfl) .nil) (fun _ => rfl) (fun _ _ => by kernel_rfl)
noncomputable def f130_s_l00Srcone.w : FnW E := fnW 130 f130_s_l00Srcone.P sg_liii f130_s_l00Srcone.A f130_s_l00Srcone.F f130_s_l00Srcone.ok

def f65_s_l01DrawPlain : Nat → Nat → List T → Int → Int → Option (Nat × Nat × List T × Int × Int)
  | 0, _, _, _, _ => none
  | n + 1, n1, l2, i3, i4 =>
    bd (f74_s_l00Srcpick n n1 l2 i3 i4 (129 : Int)) fun r5 =>
    let i6 : Int := r5.1
    let n7 : Nat := r5.2.1
    let l8 : List T := r5.2.2.1
    let i9 : Int := r5.2.2.2.1
    let i10 : Int := r5.2.2.2.2
    let i11 : Int := (IntKind.i64.wrap (i6 - (64 : Int)))
    bd (f130_s_l00Srcone n n7 l8 i9 i10 (4 : Int)) fun r12 =>
    let b13 : Bool := r12.1
    let n14 : Nat := r12.2.1
    let l15 : List T := r12.2.2.1
    let i16 : Int := r12.2.2.2.1
    let i17 : Int := r12.2.2.2.2
    br b13 (
     some ((fdiv FloatKind.f32 (FloatKind.nearest FloatKind.f32 i11) 1088421888), n14, l15, i16, i17)) (
     some ((fdiv FloatKind.f32 (FloatKind.nearest FloatKind.f32 i11) 1098907648), n14, l15, i16, i17))
def sg_flii : Sig (Nat × Nat × List T × Int × Int) where
  pk := fun v => [.flt v.1, .lst v.2.1 v.2.2.1, .int v.2.2.2.1, .int v.2.2.2.2]
  up := fun ls => match ls with
    | [.flt a0, .lst a1 a2, .int a3, .int a4] => some (a0, a1, a2, a3, a4)
    | _ => none
  ok := by
    intro ls v h
    split at h
    · cases h; rfl
    · cases h

def f65_s_l01DrawPlain.P : List Arg := [⟨.iop, ⟨false, [.rf .own [.sl .shr [.leaf], .leaf, .leaf]], [.ref [.lst 0 [], .int .i64 0, .int .u64 0]]⟩⟩]
def f65_s_l01DrawPlain.A : RAlt (Nat × Nat × List T × Int × Int) := .one ⟨[⟨false, [.leaf], [.flt .f32 0]⟩], [some ⟨false, [.rf .own [.sl .shr [.leaf], .leaf, .leaf]], [.ref [.lst 0 [], .int .i64 0, .int .u64 0]]⟩]⟩ sg_flii
def f65_s_l01DrawPlain.F (n : Nat) (v : Nat × List T × Int × Int) := f65_s_l01DrawPlain n v.1 v.2.1 v.2.2.1 v.2.2.2
noncomputable def f65_s_l01DrawPlain.O (n : Nat) : Orc := orcOf (E := E) [f74_s_l00Srcpick.w, f130_s_l00Srcone.w] [] n
theorem f65_s_l01DrawPlain.ok : ∀ n v x, f65_s_l01DrawPlain.F n v = some x → evalFn E n 65 (flAs f65_s_l01DrawPlain.P (sg_lii.pk v)) = some (f65_s_l01DrawPlain.A.enc x) :=
  fn_pure (modes := (fdAt 65).ms) (outs := (fdAt 65).os) (results := (fdAt 65).rs) f65_s_l01DrawPlain.O (c := c65) (keep := keepAt 65) (by kernel_rfl) (fun n => orcOf_cf _ _ n) (fun n => lpOk_of (bs := []) (by kernel_rfl) .nil) (fun _ => rfl) (fun _ _ => by kernel_rfl)
noncomputable def f65_s_l01DrawPlain.w : FnW E := fnW 65 f65_s_l01DrawPlain.P sg_lii f65_s_l01DrawPlain.A f65_s_l01DrawPlain.F f65_s_l01DrawPlain.ok

def f139_s_l00Srcamong : Nat → Nat → List T → Int → Int → Nat → List T → Option (Int × Nat × List T × Int × Int × Nat × List T)
  | 0, _, _, _, _, _, _ => none
  | n + 1, n1, l2, i3, i4, n5, l6 =>
    bd (f74_s_l00Srcpick n n1 l2 i3 i4 ((n5 : Nat) : Int)) fun r7 =>
    let i8 : Int := r7.1
    let n9 : Nat := r7.2.1
    let l10 : List T := r7.2.2.1
    let i11 : Int := r7.2.2.2.1
    let i12 : Int := r7.2.2.2.2
    gd (decide (((0 : Int) ≤ i8) ∧ (i8 < ((n5 : Nat) : Int)))) (
    gd (okAt [(CK.int IntKind.i64)] l6 (Int.toNat i8)) (
    some ((iAt l6 (Int.toNat i8)), n9, l10, i11, i12, n5, l6)))
def sg_liil : Sig (Nat × List T × Int × Int × Nat × List T) where
  pk := fun v => [.lst v.1 v.2.1, .int v.2.2.1, .int v.2.2.2.1, .lst v.2.2.2.2.1 v.2.2.2.2.2]
  up := fun ls => match ls with
    | [.lst a0 a1, .int a2, .int a3, .lst a4 a5] => some (a0, a1, a2, a3, a4, a5)
    | _ => none
  ok := by
    intro ls v h
    split at h
    · cases h; rfl
    · cases h

def sg_iliil : Sig (Int × Nat × List T × Int × Int × Nat × List T) where
  pk := fun v => [.int v.1, .lst v.2.1 v.2.2.1, .int v.2.2.2.1, .int v.2.2.2.2.1, .lst v.2.2.2.2.2.1 v.2.2.2.2.2.2]
  up := fun ls => match ls with
    | [.int a0, .lst a1 a2, .int a3, .int a4, .lst a5 a6] => some (a0, a1, a2, a3, a4, a5, a6)
    | _ => none
  ok := by
    intro ls v h
    split at h
    · cases h; rfl
    · cases h

def f139_s_l00Srcamong.P : List Arg := [⟨.iop, ⟨false, [.rf .own [.sl .shr [.leaf], .leaf, .leaf]], [.ref [.lst 0 [], .int .i64 0, .int .u64 0]]⟩⟩, ⟨.io, ⟨false, [.sl .own [.leaf]], [.lst 0 []]⟩⟩]
def f139_s_l00Srcamong.A : RAlt (Int × Nat × List T × Int × Int × Nat × List T) := .one ⟨[⟨false, [.leaf], [.int .i64 0]⟩], [some ⟨false, [.rf .own [.sl .shr [.leaf], .leaf, .leaf]], [.ref [.lst 0 [], .int .i64 0, .int .u64 0]]⟩, some ⟨false, [.sl .own [.leaf]], [.lst 0 []]⟩]⟩ sg_iliil
def f139_s_l00Srcamong.F (n : Nat) (v : Nat × List T × Int × Int × Nat × List T) := f139_s_l00Srcamong n v.1 v.2.1 v.2.2.1 v.2.2.2.1 v.2.2.2.2.1 v.2.2.2.2.2
noncomputable def f139_s_l00Srcamong.O (n : Nat) : Orc := orcOf (E := E) [f74_s_l00Srcpick.w] [] n
theorem f139_s_l00Srcamong.ok : ∀ n v x, f139_s_l00Srcamong.F n v = some x → evalFn E n 139 (flAs f139_s_l00Srcamong.P (sg_liil.pk v)) = some (f139_s_l00Srcamong.A.enc x) :=
  fn_pure (modes := (fdAt 139).ms) (outs := (fdAt 139).os) (results := (fdAt 139).rs) f139_s_l00Srcamong.O (c := c139) (keep := keepAt 139) (by kernel_rfl) (fun n => orcOf_cf _ _ n) (fun n => lpOk_of (bs := []) (by kernel_rfl) .nil) (fun _ => rfl) (fun _ _ => by kernel_rfl)
noncomputable def f139_s_l00Srcamong.w : FnW E := fnW 139 f139_s_l00Srcamong.P sg_liil f139_s_l00Srcamong.A f139_s_l00Srcamong.F f139_s_l00Srcamong.ok

def f138_s_l01From : Nat → Int → Option (Nat)
  | 0, _ => none
  | n + 1, i1 =>
    bd (xF32frombits n (IntKind.u32.wrap i1)) fun r2 =>
    let x3 : Nat := r2
    some x3
def sg_i : Sig (Int) where
  pk := fun v => [.int v]
  up := fun ls => match ls with
    | [.int a0] => some a0
    | _ => none
  ok := by
    intro ls v h
    split at h
    · cases h; rfl
    · cases h

def sg_f : Sig (Nat) where
  pk := fun v => [.flt v]
  up := fun ls => match ls with
    | [.flt a0] => some a0
    | _ => none
  ok := by
    intro ls v h
    split at h
    · cases h; rfl
    · cases h

def f138_s_l01From.P : List Arg := [⟨.val, ⟨false, [.leaf], [.int .i64 0]⟩⟩]
def f138_s_l01From.A : RAlt (Nat) := .one ⟨[⟨false, [.leaf], [.flt .f32 0]⟩], [none]⟩ sg_f
def f138_s_l01From.F (n : Nat) (v : Int) := f138_s_l01From n v
noncomputable def f138_s_l01From.O (n : Nat) : Orc := orcOf (E := E) [x175.w] [] n
theorem f138_s_l01From.ok : ∀ n v x, f138_s_l01From.F n v = some x → evalFn E n 138 (flAs f138_s_l01From.P (sg_i.pk v)) = some (f138_s_l01From.A.enc x) :=
  fn_pure (modes := (fdAt 138).ms) (outs := (fdAt 138).os) (results := (fdAt 138).rs) f138_s_l01From.O (c := c138) (keep := keepAt 138) (by kernel_rfl) (fun n => orcOf_cf _ _ n) (fun n => lpOk_of (bs := []) (by kernel_rfl) .nil) (fun _ => rfl) (fun _ _ => by kernel_rfl)
noncomputable def f138_s_l01From.w : FnW E := fnW 138 f138_s_l01From.P sg_i f138_s_l01From.A f138_s_l01From.F f138_s_l01From.ok

def f86_s_l01DrawFloat : Nat → Nat → List T → Int → Int → Option (Nat × Nat × List T × Int × Int)
  | 0, _, _, _, _ => none
  | n + 1, n1, l2, i3, i4 =>
    bd (f130_s_l00Srcone n n1 l2 i3 i4 (12 : Int)) fun r5 =>
    let b6 : Bool := r5.1
    let n7 : Nat := r5.2.1
    let l8 : List T := r5.2.2.1
    let i9 : Int := r5.2.2.2.1
    let i10 : Int := r5.2.2.2.2
    br (!b6) (
     bd (f65_s_l01DrawPlain n n7 l8 i9 i10) fun r11 =>
     let x12 : Nat := r11.1
     let n13 : Nat := r11.2.1
     let l14 : List T := r11.2.2.1
     let i15 : Int := r11.2.2.2.1
     let i16 : Int := r11.2.2.2.2
     some (x12, n13, l14, i15, i16)) (
     bd (f74_s_l00Srcpick n n7 l8 i9 i10 (4 : Int)) fun r17 =>
     let i18 : Int := r17.1
     let n19 : Nat := r17.2.1
     let l20 : List T := r17.2.2.1
     let i21 : Int := r17.2.2.2.1
     let i22 : Int := r17.2.2.2.2
     br (i18 == (0 : Int)) (
      bd (f139_s_l00Srcamong n n19 l20 i21 i22 10 (setN (setN (setN (setN (setN (setN (setN (setN (setN (setN (reps 10 [(T.int IntKind.i64 (0 : Int))]) 0 [(T.int IntKind.i64 (0 : Int))]) 1 [(T.int IntKind.i64 (2147483648 : Int))]) 2 [(T.int IntKind.i64 (2139095040 : Int))]) 3 [(T.int IntKind.i64 (4286578688 : Int))]) 4 [(T.int IntKind.i64 (2143289344 : Int))]) 5 [(T.int IntKind.i64 (1 : Int))]) 6 [(T.int IntKind.i64 (2139095039 : Int))]) 7 [(T.int IntKind.i64 (8388608 : Int))]) 8 [(T.int IntKind.i64 (8388607 : Int))]) 9 [(T.int IntKind.i64 (2147483649 : Int))])) fun r23 =>
      let i24 : Int := r23.1
      let n25 : Nat := r23.2.1
      let l26 : List T := r23.2.2.1
      let i27 : Int := r23.2.2.2.1
      let i28 : Int := r23.2.2.2.2.1
      let n29 : Nat := r23.2.2.2.2.2.1
      let l30 : List T := r23.2.2.2.2.2.2
      bd (f138_s_l01From n i24) fun r31 =>
      let x32 : Nat := r31
      some (x32, n25, l26, i27, i28)) (
      br (i18 == (1 : Int)) (
       bd (f74_s_l00Srcpick n n19 l20 i21 i22 (65536 : Int)) fun r33 =>
       let i34 : Int := r33.1
       let n35 : Nat := r33.2.1
       let l36 : List T := r33.2.2.1
       let i37 : Int := r33.2.2.2.1
       let i38 : Int := r33.2.2.2.2
       let i39 : Int := (IntKind.i64.wrap (i34 * (65536 : Int)))
       bd (f74_s_l00Srcpick n n35 l36 i37 i38 (65536 : Int)) fun r40 =>
       let i41 : Int := r40.1
       let n42 : Nat := r40.2.1
       let l43 : List T := r40.2.2.1
       let i44 : Int := r40.2.2.2.1
       let i45 : Int := r40.2.2.2.2
       bd (f138_s_l01From n (IntKind.i64.wrap (i39 + i41))) fun r46 =>
       let x47 : Nat := r46
       some (x47, n42, l43, i44, i45)) (
       br (i18 == (2 : Int)) (
        bd (f74_s_l00Srcpick n n19 l20 i21 i22 (65536 : Int)) fun r48 =>
        let i49 : Int := r48.1
        let n50 : Nat := r48.2.1
        let l51 : List T := r48.2.2.1
        let i52 : Int := r48.2.2.2.1
        let i53 : Int := r48.2.2.2.2
        bd (f138_s_l01From n (IntKind.i64.wrap (i49 * (65536 : Int)))) fun r54 =>
        let x55 : Nat := r54
        some (x55, n50, l51, i52, i53)) (
        bd (f65_s_l01DrawPlain n n19 l20 i21 i22) fun r56 =>
        let x57 : Nat := r56.1
        let n58 : Nat := r56.2.1
        let l59 : List T := r56.2.2.1
        let i60 : Int := r56.2.2.2.1
        let i61 : Int := r56.2.2.2.2
        bd (f139_s_l00Srcamong n n58 l59 i60 i61 4 (setN (setN (setN (setN (reps 4 [(T.int IntKind.i64 (0 : Int))]) 0 [(T.int IntKind.i64 (8388608 : Int))]) 1 [(T.int IntKind.i64 (2130706432 : Int))]) 2 [(T.int IntKind.i64 (1610612736 : Int))]) 3 [(T.int IntKind.i64 (536870912 : Int))])) fun r62 =>
        let i63 : Int := r62.1
        let n64 : Nat := r62.2.1
        let l65 : List T := r62.2.2.1
        let i66 : Int := r62.2.2.2.1
        let i67 : Int := r62.2.2.2.2.1
        let n68 : Nat := r62.2.2.2.2.2.1
        let l69 : List T := r62.2.2.2.2.2.2
        bd (f138_s_l01From n i63) fun r70 =>
        let x71 : Nat := r70
        some ((fmul FloatKind.f32 x57 x71), n64, l65, i66, i67)))))
def f86_s_l01DrawFloat.P : List Arg := [⟨.iop, ⟨false, [.rf .own [.sl .shr [.leaf], .leaf, .leaf]], [.ref [.lst 0 [], .int .i64 0, .int .u64 0]]⟩⟩]
def f86_s_l01DrawFloat.A : RAlt (Nat × Nat × List T × Int × Int) := .one ⟨[⟨false, [.leaf], [.flt .f32 0]⟩], [some ⟨false, [.rf .own [.sl .shr [.leaf], .leaf, .leaf]], [.ref [.lst 0 [], .int .i64 0, .int .u64 0]]⟩]⟩ sg_flii
def f86_s_l01DrawFloat.F (n : Nat) (v : Nat × List T × Int × Int) := f86_s_l01DrawFloat n v.1 v.2.1 v.2.2.1 v.2.2.2
noncomputable def f86_s_l01DrawFloat.O (n : Nat) : Orc := orcOf (E := E) [f74_s_l00Srcpick.w, f130_s_l00Srcone.w, f65_s_l01DrawPlain.w, f139_s_l00Srcamong.w, f138_s_l01From.w] [] n
theorem f86_s_l01DrawFloat.ok : ∀ n v x, f86_s_l01DrawFloat.F n v = some x → evalFn E n 86 (flAs f86_s_l01DrawFloat.P (sg_lii.pk v)) = some (f86_s_l01DrawFloat.A.enc x) :=
  fn_pure (modes := (fdAt 86).ms) (outs := (fdAt 86).os) (results := (fdAt 86).rs) f86_s_l01DrawFloat.O (c := c86) (keep := keepAt 86) (by kernel_rfl) (fun n => orcOf_cf _ _ n) (fun n => lpOk_of (bs := []) (by kernel_rfl) .nil) (fun _ => rfl) (fun _ _ => by kernel_rfl)
noncomputable def f86_s_l01DrawFloat.w : FnW E := fnW 86 f86_s_l01DrawFloat.P sg_lii f86_s_l01DrawFloat.A f86_s_l01DrawFloat.F f86_s_l01DrawFloat.ok

def f165_s_l04DrawShare : Nat → Nat → List T → Int → Int → Option (Nat × Nat × List T × Int × Int)
  | 0, _, _, _, _ => none
  | n + 1, n1, l2, i3, i4 =>
    bd (f130_s_l00Srcone n n1 l2 i3 i4 (10 : Int)) fun r5 =>
    let b6 : Bool := r5.1
    let n7 : Nat := r5.2.1
    let l8 : List T := r5.2.2.1
    let i9 : Int := r5.2.2.2.1
    let i10 : Int := r5.2.2.2.2
    br b6 (
     bd (f86_s_l01DrawFloat n n7 l8 i9 i10) fun r11 =>
     let x12 : Nat := r11.1
     let n13 : Nat := r11.2.1
     let l14 : List T := r11.2.2.1
     let i15 : Int := r11.2.2.2.1
     let i16 : Int := r11.2.2.2.2
     some (x12, n13, l14, i15, i16)) (
     bd (f74_s_l00Srcpick n n7 l8 i9 i10 (17 : Int)) fun r17 =>
     let i18 : Int := r17.1
     let n19 : Nat := r17.2.1
     let l20 : List T := r17.2.2.1
     let i21 : Int := r17.2.2.2.1
     let i22 : Int := r17.2.2.2.2
     some ((fdiv FloatKind.f32 (FloatKind.nearest FloatKind.f32 i18) 1098907648), n19, l20, i21, i22))
def f165_s_l04DrawShare.P : List Arg := [⟨.iop, ⟨false, [.rf .own [.sl .shr [.leaf], .leaf, .leaf]], [.ref [.lst 0 [], .int .i64 0, .int .u64 0]]⟩⟩]
def f165_s_l04DrawShare.A : RAlt (Nat × Nat × List T × Int × Int) := .one ⟨[⟨false, [.leaf], [.flt .f32 0]⟩], [some ⟨false, [.rf .own [.sl .shr [.leaf], .leaf, .leaf]], [.ref [.lst 0 [], .int .i64 0, .int .u64 0]]⟩]⟩ sg_flii
def f165_s_l04DrawShare.F (n : Nat) (v : Nat × List T × Int × Int) := f165_s_l04DrawShare n v.1 v.2.1 v.2.2.1 v.2.2.2
noncomputable def f165_s_l04DrawShare.O (n : Nat) : Orc := orcOf (E := E) [f74_s_l00Srcpick.w, f130_s_l00Srcone.w, f86_s_l01DrawFloat.w] [] n
theorem f165_s_l04DrawShare.ok : ∀ n v x, f165_s_l04DrawShare.F n v = some x → evalFn E n 165 (flAs f165_s_l04DrawShare.P (sg_lii.pk v)) = some (f165_s_l04DrawShare.A.enc x) :=
  fn_pure (modes := (fdAt 165).ms) (outs := (fdAt 165).os) (results := (fdAt 165).rs) f165_s_l04DrawShare.O (c := c165) (keep := keepAt 165) (by kernel_rfl) (fun n => orcOf_cf _ _ n) (fun n => lpOk_of (bs := []) (by kernel_rfl) .nil) (fun _ => rfl) (fun _ _ => by kernel_rfl)
noncomputable def f165_s_l04DrawShare.w : FnW E := fnW 165 f165_s_l04DrawShare.P sg_lii f165_s_l04DrawShare.A f165_s_l04DrawShare.F f165_s_l04DrawShare.ok

def f141_s_l02DrawNumber : Nat → Nat → List T → Int → Int → Option (Nat × Nat × List T × Int × Int)
  | 0, _, _, _, _ => none
  | n + 1, n1, l2, i3, i4 =>
    bd (f130_s_l00Srcone n n1 l2 i3 i4 (8 : Int)) fun r5 =>
    let b6 : Bool := r5.1
    let n7 : Nat := r5.2.1
    let l8 : List T := r5.2.2.1
    let i9 : Int := r5.2.2.2.1
    let i10 : Int := r5.2.2.2.2
    br b6 (
     bd (f86_s_l01DrawFloat n n7 l8 i9 i10) fun r11 =>
     let x12 : Nat := r11.1
     let n13 : Nat := r11.2.1
     let l14 : List T := r11.2.2.1
     let i15 : Int := r11.2.2.2.1
     let i16 : Int := r11.2.2.2.2
     some (x12, n13, l14, i15, i16)) (
     bd (f130_s_l00Srcone n n7 l8 i9 i10 (3 : Int)) fun r17 =>
     let b18 : Bool := r17.1
     let n19 : Nat := r17.2.1
     let l20 : List T := r17.2.2.1
     let i21 : Int := r17.2.2.2.1
     let i22 : Int := r17.2.2.2.2
     br b18 (
      some (0, n19, l20, i21, i22)) (
      bd (f74_s_l00Srcpick n n19 l20 i21 i22 (33 : Int)) fun r23 =>
      let i24 : Int := r23.1
      let n25 : Nat := r23.2.1
      let l26 : List T := r23.2.2.1
      let i27 : Int := r23.2.2.2.1
      let i28 : Int := r23.2.2.2.2
      some ((fdiv FloatKind.f32 (FloatKind.nearest FloatKind.f32 (IntKind.i64.wrap (i24 - (16 : Int)))) 1090519040), n25, l26, i27, i28)))
def f141_s_l02DrawNumber.P : List Arg := [⟨.iop, ⟨false, [.rf .own [.sl .shr [.leaf], .leaf, .leaf]], [.ref [.lst 0 [], .int .i64 0, .int .u64 0]]⟩⟩]
def f141_s_l02DrawNumber.A : RAlt (Nat × Nat × List T × Int × Int) := .one ⟨[⟨false, [.leaf], [.flt .f32 0]⟩], [some ⟨false, [.rf .own [.sl .shr [.leaf], .leaf, .leaf]], [.ref [.lst 0 [], .int .i64 0, .int .u64 0]]⟩]⟩ sg_flii
def f141_s_l02DrawNumber.F (n : Nat) (v : Nat × List T × Int × Int) := f141_s_l02DrawNumber n v.1 v.2.1 v.2.2.1 v.2.2.2
noncomputable def f141_s_l02DrawNumber.O (n : Nat) : Orc := orcOf (E := E) [f74_s_l00Srcpick.w, f130_s_l00Srcone.w, f86_s_l01DrawFloat.w] [] n
theorem f141_s_l02DrawNumber.ok : ∀ n v x, f141_s_l02DrawNumber.F n v = some x → evalFn E n 141 (flAs f141_s_l02DrawNumber.P (sg_lii.pk v)) = some (f141_s_l02DrawNumber.A.enc x) :=
  fn_pure (modes := (fdAt 141).ms) (outs := (fdAt 141).os) (results := (fdAt 141).rs) f141_s_l02DrawNumber.O (c := c141) (keep := keepAt 141) (by kernel_rfl) (fun n => orcOf_cf _ _ n) (fun n => lpOk_of (bs := []) (by kernel_rfl) .nil) (fun _ => rfl) (fun _ _ => by kernel_rfl)
noncomputable def f141_s_l02DrawNumber.w : FnW E := fnW 141 f141_s_l02DrawNumber.P sg_lii f141_s_l02DrawNumber.A f141_s_l02DrawNumber.F f141_s_l02DrawNumber.ok

def f93_s_l02DrawFilter : Nat → Nat → List T → Int → Int → Option (Nat × Nat × Nat × Nat × Nat × Nat × List T × Int × Int)
  | 0, _, _, _, _ => none
  | n + 1, n1, l2, i3, i4 =>
    bd (f141_s_l02DrawNumber n n1 l2 i3 i4) fun r5 =>
    let x6 : Nat := r5.1
    let n7 : Nat := r5.2.1
    let l8 : List T := r5.2.2.1
    let i9 : Int := r5.2.2.2.1
    let i10 : Int := r5.2.2.2.2
    bd (f141_s_l02DrawNumber n n7 l8 i9 i10) fun r11 =>
    let x12 : Nat := r11.1
    let n13 : Nat := r11.2.1
    let l14 : List T := r11.2.2.1
    let i15 : Int := r11.2.2.2.1
    let i16 : Int := r11.2.2.2.2
    bd (f141_s_l02DrawNumber n n13 l14 i15 i16) fun r17 =>
    let x18 : Nat := r17.1
    let n19 : Nat := r17.2.1
    let l20 : List T := r17.2.2.1
    let i21 : Int := r17.2.2.2.1
    let i22 : Int := r17.2.2.2.2
    bd (f74_s_l00Srcpick n n19 l20 i21 i22 (15 : Int)) fun r23 =>
    let i24 : Int := r23.1
    let n25 : Nat := r23.2.1
    let l26 : List T := r23.2.2.1
    let i27 : Int := r23.2.2.2.1
    let i28 : Int := r23.2.2.2.2
    let x29 : Nat := (fdiv FloatKind.f32 (FloatKind.nearest FloatKind.f32 (IntKind.i64.wrap (i24 - (7 : Int)))) 1090519040)
    bd (f74_s_l00Srcpick n n25 l26 i27 i28 (7 : Int)) fun r30 =>
    let i31 : Int := r30.1
    let n32 : Nat := r30.2.1
    let l33 : List T := r30.2.2.1
    let i34 : Int := r30.2.2.2.1
    let i35 : Int := r30.2.2.2.2
    let x36 : Nat := (fdiv FloatKind.f32 (FloatKind.nearest FloatKind.f32 (IntKind.i64.wrap (i31 - (3 : Int)))) 1090519040)
    bd (f130_s_l00Srcone n n32 l33 i34 i35 (4 : Int)) fun r37 =>
    let b38 : Bool := r37.1
    let n39 : Nat := r37.2.1
    let l40 : List T := r37.2.2.1
    let i41 : Int := r37.2.2.2.1
    let i42 : Int := r37.2.2.2.2
    br b38 (
     bd (f141_s_l02DrawNumber n n39 l40 i41 i42) fun r43 =>
     let x44 : Nat := r43.1
     let n45 : Nat := r43.2.1
     let l46 : List T := r43.2.2.1
     let i47 : Int := r43.2.2.2.1
     let i48 : Int := r43.2.2.2.2
     bd (f130_s_l00Srcone n n45 l46 i47 i48 (4 : Int)) fun r49 =>
     let b50 : Bool := r49.1
     let n51 : Nat := r49.2.1
     let l52 : List T := r49.2.2.1
     let i53 : Int := r49.2.2.2.1
     let i54 : Int := r49.2.2.2.2
     br b50 (
      bd (f141_s_l02DrawNumber n n51 l52 i53 i54) fun r55 =>
      let x56 : Nat := r55.1
      let n57 : Nat := r55.2.1
      let l58 : List T := r55.2.2.1
      let i59 : Int := r55.2.2.2.1
      let i60 : Int := r55.2.2.2.2
      some (x6, x12, x18, x44, x56, n57, l58, i59, i60)) (
      some (x6, x12, x18, x44, x36, n51, l52, i53, i54))) (
     bd (f130_s_l00Srcone n n39 l40 i41 i42 (4 : Int)) fun r61 =>
     let b62 : Bool := r61.1
     let n63 : Nat := r61.2.1
     let l64 : List T := r61.2.2.1
     let i65 : Int := r61.2.2.2.1
     let i66 : Int := r61.2.2.2.2
     br b62 (
      bd (f141_s_l02DrawNumber n n63 l64 i65 i66) fun r67 =>
      let x68 : Nat := r67.1
      let n69 : Nat := r67.2.1
      let l70 : List T := r67.2.2.1
      let i71 : Int := r67.2.2.2.1
      let i72 : Int := r67.2.2.2.2
      some (x6, x12, x18, x29, x68, n69, l70, i71, i72)) (
      some (x6, x12, x18, x29, x36, n63, l64, i65, i66)))
def sg_ffffflii : Sig (Nat × Nat × Nat × Nat × Nat × Nat × List T × Int × Int) where
  pk := fun v => [.flt v.1, .flt v.2.1, .flt v.2.2.1, .flt v.2.2.2.1, .flt v.2.2.2.2.1, .lst v.2.2.2.2.2.1 v.2.2.2.2.2.2.1, .int v.2.2.2.2.2.2.2.1, .int v.2.2.2.2.2.2.2.2]
  up := fun ls => match ls with
    | [.flt a0, .flt a1, .flt a2, .flt a3, .flt a4, .lst a5 a6, .int a7, .int a8] => some (a0, a1, a2, a3, a4, a5, a6, a7, a8)
    | _ => none
  ok := by
    intro ls v h
    split at h
    · cases h; rfl
    · cases h

def f93_s_l02DrawFilter.P : List Arg := [⟨.iop, ⟨false, [.rf .own [.sl .shr [.leaf], .leaf, .leaf]], [.ref [.lst 0 [], .int .i64 0, .int .u64 0]]⟩⟩]
def f93_s_l02DrawFilter.A : RAlt (Nat × Nat × Nat × Nat × Nat × Nat × List T × Int × Int) := .one ⟨[⟨true, [.leaf, .leaf, .leaf, .leaf, .leaf], [.flt .f32 0, .flt .f32 0, .flt .f32 0, .flt .f32 0, .flt .f32 0]⟩], [some ⟨false, [.rf .own [.sl .shr [.leaf], .leaf, .leaf]], [.ref [.lst 0 [], .int .i64 0, .int .u64 0]]⟩]⟩ sg_ffffflii
def f93_s_l02DrawFilter.F (n : Nat) (v : Nat × List T × Int × Int) := f93_s_l02DrawFilter n v.1 v.2.1 v.2.2.1 v.2.2.2
noncomputable def f93_s_l02DrawFilter.O (n : Nat) : Orc := orcOf (E := E) [f74_s_l00Srcpick.w, f130_s_l00Srcone.w, f141_s_l02DrawNumber.w] [] n
theorem f93_s_l02DrawFilter.ok : ∀ n v x, f93_s_l02DrawFilter.F n v = some x → evalFn E n 93 (flAs f93_s_l02DrawFilter.P (sg_lii.pk v)) = some (f93_s_l02DrawFilter.A.enc x) :=
  fn_pure (modes := (fdAt 93).ms) (outs := (fdAt 93).os) (results := (fdAt 93).rs) f93_s_l02DrawFilter.O (c := c93) (keep := keepAt 93) (by kernel_rfl) (fun n => orcOf_cf _ _ n) (fun n => lpOk_of (bs := []) (by kernel_rfl) .nil) (fun _ => rfl) (fun _ _ => by kernel_rfl)
noncomputable def f93_s_l02DrawFilter.w : FnW E := fnW 93 f93_s_l02DrawFilter.P sg_lii f93_s_l02DrawFilter.A f93_s_l02DrawFilter.F f93_s_l02DrawFilter.ok

def f188_s_l04DrawFollower : Nat → Nat → List T → Int → Int → Option (Nat × Nat × Nat × Nat × List T × Int × Int)
  | 0, _, _, _, _ => none
  | n + 1, n1, l2, i3, i4 =>
    bd (f165_s_l04DrawShare n n1 l2 i3 i4) fun r5 =>
    let x6 : Nat := r5.1
    let n7 : Nat := r5.2.1
    let l8 : List T := r5.2.2.1
    let i9 : Int := r5.2.2.2.1
    let i10 : Int := r5.2.2.2.2
    bd (f165_s_l04DrawShare n n7 l8 i9 i10) fun r11 =>
    let x12 : Nat := r11.1
    let n13 : Nat := r11.2.1
    let l14 : List T := r11.2.2.1
    let i15 : Int := r11.2.2.2.1
    let i16 : Int := r11.2.2.2.2
    bd (f130_s_l00Srcone n n13 l14 i15 i16 (2 : Int)) fun r17 =>
    let b18 : Bool := r17.1
    let n19 : Nat := r17.2.1
    let l20 : List T := r17.2.2.1
    let i21 : Int := r17.2.2.2.1
    let i22 : Int := r17.2.2.2.2
    br b18 (
     bd (f86_s_l01DrawFloat n n19 l20 i21 i22) fun r23 =>
     let x24 : Nat := r23.1
     let n25 : Nat := r23.2.1
     let l26 : List T := r23.2.2.1
     let i27 : Int := r23.2.2.2.1
     let i28 : Int := r23.2.2.2.2
     some (x6, x12, x24, n25, l26, i27, i28)) (
     some (x6, x12, 0, n19, l20, i21, i22))
def sg_ffflii : Sig (Nat × Nat × Nat × Nat × List T × Int × Int) where
  pk := fun v => [.flt v.1, .flt v.2.1, .flt v.2.2.1, .lst v.2.2.2.1 v.2.2.2.2.1, .int v.2.2.2.2.2.1, .int v.2.2.2.2.2.2]
  up := fun ls => match ls with
    | [.flt a0, .flt a1, .flt a2, .lst a3 a4, .int a5, .int a6] => some (a0, a1, a2, a3, a4, a5, a6)
    | _ => none
  ok := by
    intro ls v h
    split at h
    · cases h; rfl
    · cases h

def f188_s_l04DrawFollower.P : List Arg := [⟨.iop, ⟨false, [.rf .own [.sl .shr [.leaf], .leaf, .leaf]], [.ref [.lst 0 [], .int .i64 0, .int .u64 0]]⟩⟩]
def f188_s_l04DrawFollower.A : RAlt (Nat × Nat × Nat × Nat × List T × Int × Int) := .one ⟨[⟨true, [.leaf, .leaf, .leaf], [.flt .f32 0, .flt .f32 0, .flt .f32 0]⟩], [some ⟨false, [.rf .own [.sl .shr [.leaf], .leaf, .leaf]], [.ref [.lst 0 [], .int .i64 0, .int .u64 0]]⟩]⟩ sg_ffflii
def f188_s_l04DrawFollower.F (n : Nat) (v : Nat × List T × Int × Int) := f188_s_l04DrawFollower n v.1 v.2.1 v.2.2.1 v.2.2.2
noncomputable def f188_s_l04DrawFollower.O (n : Nat) : Orc := orcOf (E := E) [f130_s_l00Srcone.w, f86_s_l01DrawFloat.w, f165_s_l04DrawShare.w] [] n
theorem f188_s_l04DrawFollower.ok : ∀ n v x, f188_s_l04DrawFollower.F n v = some x → evalFn E n 188 (flAs f188_s_l04DrawFollower.P (sg_lii.pk v)) = some (f188_s_l04DrawFollower.A.enc x) :=
  fn_pure (modes := (fdAt 188).ms) (outs := (fdAt 188).os) (results := (fdAt 188).rs) f188_s_l04DrawFollower.O (c := c188) (keep := keepAt 188) (by kernel_rfl) (fun n => orcOf_cf _ _ n) (fun n => lpOk_of (bs := []) (by kernel_rfl) .nil) (fun _ => rfl) (fun _ _ => by kernel_rfl)
noncomputable def f188_s_l04DrawFollower.w : FnW E := fnW 188 f188_s_l04DrawFollower.P sg_lii f188_s_l04DrawFollower.A f188_s_l04DrawFollower.F f188_s_l04DrawFollower.ok

def f166_s_l04DrawSqueeze : Nat → Nat → List T → Int → Int → Option (Nat × Nat × Nat × Nat × Nat × Nat × List T × Int × Int)
  | 0, _, _, _, _ => none
  | n + 1, n1, l2, i3, i4 =>
    bd (f188_s_l04DrawFollower n n1 l2 i3 i4) fun r5 =>
    let x6 : Nat := r5.1
    let x7 : Nat := r5.2.1
    let x8 : Nat := r5.2.2.1
    let n9 : Nat := r5.2.2.2.1
    let l10 : List T := r5.2.2.2.2.1
    let i11 : Int := r5.2.2.2.2.2.1
    let i12 : Int := r5.2.2.2.2.2.2
    bd (f165_s_l04DrawShare n n9 l10 i11 i12) fun r13 =>
    let x14 : Nat := r13.1
    let n15 : Nat := r13.2.1
    let l16 : List T := r13.2.2.1
    let i17 : Int := r13.2.2.2.1
    let i18 : Int := r13.2.2.2.2
    bd (f74_s_l00Srcpick n n15 l16 i17 i18 (8 : Int)) fun r19 =>
    let i20 : Int := r19.1
    let n21 : Nat := r19.2.1
    let l22 : List T := r19.2.2.1
    let i23 : Int := r19.2.2.2.1
    let i24 : Int := r19.2.2.2.2
    let x25 : Nat := (FloatKind.nearest FloatKind.f32 (IntKind.i64.wrap ((1 : Int) + i20)))
    bd (f130_s_l00Srcone n n21 l22 i23 i24 (10 : Int)) fun r26 =>
    let b27 : Bool := r26.1
    let n28 : Nat := r26.2.1
    let l29 : List T := r26.2.2.1
    let i30 : Int := r26.2.2.2.1
    let i31 : Int := r26.2.2.2.2
    br b27 (
     bd (f86_s_l01DrawFloat n n28 l29 i30 i31) fun r32 =>
     let x33 : Nat := r32.1
     let n34 : Nat := r32.2.1
     let l35 : List T := r32.2.2.1
     let i36 : Int := r32.2.2.2.1
     let i37 : Int := r32.2.2.2.2
     some (x6, x7, x8, x14, x33, n34, l35, i36, i37)) (
     some (x6, x7, x8, x14, x25, n28, l29, i30, i31))
def f166_s_l04DrawSqueeze.P : List Arg := [⟨.iop, ⟨false, [.rf .own [.sl .shr [.leaf], .leaf, .leaf]], [.ref [.lst 0 [], .int .i64 0, .int .u64 0]]⟩⟩]
def f166_s_l04DrawSqueeze.A : RAlt (Nat × Nat × Nat × Nat × Nat × Nat × List T × Int × Int) := .one ⟨[⟨true, [.leaf, .leaf, .leaf, .leaf, .leaf], [.flt .f32 0, .flt .f32 0, .flt .f32 0, .flt .f32 0, .flt .f32 0]⟩], [some ⟨false, [.rf .own [.sl .shr [.leaf], .leaf, .leaf]], [.ref [.lst 0 [], .int .i64 0, .int .u64 0]]⟩]⟩ sg_ffffflii
def f166_s_l04DrawSqueeze.F (n : Nat) (v : Nat × List T × Int × Int) := f166_s_l04DrawSqueeze n v.1 v.2.1 v.2.2.1 v.2.2.2
noncomputable def f166_s_l04DrawSqueeze.O (n : Nat) : Orc := orcOf (E := E) [f74_s_l00Srcpick.w, f130_s_l00Srcone.w, f86_s_l01DrawFloat.w, f165_s_l04DrawShare.w, f188_s_l04DrawFollower.w] [] n
theorem f166_s_l04DrawSqueeze.ok : ∀ n v x, f166_s_l04DrawSqueeze.F n v = some x → evalFn E n 166 (flAs f166_s_l04DrawSqueeze.P (sg_lii.pk v)) = some (f166_s_l04DrawSqueeze.A.enc x) :=
  fn_pure (modes := (fdAt 166).ms) (outs := (fdAt 166).os) (results := (fdAt 166).rs) f166_s_l04DrawSqueeze.O (c := c166) (keep := keepAt 166) (by kernel_rfl) (fun n => orcOf_cf _ _ n) (fun n => lpOk_of (bs := []) (by kernel_rfl) .nil) (fun _ => rfl) (fun _ _ => by kernel_rfl)
noncomputable def f166_s_l04DrawSqueeze.w : FnW E := fnW 166 f166_s_l04DrawSqueeze.P sg_lii f166_s_l04DrawSqueeze.A f166_s_l04DrawSqueeze.F f166_s_l04DrawSqueeze.ok

def f132_s_l08DrawEffect : Nat → Nat → List T → Int → Int → Option (Int × Int × Nat × List T × Nat × List T × Int × Int)
  | 0, _, _, _, _ => none
  | n + 1, n1, l2, i3, i4 =>
    bd (f74_s_l00Srcpick n n1 l2 i3 i4 (7 : Int)) fun r5 =>
    let i6 : Int := r5.1
    let n7 : Nat := r5.2.1
    let l8 : List T := r5.2.2.1
    let i9 : Int := r5.2.2.2.1
    let i10 : Int := r5.2.2.2.2
    br (i6 == (0 : Int)) (
     br (i6 == (0 : Int)) (
      bd (f165_s_l04DrawShare n n7 l8 i9 i10) fun r11 =>
      let x12 : Nat := r11.1
      let n13 : Nat := r11.2.1
      let l14 : List T := r11.2.2.1
      let i15 : Int := r11.2.2.2.1
      let i16 : Int := r11.2.2.2.2
      let l17 : List T := ((reps 0 [(T.flt FloatKind.f32 0)]) ++ (setN (reps 1 [(T.flt FloatKind.f32 0)]) 0 [(T.flt FloatKind.f32 x12)]))
      some (i6, (0 : Int), 1, l17, n13, l14, i15, i16)) (
      br (i6 == (1 : Int)) (
       bd (f93_s_l02DrawFilter n n7 l8 i9 i10) fun r18 =>
       let x19 : Nat := r18.1
       let x20 : Nat := r18.2.1
       let x21 : Nat := r18.2.2.1
       let x22 : Nat := r18.2.2.2.1
       let x23 : Nat := r18.2.2.2.2.1
       let n24 : Nat := r18.2.2.2.2.2.1
       let l25 : List T := r18.2.2.2.2.2.2.1
       let i26 : Int := r18.2.2.2.2.2.2.2.1
       let i27 : Int := r18.2.2.2.2.2.2.2.2
       let l28 : List T := (setN (setN (setN (setN (setN (reps 5 [(T.flt FloatKind.f32 0)]) 0 [(T.flt FloatKind.f32 x19)]) 1 [(T.flt FloatKind.f32 x20)]) 2 [(T.flt FloatKind.f32 x21)]) 3 [(T.flt FloatKind.f32 x22)]) 4 [(T.flt FloatKind.f32 x23)])
       some (i6, (0 : Int), 5, l28, n24, l25, i26, i27)) (
       br (i6 == (2 : Int)) (
        bd (f74_s_l00Srcpick n n7 l8 i9 i10 (5 : Int)) fun r29 =>
        let i30 : Int := r29.1
        let n31 : Nat := r29.2.1
        let l32 : List T := r29.2.2.1
        let i33 : Int := r29.2.2.2.1
        let i34 : Int := r29.2.2.2.2
        let i35 : Int := (IntKind.i64.wrap ((1 : Int) + i30))
        bd (f165_s_l04DrawShare n n31 l32 i33 i34) fun r36 =>
        let x37 : Nat := r36.1
        let n38 : Nat := r36.2.1
        let l39 : List T := r36.2.2.1
        let i40 : Int := r36.2.2.2.1
        let i41 : Int := r36.2.2.2.2
        let l42 : List T := ((reps 0 [(T.flt FloatKind.f32 0)]) ++ (setN (reps 1 [(T.flt FloatKind.f32 0)]) 0 [(T.flt FloatKind.f32 x37)]))
        bd (f165_s_l04DrawShare n n38 l39 i40 i41) fun r43 =>
        let x44 : Nat := r43.1
        let n45 : Nat := r43.2.1
        let l46 : List T := r43.2.2.1
        let i47 : Int := r43.2.2.2.1
        let i48 : Int := r43.2.2.2.2
        let l49 : List T := (l42 ++ (setN (reps 1 [(T.flt FloatKind.f32 0)]) 0 [(T.flt FloatKind.f32 x44)]))
        some (i6, i35, 2, l49, n45, l46, i47, i48)) (
        br (i6 == (3 : Int)) (
         bd (f166_s_l04DrawSqueeze n n7 l8 i9 i10) fun r50 =>
         let x51 : Nat := r50.1
         let x52 : Nat := r50.2.1
         let x53 : Nat := r50.2.2.1
         let x54 : Nat := r50.2.2.2.1
         let x55 : Nat := r50.2.2.2.2.1
         let n56 : Nat := r50.2.2.2.2.2.1
         let l57 : List T := r50.2.2.2.2.2.2.1
         let i58 : Int := r50.2.2.2.2.2.2.2.1
         let i59 : Int := r50.2.2.2.2.2.2.2.2
         let l60 : List T := (setN (setN (setN (setN (reps 4 [(T.flt FloatKind.f32 0)]) 0 [(T.flt FloatKind.f32 x51)]) 1 [(T.flt FloatKind.f32 x52)]) 2 [(T.flt FloatKind.f32 x54)]) 3 [(T.flt FloatKind.f32 x55)])
         some (i6, (0 : Int), 4, l60, n56, l57, i58, i59)) (
         br (i6 == (6 : Int)) (
          bd (f74_s_l00Srcpick n n7 l8 i9 i10 (5 : Int)) fun r61 =>
          let i62 : Int := r61.1
          let n63 : Nat := r61.2.1
          let l64 : List T := r61.2.2.1
          let i65 : Int := r61.2.2.2.1
          let i66 : Int := r61.2.2.2.2
          bd (f74_s_l00Srcpick n n63 l64 i65 i66 (16 : Int)) fun r67 =>
          let i68 : Int := r67.1
          let n69 : Nat := r67.2.1
          let l70 : List T := r67.2.2.1
          let i71 : Int := r67.2.2.2.1
          let i72 : Int := r67.2.2.2.2
          let l73 : List T := ((reps 0 [(T.flt FloatKind.f32 0)]) ++ (setN (reps 1 [(T.flt FloatKind.f32 0)]) 0 [(T.flt FloatKind.f32 (fdiv FloatKind.f32 (FloatKind.nearest FloatKind.f32 (IntKind.i64.wrap ((1 : Int) + i68))) 1098907648))]))
          bd (f165_s_l04DrawShare n n69 l70 i71 i72) fun r74 =>
          let x75 : Nat := r74.1
          let n76 : Nat := r74.2.1
          let l77 : List T := r74.2.2.1
          let i78 : Int := r74.2.2.2.1
          let i79 : Int := r74.2.2.2.2
          let l80 : List T := (l73 ++ (setN (reps 1 [(T.flt FloatKind.f32 0)]) 0 [(T.flt FloatKind.f32 x75)]))
          some (i6, i62, 2, l80, n76, l77, i78, i79)) (
          some (i6, (0 : Int), 0, (reps 0 [(T.flt FloatKind.f32 0)]), n7, l8, i9, i10))))))) (
     br (i6 == (4 : Int)) (
      bd (f165_s_l04DrawShare n n7 l8 i9 i10) fun r81 =>
      let x82 : Nat := r81.1
      let n83 : Nat := r81.2.1
      let l84 : List T := r81.2.2.1
      let i85 : Int := r81.2.2.2.1
      let i86 : Int := r81.2.2.2.2
      let l87 : List T := ((reps 0 [(T.flt FloatKind.f32 0)]) ++ (setN (reps 1 [(T.flt FloatKind.f32 0)]) 0 [(T.flt FloatKind.f32 x82)]))
      some (i6, (0 : Int), 1, l87, n83, l84, i85, i86)) (
      br (i6 == (1 : Int)) (
       bd (f93_s_l02DrawFilter n n7 l8 i9 i10) fun r88 =>
       let x89 : Nat := r88.1
       let x90 : Nat := r88.2.1
       let x91 : Nat := r88.2.2.1
       let x92 : Nat := r88.2.2.2.1
       let x93 : Nat := r88.2.2.2.2.1
       let n94 : Nat := r88.2.2.2.2.2.1
       let l95 : List T := r88.2.2.2.2.2.2.1
       let i96 : Int := r88.2.2.2.2.2.2.2.1
       let i97 : Int := r88.2.2.2.2.2.2.2.2
       let l98 : List T := (setN (setN (setN (setN (setN (reps 5 [(T.flt FloatKind.f32 0)]) 0 [(T.flt FloatKind.f32 x89)]) 1 [(T.flt FloatKind.f32 x90)]) 2 [(T.flt FloatKind.f32 x91)]) 3 [(T.flt FloatKind.f32 x92)]) 4 [(T.flt FloatKind.f32 x93)])
       some (i6, (0 : Int), 5, l98, n94, l95, i96, i97)) (
       br (i6 == (2 : Int)) (
        bd (f74_s_l00Srcpick n n7 l8 i9 i10 (5 : Int)) fun r99 =>
        let i100 : Int := r99.1
        let n101 : Nat := r99.2.1
        let l102 : List T := r99.2.2.1
        let i103 : Int := r99.2.2.2.1
        let i104 : Int := r99.2.2.2.2
        let i105 : Int := (IntKind.i64.wrap ((1 : Int) + i100))
        bd (f165_s_l04DrawShare n n101 l102 i103 i104) fun r106 =>
        let x107 : Nat := r106.1
        let n108 : Nat := r106.2.1
        let l109 : List T := r106.2.2.1
        let i110 : Int := r106.2.2.2.1
        let i111 : Int := r106.2.2.2.2
        let l112 : List T := ((reps 0 [(T.flt FloatKind.f32 0)]) ++ (setN (reps 1 [(T.flt FloatKind.f32 0)]) 0 [(T.flt FloatKind.f32 x107)]))
        bd (f165_s_l04DrawShare n n108 l109 i110 i111) fun r113 =>
        let x114 : Nat := r113.1
        let n115 : Nat := r113.2.1
        let l116 : List T := r113.2.2.1
        let i117 : Int := r113.2.2.2.1
        let i118 : Int := r113.2.2.2.2
        let l119 : List T := (l112 ++ (setN (reps 1 [(T.flt FloatKind.f32 0)]) 0 [(T.flt FloatKind.f32 x114)]))
        some (i6, i105, 2, l119, n115, l116, i117, i118)) (
        br (i6 == (3 : Int)) (
         bd (f166_s_l04DrawSqueeze n n7 l8 i9 i10) fun r120 =>
         let x121 : Nat := r120.1
         let x122 : Nat := r120.2.1
         let x123 : Nat := r120.2.2.1
         let x124 : Nat := r120.2.2.2.1
         let x125 : Nat := r120.2.2.2.2.1
         let n126 : Nat := r120.2.2.2.2.2.1
         let l127 : List T := r120.2.2.2.2.2.2.1
         let i128 : Int := r120.2.2.2.2.2.2.2.1
         let i129 : Int := r120.2.2.2.2.2.2.2.2
         let l130 : List T := (setN (setN (setN (setN (reps 4 [(T.flt FloatKind.f32 0)]) 0 [(T.flt FloatKind.f32 x121)]) 1 [(T.flt FloatKind.f32 x122)]) 2 [(T.flt FloatKind.f32 x124)]) 3 [(T.flt FloatKind.f32 x125)])
         some (i6, (0 : Int), 4, l130, n126, l127, i128, i129)) (
         br (i6 == (6 : Int)) (
          bd (f74_s_l00Srcpick n n7 l8 i9 i10 (5 : Int)) fun r131 =>
          let i132 : Int := r131.1
          let n133 : Nat := r131.2.1
          let l134 : List T := r131.2.2.1
          let i135 : Int := r131.2.2.2.1
          let i136 : Int := r131.2.2.2.2
          bd (f74_s_l00Srcpick n n133 l134 i135 i136 (16 : Int)) fun r137 =>
          let i138 : Int := r137.1
          let n139 : Nat := r137.2.1
          let l140 : List T := r137.2.2.1
          let i141 : Int := r137.2.2.2.1
          let i142 : Int := r137.2.2.2.2
          let l143 : List T := ((reps 0 [(T.flt FloatKind.f32 0)]) ++ (setN (reps 1 [(T.flt FloatKind.f32 0)]) 0 [(T.flt FloatKind.f32 (fdiv FloatKind.f32 (FloatKind.nearest FloatKind.f32 (IntKind.i64.wrap ((1 : Int) + i138))) 1098907648))]))
          bd (f165_s_l04DrawShare n n139 l140 i141 i142) fun r144 =>
          let x145 : Nat := r144.1
          let n146 : Nat := r144.2.1
          let l147 : List T := r144.2.2.1
          let i148 : Int := r144.2.2.2.1
          let i149 : Int := r144.2.2.2.2
          let l150 : List T := (l143 ++ (setN (reps 1 [(T.flt FloatKind.f32 0)]) 0 [(T.flt FloatKind.f32 x145)]))
          some (i6, i132, 2, l150, n146, l147, i148, i149)) (
          some (i6, (0 : Int), 0, (reps 0 [(T.flt FloatKind.f32 0)]), n7, l8, i9, i10)))))))
def sg_iillii : Sig (Int × Int × Nat × List T × Nat × List T × Int × Int) where
  pk := fun v => [.int v.1, .int v.2.1, .lst v.2.2.1 v.2.2.2.1, .lst v.2.2.2.2.1 v.2.2.2.2.2.1, .int v.2.2.2.2.2.2.1, .int v.2.2.2.2.2.2.2]
  up := fun ls => match ls with
    | [.int a0, .int a1, .lst a2 a3, .lst a4 a5, .int a6, .int a7] => some (a0, a1, a2, a3, a4, a5, a6, a7)
    | _ => none
  ok := by
    intro ls v h
    split at h
    · cases h; rfl
    · cases h

def f132_s_l08DrawEffect.P : List Arg := [⟨.iop, ⟨false, [.rf .own [.sl .shr [.leaf], .leaf, .leaf]], [.ref [.lst 0 [], .int .i64 0, .int .u64 0]]⟩⟩]
def f132_s_l08DrawEffect.A : RAlt (Int × Int × Nat × List T × Nat × List T × Int × Int) := .one ⟨[⟨true, [.leaf, .leaf, .sl .own [.leaf]], [.int .i64 0, .int .i64 0, .lst 0 []]⟩], [some ⟨false, [.rf .own [.sl .shr [.leaf], .leaf, .leaf]], [.ref [.lst 0 [], .int .i64 0, .int .u64 0]]⟩]⟩ sg_iillii
def f132_s_l08DrawEffect.F (n : Nat) (v : Nat × List T × Int × Int) := f132_s_l08DrawEffect n v.1 v.2.1 v.2.2.1 v.2.2.2
noncomputable def f132_s_l08DrawEffect.O (n : Nat) : Orc := orcOf (E := E) [f74_s_l00Srcpick.w, f165_s_l04DrawShare.w, f93_s_l02DrawFilter.w, f166_s_l04DrawSqueeze.w] [] n
theorem f132_s_l08DrawEffect.ok : ∀ n v x, f132_s_l08DrawEffect.F n v = some x → evalFn E n 132 (flAs f132_s_l08DrawEffect.P (sg_lii.pk v)) = some (f132_s_l08DrawEffect.A.enc x) :=
  fn_pure (modes := (fdAt 132).ms) (outs := (fdAt 132).os) (results := (fdAt 132).rs) f132_s_l08DrawEffect.O (c := c132) (keep := keepAt 132) (by kernel_rfl) (fun n => orcOf_cf _ _ n) (fun n => lpOk_of (bs := []) (by kernel_rfl) .nil) (fun _ => rfl) (fun _ _ => by kernel_rfl)
noncomputable def f132_s_l08DrawEffect.w : FnW E := fnW 132 f132_s_l08DrawEffect.P sg_lii f132_s_l08DrawEffect.A f132_s_l08DrawEffect.F f132_s_l08DrawEffect.ok

def f71_s_l08DrawOk.l0 (n : Nat) : Nat → Nat → List T → Int → Int → Nat → List T → Int → Option (Nat × List T × Int × Int × Nat × List T)
  | 0, _, _, _, _, _, _, _ => none
  | m + 1, n1, l2, i3, i4, n5, l6, i7 =>
    br (decide (i7 > (0 : Int))) (
     bd (f132_s_l08DrawEffect n n1 l2 i3 i4) fun r8 =>
     let i9 : Int := r8.1
     let i10 : Int := r8.2.1
     let n11 : Nat := r8.2.2.1
     let l12 : List T := r8.2.2.2.1
     let n13 : Nat := r8.2.2.2.2.1
     let l14 : List T := r8.2.2.2.2.2.1
     let i15 : Int := r8.2.2.2.2.2.2.1
     let i16 : Int := r8.2.2.2.2.2.2.2
     gd (Nat.ble (n5 + 1) 2147483648) (
     let n17 : Nat := (n5 + 1)
     let l18 : List T := (l6 ++ (setN (reps 1 [(T.int IntKind.i64 (0 : Int)), (T.int IntKind.i64 (0 : Int)), (T.lst 0 [])]) 0 [(T.int IntKind.i64 i9), (T.int IntKind.i64 i10), (T.lst n11 l12)]))
     f71_s_l08DrawOk.l0 n m n13 l14 i15 i16 n17 l18 (IntKind.i64.wrap (i7 - (1 : Int))))) (
     some (n1, l2, i3, i4, n5, l6))
def f71_s_l08DrawOk : Nat → Nat → List T → Int → Int → Option (Nat × List T × Nat × List T × Int × Int)
  | 0, _, _, _, _ => none
  | n + 1, n1, l2, i3, i4 =>
    bd (f74_s_l00Srcpick n n1 l2 i3 i4 (5 : Int)) fun r5 =>
    let i6 : Int := r5.1
    let n7 : Nat := r5.2.1
    let l8 : List T := r5.2.2.1
    let i9 : Int := r5.2.2.2.1
    let i10 : Int := r5.2.2.2.2
    bd (f130_s_l00Srcone n n7 l8 i9 i10 (24 : Int)) fun r11 =>
    let b12 : Bool := r11.1
    let n13 : Nat := r11.2.1
    let l14 : List T := r11.2.2.1
    let i15 : Int := r11.2.2.2.1
    let i16 : Int := r11.2.2.2.2
    br b12 (
     bd (f71_s_l08DrawOk.l0 n n n13 l14 i15 i16 0 (reps 0 [(T.int IntKind.i64 (0 : Int)), (T.int IntKind.i64 (0 : Int)), (T.lst 0 [])]) (8 : Int)) fun r17 =>
     let n18 : Nat := r17.1
     let l19 : List T := r17.2.1
     let i20 : Int := r17.2.2.1
     let i21 : Int := r17.2.2.2.1
     let n22 : Nat := r17.2.2.2.2.1
     let l23 : List T := r17.2.2.2.2.2
     some (n22, l23, n18, l19, i20, i21)) (
     bd (f71_s_l08DrawOk.l0 n n n13 l14 i15 i16 0 (reps 0 [(T.int IntKind.i64 (0 : Int)), (T.int IntKind.i64 (0 : Int)), (T.lst 0 [])]) i6) fun r24 =>
     let n25 : Nat := r24.1
     let l26 : List T := r24.2.1
     let i27 : Int := r24.2.2.1
     let i28 : Int := r24.2.2.2.1
     let n29 : Nat := r24.2.2.2.2.1
     let l30 : List T := r24.2.2.2.2.2
     some (n29, l30, n25, l26, i27, i28))
def sg_llii : Sig (Nat × List T × Nat × List T × Int × Int) where
  pk := fun v => [.lst v.1 v.2.1, .lst v.2.2.1 v.2.2.2.1, .int v.2.2.2.2.1, .int v.2.2.2.2.2]
  up := fun ls => match ls with
    | [.lst a0 a1, .lst a2 a3, .int a4, .int a5] => some (a0, a1, a2, a3, a4, a5)
    | _ => none
  ok := by
    intro ls v h
    split at h
    · cases h; rfl
    · cases h

def sg_liili : Sig (Nat × List T × Int × Int × Nat × List T × Int) where
  pk := fun v => [.lst v.1 v.2.1, .int v.2.2.1, .int v.2.2.2.1, .lst v.2.2.2.2.1 v.2.2.2.2.2.1, .int v.2.2.2.2.2.2]
  up := fun ls => match ls with
    | [.lst a0 a1, .int a2, .int a3, .lst a4 a5, .int a6] => some (a0, a1, a2, a3, a4, a5, a6)
    | _ => none
  ok := by
    intro ls v h
    split at h
    · cases h; rfl
    · cases h

def f71_s_l08DrawOk.l0.P : AS := ⟨[(0, .box [.sl .shr [.leaf], .leaf, .leaf] [.lst 0 [], .int .i64 0, .int .u64 0] [] 0), (3, .val false [.sl .own [.leaf, .leaf, .sl .own [.leaf]]] [.lst 0 []] [] 0), (4, .val false [.leaf] [.int .i64 0] [] 0)], 0⟩
def f71_s_l08DrawOk.l0.A : Alt (Nat × List T × Int × Int × Nat × List T) := .one (.exit 0) ⟨[(0, .box [.sl .shr [.leaf], .leaf, .leaf] [.lst 0 [], .int .i64 0, .int .u64 0] [] 0), (3, .val false [.sl .own [.leaf, .leaf, .sl .own [.leaf]]] [.lst 0 []] [] 0)], 0⟩ sg_liil
def f71_s_l08DrawOk.l0.F (n m : Nat) (v : Nat × List T × Int × Int × Nat × List T × Int) := f71_s_l08DrawOk.l0 n m v.1 v.2.1 v.2.2.1 v.2.2.2.1 v.2.2.2.2.1 v.2.2.2.2.2.1 v.2.2.2.2.2.2
def f71_s_l08DrawOk.l0.W (n : Nat) : LpW := .of 80 f71_s_l08DrawOk.l0.P sg_liili f71_s_l08DrawOk.l0.A (f71_s_l08DrawOk.l0.F n n)
def f71_s_l08DrawOk.P : List Arg := [⟨.iop, ⟨false, [.rf .own [.sl .shr [.leaf], .leaf, .leaf]], [.ref [.lst 0 [], .int .i64 0, .int .u64 0]]⟩⟩]
def f71_s_l08DrawOk.A : RAlt (Nat × List T × Nat × List T × Int × Int) := .one ⟨[⟨false, [.sl .own [.leaf, .leaf, .sl .own [.leaf]]], [.lst 0 []]⟩], [some ⟨false, [.rf .own [.sl .shr [.leaf], .leaf, .leaf]], [.ref [.lst 0 [], .int .i64 0, .int .u64 0]]⟩]⟩ sg_llii
def f71_s_l08DrawOk.F (n : Nat) (v : Nat × List T × Int × Int) := f71_s_l08DrawOk n v.1 v.2.1 v.2.2.1 v.2.2.2
noncomputable def f71_s_l08DrawOk.O (n : Nat) : Orc := orcOf (E := E) [f74_s_l00Srcpick.w, f130_s_l00Srcone.w, f132_s_l08DrawEffect.w] [f71_s_l08DrawOk.l0.W n] n
theorem f71_s_l08DrawOk.l0.ok (n : Nat) : LpOk (f71_s_l08DrawOk.O n) E (evalFn E n) n (keepAt 71) (.loop (loopAt c71 0)) :=
  lp_pure f71_s_l08DrawOk.l0.P sg_liili f71_s_l08DrawOk.l0.A (f71_s_l08DrawOk.l0.F n) (orcOf_cf _ _ n) (lpOk_of (bs := []) (by kernel_rfl) .nil) (fun _ => rfl) (fun _ _ => by kernel_rfl) (fun _ _ _ => by kernel_rfl)
theorem f71_s_l08DrawOk.ok : ∀ n v x, f71_s_l08DrawOk.F n v = some x → evalFn E n 71 (flAs f71_s_l08DrawOk.P (sg_lii.pk v)) = some (f71_s_l08DrawOk.A.enc x) :=
  fn_pure (modes := (fdAt 71).ms) (outs := (fdAt 71).os) (results := (fdAt 71).rs) f71_s_l08DrawOk.O (c := c71) (keep := keepAt 71) (by kernel_rfl) (fun n => orcOf_cf _ _ n) (fun n => lpOk_of (bs := [loopAt c71 0]) (by kernel_rfl) (.cons (f71_s_l08DrawOk.l0.ok n) .nil)) (fun _ => rfl) (fun _ _ => by kernel_rfl)
noncomputable def f71_s_l08DrawOk.w : FnW E := fnW 71 f71_s_l08DrawOk.P sg_lii f71_s_l08DrawOk.A f71_s_l08DrawOk.F f71_s_l08DrawOk.ok

def f19_s_R8Chain : Nat → Nat → List T → Option (Nat × List T)
  | 0, _, _ => none
  | n + 1, n1, l2 =>
    bd (f64_s_l00From n n1 l2) fun r3 =>
    let n4 : Nat := r3.1
    let l5 : List T := r3.2.1
    let i6 : Int := r3.2.2.1
    let i7 : Int := r3.2.2.2
    bd (f71_s_l08DrawOk n n4 l5 i6 i7) fun r8 =>
    let n9 : Nat := r8.1
    let l10 : List T := r8.2.1
    let n11 : Nat := r8.2.2.1
    let l12 : List T := r8.2.2.2.1
    let i13 : Int := r8.2.2.2.2.1
    let i14 : Int := r8.2.2.2.2.2
    some (n9, l10)
def f19_s_R8Chain.P : List Arg := [⟨.val, ⟨false, [.sl .shr [.leaf]], [.lst 0 []]⟩⟩]
def f19_s_R8Chain.A : RAlt (Nat × List T) := .one ⟨[⟨false, [.sl .own [.leaf, .leaf, .sl .own [.leaf]]], [.lst 0 []]⟩], [none]⟩ sg_l
def f19_s_R8Chain.F (n : Nat) (v : Nat × List T) := f19_s_R8Chain n v.1 v.2
noncomputable def f19_s_R8Chain.O (n : Nat) : Orc := orcOf (E := E) [f64_s_l00From.w, f71_s_l08DrawOk.w] [] n
theorem f19_s_R8Chain.ok : ∀ n v x, f19_s_R8Chain.F n v = some x → evalFn E n 19 (flAs f19_s_R8Chain.P (sg_l.pk v)) = some (f19_s_R8Chain.A.enc x) :=
  fn_pure (modes := (fdAt 19).ms) (outs := (fdAt 19).os) (results := (fdAt 19).rs) f19_s_R8Chain.O (c := c19) (keep := keepAt 19) (by kernel_rfl) (fun n => orcOf_cf _ _ n) (fun n => lpOk_of (bs := []) (by kernel_rfl) .nil) (fun _ => rfl) (fun _ _ => by kernel_rfl)
noncomputable def f19_s_R8Chain.w : FnW E := fnW 19 f19_s_R8Chain.P sg_l f19_s_R8Chain.A f19_s_R8Chain.F f19_s_R8Chain.ok

def f133_s_l08Counts : Nat → Int → Int → Option (Int × Int)
  | 0, _, _ => none
  | n + 1, i1, i2 =>
    br (i1 == (0 : Int)) (
     br (i1 == (0 : Int)) (
      some ((1 : Int), (0 : Int))) (
      br (i1 == (1 : Int)) (
       some ((5 : Int), (2 : Int))) (
       br (i1 == (2 : Int)) (
        some ((2 : Int), i2)) (
        br (i1 == (3 : Int)) (
         some ((4 : Int), (1 : Int))) (
         br (i1 == (5 : Int)) (
          some ((0 : Int), (0 : Int))) (
          br (i1 == (6 : Int)) (
           some ((2 : Int), (IntKind.i64.wrap ((1 : Int) + i2)))) (
           some ((-1 : Int), (-1 : Int))))))))) (
     br (i1 == (4 : Int)) (
      some ((1 : Int), (0 : Int))) (
      br (i1 == (1 : Int)) (
       some ((5 : Int), (2 : Int))) (
       br (i1 == (2 : Int)) (
        some ((2 : Int), i2)) (
        br (i1 == (3 : Int)) (
         some ((4 : Int), (1 : Int))) (
         br (i1 == (5 : Int)) (
          some ((0 : Int), (0 : Int))) (
          br (i1 == (6 : Int)) (
           some ((2 : Int), (IntKind.i64.wrap ((1 : Int) + i2)))) (
           some ((-1 : Int), (-1 : Int)))))))))
def sg_ii : Sig (Int × Int) where
  pk := fun v => [.int v.1, .int v.2]
  up := fun ls => match ls with
    | [.int a0, .int a1] => some (a0, a1)
    | _ => none
  ok := by
    intro ls v h
    split at h
    · cases h; rfl
    · cases h

def f133_s_l08Counts.P : List Arg := [⟨.val, ⟨false, [.leaf], [.int .i64 0]⟩⟩, ⟨.val, ⟨false, [.leaf], [.int .i64 0]⟩⟩]
def f133_s_l08Counts.A : RAlt (Int × Int) := .one ⟨[⟨false, [.leaf], [.int .i64 0]⟩, ⟨false, [.leaf], [.int .i64 0]⟩], [none, none]⟩ sg_ii
def f133_s_l08Counts.F (n : Nat) (v : Int × Int) := f133_s_l08Counts n v.1 v.2
noncomputable def f133_s_l08Counts.O (n : Nat) : Orc := orcOf (E := E) [] [] n
theorem f133_s_l08Counts.ok : ∀ n v x, f133_s_l08Counts.F n v = some x → evalFn E n 133 (flAs f133_s_l08Counts.P (sg_ii.pk v)) = some (f133_s_l08Counts.A.enc x) :=
  fn_pure (modes := (fdAt 133).ms) (outs := (fdAt 133).os) (results := (fdAt 133).rs) f133_s_l08Counts.O (c := c133) (keep := keepAt 133) (by kernel_rfl) (fun n => orcOf_cf _ _ n) (fun n => lpOk_of (bs := []) (by kernel_rfl) .nil) (fun _ => rfl) (fun _ _ => by kernel_rfl)
noncomputable def f133_s_l08Counts.w : FnW E := fnW 133 f133_s_l08Counts.P sg_ii f133_s_l08Counts.A f133_s_l08Counts.F f133_s_l08Counts.ok

def f72_s_l08New.l0 (n : Nat) : Nat → Nat → List T → Nat → List T → Int → Option (Nat × List T)
  | 0, _, _, _, _, _ => none
  | m + 1, n1, l2, n3, l4, i5 =>
    br (decide (i5 < ((n1 : Nat) : Int))) (
     gd ((decide (((0 : Int) ≤ i5) ∧ (i5 < ((n1 : Nat) : Int)))) && (okAt [(CK.int IntKind.i64), (CK.int IntKind.i64), CK.lst] l2 (((Int.toNat i5) * 3) + 0))) (
     gd ((decide (((0 : Int) ≤ i5) ∧ (i5 < ((n1 : Nat) : Int)))) && (okAt [(CK.int IntKind.i64), (CK.int IntKind.i64), CK.lst] l2 (((Int.toNat i5) * 3) + 0))) (
     bd (f133_s_l08Counts n (iAt l2 (((Int.toNat i5) * 3) + 0)) (iAt l2 ((((Int.toNat i5) * 3) + 0) + 1))) fun r6 =>
     let i7 : Int := r6.1
     let i8 : Int := r6.2
     gd (decide (((0 : Int) ≤ i8) ∧ (i8 ≤ (2147483648 : Int)))) (
     let n9 : Nat := (Int.toNat i8)
     let l10 : List T := (reps (Int.toNat i8) [(T.flt FloatKind.f32 0)])
     gd ((decide (((0 : Int) ≤ i5) ∧ (i5 < ((n1 : Nat) : Int)))) && (okAt [(CK.int IntKind.i64), (CK.int IntKind.i64), CK.lst] l2 (((Int.toNat i5) * 3) + 0))) (
     br ((iAt l2 (((Int.toNat i5) * 3) + 0)) == (6 : Int)) (
      gd (decide (((0 : Int) ≤ (0 : Int)) ∧ ((0 : Int) < ((n9 : Nat) : Int)))) (
      gd (Nat.ble 1 (List.length l10)) (
      let l11 : List T := (setN l10 0 [(T.flt FloatKind.f32 1065353216)])
      gd (Nat.ble (n3 + 1) 2147483648) (
      let n12 : Nat := (n3 + 1)
      let l13 : List T := (l4 ++ (setN (reps 1 [(T.lst 0 [])]) 0 [(T.lst n9 l11)]))
      f72_s_l08New.l0 n m n1 l2 n12 l13 (IntKind.i64.wrap (i5 + (1 : Int))))))) (
      gd (Nat.ble (n3 + 1) 2147483648) (
      let n14 : Nat := (n3 + 1)
      let l15 : List T := (l4 ++ (setN (reps 1 [(T.lst 0 [])]) 0 [(T.lst n9 l10)]))
      f72_s_l08New.l0 n m n1 l2 n14 l15 (IntKind.i64.wrap (i5 + (1 : Int)))))))))) (
     some (n3, l4))
def f72_s_l08New : Nat → Nat → List T → Option (Nat × List T)
  | 0, _, _ => none
  | n + 1, n1, l2 =>
    bd (f72_s_l08New.l0 n n n1 l2 0 (reps 0 [(T.lst 0 [])]) (0 : Int)) fun r3 =>
    let n4 : Nat := r3.1
    let l5 : List T := r3.2
    some (n4, l5)
def sg_lli : Sig (Nat × List T × Nat × List T × Int) where
  pk := fun v => [.lst v.1 v.2.1, .lst v.2.2.1 v.2.2.2.1, .int v.2.2.2.2]
  up := fun ls => match ls with
    | [.lst a0 a1, .lst a2 a3, .int a4] => some (a0, a1, a2, a3, a4)
    | _ => none
  ok := by
    intro ls v h
    split at h
    · cases h; rfl
    · cases h

def f72_s_l08New.l0.P : AS := ⟨[(0, .val false [.sl .shr [.leaf, .leaf, .sl .shr [.leaf]]] [.lst 0 []] [] 0), (3, .val false [.sl .own [.sl .own [.leaf]]] [.lst 0 []] [] 0), (4, .val false [.leaf] [.int .i64 0] [] 0)], 0⟩
def f72_s_l08New.l0.A : Alt (Nat × List T) := .one (.exit 0) ⟨[(3, .val false [.sl .own [.sl .own [.leaf]]] [.lst 0 []] [] 0)], 0⟩ sg_l
def f72_s_l08New.l0.F (n m : Nat) (v : Nat × List T × Nat × List T × Int) := f72_s_l08New.l0 n m v.1 v.2.1 v.2.2.1 v.2.2.2.1 v.2.2.2.2
def f72_s_l08New.l0.W (n : Nat) : LpW := .of 48 f72_s_l08New.l0.P sg_lli f72_s_l08New.l0.A (f72_s_l08New.l0.F n n)
def f72_s_l08New.P : List Arg := [⟨.val, ⟨false, [.sl .shr [.leaf, .leaf, .sl .shr [.leaf]]], [.lst 0 []]⟩⟩]
def f72_s_l08New.A : RAlt (Nat × List T) := .one ⟨[⟨false, [.sl .own [.sl .own [.leaf]]], [.lst 0 []]⟩], [none]⟩ sg_l
def f72_s_l08New.F (n : Nat) (v : Nat × List T) := f72_s_l08New n v.1 v.2
noncomputable def f72_s_l08New.O (n : Nat) : Orc := orcOf (E := E) [f133_s_l08Counts.w] [f72_s_l08New.l0.W n] n
theorem f72_s_l08New.l0.ok (n : Nat) : LpOk (f72_s_l08New.O n) E (evalFn E n) n (keepAt 72) (.loop (loopAt c72 0)) :=
  lp_pure f72_s_l08New.l0.P sg_lli f72_s_l08New.l0.A (f72_s_l08New.l0.F n) (orcOf_cf _ _ n) (lpOk_of (bs := []) (by kernel_rfl) .nil) (fun _ => rfl) (fun _ _ => by kernel_rfl) (fun _ _ _ => by kernel_rfl)
theorem f72_s_l08New.ok : ∀ n v x, f72_s_l08New.F n v = some x → evalFn E n 72 (flAs f72_s_l08New.P (sg_l.pk v)) = some (f72_s_l08New.A.enc x) :=
  fn_pure (modes := (fdAt 72).ms) (outs := (fdAt 72).os) (results := (fdAt 72).rs) f72_s_l08New.O (c := c72) (keep := keepAt 72) (by kernel_rfl) (fun n => orcOf_cf _ _ n) (fun n => lpOk_of (bs := [loopAt c72 0]) (by kernel_rfl) (.cons (f72_s_l08New.l0.ok n) .nil)) (fun _ => rfl) (fun _ _ => by kernel_rfl)
noncomputable def f72_s_l08New.w : FnW E := fnW 72 f72_s_l08New.P sg_l f72_s_l08New.A f72_s_l08New.F f72_s_l08New.ok

def f73_s_l01DrawFloats.l0 (n : Nat) : Nat → Nat → List T → Int → Int → Int → Nat → List T → Bool → Option (Nat × List T × Int × Int × Nat × List T)
  | 0, _, _, _, _, _, _, _, _ => none
  | m + 1, n1, l2, i3, i4, i5, n6, l7, b8 =>
    br (decide (i5 > (0 : Int))) (
     br b8 (
      bd (f86_s_l01DrawFloat n n1 l2 i3 i4) fun r9 =>
      let x10 : Nat := r9.1
      let n11 : Nat := r9.2.1
      let l12 : List T := r9.2.2.1
      let i13 : Int := r9.2.2.2.1
      let i14 : Int := r9.2.2.2.2
      gd (Nat.ble (n6 + 1) 2147483648) (
      let n15 : Nat := (n6 + 1)
      let l16 : List T := (l7 ++ (setN (reps 1 [(T.flt FloatKind.f32 0)]) 0 [(T.flt FloatKind.f32 x10)]))
      f73_s_l01DrawFloats.l0 n m n11 l12 i13 i14 (IntKind.i64.wrap (i5 - (1 : Int))) n15 l16 b8)) (
      bd (f65_s_l01DrawPlain n n1 l2 i3 i4) fun r17 =>
      let x18 : Nat := r17.1
      let n19 : Nat := r17.2.1
      let l20 : List T := r17.2.2.1
      let i21 : Int := r17.2.2.2.1
      let i22 : Int := r17.2.2.2.2
      gd (Nat.ble (n6 + 1) 2147483648) (
      let n23 : Nat := (n6 + 1)
      let l24 : List T := (l7 ++ (setN (reps 1 [(T.flt FloatKind.f32 0)]) 0 [(T.flt FloatKind.f32 x18)]))
      f73_s_l01DrawFloats.l0 n m n19 l20 i21 i22 (IntKind.i64.wrap (i5 - (1 : Int))) n23 l24 b8))) (
     some (n1, l2, i3, i4, n6, l7))
def f73_s_l01DrawFloats : Nat → Nat → List T → Int → Int → Int → Option (Nat × List T × Nat × List T × Int × Int)
  | 0, _, _, _, _, _ => none
  | n + 1, n1, l2, i3, i4, i5 =>
    bd (f130_s_l00Srcone n n1 l2 i3 i4 (4 : Int)) fun r6 =>
    let b7 : Bool := r6.1
    let n8 : Nat := r6.2.1
    let l9 : List T := r6.2.2.1
    let i10 : Int := r6.2.2.2.1
    let i11 : Int := r6.2.2.2.2
    bd (f73_s_l01DrawFloats.l0 n n n8 l9 i10 i11 i5 0 (reps 0 [(T.flt FloatKind.f32 0)]) b7) fun r12 =>
    let n13 : Nat := r12.1
    let l14 : List T := r12.2.1
    let i15 : Int := r12.2.2.1
    let i16 : Int := r12.2.2.2.1
    let n17 : Nat := r12.2.2.2.2.1
    let l18 : List T := r12.2.2.2.2.2
    some (n17, l18, n13, l14, i15, i16)
def sg_liiilb : Sig (Nat × List T × Int × Int × Int × Nat × List T × Bool) where
  pk := fun v => [.lst v.1 v.2.1, .int v.2.2.1, .int v.2.2.2.1, .int v.2.2.2.2.1, .lst v.2.2.2.2.2.1 v.2.2.2.2.2.2.1, .bool v.2.2.2.2.2.2.2]
  up := fun ls => match ls with
    | [.lst a0 a1, .int a2, .int a3, .int a4, .lst a5 a6, .bool a7] => some (a0, a1, a2, a3, a4, a5, a6, a7)
    | _ => none
  ok := by
    intro ls v h
    split at h
    · cases h; rfl
    · cases h

def f73_s_l01DrawFloats.l0.P : AS := ⟨[(0, .box [.sl .shr [.leaf], .leaf, .leaf] [.lst 0 [], .int .i64 0, .int .u64 0] [] 0), (1, .val false [.leaf] [.int .i64 0] [] 0), (5, .val false [.sl .own [.leaf]] [.lst 0 []] [] 0), (6, .val false [.leaf] [.bool false] [] 0)], 0⟩
def f73_s_l01DrawFloats.l0.A : Alt (Nat × List T × Int × Int × Nat × List T) := .one (.exit 0) ⟨[(0, .box [.sl .shr [.leaf], .leaf, .leaf] [.lst 0 [], .int .i64 0, .int .u64 0] [] 0), (5, .val false [.sl .own [.leaf]] [.lst 0 []] [] 0)], 0⟩ sg_liil
def f73_s_l01DrawFloats.l0.F (n m : Nat) (v : Nat × List T × Int × Int × Int × Nat × List T × Bool) := f73_s_l01DrawFloats.l0 n m v.1 v.2.1 v.2.2.1 v.2.2.2.1 v.2.2.2.2.1 v.2.2.2.2.2.1 v.2.2.2.2.2.2.1 v.2.2.2.2.2.2.2
def f73_s_l01DrawFloats.l0.W (n : Nat) : LpW := .of 48 f73_s_l01DrawFloats.l0.P sg_liiilb f73_s_l01DrawFloats.l0.A (f73_s_l01DrawFloats.l0.F n n)
def f73_s_l01DrawFloats.P : List Arg := [⟨.iop, ⟨false, [.rf .own [.sl .shr [.leaf], .leaf, .leaf]], [.ref [.lst 0 [], .int .i64 0, .int .u64 0]]⟩⟩, ⟨.val, ⟨false, [.leaf], [.int .i64 0]⟩⟩]
def f73_s_l01DrawFloats.A : RAlt (Nat × List T × Nat × List T × Int × Int) := .one ⟨[⟨false, [.sl .own [.leaf]], [.lst 0 []]⟩], [some ⟨false, [.rf .own [.sl .shr [.leaf], .leaf, .leaf]], [.ref [.lst 0 [], .int .i64 0, .int .u64 0]]⟩, none]⟩ sg_llii
def f73_s_l01DrawFloats.F (n : Nat) (v : Nat × List T × Int × Int × Int) := f73_s_l01DrawFloats n v.1 v.2.1 v.2.2.1 v.2.2.2.1 v.2.2.2.2
noncomputable def f73_s_l01DrawFloats.O (n : Nat) : Orc := orcOf (E := E) [f130_s_l00Srcone.w, f65_s_l01DrawPlain.w, f86_s_l01DrawFloat.w] [f73_s_l01DrawFloats.l0.W n] n
theorem f73_s_l01DrawFloats.l0.ok (n : Nat) : LpOk (f73_s_l01DrawFloats.O n) E (evalFn E n) n (keepAt 73) (.loop (loopAt c73 0)) :=
  lp_pure f73_s_l01DrawFloats.l0.P sg_liiilb f73_s_l01DrawFloats.l0.A (f73_s_l01DrawFloats.l0.F n) (orcOf_cf _ _ n) (lpOk_of (bs := []) (by kernel_rfl) .nil) (fun _ => rfl) (fun _ _ => by kernel_rfl) (fun _ _ _ => by kernel_rfl)
theorem f73_s_l01DrawFloats.ok : ∀ n v x, f73_s_l01DrawFloats.F n v = some x → evalFn E n 73 (flAs f73_s_l01DrawFloats.P (sg_liii.pk v)) = some (f73_s_l01DrawFloats.A.enc x) :=
  fn_pure (modes := (fdAt 73).ms) (outs := (fdAt 73).os) (results := (fdAt 73).rs) f73_s_l01DrawFloats.O (c := c73) (keep := keepAt 73) (by kernel_rfl) (fun n => orcOf_cf _ _ n) (fun n => lpOk_of (bs := [loopAt c73 0]) (by kernel_rfl) (.cons (f73_s_l01DrawFloats.l0.ok n) .nil)) (fun _ => rfl) (fun _ _ => by kernel_rfl)
noncomputable def f73_s_l01DrawFloats.w : FnW E := fnW 73 f73_s_l01DrawFloats.P sg_liii f73_s_l01DrawFloats.A f73_s_l01DrawFloats.F f73_s_l01DrawFloats.ok

def f20_s_R8State.l0 (n : Nat) : Nat → Nat → List T → Int → Int → Nat → List T → Int → Option (Nat × List T)
  | 0, _, _, _, _, _, _, _ => none
  | m + 1, n1, l2, i3, i4, n5, l6, i7 =>
    br (decide (i7 < ((n5 : Nat) : Int))) (
     gd (decide (((0 : Int) ≤ i7) ∧ (i7 < ((n5 : Nat) : Int)))) (
     gd (okAt [CK.lst] l6 (Int.toNat i7)) (
     gd (okAt [CK.lst] l6 (Int.toNat i7)) (
     bd (f73_s_l01DrawFloats n n1 l2 i3 i4 (((nAt l6 (Int.toNat i7)) : Nat) : Int)) fun r8 =>
     let n9 : Nat := r8.1
     let l10 : List T := r8.2.1
     let n11 : Nat := r8.2.2.1
     let l12 : List T := r8.2.2.2.1
     let i13 : Int := r8.2.2.2.2.1
     let i14 : Int := r8.2.2.2.2.2
     gd (decide (((0 : Int) ≤ i7) ∧ (i7 < ((n5 : Nat) : Int)))) (
     gd (Nat.ble ((Int.toNat i7) + 1) (List.length l6)) (
     let l15 : List T := (setN l6 (Int.toNat i7) [(T.lst n9 l10)])
     f20_s_R8State.l0 n m n11 l12 i13 i14 n5 l15 (IntKind.i64.wrap (i7 + (1 : Int))))))))) (
     some (n5, l6))
def f20_s_R8State : Nat → Nat → List T → Nat → List T → Option (Nat × List T)
  | 0, _, _, _, _ => none
  | n + 1, n1, l2, n3, l4 =>
    bd (f64_s_l00From n n1 l2) fun r5 =>
    let n6 : Nat := r5.1
    let l7 : List T := r5.2.1
    let i8 : Int := r5.2.2.1
    let i9 : Int := r5.2.2.2
    bd (f72_s_l08New n n3 l4) fun r10 =>
    let n11 : Nat := r10.1
    let l12 : List T := r10.2
    bd (f20_s_R8State.l0 n n n6 l7 i8 i9 n11 l12 (0 : Int)) fun r13 =>
    let n14 : Nat := r13.1
    let l15 : List T := r13.2
    some (n14, l15)
def f20_s_R8State.l0.P : AS := ⟨[(5, .box [.sl .shr [.leaf], .leaf, .leaf] [.lst 0 [], .int .i64 0, .int .u64 0] [] 0), (6, .val false [.sl .own [.sl .own [.leaf]]] [.lst 0 []] [] 0), (7, .val false [.leaf] [.int .i64 0] [] 0)], 0⟩
def f20_s_R8State.l0.A : Alt (Nat × List T) := .one (.exit 0) ⟨[(6, .val false [.sl .own [.sl .own [.leaf]]] [.lst 0 []] [] 0)], 0⟩ sg_l
def f20_s_R8State.l0.F (n m : Nat) (v : Nat × List T × Int × Int × Nat × List T × Int) := f20_s_R8State.l0 n m v.1 v.2.1 v.2.2.1 v.2.2.2.1 v.2.2.2.2.1 v.2.2.2.2.2.1 v.2.2.2.2.2.2
def f20_s_R8State.l0.W (n : Nat) : LpW := .of 64 f20_s_R8State.l0.P sg_liili f20_s_R8State.l0.A (f20_s_R8State.l0.F n n)
def f20_s_R8State.P : List Arg := [⟨.val, ⟨false, [.sl .shr [.leaf]], [.lst 0 []]⟩⟩, ⟨.val, ⟨false, [.sl .shr [.leaf, .leaf, .sl .shr [.leaf]]], [.lst 0 []]⟩⟩]
def f20_s_R8State.A : RAlt (Nat × List T) := .one ⟨[⟨false, [.sl .own [.sl .own [.leaf]]], [.lst 0 []]⟩], [none, none]⟩ sg_l
def f20_s_R8State.F (n : Nat) (v : Nat × List T × Nat × List T) := f20_s_R8State n v.1 v.2.1 v.2.2.1 v.2.2.2
noncomputable def f20_s_R8State.O (n : Nat) : Orc := orcOf (E := E) [f64_s_l00From.w, f72_s_l08New.w, f73_s_l01DrawFloats.w] [f20_s_R8State.l0.W n] n
theorem f20_s_R8State.l0.ok (n : Nat) : LpOk (f20_s_R8State.O n) E (evalFn E n) n (keepAt 20) (.loop (loopAt c20 0)) :=
  lp_pure f20_s_R8State.l0.P sg_liili f20_s_R8State.l0.A (f20_s_R8State.l0.F n) (orcOf_cf _ _ n) (lpOk_of (bs := []) (by kernel_rfl) .nil) (fun _ => rfl) (fun _ _ => by kernel_rfl) (fun _ _ _ => by kernel_rfl)
theorem f20_s_R8State.ok : ∀ n v x, f20_s_R8State.F n v = some x → evalFn E n 20 (flAs f20_s_R8State.P (sg_ll.pk v)) = some (f20_s_R8State.A.enc x) :=
  fn_pure (modes := (fdAt 20).ms) (outs := (fdAt 20).os) (results := (fdAt 20).rs) f20_s_R8State.O (c := c20) (keep := keepAt 20) (by kernel_rfl) (fun n => orcOf_cf _ _ n) (fun n => lpOk_of (bs := [loopAt c20 0]) (by kernel_rfl) (.cons (f20_s_R8State.l0.ok n) .nil)) (fun _ => rfl) (fun _ _ => by kernel_rfl)
noncomputable def f20_s_R8State.w : FnW E := fnW 20 f20_s_R8State.P sg_ll f20_s_R8State.A f20_s_R8State.F f20_s_R8State.ok

def f21_s_R8Samples : Nat → Nat → List T → Int → Option (Nat × List T)
  | 0, _, _, _ => none
  | n + 1, n1, l2, i3 =>
    bd (f64_s_l00From n n1 l2) fun r4 =>
    let n5 : Nat := r4.1
    let l6 : List T := r4.2.1
    let i7 : Int := r4.2.2.1
    let i8 : Int := r4.2.2.2
    bd (f74_s_l00Srcpick n n5 l6 i7 i8 (IntKind.i64.wrap (i3 + (1 : Int)))) fun r9 =>
    let i10 : Int := r9.1
    let n11 : Nat := r9.2.1
    let l12 : List T := r9.2.2.1
    let i13 : Int := r9.2.2.2.1
    let i14 : Int := r9.2.2.2.2
    bd (f73_s_l01DrawFloats n n11 l12 i13 i14 i10) fun r15 =>
    let n16 : Nat := r15.1
    let l17 : List T := r15.2.1
    let n18 : Nat := r15.2.2.1
    let l19 : List T := r15.2.2.2.1
    let i20 : Int := r15.2.2.2.2.1
    let i21 : Int := r15.2.2.2.2.2
    some (n16, l17)
def sg_li : Sig (Nat × List T × Int) where
  pk := fun v => [.lst v.1 v.2.1, .int v.2.2]
  up := fun ls => match ls with
    | [.lst a0 a1, .int a2] => some (a0, a1, a2)
    | _ => none
  ok := by
    intro ls v h
    split at h
    · cases h; rfl
    · cases h

def f21_s_R8Samples.P : List Arg := [⟨.val, ⟨false, [.sl .shr [.leaf]], [.lst 0 []]⟩⟩, ⟨.val, ⟨false, [.leaf], [.int .i64 0]⟩⟩]
def f21_s_R8Samples.A : RAlt (Nat × List T) := .one ⟨[⟨false, [.sl .own [.leaf]], [.lst 0 []]⟩], [none, none]⟩ sg_l
def f21_s_R8Samples.F (n : Nat) (v : Nat × List T × Int) := f21_s_R8Samples n v.1 v.2.1 v.2.2
noncomputable def f21_s_R8Samples.O (n : Nat) : Orc := orcOf (E := E) [f64_s_l00From.w, f74_s_l00Srcpick.w, f73_s_l01DrawFloats.w] [] n
theorem f21_s_R8Samples.ok : ∀ n v x, f21_s_R8Samples.F n v = some x → evalFn E n 21 (flAs f21_s_R8Samples.P (sg_li.pk v)) = some (f21_s_R8Samples.A.enc x) :=
  fn_pure (modes := (fdAt 21).ms) (outs := (fdAt 21).os) (results := (fdAt 21).rs) f21_s_R8Samples.O (c := c21) (keep := keepAt 21) (by kernel_rfl) (fun n => orcOf_cf _ _ n) (fun n => lpOk_of (bs := []) (by kernel_rfl) .nil) (fun _ => rfl) (fun _ _ => by kernel_rfl)
noncomputable def f21_s_R8Samples.w : FnW E := fnW 21 f21_s_R8Samples.P sg_li f21_s_R8Samples.A f21_s_R8Samples.F f21_s_R8Samples.ok

def f14_l_r8At : Nat → Nat → List T → Int → Int → Option (Int)
  | 0, _, _, _, _ => none
  | n + 1, n1, l2, i3, i4 =>
    br (decide (i4 ≤ (1 : Int))) (
     some (0 : Int)) (
     br (decide (i3 ≥ ((n1 : Nat) : Int))) (
      some (0 : Int)) (
      gd ((decide (((0 : Int) ≤ i3) ∧ (i3 < ((n1 : Nat) : Int)))) && (okAt [(CK.int IntKind.u8)] l2 (Int.toNat i3))) (
      gd (!(decide (i4 = (0 : Int)))) (
      some (Int.tmod (IntKind.i64.wrap (iAt l2 (Int.toNat i3))) i4)))))
def f14_l_r8At.P : List Arg := [⟨.val, ⟨false, [.sl .shr [.leaf]], [.lst 0 []]⟩⟩, ⟨.val, ⟨false, [.leaf], [.int .i64 0]⟩⟩, ⟨.val, ⟨false, [.leaf], [.int .i64 0]⟩⟩]
def f14_l_r8At.A : RAlt (Int) := .one ⟨[⟨false, [.leaf], [.int .i64 0]⟩], [none, none, none]⟩ sg_i
def f14_l_r8At.F (n : Nat) (v : Nat × List T × Int × Int) := f14_l_r8At n v.1 v.2.1 v.2.2.1 v.2.2.2
noncomputable def f14_l_r8At.O (n : Nat) : Orc := orcOf (E := E) [] [] n
theorem f14_l_r8At.ok : ∀ n v x, f14_l_r8At.F n v = some x → evalFn E n 14 (flAs f14_l_r8At.P (sg_lii.pk v)) = some (f14_l_r8At.A.enc x) :=
  fn_pure (modes := (fdAt 14).ms) (outs := (fdAt 14).os) (results := (fdAt 14).rs) f14_l_r8At.O (c := c14) (keep := keepAt 14) (by kernel_rfl) (fun n => orcOf_cf _ _ n) (fun n => lpOk_of (bs := []) (by kernel_rfl) .nil) (fun _ => rfl) (fun _ _ => by kernel_rfl)
noncomputable def f14_l_r8At.w : FnW E := fnW 14 f14_l_r8At.P sg_lii f14_l_r8At.A f14_l_r8At.F f14_l_r8At.ok

def f67_i_within : Nat → Int → Int → Int → Option (Bool)
  | 0, _, _, _ => none
  | n + 1, i1, i2, i3 =>
    br (decide (i2 ≤ i1)) (
     some (decide (i1 ≤ i3))) (
     some false)
def sg_iii : Sig (Int × Int × Int) where
  pk := fun v => [.int v.1, .int v.2.1, .int v.2.2]
  up := fun ls => match ls with
    | [.int a0, .int a1, .int a2] => some (a0, a1, a2)
    | _ => none
  ok := by
    intro ls v h
    split at h
    · cases h; rfl
    · cases h

def f67_i_within.P : List Arg := [⟨.val, ⟨false, [.leaf], [.int .i64 0]⟩⟩, ⟨.val, ⟨false, [.leaf], [.int .i64 0]⟩⟩, ⟨.val, ⟨false, [.leaf], [.int .i64 0]⟩⟩]
def f67_i_within.A : RAlt (Bool) := .one ⟨[⟨false, [.leaf], [.bool false]⟩], [none, none, none]⟩ sg_b
def f67_i_within.F (n : Nat) (v : Int × Int × Int) := f67_i_within n v.1 v.2.1 v.2.2
noncomputable def f67_i_within.O (n : Nat) : Orc := orcOf (E := E) [] [] n
theorem f67_i_within.ok : ∀ n v x, f67_i_within.F n v = some x → evalFn E n 67 (flAs f67_i_within.P (sg_iii.pk v)) = some (f67_i_within.A.enc x) :=
  fn_pure (modes := (fdAt 67).ms) (outs := (fdAt 67).os) (results := (fdAt 67).rs) f67_i_within.O (c := c67) (keep := keepAt 67) (by kernel_rfl) (fun n => orcOf_cf _ _ n) (fun n => lpOk_of (bs := []) (by kernel_rfl) .nil) (fun _ => rfl) (fun _ _ => by kernel_rfl)
noncomputable def f67_i_within.w : FnW E := fnW 67 f67_i_within.P sg_iii f67_i_within.A f67_i_within.F f67_i_within.ok

def f136_i_Effecthas : Nat → Int → Int → Nat → List T → Int → Int → Int → Option (Bool)
  | 0, _, _, _, _, _, _, _ => none
  | n + 1, i1, i2, n3, l4, i5, i6, i7 =>
    bd (f67_i_within n i2 i5 i6) fun r8 =>
    let b9 : Bool := r8
    br b9 (
     some (((n3 : Nat) : Int) == i7)) (
     some false)
def sg_iiliii : Sig (Int × Int × Nat × List T × Int × Int × Int) where
  pk := fun v => [.int v.1, .int v.2.1, .lst v.2.2.1 v.2.2.2.1, .int v.2.2.2.2.1, .int v.2.2.2.2.2.1, .int v.2.2.2.2.2.2]
  up := fun ls => match ls with
    | [.int a0, .int a1, .lst a2 a3, .int a4, .int a5, .int a6] => some (a0, a1, a2, a3, a4, a5, a6)
    | _ => none
  ok := by
    intro ls v h
    split at h
    · cases h; rfl
    · cases h

def f136_i_Effecthas.P : List Arg := [⟨.val, ⟨true, [.leaf, .leaf, .sl .shr [.leaf]], [.int .i64 0, .int .i64 0, .lst 0 []]⟩⟩, ⟨.val, ⟨false, [.leaf], [.int .i64 0]⟩⟩, ⟨.val, ⟨false, [.leaf], [.int .i64 0]⟩⟩, ⟨.val, ⟨false, [.leaf], [.int .i64 0]⟩⟩]
def f136_i_Effecthas.A : RAlt (Bool) := .one ⟨[⟨false, [.leaf], [.bool false]⟩], [none, none, none, none]⟩ sg_b
def f136_i_Effecthas.F (n : Nat) (v : Int × Int × Nat × List T × Int × Int × Int) := f136_i_Effecthas n v.1 v.2.1 v.2.2.1 v.2.2.2.1 v.2.2.2.2.1 v.2.2.2.2.2.1 v.2.2.2.2.2.2
noncomputable def f136_i_Effecthas.O (n : Nat) : Orc := orcOf (E := E) [f67_i_within.w] [] n
theorem f136_i_Effecthas.ok : ∀ n v x, f136_i_Effecthas.F n v = some x → evalFn E n 136 (flAs f136_i_Effecthas.P (sg_iiliii.pk v)) = some (f136_i_Effecthas.A.enc x) :=
  fn_pure (modes := (fdAt 136).ms) (outs := (fdAt 136).os) (results := (fdAt 136).rs) f136_i_Effecthas.O (c := c136) (keep := keepAt 136) (by kernel_rfl) (fun n => orcOf_cf _ _ n) (fun n => lpOk_of (bs := []) (by kernel_rfl) .nil) (fun _ => rfl) (fun _ _ => by kernel_rfl)
noncomputable def f136_i_Effecthas.w : FnW E := fnW 136 f136_i_Effecthas.P sg_iiliii f136_i_Effecthas.A f136_i_Effecthas.F f136_i_Effecthas.ok

def f174_i_IsFinite : Nat → Nat → Option (Bool)
  | 0, _ => none
  | n + 1, x1 =>
    some (feq FloatKind.f32 (fsub FloatKind.f32 x1 x1) 0)
def f174_i_IsFinite.P : List Arg := [⟨.val, ⟨false, [.leaf], [.flt .f32 0]⟩⟩]
def f174_i_IsFinite.A : RAlt (Bool) := .one ⟨[⟨false, [.leaf], [.bool false]⟩], [none]⟩ sg_b
def f174_i_IsFinite.F (n : Nat) (v : Nat) := f174_i_IsFinite n v
noncomputable def f174_i_IsFinite.O (n : Nat) : Orc := orcOf (E := E) [] [] n
theorem f174_i_IsFinite.ok : ∀ n v x, f174_i_IsFinite.F n v = some x → evalFn E n 174 (flAs f174_i_IsFinite.P (sg_f.pk v)) = some (f174_i_IsFinite.A.enc x) :=
  fn_pure (modes := (fdAt 174).ms) (outs := (fdAt 174).os) (results := (fdAt 174).rs) f174_i_IsFinite.O (c := c174) (keep := keepAt 174) (by kernel_rfl) (fun n => orcOf_cf _ _ n) (fun n => lpOk_of (bs := []) (by kernel_rfl) .nil) (fun _ => rfl) (fun _ _ => by kernel_rfl)
noncomputable def f174_i_IsFinite.w : FnW E := fnW 174 f174_i_IsFinite.P sg_f f174_i_IsFinite.A f174_i_IsFinite.F f174_i_IsFinite.ok

def f137_i_isLimit : Nat → Nat → Option (Bool)
  | 0, _ => none
  | n + 1, x1 =>
    bd (f174_i_IsFinite n x1) fun r2 =>
    let b3 : Bool := r2
    br b3 (
     some (fgt FloatKind.f32 x1 0)) (
     some false)
def f137_i_isLimit.P : List Arg := [⟨.val, ⟨false, [.leaf], [.flt .f32 0]⟩⟩]
def f137_i_isLimit.A : RAlt (Bool) := .one ⟨[⟨false, [.leaf], [.bool false]⟩], [none]⟩ sg_b
def f137_i_isLimit.F (n : Nat) (v : Nat) := f137_i_isLimit n v
noncomputable def f137_i_isLimit.O (n : Nat) : Orc := orcOf (E := E) [f174_i_IsFinite.w] [] n
theorem f137_i_isLimit.ok : ∀ n v x, f137_i_isLimit.F n v = some x → evalFn E n 137 (flAs f137_i_isLimit.P (sg_f.pk v)) = some (f137_i_isLimit.A.enc x) :=
  fn_pure (modes := (fdAt 137).ms) (outs := (fdAt 137).os) (results := (fdAt 137).rs) f137_i_isLimit.O (c := c137) (keep := keepAt 137) (by kernel_rfl) (fun n => orcOf_cf _ _ n) (fun n => lpOk_of (bs := []) (by kernel_rfl) .nil) (fun _ => rfl) (fun _ _ => by kernel_rfl)
noncomputable def f137_i_isLimit.w : FnW E := fnW 137 f137_i_isLimit.P sg_f f137_i_isLimit.A f137_i_isLimit.F f137_i_isLimit.ok

def f76_i_ValidEffect : Nat → Int → Int → Nat → List T → Option (Bool)
  | 0, _, _, _, _ => none
  | n + 1, i1, i2, n3, l4 =>
    br (i1 == (0 : Int)) (
     br (i1 == (0 : Int)) (
      bd (f136_i_Effecthas n i1 i2 n3 l4 (0 : Int) (0 : Int) (1 : Int)) fun r5 =>
      let b6 : Bool := r5
      some b6) (
      br (i1 == (1 : Int)) (
       bd (f136_i_Effecthas n i1 i2 n3 l4 (0 : Int) (0 : Int) (5 : Int)) fun r7 =>
       let b8 : Bool := r7
       some b8) (
       br (i1 == (2 : Int)) (
        bd (f136_i_Effecthas n i1 i2 n3 l4 (1 : Int) (32 : Int) (2 : Int)) fun r9 =>
        let b10 : Bool := r9
        some b10) (
        br (i1 == (3 : Int)) (
         bd (f136_i_Effecthas n i1 i2 n3 l4 (0 : Int) (0 : Int) (4 : Int)) fun r11 =>
         let b12 : Bool := r11
         some b12) (
         br (i1 == (5 : Int)) (
          bd (f136_i_Effecthas n i1 i2 n3 l4 (0 : Int) (0 : Int) (0 : Int)) fun r13 =>
          let b14 : Bool := r13
          some b14) (
          br (i1 == (6 : Int)) (
           bd (f136_i_Effecthas n i1 i2 n3 l4 (0 : Int) (32 : Int) (2 : Int)) fun r15 =>
           let b16 : Bool := r15
           br b16 (
            gd ((decide (((0 : Int) ≤ (0 : Int)) ∧ ((0 : Int) < ((n3 : Nat) : Int)))) && (okAt [(CK.flt FloatKind.f32)] l4 0)) (
            bd (f137_i_isLimit n (fAt l4 0)) fun r17 =>
            let b18 : Bool := r17
            some b18)) (
            some false)) (
           some false))))))) (
     br (i1 == (4 : Int)) (
      bd (f136_i_Effecthas n i1 i2 n3 l4 (0 : Int) (0 : Int) (1 : Int)) fun r19 =>
      let b20 : Bool := r19
      some b20) (
      br (i1 == (1 : Int)) (
       bd (f136_i_Effecthas n i1 i2 n3 l4 (0 : Int) (0 : Int) (5 : Int)) fun r21 =>
       let b22 : Bool := r21
       some b22) (
       br (i1 == (2 : Int)) (
        bd (f136_i_Effecthas n i1 i2 n3 l4 (1 : Int) (32 : Int) (2 : Int)) fun r23 =>
        let b24 : Bool := r23
        some b24) (
        br (i1 == (3 : Int)) (
         bd (f136_i_Effecthas n i1 i2 n3 l4 (0 : Int) (0 : Int) (4 : Int)) fun r25 =>
         let b26 : Bool := r25
         some b26) (
         br (i1 == (5 : Int)) (
          bd (f136_i_Effecthas n i1 i2 n3 l4 (0 : Int) (0 : Int) (0 : Int)) fun r27 =>
          let b28 : Bool := r27
          some b28) (
          br (i1 == (6 : Int)) (
           bd (f136_i_Effecthas n i1 i2 n3 l4 (0 : Int) (32 : Int) (2 : Int)) fun r29 =>
           let b30 : Bool := r29
           br b30 (
            gd ((decide (((0 : Int) ≤ (0 : Int)) ∧ ((0 : Int) < ((n3 : Nat) : Int)))) && (okAt [(CK.flt FloatKind.f32)] l4 0)) (
            bd (f137_i_isLimit n (fAt l4 0)) fun r31 =>
            let b32 : Bool := r31
            some b32)) (
            some false)) (
           some false)))))))
def sg_iil : Sig (Int × Int × Nat × List T) where
  pk := fun v => [.int v.1, .int v.2.1, .lst v.2.2.1 v.2.2.2]
  up := fun ls => match ls with
    | [.int a0, .int a1, .lst a2 a3] => some (a0, a1, a2, a3)
    | _ => none
  ok := by
    intro ls v h
    split at h
    · cases h; rfl
    · cases h

def f76_i_ValidEffect.P : List Arg := [⟨.val, ⟨true, [.leaf, .leaf, .sl .shr [.leaf]], [.int .i64 0, .int .i64 0, .lst 0 []]⟩⟩]
def f76_i_ValidEffect.A : RAlt (Bool) := .one ⟨[⟨false, [.leaf], [.bool false]⟩], [none]⟩ sg_b
def f76_i_ValidEffect.F (n : Nat) (v : Int × Int × Nat × List T) := f76_i_ValidEffect n v.1 v.2.1 v.2.2.1 v.2.2.2
noncomputable def f76_i_ValidEffect.O (n : Nat) : Orc := orcOf (E := E) [f136_i_Effecthas.w, f137_i_isLimit.w] [] n
theorem f76_i_ValidEffect.ok : ∀ n v x, f76_i_ValidEffect.F n v = some x → evalFn E n 76 (flAs f76_i_ValidEffect.P (sg_iil.pk v)) = some (f76_i_ValidEffect.A.enc x) :=
  fn_pure (modes := (fdAt 76).ms) (outs := (fdAt 76).os) (results := (fdAt 76).rs) f76_i_ValidEffect.O (c := c76) (keep := keepAt 76) (by kernel_rfl) (fun n => orcOf_cf _ _ n) (fun n => lpOk_of (bs := []) (by kernel_rfl) .nil) (fun _ => rfl) (fun _ _ => by kernel_rfl)
noncomputable def f76_i_ValidEffect.w : FnW E := fnW 76 f76_i_ValidEffect.P sg_iil f76_i_ValidEffect.A f76_i_ValidEffect.F f76_i_ValidEffect.ok

def f23_i_ValidChain.l0 (n : Nat) : Nat → Nat → List T → Nat → List T → Int → Int → Option ((Bool) ⊕ (Unit))
  | 0, _, _, _, _, _, _ => none
  | m + 1, n1, l2, n3, l4, i5, i6 =>
    br (decide (i6 < i5)) (
     gd ((decide (((0 : Int) ≤ i6) ∧ (i6 < ((n3 : Nat) : Int)))) && (okAt [(CK.int IntKind.i64), (CK.int IntKind.i64), CK.lst] l4 (((Int.toNat i6) * 3) + 0))) (
     let i7 : Int := (iAt l4 (((Int.toNat i6) * 3) + 0))
     let i8 : Int := (iAt l4 ((((Int.toNat i6) * 3) + 0) + 1))
     let n9 : Nat := (nAt l4 (((((Int.toNat i6) * 3) + 0) + 1) + 1))
     let l10 : List T := (lAt l4 (((((Int.toNat i6) * 3) + 0) + 1) + 1))
     bd (f76_i_ValidEffect n i7 i8 n9 l10) fun r11 =>
     let b12 : Bool := r11
     br (!b12) (
      some (Sum.inl false)) (
      f23_i_ValidChain.l0 n m n1 l2 n3 l4 i5 (IntKind.i64.wrap (i6 + (1 : Int)))))) (
     some (Sum.inr ()))
def f23_i_ValidChain : Nat → Nat → List T → Option (Bool)
  | 0, _, _ => none
  | n + 1, n1, l2 =>
    br (decide (((n1 : Nat) : Int) > (8 : Int))) (
     some false) (
     bd (f23_i_ValidChain.l0 n n n1 l2 n1 l2 ((n1 : Nat) : Int) (0 : Int)) fun r3 =>
     sm r3 (fun u4 =>
      let b5 : Bool := u4
      some b5) (fun u6 =>
      some true))
def sg : Sig (Unit) where
  pk := fun v => []
  up := fun ls => match ls with
    | [] => some ()
    | _ => none
  ok := by
    intro ls v h
    split at h
    · cases h; rfl
    · cases h

def f23_i_ValidChain.l0.P : AS := ⟨[(0, .val false [.sl .shr [.leaf, .leaf, .sl .shr [.leaf]]] [.lst 0 []] [] 0), (8, .val false [.sl .shr [.leaf, .leaf, .sl .shr [.leaf]]] [.lst 0 []] [] 0), (9, .val false [.leaf] [.int .i64 0] [] 0), (10, .val false [.leaf] [.int .i64 0] [] 0)], 0⟩
def f23_i_ValidChain.l0.A : Alt ((Bool) ⊕ (Unit)) := .or (.one .ret ⟨[(2, .val false [.leaf] [.bool false] [] 0)], 0⟩ sg_b) (.one (.exit 0) ⟨[(2, .dead)], 0⟩ sg)
def f23_i_ValidChain.l0.F (n m : Nat) (v : Nat × List T × Nat × List T × Int × Int) := f23_i_ValidChain.l0 n m v.1 v.2.1 v.2.2.1 v.2.2.2.1 v.2.2.2.2.1 v.2.2.2.2.2
def f23_i_ValidChain.l0.W (n : Nat) : LpW := .of 64 f23_i_ValidChain.l0.P sg_llii f23_i_ValidChain.l0.A (f23_i_ValidChain.l0.F n n)
def f23_i_ValidChain.P : List Arg := [⟨.val, ⟨false, [.sl .shr [.leaf, .leaf, .sl .shr [.leaf]]], [.lst 0 []]⟩⟩]
def f23_i_ValidChain.A : RAlt (Bool) := .one ⟨[⟨false, [.leaf], [.bool false]⟩], [none]⟩ sg_b
def f23_i_ValidChain.F (n : Nat) (v : Nat × List T) := f23_i_ValidChain n v.1 v.2
noncomputable def f23_i_ValidChain.O (n : Nat) : Orc := orcOf (E := E) [f76_i_ValidEffect.w] [f23_i_ValidChain.l0.W n] n
theorem f23_i_ValidChain.l0.ok (n : Nat) : LpOk (f23_i_ValidChain.O n) E (evalFn E n) n (keepAt 23) (.loop (loopAt c23 0)) :=
  lp_pure f23_i_ValidChain.l0.P sg_llii f23_i_ValidChain.l0.A (f23_i_ValidChain.l0.F n) (orcOf_cf _ _ n) (lpOk_of (bs := []) (by kernel_rfl) .nil) (fun _ => rfl) (fun _ _ => by kernel_rfl) (fun _ _ _ => by kernel_rfl)
theorem f23_i_ValidChain.ok : ∀ n v x, f23_i_ValidChain.F n v = some x → evalFn E n 23 (flAs f23_i_ValidChain.P (sg_l.pk v)) = some (f23_i_ValidChain.A.enc x) :=
  fn_pure (modes := (fdAt 23).ms) (outs := (fdAt 23).os) (results := (fdAt 23).rs) f23_i_ValidChain.O (c := c23) (keep := keepAt 23) (by kernel_rfl) (fun n => orcOf_cf _ _ n) (fun n => lpOk_of (bs := [loopAt c23 0]) (by kernel_rfl) (.cons (f23_i_ValidChain.l0.ok n) .nil)) (fun _ => rfl) (fun _ _ => by kernel_rfl)
noncomputable def f23_i_ValidChain.w : FnW E := fnW 23 f23_i_ValidChain.P sg_l f23_i_ValidChain.A f23_i_ValidChain.F f23_i_ValidChain.ok

def f91_i_zeros : Nat → Int → Option (Nat × List T)
  | 0, _ => none
  | n + 1, i1 =>
    gd (decide (((0 : Int) ≤ i1) ∧ (i1 ≤ (2147483648 : Int)))) (
    some ((Int.toNat i1), (reps (Int.toNat i1) [(T.flt FloatKind.f32 0)])))
def f91_i_zeros.P : List Arg := [⟨.val, ⟨false, [.leaf], [.int .i64 0]⟩⟩]
def f91_i_zeros.A : RAlt (Nat × List T) := .one ⟨[⟨false, [.sl .own [.leaf]], [.lst 0 []]⟩], [none]⟩ sg_l
def f91_i_zeros.F (n : Nat) (v : Int) := f91_i_zeros n v
noncomputable def f91_i_zeros.O (n : Nat) : Orc := orcOf (E := E) [] [] n
theorem f91_i_zeros.ok : ∀ n v x, f91_i_zeros.F n v = some x → evalFn E n 91 (flAs f91_i_zeros.P (sg_i.pk v)) = some (f91_i_zeros.A.enc x) :=
  fn_pure (modes := (fdAt 91).ms) (outs := (fdAt 91).os) (results := (fdAt 91).rs) f91_i_zeros.O (c := c91) (keep := keepAt 91) (by kernel_rfl) (fun n => orcOf_cf _ _ n) (fun n => lpOk_of (bs := []) (by kernel_rfl) .nil) (fun _ => rfl) (fun _ _ => by kernel_rfl)
noncomputable def f91_i_zeros.w : FnW E := fnW 91 f91_i_zeros.P sg_i f91_i_zeros.A f91_i_zeros.F f91_i_zeros.ok

def f77_i_Effectstate : Nat → Int → Int → Nat → List T → Option (Nat × List T)
  | 0, _, _, _, _ => none
  | n + 1, i1, i2, n3, l4 =>
    br (i1 == (1 : Int)) (
     bd (f91_i_zeros n (2 : Int)) fun r5 =>
     let n6 : Nat := r5.1
     let l7 : List T := r5.2
     some (n6, l7)) (
     br (i1 == (2 : Int)) (
      bd (f91_i_zeros n i2) fun r8 =>
      let n9 : Nat := r8.1
      let l10 : List T := r8.2
      some (n9, l10)) (
      br (i1 == (3 : Int)) (
       bd (f91_i_zeros n (1 : Int)) fun r11 =>
       let n12 : Nat := r11.1
       let l13 : List T := r11.2
       some (n12, l13)) (
       br (i1 == (6 : Int)) (
        bd (f91_i_zeros n i2) fun r14 =>
        let n15 : Nat := r14.1
        let l16 : List T := r14.2
        gd (Nat.ble (1 + n15) 2147483648) (
        some ((1 + n15), ((setN (reps 1 [(T.flt FloatKind.f32 0)]) 0 [(T.flt FloatKind.f32 1065353216)]) ++ l16)))) (
        some (0, [])))))
def f77_i_Effectstate.P : List Arg := [⟨.val, ⟨true, [.leaf, .leaf, .sl .shr [.leaf]], [.int .i64 0, .int .i64 0, .lst 0 []]⟩⟩]
def f77_i_Effectstate.A : RAlt (Nat × List T) := .one ⟨[⟨false, [.sl .own [.leaf]], [.lst 0 []]⟩], [none]⟩ sg_l
def f77_i_Effectstate.F (n : Nat) (v : Int × Int × Nat × List T) := f77_i_Effectstate n v.1 v.2.1 v.2.2.1 v.2.2.2
noncomputable def f77_i_Effectstate.O (n : Nat) : Orc := orcOf (E := E) [f91_i_zeros.w] [] n
theorem f77_i_Effectstate.ok : ∀ n v x, f77_i_Effectstate.F n v = some x → evalFn E n 77 (flAs f77_i_Effectstate.P (sg_iil.pk v)) = some (f77_i_Effectstate.A.enc x) :=
  fn_pure (modes := (fdAt 77).ms) (outs := (fdAt 77).os) (results := (fdAt 77).rs) f77_i_Effectstate.O (c := c77) (keep := keepAt 77) (by kernel_rfl) (fun n => orcOf_cf _ _ n) (fun n => lpOk_of (bs := []) (by kernel_rfl) .nil) (fun _ => rfl) (fun _ _ => by kernel_rfl)
noncomputable def f77_i_Effectstate.w : FnW E := fnW 77 f77_i_Effectstate.P sg_iil f77_i_Effectstate.A f77_i_Effectstate.F f77_i_Effectstate.ok

def f24_i_IsState.l0 (n : Nat) : Nat → Nat → List T → Nat → List T → Nat → List T → Int → Int → Option ((Bool) ⊕ (Unit))
  | 0, _, _, _, _, _, _, _, _ => none
  | m + 1, n1, l2, n3, l4, n5, l6, i7, i8 =>
    br (decide (i8 < i7)) (
     gd ((decide (((0 : Int) ≤ i8) ∧ (i8 < ((n5 : Nat) : Int)))) && (okAt [(CK.int IntKind.i64), (CK.int IntKind.i64), CK.lst] l6 (((Int.toNat i8) * 3) + 0))) (
     let i9 : Int := (iAt l6 (((Int.toNat i8) * 3) + 0))
     let i10 : Int := (iAt l6 ((((Int.toNat i8) * 3) + 0) + 1))
     let n11 : Nat := (nAt l6 (((((Int.toNat i8) * 3) + 0) + 1) + 1))
     let l12 : List T := (lAt l6 (((((Int.toNat i8) * 3) + 0) + 1) + 1))
     gd ((decide (((0 : Int) ≤ i8) ∧ (i8 < ((n3 : Nat) : Int)))) && (okAt [CK.lst] l4 (Int.toNat i8))) (
     bd (f77_i_Effectstate n i9 i10 n11 l12) fun r13 =>
     let n14 : Nat := r13.1
     let l15 : List T := r13.2
     br ((((nAt l4 (Int.toNat i8)) : Nat) : Int) != ((n14 : Nat) : Int)) (
      some (Sum.inl false)) (
      f24_i_IsState.l0 n m n1 l2 n3 l4 n5 l6 i7 (IntKind.i64.wrap (i8 + (1 : Int))))))) (
     some (Sum.inr ()))
def f24_i_IsState : Nat → Nat → List T → Nat → List T → Option (Bool)
  | 0, _, _, _, _ => none
  | n + 1, n1, l2, n3, l4 =>
    bd (f23_i_ValidChain n n1 l2) fun r5 =>
    let b6 : Bool := r5
    br (!b6) (
     some false) (
     br (((n3 : Nat) : Int) != ((n1 : Nat) : Int)) (
      some false) (
      bd (f24_i_IsState.l0 n n n1 l2 n3 l4 n1 l2 ((n1 : Nat) : Int) (0 : Int)) fun r7 =>
      sm r7 (fun u8 =>
       let b9 : Bool := u8
       some b9) (fun u10 =>
       some true)))
def sg_lllii : Sig (Nat × List T × Nat × List T × Nat × List T × Int × Int) where
  pk := fun v => [.lst v.1 v.2.1, .lst v.2.2.1 v.2.2.2.1, .lst v.2.2.2.2.1 v.2.2.2.2.2.1, .int v.2.2.2.2.2.2.1, .int v.2.2.2.2.2.2.2]
  up := fun ls => match ls with
    | [.lst a0 a1, .lst a2 a3, .lst a4 a5, .int a6, .int a7] => some (a0, a1, a2, a3, a4, a5, a6, a7)
    | _ => none
  ok := by
    intro ls v h
    split at h
    · cases h; rfl
    · cases h

def f24_i_IsState.l0.P : AS := ⟨[(0, .val false [.sl .shr [.leaf, .leaf, .sl .shr [.leaf]]] [.lst 0 []] [] 0), (1, .val false [.sl .shr [.sl .shr [.leaf]]] [.lst 0 []] [] 0), (17, .val false [.sl .shr [.leaf, .leaf, .sl .shr [.leaf]]] [.lst 0 []] [] 0), (18, .val false [.leaf] [.int .i64 0] [] 0), (19, .val false [.leaf] [.int .i64 0] [] 0)], 0⟩
def f24_i_IsState.l0.A : Alt ((Bool) ⊕ (Unit)) := .or (.one .ret ⟨[(4, .val false [.leaf] [.bool false] [] 0)], 0⟩ sg_b) (.one (.exit 0) ⟨[(4, .dead)], 0⟩ sg)
def f24_i_IsState.l0.F (n m : Nat) (v : Nat × List T × Nat × List T × Nat × List T × Int × Int) := f24_i_IsState.l0 n m v.1 v.2.1 v.2.2.1 v.2.2.2.1 v.2.2.2.2.1 v.2.2.2.2.2.1 v.2.2.2.2.2.2.1 v.2.2.2.2.2.2.2
def f24_i_IsState.l0.W (n : Nat) : LpW := .of 64 f24_i_IsState.l0.P sg_lllii f24_i_IsState.l0.A (f24_i_IsState.l0.F n n)
def f24_i_IsState.P : List Arg := [⟨.val, ⟨false, [.sl .shr [.leaf, .leaf, .sl .shr [.leaf]]], [.lst 0 []]⟩⟩, ⟨.val, ⟨false, [.sl .shr [.sl .shr [.leaf]]], [.lst 0 []]⟩⟩]
def f24_i_IsState.A : RAlt (Bool) := .one ⟨[⟨false, [.leaf], [.bool false]⟩], [none, none]⟩ sg_b
def f24_i_IsState.F (n : Nat) (v : Nat × List T × Nat × List T) := f24_i_IsState n v.1 v.2.1 v.2.2.1 v.2.2.2
noncomputable def f24_i_IsState.O (n : Nat) : Orc := orcOf (E := E) [f23_i_ValidChain.w, f77_i_Effectstate.w] [f24_i_IsState.l0.W n] n
theorem f24_i_IsState.l0.ok (n : Nat) : LpOk (f24_i_IsState.O n) E (evalFn E n) n (keepAt 24) (.loop (loopAt c24 0)) :=
  lp_pure f24_i_IsState.l0.P sg_lllii f24_i_IsState.l0.A (f24_i_IsState.l0.F n) (orcOf_cf _ _ n) (lpOk_of (bs := []) (by kernel_rfl) .nil) (fun _ => rfl) (fun _ _ => by kernel_rfl) (fun _ _ _ => by kernel_rfl)
theorem f24_i_IsState.ok : ∀ n v x, f24_i_IsState.F n v = some x → evalFn E n 24 (flAs f24_i_IsState.P (sg_ll.pk v)) = some (f24_i_IsState.A.enc x) :=
  fn_pure (modes := (fdAt 24).ms) (outs := (fdAt 24).os) (results := (fdAt 24).rs) f24_i_IsState.O (c := c24) (keep := keepAt 24) (by kernel_rfl) (fun n => orcOf_cf _ _ n) (fun n => lpOk_of (bs := [loopAt c24 0]) (by kernel_rfl) (.cons (f24_i_IsState.l0.ok n) .nil)) (fun _ => rfl) (fun _ _ => by kernel_rfl)
noncomputable def f24_i_IsState.w : FnW E := fnW 24 f24_i_IsState.P sg_ll f24_i_IsState.A f24_i_IsState.F f24_i_IsState.ok

def f66_i_areSamples : Nat → Nat → List T → Option (Bool)
  | 0, _, _ => none
  | n + 1, n1, l2 =>
    some (decide (((n1 : Nat) : Int) ≤ (256 : Int)))
def f66_i_areSamples.P : List Arg := [⟨.val, ⟨false, [.sl .shr [.leaf]], [.lst 0 []]⟩⟩]
def f66_i_areSamples.A : RAlt (Bool) := .one ⟨[⟨false, [.leaf], [.bool false]⟩], [none]⟩ sg_b
def f66_i_areSamples.F (n : Nat) (v : Nat × List T) := f66_i_areSamples n v.1 v.2
noncomputable def f66_i_areSamples.O (n : Nat) : Orc := orcOf (E := E) [] [] n
theorem f66_i_areSamples.ok : ∀ n v x, f66_i_areSamples.F n v = some x → evalFn E n 66 (flAs f66_i_areSamples.P (sg_l.pk v)) = some (f66_i_areSamples.A.enc x) :=
  fn_pure (modes := (fdAt 66).ms) (outs := (fdAt 66).os) (results := (fdAt 66).rs) f66_i_areSamples.O (c := c66) (keep := keepAt 66) (by kernel_rfl) (fun n => orcOf_cf _ _ n) (fun n => lpOk_of (bs := []) (by kernel_rfl) .nil) (fun _ => rfl) (fun _ _ => by kernel_rfl)
noncomputable def f66_i_areSamples.w : FnW E := fnW 66 f66_i_areSamples.P sg_l f66_i_areSamples.A f66_i_areSamples.F f66_i_areSamples.ok

def f84_i_copyNumbers : Nat → Nat → List T → Option (Nat × List T)
  | 0, _, _ => none
  | n + 1, n1, l2 =>
    gd (Nat.ble (0 + n1) 2147483648) (
    some ((0 + n1), ((reps 0 [(T.flt FloatKind.f32 0)]) ++ l2)))
def f84_i_copyNumbers.P : List Arg := [⟨.val, ⟨false, [.sl .shr [.leaf]], [.lst 0 []]⟩⟩]
def f84_i_copyNumbers.A : RAlt (Nat × List T) := .one ⟨[⟨false, [.sl .own [.leaf]], [.lst 0 []]⟩], [none]⟩ sg_l
def f84_i_copyNumbers.F (n : Nat) (v : Nat × List T) := f84_i_copyNumbers n v.1 v.2
noncomputable def f84_i_copyNumbers.O (n : Nat) : Orc := orcOf (E := E) [] [] n
theorem f84_i_copyNumbers.ok : ∀ n v x, f84_i_copyNumbers.F n v = some x → evalFn E n 84 (flAs f84_i_copyNumbers.P (sg_l.pk v)) = some (f84_i_copyNumbers.A.enc x) :=
  fn_pure (modes := (fdAt 84).ms) (outs := (fdAt 84).os) (results := (fdAt 84).rs) f84_i_copyNumbers.O (c := c84) (keep := keepAt 84) (by kernel_rfl) (fun n => orcOf_cf _ _ n) (fun n => lpOk_of (bs := []) (by kernel_rfl) .nil) (fun _ => rfl) (fun _ _ => by kernel_rfl)
noncomputable def f84_i_copyNumbers.w : FnW E := fnW 84 f84_i_copyNumbers.P sg_l f84_i_copyNumbers.A f84_i_copyNumbers.F f84_i_copyNumbers.ok

def f167_i_scaled.l0 (n : Nat) : Nat → Nat → List T → Nat → Nat → List T → Nat → List T → Int → Int → Option (Nat × List T)
  | 0, _, _, _, _, _, _, _, _, _ => none
  | m + 1, n1, l2, x3, n4, l5, n6, l7, i8, i9 =>
    br (decide (i9 < i8)) (
     gd ((decide (((0 : Int) ≤ i9) ∧ (i9 < ((n6 : Nat) : Int)))) && (okAt [(CK.flt FloatKind.f32)] l7 (Int.toNat i9))) (
     let x10 : Nat := (fAt l7 (Int.toNat i9))
     gd (Nat.ble (n4 + 1) 2147483648) (
     let n11 : Nat := (n4 + 1)
     let l12 : List T := (l5 ++ (setN (reps 1 [(T.flt FloatKind.f32 0)]) 0 [(T.flt FloatKind.f32 (fmul FloatKind.f32 x10 x3))]))
     f167_i_scaled.l0 n m n1 l2 x3 n11 l12 n6 l7 i8 (IntKind.i64.wrap (i9 + (1 : Int)))))) (
     some (n4, l5))
def f167_i_scaled : Nat → Nat → List T → Nat → Option (Nat × List T)
  | 0, _, _, _ => none
  | n + 1, n1, l2, x3 =>
    bd (f167_i_scaled.l0 n n n1 l2 x3 0 [] n1 l2 ((n1 : Nat) : Int) (0 : Int)) fun r4 =>
    let n5 : Nat := r4.1
    let l6 : List T := r4.2
    some (n5, l6)
def sg_lf : Sig (Nat × List T × Nat) where
  pk := fun v => [.lst v.1 v.2.1, .flt v.2.2]
  up := fun ls => match ls with
    | [.lst a0 a1, .flt a2] => some (a0, a1, a2)
    | _ => none
  ok := by
    intro ls v h
    split at h
    · cases h; rfl
    · cases h

def sg_lfllii : Sig (Nat × List T × Nat × Nat × List T × Nat × List T × Int × Int) where
  pk := fun v => [.lst v.1 v.2.1, .flt v.2.2.1, .lst v.2.2.2.1 v.2.2.2.2.1, .lst v.2.2.2.2.2.1 v.2.2.2.2.2.2.1, .int v.2.2.2.2.2.2.2.1, .int v.2.2.2.2.2.2.2.2]
  up := fun ls => match ls with
    | [.lst a0 a1, .flt a2, .lst a3 a4, .lst a5 a6, .int a7, .int a8] => some (a0, a1, a2, a3, a4, a5, a6, a7, a8)
    | _ => none
  ok := by
    intro ls v h
    split at h
    · cases h; rfl
    · cases h

def f167_i_scaled.l0.P : AS := ⟨[(0, .val false [.sl .shr [.leaf]] [.lst 0 []] [] 0), (1, .val false [.leaf] [.flt .f32 0] [] 0), (5, .val false [.sl .own [.leaf]] [.lst 0 []] [] 0), (8, .val false [.sl .shr [.leaf]] [.lst 0 []] [] 0), (9, .val false [.leaf] [.int .i64 0] [] 0), (10, .val false [.leaf] [.int .i64 0] [] 0)], 0⟩
def f167_i_scaled.l0.A : Alt (Nat × List T) := .one (.exit 0) ⟨[(5, .val false [.sl .own [.leaf]] [.lst 0 []] [] 0)], 0⟩ sg_l
def f167_i_scaled.l0.F (n m : Nat) (v : Nat × List T × Nat × Nat × List T × Nat × List T × Int × Int) := f167_i_scaled.l0 n m v.1 v.2.1 v.2.2.1 v.2.2.2.1 v.2.2.2.2.1 v.2.2.2.2.2.1 v.2.2.2.2.2.2.1 v.2.2.2.2.2.2.2.1 v.2.2.2.2.2.2.2.2
def f167_i_scaled.l0.W (n : Nat) : LpW := .of 48 f167_i_scaled.l0.P sg_lfllii f167_i_scaled.l0.A (f167_i_scaled.l0.F n n)
def f167_i_scaled.P : List Arg := [⟨.val, ⟨false, [.sl .shr [.leaf]], [.lst 0 []]⟩⟩, ⟨.val, ⟨false, [.leaf], [.flt .f32 0]⟩⟩]
def f167_i_scaled.A : RAlt (Nat × List T) := .one ⟨[⟨false, [.sl .own [.leaf]], [.lst 0 []]⟩], [none, none]⟩ sg_l
def f167_i_scaled.F (n : Nat) (v : Nat × List T × Nat) := f167_i_scaled n v.1 v.2.1 v.2.2
noncomputable def f167_i_scaled.O (n : Nat) : Orc := orcOf (E := E) [] [f167_i_scaled.l0.W n] n
theorem f167_i_scaled.l0.ok (n : Nat) : LpOk (f167_i_scaled.O n) E (evalFn E n) n (keepAt 167) (.loop (loopAt c167 0)) :=
  lp_pure f167_i_scaled.l0.P sg_lfllii f167_i_scaled.l0.A (f167_i_scaled.l0.F n) (orcOf_cf _ _ n) (lpOk_of (bs := []) (by kernel_rfl) .nil) (fun _ => rfl) (fun _ _ => by kernel_rfl) (fun _ _ _ => by kernel_rfl)
theorem f167_i_scaled.ok : ∀ n v x, f167_i_scaled.F n v = some x → evalFn E n 167 (flAs f167_i_scaled.P (sg_lf.pk v)) = some (f167_i_scaled.A.enc x) :=
  fn_pure (modes := (fdAt 167).ms) (outs := (fdAt 167).os) (results := (fdAt 167).rs) f167_i_scaled.O (c := c167) (keep := keepAt 167) (by kernel_rfl) (fun n => orcOf_cf _ _ n) (fun n => lpOk_of (bs := [loopAt c167 0]) (by kernel_rfl) (.cons (f167_i_scaled.l0.ok n) .nil)) (fun _ => rfl) (fun _ _ => by kernel_rfl)
noncomputable def f167_i_scaled.w : FnW E := fnW 167 f167_i_scaled.P sg_lf f167_i_scaled.A f167_i_scaled.F f167_i_scaled.ok

def f189_i_IsSubnormal : Nat → Nat → Option (Bool)
  | 0, _ => none
  | n + 1, x1 =>
    br (fne FloatKind.f32 x1 0) (
     br (flt FloatKind.f32 x1 8388608) (
      some (fgt FloatKind.f32 x1 2155872256)) (
      some false)) (
     some false)
def f189_i_IsSubnormal.P : List Arg := [⟨.val, ⟨false, [.leaf], [.flt .f32 0]⟩⟩]
def f189_i_IsSubnormal.A : RAlt (Bool) := .one ⟨[⟨false, [.leaf], [.bool false]⟩], [none]⟩ sg_b
def f189_i_IsSubnormal.F (n : Nat) (v : Nat) := f189_i_IsSubnormal n v
noncomputable def f189_i_IsSubnormal.O (n : Nat) : Orc := orcOf (E := E) [] [] n
theorem f189_i_IsSubnormal.ok : ∀ n v x, f189_i_IsSubnormal.F n v = some x → evalFn E n 189 (flAs f189_i_IsSubnormal.P (sg_f.pk v)) = some (f189_i_IsSubnormal.A.enc x) :=
  fn_pure (modes := (fdAt 189).ms) (outs := (fdAt 189).os) (results := (fdAt 189).rs) f189_i_IsSubnormal.O (c := c189) (keep := keepAt 189) (by kernel_rfl) (fun n => orcOf_cf _ _ n) (fun n => lpOk_of (bs := []) (by kernel_rfl) .nil) (fun _ => rfl) (fun _ _ => by kernel_rfl)
noncomputable def f189_i_IsSubnormal.w : FnW E := fnW 189 f189_i_IsSubnormal.P sg_f f189_i_IsSubnormal.A f189_i_IsSubnormal.F f189_i_IsSubnormal.ok

def f169_i_FlushNumber : Nat → Nat → Option (Nat)
  | 0, _ => none
  | n + 1, x1 =>
    bd (f189_i_IsSubnormal n x1) fun r2 =>
    let b3 : Bool := r2
    br (!b3) (
     some x1) (
     bd ((fltToFlt FloatKind.f32 x1 FloatKind.f64)) fun y4 =>
     bd (xCopysign n 0 y4) fun r5 =>
     let x6 : Nat := r5
     bd ((fltToFlt FloatKind.f64 x6 FloatKind.f32)) fun y7 =>
     some y7)
def f169_i_FlushNumber.P : List Arg := [⟨.val, ⟨false, [.leaf], [.flt .f32 0]⟩⟩]
def f169_i_FlushNumber.A : RAlt (Nat) := .one ⟨[⟨false, [.leaf], [.flt .f32 0]⟩], [none]⟩ sg_f
def f169_i_FlushNumber.F (n : Nat) (v : Nat) := f169_i_FlushNumber n v
noncomputable def f169_i_FlushNumber.O (n : Nat) : Orc := orcOf (E := E) [x190.w, f189_i_IsSubnormal.w] [] n
theorem f169_i_FlushNumber.ok : ∀ n v x, f169_i_FlushNumber.F n v = some x → evalFn E n 169 (flAs f169_i_FlushNumber.P (sg_f.pk v)) = some (f169_i_FlushNumber.A.enc x) :=
  fn_pure (modes := (fdAt 169).ms) (outs := (fdAt 169).os) (results := (fdAt 169).rs) f169_i_FlushNumber.O (c := c169) (keep := keepAt 169) (by kernel_rfl) (fun n => orcOf_cf _ _ n) (fun n => lpOk_of (bs := []) (by kernel_rfl) .nil) (fun _ => rfl) (fun _ _ => by kernel_rfl)
noncomputable def f169_i_FlushNumber.w : FnW E := fnW 169 f169_i_FlushNumber.P sg_f f169_i_FlushNumber.A f169_i_FlushNumber.F f169_i_FlushNumber.ok

def f176_i_flushed : Nat → Nat → Bool → Option (Nat)
  | 0, _, _ => none
  | n + 1, x1, b2 =>
    br b2 (
     bd (f169_i_FlushNumber n x1) fun r3 =>
     let x4 : Nat := r3
     some x4) (
     some x1)
def sg_fb : Sig (Nat × Bool) where
  pk := fun v => [.flt v.1, .bool v.2]
  up := fun ls => match ls with
    | [.flt a0, .bool a1] => some (a0, a1)
    | _ => none
  ok := by
    intro ls v h
    split at h
    · cases h; rfl
    · cases h

def f176_i_flushed.P : List Arg := [⟨.val, ⟨false, [.leaf], [.flt .f32 0]⟩⟩, ⟨.val, ⟨false, [.leaf], [.bool false]⟩⟩]
def f176_i_flushed.A : RAlt (Nat) := .one ⟨[⟨false, [.leaf], [.flt .f32 0]⟩], [none, none]⟩ sg_f
def f176_i_flushed.F (n : Nat) (v : Nat × Bool) := f176_i_flushed n v.1 v.2
noncomputable def f176_i_flushed.O (n : Nat) : Orc := orcOf (E := E) [f169_i_FlushNumber.w] [] n
theorem f176_i_flushed.ok : ∀ n v x, f176_i_flushed.F n v = some x → evalFn E n 176 (flAs f176_i_flushed.P (sg_fb.pk v)) = some (f176_i_flushed.A.enc x) :=
  fn_pure (modes := (fdAt 176).ms) (outs := (fdAt 176).os) (results := (fdAt 176).rs) f176_i_flushed.O (c := c176) (keep := keepAt 176) (by kernel_rfl) (fun n => orcOf_cf _ _ n) (fun n => lpOk_of (bs := []) (by kernel_rfl) .nil) (fun _ => rfl) (fun _ _ => by kernel_rfl)
noncomputable def f176_i_flushed.w : FnW E := fnW 176 f176_i_flushed.P sg_fb f176_i_flushed.A f176_i_flushed.F f176_i_flushed.ok

def f142_i_Filterstep : Nat → Nat → Nat → Nat → Nat → Nat → Int → Bool → Nat → Nat → Nat → Nat → Nat → Option (Nat × Nat × Nat × Nat × Nat)
  | 0, _, _, _, _, _, _, _, _, _, _, _, _ => none
  | n + 1, x1, x2, x3, x4, x5, i6, b7, x8, x9, x10, x11, x12 =>
    br (i6 == (0 : Int)) (
     let x13 : Nat := (fsub FloatKind.f32 (fsub FloatKind.f32 (fadd FloatKind.f32 (fadd FloatKind.f32 (fmul FloatKind.f32 x1 x12) (fmul FloatKind.f32 x2 x8)) (fmul FloatKind.f32 x3 x9)) (fmul FloatKind.f32 x4 x10)) (fmul FloatKind.f32 x5 x11))
     bd (f176_i_flushed n x13 b7) fun r14 =>
     let x15 : Nat := r14
     bd (f176_i_flushed n x12 b7) fun r16 =>
     let x17 : Nat := r16
     bd (f176_i_flushed n x8 b7) fun r18 =>
     let x19 : Nat := r18
     bd (f176_i_flushed n x15 b7) fun r20 =>
     let x21 : Nat := r20
     bd (f176_i_flushed n x10 b7) fun r22 =>
     let x23 : Nat := r22
     some (x15, x17, x19, x21, x23)) (
     br (i6 == (1 : Int)) (
      bd (f176_i_flushed n (fadd FloatKind.f32 (fmul FloatKind.f32 x1 x12) x8) b7) fun r24 =>
      let x25 : Nat := r24
      let x26 : Nat := (fadd FloatKind.f32 (fsub FloatKind.f32 (fmul FloatKind.f32 x2 x12) (fmul FloatKind.f32 x4 x25)) x9)
      let x27 : Nat := (fsub FloatKind.f32 (fmul FloatKind.f32 x3 x12) (fmul FloatKind.f32 x5 x25))
      bd (f176_i_flushed n x26 b7) fun r28 =>
      let x29 : Nat := r28
      bd (f176_i_flushed n x27 b7) fun r30 =>
      let x31 : Nat := r30
      bd (f176_i_flushed n 0 b7) fun r32 =>
      let x33 : Nat := r32
      bd (f176_i_flushed n 0 b7) fun r34 =>
      let x35 : Nat := r34
      some (x25, x29, x31, x33, x35)) (
      bd (f176_i_flushed n (fsub FloatKind.f32 (fsub FloatKind.f32 x12 (fmul FloatKind.f32 x4 x8)) (fmul FloatKind.f32 x5 x9)) b7) fun r36 =>
      let x37 : Nat := r36
      bd (f176_i_flushed n (fadd FloatKind.f32 (fadd FloatKind.f32 (fmul FloatKind.f32 x1 x37) (fmul FloatKind.f32 x2 x8)) (fmul FloatKind.f32 x3 x9)) b7) fun r38 =>
      let x39 : Nat := r38
      bd (f176_i_flushed n x37 b7) fun r40 =>
      let x41 : Nat := r40
      bd (f176_i_flushed n x8 b7) fun r42 =>
      let x43 : Nat := r42
      bd (f176_i_flushed n 0 b7) fun r44 =>
      let x45 : Nat := r44
      bd (f176_i_flushed n 0 b7) fun r46 =>
      let x47 : Nat := r46
      some (x39, x41, x43, x45, x47)))
def sg_fffffibfffff : Sig (Nat × Nat × Nat × Nat × Nat × Int × Bool × Nat × Nat × Nat × Nat × Nat) where
  pk := fun v => [.flt v.1, .flt v.2.1, .flt v.2.2.1, .flt v.2.2.2.1, .flt v.2.2.2.2.1, .int v.2.2.2.2.2.1, .bool v.2.2.2.2.2.2.1, .flt v.2.2.2.2.2.2.2.1, .flt v.2.2.2.2.2.2.2.2.1, .flt v.2.2.2.2.2.2.2.2.2.1, .flt v.2.2.2.2.2.2.2.2.2.2.1, .flt v.2.2.2.2.2.2.2.2.2.2.2]
  up := fun ls => match ls with
    | [.flt a0, .flt a1, .flt a2, .flt a3, .flt a4, .int a5, .bool a6, .flt a7, .flt a8, .flt a9, .flt a10, .flt a11] => some (a0, a1, a2, a3, a4, a5, a6, a7, a8, a9, a10, a11)
    | _ => none
  ok := by
    intro ls v h
    split at h
    · cases h; rfl
    · cases h

def sg_fffff : Sig (Nat × Nat × Nat × Nat × Nat) where
  pk := fun v => [.flt v.1, .flt v.2.1, .flt v.2.2.1, .flt v.2.2.2.1, .flt v.2.2.2.2]
  up := fun ls => match ls with
    | [.flt a0, .flt a1, .flt a2, .flt a3, .flt a4] => some (a0, a1, a2, a3, a4)
    | _ => none
  ok := by
    intro ls v h
    split at h
    · cases h; rfl
    · cases h

def f142_i_Filterstep.P : List Arg := [⟨.val, ⟨true, [.leaf, .leaf, .leaf, .leaf, .leaf], [.flt .f32 0, .flt .f32 0, .flt .f32 0, .flt .f32 0, .flt .f32 0]⟩⟩, ⟨.val, ⟨false, [.leaf], [.int .i64 0]⟩⟩, ⟨.val, ⟨false, [.leaf], [.bool false]⟩⟩, ⟨.val, ⟨true, [.leaf, .leaf, .leaf, .leaf], [.flt .f32 0, .flt .f32 0, .flt .f32 0, .flt .f32 0]⟩⟩, ⟨.val, ⟨false, [.leaf], [.flt .f32 0]⟩⟩]
def f142_i_Filterstep.A : RAlt (Nat × Nat × Nat × Nat × Nat) := .one ⟨[⟨false, [.leaf], [.flt .f32 0]⟩, ⟨true, [.leaf, .leaf, .leaf, .leaf], [.flt .f32 0, .flt .f32 0, .flt .f32 0, .flt .f32 0]⟩], [none, none, none, none, none]⟩ sg_fffff
def f142_i_Filterstep.F (n : Nat) (v : Nat × Nat × Nat × Nat × Nat × Int × Bool × Nat × Nat × Nat × Nat × Nat) := f142_i_Filterstep n v.1 v.2.1 v.2.2.1 v.2.2.2.1 v.2.2.2.2.1 v.2.2.2.2.2.1 v.2.2.2.2.2.2.1 v.2.2.2.2.2.2.2.1 v.2.2.2.2.2.2.2.2.1 v.2.2.2.2.2.2.2.2.2.1 v.2.2.2.2.2.2.2.2.2.2.1 v.2.2.2.2.2.2.2.2.2.2.2
noncomputable def f142_i_Filterstep.O (n : Nat) : Orc := orcOf (E := E) [f176_i_flushed.w] [] n
theorem f142_i_Filterstep.ok : ∀ n v x, f142_i_Filterstep.F n v = some x → evalFn E n 142 (flAs f142_i_Filterstep.P (sg_fffffibfffff.pk v)) = some (f142_i_Filterstep.A.enc x) :=
  fn_pure (modes := (fdAt 142).ms) (outs := (fdAt 142).os) (results := (fdAt 142).rs) f142_i_Filterstep.O (c := c142) (keep := keepAt 142) (by kernel_rfl) (fun n => orcOf_cf _ _ n) (fun n => lpOk_of (bs := []) (by kernel_rfl) .nil) (fun _ => rfl) (fun _ _ => by kernel_rfl)
noncomputable def f142_i_Filterstep.w : FnW E := fnW 142 f142_i_Filterstep.P sg_fffffibfffff f142_i_Filterstep.A f142_i_Filterstep.F f142_i_Filterstep.ok

def f96_i_Filterrun.l0 (n : Nat) : Nat → Int → Bool → Nat → List T → Nat → Nat → Nat → Nat → Nat → Nat → Nat → Nat → Nat → Nat → Nat → Nat → Nat → Nat → List T → Nat → List T → Int → Int → Option (Nat × Nat × Nat × Nat × Nat × Nat × Nat × Nat × Nat × List T)
  | 0, _, _, _, _, _, _, _, _, _, _, _, _, _, _, _, _, _, _, _, _, _, _, _ => none
  | m + 1, i1, b2, n3, l4, x5, x6, x7, x8, x9, x10, x11, x12, x13, x14, x15, x16, x17, n18, l19, n20, l21, i22, i23 =>
    br (decide (i23 < i22)) (
     gd ((decide (((0 : Int) ≤ i23) ∧ (i23 < ((n20 : Nat) : Int)))) && (okAt [(CK.flt FloatKind.f32)] l21 (Int.toNat i23))) (
     let x24 : Nat := (fAt l21 (Int.toNat i23))
     bd (f142_i_Filterstep n x5 x6 x7 x8 x9 i1 b2 x10 x11 x12 x13 x24) fun r25 =>
     let x26 : Nat := r25.1
     let x27 : Nat := r25.2.1
     let x28 : Nat := r25.2.2.1
     let x29 : Nat := r25.2.2.2.1
     let x30 : Nat := r25.2.2.2.2
     gd (Nat.ble (n18 + 1) 2147483648) (
     let n31 : Nat := (n18 + 1)
     let l32 : List T := (l19 ++ (setN (reps 1 [(T.flt FloatKind.f32 0)]) 0 [(T.flt FloatKind.f32 x26)]))
     f96_i_Filterrun.l0 n m i1 b2 n3 l4 x5 x6 x7 x8 x9 x27 x28 x29 x30 x14 x15 x16 x17 n31 l32 n20 l21 i22 (IntKind.i64.wrap (i23 + (1 : Int)))))) (
     some (x10, x11, x12, x13, x14, x15, x16, x17, n18, l19))
termination_by structural x => x
def f96_i_Filterrun : Nat → Nat → Nat → Nat → Nat → Nat → Int → Bool → Nat → Nat → Nat → Nat → Nat → List T → Option (Nat × List T × Nat × Nat × Nat × Nat)
  | 0, _, _, _, _, _, _, _, _, _, _, _, _, _ => none
  | n + 1, x1, x2, x3, x4, x5, i6, b7, x8, x9, x10, x11, n12, l13 =>
    bd (f96_i_Filterrun.l0 n n i6 b7 n12 l13 x1 x2 x3 x4 x5 x8 x9 x10 x11 0 0 0 0 0 [] n12 l13 ((n12 : Nat) : Int) (0 : Int)) fun r14 =>
    let x15 : Nat := r14.1
    let x16 : Nat := r14.2.1
    let x17 : Nat := r14.2.2.1
    let x18 : Nat := r14.2.2.2.1
    let x19 : Nat := r14.2.2.2.2.1
    let x20 : Nat := r14.2.2.2.2.2.1
    let x21 : Nat := r14.2.2.2.2.2.2.1
    let x22 : Nat := r14.2.2.2.2.2.2.2.1
    let n23 : Nat := r14.2.2.2.2.2.2.2.2.1
    let l24 : List T := r14.2.2.2.2.2.2.2.2.2
    some (n23, l24, x15, x16, x17, x18)
def sg_fffffibffffl : Sig (Nat × Nat × Nat × Nat × Nat × Int × Bool × Nat × Nat × Nat × Nat × Nat × List T) where
  pk := fun v => [.flt v.1, .flt v.2.1, .flt v.2.2.1, .flt v.2.2.2.1, .flt v.2.2.2.2.1, .int v.2.2.2.2.2.1, .bool v.2.2.2.2.2.2.1, .flt v.2.2.2.2.2.2.2.1, .flt v.2.2.2.2.2.2.2.2.1, .flt v.2.2.2.2.2.2.2.2.2.1, .flt v.2.2.2.2.2.2.2.2.2.2.1, .lst v.2.2.2.2.2.2.2.2.2.2.2.1 v.2.2.2.2.2.2.2.2.2.2.2.2]
  up := fun ls => match ls with
    | [.flt a0, .flt a1, .flt a2, .flt a3, .flt a4, .int a5, .bool a6, .flt a7, .flt a8, .flt a9, .flt a10, .lst a11 a12] => some (a0, a1, a2, a3, a4, a5, a6, a7, a8, a9, a10, a11, a12)
    | _ => none
  ok := by
    intro ls v h
    split at h
    · cases h; rfl
    · cases h

def sg_lffff : Sig (Nat × List T × Nat × Nat × Nat × Nat) where
  pk := fun v => [.lst v.1 v.2.1, .flt v.2.2.1, .flt v.2.2.2.1, .flt v.2.2.2.2.1, .flt v.2.2.2.2.2]
  up := fun ls => match ls with
    | [.lst a0 a1, .flt a2, .flt a3, .flt a4, .flt a5] => some (a0, a1, a2, a3, a4, a5)
    | _ => none
  ok := by
    intro ls v h
    split at h
    · cases h; rfl
    · cases h

def sg_iblfffffffffffffllii : Sig (Int × Bool × Nat × List T × Nat × Nat × Nat × Nat × Nat × Nat × Nat × Nat × Nat × Nat × Nat × Nat × Nat × Nat × List T × Nat × List T × Int × Int) where
  pk := fun v => [.int v.1, .bool v.2.1, .lst v.2.2.1 v.2.2.2.1, .flt v.2.2.2.2.1, .flt v.2.2.2.2.2.1, .flt v.2.2.2.2.2.2.1, .flt v.2.2.2.2.2.2.2.1, .flt v.2.2.2.2.2.2.2.2.1, .flt v.2.2.2.2.2.2.2.2.2.1, .flt v.2.2.2.2.2.2.2.2.2.2.1, .flt v.2.2.2.2.2.2.2.2.2.2.2.1, .flt v.2.2.2.2.2.2.2.2.2.2.2.2.1, .flt v.2.2.2.2.2.2.2.2.2.2.2.2.2.1, .flt v.2.2.2.2.2.2.2.2.2.2.2.2.2.2.1, .flt v.2.2.2.2.2.2.2.2.2.2.2.2.2.2.2.1, .flt v.2.2.2.2.2.2.2.2.2.2.2.2.2.2.2.2.1, .lst v.2.2.2.2.2.2.2.2.2.2.2.2.2.2.2.2.2.1 v.2.2.2.2.2.2.2.2.2.2.2.2.2.2.2.2.2.2.1, .lst v.2.2.2.2.2.2.2.2.2.2.2.2.2.2.2.2.2.2.2.1 v.2.2.2.2.2.2.2.2.2.2.2.2.2.2.2.2.2.2.2.2.1, .int v.2.2.2.2.2.2.2.2.2.2.2.2.2.2.2.2.2.2.2.2.2.1, .int v.2.2.2.2.2.2.2.2.2.2.2.2.2.2.2.2.2.2.2.2.2.2]
  up := fun ls => match ls with
    | [.int a0, .bool a1, .lst a2 a3, .flt a4, .flt a5, .flt a6, .flt a7, .flt a8, .flt a9, .flt a10, .flt a11, .flt a12, .flt a13, .flt a14, .flt a15, .flt a16, .lst a17 a18, .lst a19 a20, .int a21, .int a22] => some (a0, a1, a2, a3, a4, a5, a6, a7, a8, a9, a10, a11, a12, a13, a14, a15, a16, a17, a18, a19, a20, a21, a22)
    | _ => none
  ok := by
    intro ls v h
    split at h
    · cases h; rfl
    · cases h

def sg_ffffffffl : Sig (Nat × Nat × Nat × Nat × Nat × Nat × Nat × Nat × Nat × List T) where
  pk := fun v => [.flt v.1, .flt v.2.1, .flt v.2.2.1, .flt v.2.2.2.1, .flt v.2.2.2.2.1, .flt v.2.2.2.2.2.1, .flt v.2.2.2.2.2.2.1, .flt v.2.2.2.2.2.2.2.1, .lst v.2.2.2.2.2.2.2.2.1 v.2.2.2.2.2.2.2.2.2]
  up := fun ls => match ls with
    | [.flt a0, .flt a1, .flt a2, .flt a3, .flt a4, .flt a5, .flt a6, .flt a7, .lst a8 a9] => some (a0, a1, a2, a3, a4, a5, a6, a7, a8, a9)
    | _ => none
  ok := by
    intro ls v h
    split at h
    · cases h; rfl
    · cases h

def f96_i_Filterrun.l0.P : AS := ⟨[(1, .val false [.leaf] [.int .i64 0] [] 0), (2, .val false [.leaf] [.bool false] [] 0), (4, .val false [.sl .shr [.leaf]] [.lst 0 []] [] 0), (5, .box [.leaf, .leaf, .leaf, .leaf, .leaf] [.flt .f32 0, .flt .f32 0, .flt .f32 0, .flt .f32 0, .flt .f32 0] [] 0), (8, .box [.leaf, .leaf, .leaf, .leaf] [.flt .f32 0, .flt .f32 0, .flt .f32 0, .flt .f32 0] [] 0), (11, .box [.leaf, .leaf, .leaf, .leaf] [.flt .f32 0, .flt .f32 0, .flt .f32 0, .flt .f32 0] [] 0), (12, .val false [.sl .own [.leaf]] [.lst 0 []] [] 0), (17, .val false [.sl .shr [.leaf]] [.lst 0 []] [] 0), (18, .val false [.leaf] [.int .i64 0] [] 0), (19, .val false [.leaf] [.int .i64 0] [] 0)], 0⟩
def f96_i_Filterrun.l0.A : Alt (Nat × Nat × Nat × Nat × Nat × Nat × Nat × Nat × Nat × List T) := .one (.exit 0) ⟨[(8, .box [.leaf, .leaf, .leaf, .leaf] [.flt .f32 0, .flt .f32 0, .flt .f32 0, .flt .f32 0] [] 0), (11, .box [.leaf, .leaf, .leaf, .leaf] [.flt .f32 0, .flt .f32 0, .flt .f32 0, .flt .f32 0] [] 0), (12, .val false [.sl .own [.leaf]] [.lst 0 []] [] 0)], 0⟩ sg_ffffffffl
def f96_i_Filterrun.l0.F (n m : Nat) (v : Int × Bool × Nat × List T × Nat × Nat × Nat × Nat × Nat × Nat × Nat × Nat × Nat × Nat × Nat × Nat × Nat × Nat × List T × Nat × List T × Int × Int) := f96_i_Filterrun.l0 n m v.1 v.2.1 v.2.2.1 v.2.2.2.1 v.2.2.2.2.1 v.2.2.2.2.2.1 v.2.2.2.2.2.2.1 v.2.2.2.2.2.2.2.1 v.2.2.2.2.2.2.2.2.1 v.2.2.2.2.2.2.2.2.2.1 v.2.2.2.2.2.2.2.2.2.2.1 v.2.2.2.2.2.2.2.2.2.2.2.1 v.2.2.2.2.2.2.2.2.2.2.2.2.1 v.2.2.2.2.2.2.2.2.2.2.2.2.2.1 v.2.2.2.2.2.2.2.2.2.2.2.2.2.2.1 v.2.2.2.2.2.2.2.2.2.2.2.2.2.2.2.1 v.2.2.2.2.2.2.2.2.2.2.2.2.2.2.2.2.1 v.2.2.2.2.2.2.2.2.2.2.2.2.2.2.2.2.2.1 v.2.2.2.2.2.2.2.2.2.2.2.2.2.2.2.2.2.2.1 v.2.2.2.2.2.2.2.2.2.2.2.2.2.2.2.2.2.2.2.1 v.2.2.2.2.2.2.2.2.2.2.2.2.2.2.2.2.2.2.2.2.1 v.2.2.2.2.2.2.2.2.2.2.2.2.2.2.2.2.2.2.2.2.2.1 v.2.2.2.2.2.2.2.2.2.2.2.2.2.2.2.2.2.2.2.2.2.2
def f96_i_Filterrun.l0.W (n : Nat) : LpW := .of 48 f96_i_Filterrun.l0.P sg_iblfffffffffffffllii f96_i_Filterrun.l0.A (f96_i_Filterrun.l0.F n n)
def f96_i_Filterrun.P : List Arg := [⟨.val, ⟨true, [.leaf, .leaf, .leaf, .leaf, .leaf], [.flt .f32 0, .flt .f32 0, .flt .f32 0, .flt .f32 0, .flt .f32 0]⟩⟩, ⟨.val, ⟨false, [.leaf], [.int .i64 0]⟩⟩, ⟨.val, ⟨false, [.leaf], [.bool false]⟩⟩, ⟨.val, ⟨true, [.leaf, .leaf, .leaf, .leaf], [.flt .f32 0, .flt .f32 0, .flt .f32 0, .flt .f32 0]⟩⟩, ⟨.val, ⟨false, [.sl .shr [.leaf]], [.lst 0 []]⟩⟩]
def f96_i_Filterrun.A : RAlt (Nat × List T × Nat × Nat × Nat × Nat) := .one ⟨[⟨false, [.sl .own [.leaf]], [.lst 0 []]⟩, ⟨true, [.leaf, .leaf, .leaf, .leaf], [.flt .f32 0, .flt .f32 0, .flt .f32 0, .flt .f32 0]⟩], [none, none, none, none, none]⟩ sg_lffff
def f96_i_Filterrun.F (n : Nat) (v : Nat × Nat × Nat × Nat × Nat × Int × Bool × Nat × Nat × Nat × Nat × Nat × List T) := f96_i_Filterrun n v.1 v.2.1 v.2.2.1 v.2.2.2.1 v.2.2.2.2.1 v.2.2.2.2.2.1 v.2.2.2.2.2.2.1 v.2.2.2.2.2.2.2.1 v.2.2.2.2.2.2.2.2.1 v.2.2.2.2.2.2.2.2.2.1 v.2.2.2.2.2.2.2.2.2.2.1 v.2.2.2.2.2.2.2.2.2.2.2.1 v.2.2.2.2.2.2.2.2.2.2.2.2
noncomputable def f96_i_Filterrun.O (n : Nat) : Orc := orcOf (E := E) [f142_i_Filterstep.w] [f96_i_Filterrun.l0.W n] n
theorem f96_i_Filterrun.l0.ok (n : Nat) : LpOk (f96_i_Filterrun.O n) E (evalFn E n) n (keepAt 96) (.loop (loopAt c96 0)) :=
  lp_pure f96_i_Filterrun.l0.P sg_iblfffffffffffffllii f96_i_Filterrun.l0.A (f96_i_Filterrun.l0.F n) (orcOf_cf _ _ n) (lpOk_of (bs := []) (by kernel_rfl) .nil) (fun _ => rfl) (fun _ _ => by kernel_rfl) (fun _ _ _ => by kernel_rfl)
theorem f96_i_Filterrun.ok : ∀ n v x, f96_i_Filterrun.F n v = some x → evalFn E n 96 (flAs f96_i_Filterrun.P (sg_fffffibffffl.pk v)) = some (f96_i_Filterrun.A.enc x) :=
  fn_pure (modes := (fdAt 96).ms) (outs := (fdAt 96).os) (results := (fdAt 96).rs) f96_i_Filterrun.O (c := c96) (keep := keepAt 96) (by kernel_rfl) (fun n => orcOf_cf _ _ n) (fun n => lpOk_of (bs := [loopAt c96 0]) (by kernel_rfl) (.cons (f96_i_Filterrun.l0.ok n) .nil)) (fun _ => rfl) (fun _ _ => by kernel_rfl)
noncomputable def f96_i_Filterrun.w : FnW E := fnW 96 f96_i_Filterrun.P sg_fffffibffffl f96_i_Filterrun.A f96_i_Filterrun.F f96_i_Filterrun.ok

def f168_i_take : Nat → Nat → List T → Nat → Option (Nat × List T)
  | 0, _, _, _ => none
  | n + 1, n1, l2, x3 =>
    gd (decide (((0 : Int) ≤ (1 : Int)) ∧ (((1 : Int) ≤ ((n1 : Nat) : Int)) ∧ (((n1 : Nat) : Int) ≤ ((n1 : Nat) : Int))))) (
    bd (f84_i_copyNumbers n (n1 - 1) (List.take (n1 - 1) (List.drop 1 l2))) fun r4 =>
    let n5 : Nat := r4.1
    let l6 : List T := r4.2
    gd (Nat.ble (n5 + 1) 2147483648) (
    some ((n5 + 1), (l6 ++ (setN (reps 1 [(T.flt FloatKind.f32 0)]) 0 [(T.flt FloatKind.f32 x3)])))))
def f168_i_take.P : List Arg := [⟨.val, ⟨false, [.sl .shr [.leaf]], [.lst 0 []]⟩⟩, ⟨.val, ⟨false, [.leaf], [.flt .f32 0]⟩⟩]
def f168_i_take.A : RAlt (Nat × List T) := .one ⟨[⟨false, [.sl .own [.leaf]], [.lst 0 []]⟩], [none, none]⟩ sg_l
def f168_i_take.F (n : Nat) (v : Nat × List T × Nat) := f168_i_take n v.1 v.2.1 v.2.2
noncomputable def f168_i_take.O (n : Nat) : Orc := orcOf (E := E) [f84_i_copyNumbers.w] [] n
theorem f168_i_take.ok : ∀ n v x, f168_i_take.F n v = some x → evalFn E n 168 (flAs f168_i_take.P (sg_lf.pk v)) = some (f168_i_take.A.enc x) :=
  fn_pure (modes := (fdAt 168).ms) (outs := (fdAt 168).os) (results := (fdAt 168).rs) f168_i_take.O (c := c168) (keep := keepAt 168) (by kernel_rfl) (fun n => orcOf_cf _ _ n) (fun n => lpOk_of (bs := []) (by kernel_rfl) .nil) (fun _ => rfl) (fun _ _ => by kernel_rfl)
noncomputable def f168_i_take.w : FnW E := fnW 168 f168_i_take.P sg_lf f168_i_take.A f168_i_take.F f168_i_take.ok

def f135_i_Effectrun.l0 (n : Nat) : Nat → Nat → List T → Nat → List T → Nat → List T → Nat → List T → Nat → List T → Int → Int → Option (Nat × List T × Nat × List T)
  | 0, _, _, _, _, _, _, _, _, _, _, _, _ => none
  | m + 1, n1, l2, n3, l4, n5, l6, n7, l8, n9, l10, i11, i12 =>
    br (decide (i12 < i11)) (
     gd ((decide (((0 : Int) ≤ i12) ∧ (i12 < ((n9 : Nat) : Int)))) && (okAt [(CK.flt FloatKind.f32)] l10 (Int.toNat i12))) (
     let x13 : Nat := (fAt l10 (Int.toNat i12))
     gd (decide (((0 : Int) ≤ (0 : Int)) ∧ ((0 : Int) < ((n5 : Nat) : Int)))) (
     gd (okAt [(CK.flt FloatKind.f32)] l6 0) (
     let x14 : Nat := (fAt l6 0)
     gd ((decide (((0 : Int) ≤ (1 : Int)) ∧ ((1 : Int) < ((n3 : Nat) : Int)))) && (okAt [(CK.flt FloatKind.f32)] l4 1)) (
     gd (Nat.ble (n7 + 1) 2147483648) (
     let n15 : Nat := (n7 + 1)
     let l16 : List T := (l8 ++ (setN (reps 1 [(T.flt FloatKind.f32 0)]) 0 [(T.flt FloatKind.f32 (fadd FloatKind.f32 x13 (fmul FloatKind.f32 (fAt l4 1) x14)))]))
     gd ((decide (((0 : Int) ≤ (0 : Int)) ∧ ((0 : Int) < ((n3 : Nat) : Int)))) && (okAt [(CK.flt FloatKind.f32)] l4 0)) (
     bd (f169_i_FlushNumber n (fadd FloatKind.f32 x13 (fmul FloatKind.f32 (fAt l4 0) x14))) fun r17 =>
     let x18 : Nat := r17
     bd (f168_i_take n n5 l6 x18) fun r19 =>
     let n20 : Nat := r19.1
     let l21 : List T := r19.2
     f135_i_Effectrun.l0 n m n1 l2 n3 l4 n20 l21 n15 l16 n9 l10 i11 (IntKind.i64.wrap (i12 + (1 : Int)))))))))) (
     some (n5, l6, n7, l8))
termination_by structural x => x
def f204_i_absolute : Nat → Nat → Option (Nat)
  | 0, _ => none
  | n + 1, x1 =>
    bd ((fltToFlt FloatKind.f32 x1 FloatKind.f64)) fun y2 =>
    bd (xAbs n y2) fun r3 =>
    let x4 : Nat := r3
    bd ((fltToFlt FloatKind.f64 x4 FloatKind.f32)) fun y5 =>
    some y5
def f204_i_absolute.P : List Arg := [⟨.val, ⟨false, [.leaf], [.flt .f32 0]⟩⟩]
def f204_i_absolute.A : RAlt (Nat) := .one ⟨[⟨false, [.leaf], [.flt .f32 0]⟩], [none]⟩ sg_f
def f204_i_absolute.F (n : Nat) (v : Nat) := f204_i_absolute n v
noncomputable def f204_i_absolute.O (n : Nat) : Orc := orcOf (E := E) [x206.w] [] n
theorem f204_i_absolute.ok : ∀ n v x, f204_i_absolute.F n v = some x → evalFn E n 204 (flAs f204_i_absolute.P (sg_f.pk v)) = some (f204_i_absolute.A.enc x) :=
  fn_pure (modes := (fdAt 204).ms) (outs := (fdAt 204).os) (results := (fdAt 204).rs) f204_i_absolute.O (c := c204) (keep := keepAt 204) (by kernel_rfl) (fun n => orcOf_cf _ _ n) (fun n => lpOk_of (bs := []) (by kernel_rfl) .nil) (fun _ => rfl) (fun _ _ => by kernel_rfl)
noncomputable def f204_i_absolute.w : FnW E := fnW 204 f204_i_absolute.P sg_f f204_i_absolute.A f204_i_absolute.F f204_i_absolute.ok

def f202_i_Followerstep : Nat → Nat → Nat → Nat → Nat → Option (Nat × Nat × Nat)
  | 0, _, _, _, _ => none
  | n + 1, x1, x2, x3, x4 =>
    bd (f204_i_absolute n x4) fun r5 =>
    let x6 : Nat := r5
    br (fgt FloatKind.f32 x6 x3) (
     bd (f169_i_FlushNumber n (fadd FloatKind.f32 x3 (fmul FloatKind.f32 x1 (fsub FloatKind.f32 x6 x3)))) fun r7 =>
     let x8 : Nat := r7
     some (x1, x2, x8)) (
     bd (f169_i_FlushNumber n (fadd FloatKind.f32 x3 (fmul FloatKind.f32 x2 (fsub FloatKind.f32 x6 x3)))) fun r9 =>
     let x10 : Nat := r9
     some (x1, x2, x10))
def sg_ffff : Sig (Nat × Nat × Nat × Nat) where
  pk := fun v => [.flt v.1, .flt v.2.1, .flt v.2.2.1, .flt v.2.2.2]
  up := fun ls => match ls with
    | [.flt a0, .flt a1, .flt a2, .flt a3] => some (a0, a1, a2, a3)
    | _ => none
  ok := by
    intro ls v h
    split at h
    · cases h; rfl
    · cases h

def sg_fff : Sig (Nat × Nat × Nat) where
  pk := fun v => [.flt v.1, .flt v.2.1, .flt v.2.2]
  up := fun ls => match ls with
    | [.flt a0, .flt a1, .flt a2] => some (a0, a1, a2)
    | _ => none
  ok := by
    intro ls v h
    split at h
    · cases h; rfl
    · cases h

def f202_i_Followerstep.P : List Arg := [⟨.iop, ⟨false, [.rf .own [.leaf, .leaf, .leaf]], [.ref [.flt .f32 0, .flt .f32 0, .flt .f32 0]]⟩⟩, ⟨.val, ⟨false, [.leaf], [.flt .f32 0]⟩⟩]
def f202_i_Followerstep.A : RAlt (Nat × Nat × Nat) := .one ⟨[], [some ⟨false, [.rf .own [.leaf, .leaf, .leaf]], [.ref [.flt .f32 0, .flt .f32 0, .flt .f32 0]]⟩, none]⟩ sg_fff
def f202_i_Followerstep.F (n : Nat) (v : Nat × Nat × Nat × Nat) := f202_i_Followerstep n v.1 v.2.1 v.2.2.1 v.2.2.2
noncomputable def f202_i_Followerstep.O (n : Nat) : Orc := orcOf (E := E) [f169_i_FlushNumber.w, f204_i_absolute.w] [] n
theorem f202_i_Followerstep.ok : ∀ n v x, f202_i_Followerstep.F n v = some x → evalFn E n 202 (flAs f202_i_Followerstep.P (sg_ffff.pk v)) = some (f202_i_Followerstep.A.enc x) :=
  fn_pure (modes := (fdAt 202).ms) (outs := (fdAt 202).os) (results := (fdAt 202).rs) f202_i_Followerstep.O (c := c202) (keep := keepAt 202) (by kernel_rfl) (fun n => orcOf_cf _ _ n) (fun n => lpOk_of (bs := []) (by kernel_rfl) .nil) (fun _ => rfl) (fun _ _ => by kernel_rfl)
noncomputable def f202_i_Followerstep.w : FnW E := fnW 202 f202_i_Followerstep.P sg_ffff f202_i_Followerstep.A f202_i_Followerstep.F f202_i_Followerstep.ok

def f203_i_GainFor : Nat → Nat → Nat → Nat → Option (Nat)
  | 0, _, _, _ => none
  | n + 1, x1, x2, x3 =>
    br (!(fgt FloatKind.f32 x1 x2)) (
     some 1065353216) (
     some (fdiv FloatKind.f32 (fadd FloatKind.f32 x2 (fdiv FloatKind.f32 (fsub FloatKind.f32 x1 x2) x3)) x1))
def f203_i_GainFor.P : List Arg := [⟨.val, ⟨false, [.leaf], [.flt .f32 0]⟩⟩, ⟨.val, ⟨false, [.leaf], [.flt .f32 0]⟩⟩, ⟨.val, ⟨false, [.leaf], [.flt .f32 0]⟩⟩]
def f203_i_GainFor.A : RAlt (Nat) := .one ⟨[⟨false, [.leaf], [.flt .f32 0]⟩], [none, none, none]⟩ sg_f
def f203_i_GainFor.F (n : Nat) (v : Nat × Nat × Nat) := f203_i_GainFor n v.1 v.2.1 v.2.2
noncomputable def f203_i_GainFor.O (n : Nat) : Orc := orcOf (E := E) [] [] n
theorem f203_i_GainFor.ok : ∀ n v x, f203_i_GainFor.F n v = some x → evalFn E n 203 (flAs f203_i_GainFor.P (sg_fff.pk v)) = some (f203_i_GainFor.A.enc x) :=
  fn_pure (modes := (fdAt 203).ms) (outs := (fdAt 203).os) (results := (fdAt 203).rs) f203_i_GainFor.O (c := c203) (keep := keepAt 203) (by kernel_rfl) (fun n => orcOf_cf _ _ n) (fun n => lpOk_of (bs := []) (by kernel_rfl) .nil) (fun _ => rfl) (fun _ _ => by kernel_rfl)
noncomputable def f203_i_GainFor.w : FnW E := fnW 203 f203_i_GainFor.P sg_fff f203_i_GainFor.A f203_i_GainFor.F f203_i_GainFor.ok

def f191_i_DuckSamples.l0 (n : Nat) : Nat → Nat → List T → Nat → List T → Nat → Nat → Nat → Nat → Nat → Nat → Nat → Nat → Nat → Nat → Nat → List T → Nat → List T → Int → Int → Option (Nat × Nat × Nat × Nat × Nat × Nat × Nat × Nat × Nat × Nat × Nat × List T)
  | 0, _, _, _, _, _, _, _, _, _, _, _, _, _, _, _, _, _, _, _, _ => none
  | m + 1, n1, l2, n3, l4, x5, x6, x7, x8, x9, x10, x11, x12, x13, x14, n15, l16, n17, l18, i19, i20 =>
    br (decide (i20 < i19)) (
     gd ((decide (((0 : Int) ≤ i20) ∧ (i20 < ((n17 : Nat) : Int)))) && (okAt [(CK.flt FloatKind.f32)] l18 (Int.toNat i20))) (
     let x21 : Nat := (fAt l18 (Int.toNat i20))
     gd ((decide (((0 : Int) ≤ i20) ∧ (i20 < ((n3 : Nat) : Int)))) && (okAt [(CK.flt FloatKind.f32)] l4 (Int.toNat i20))) (
     bd (f202_i_Followerstep n x5 x6 x7 (fAt l4 (Int.toNat i20))) fun r22 =>
     let x23 : Nat := r22.1
     let x24 : Nat := r22.2.1
     let x25 : Nat := r22.2.2
     bd (f203_i_GainFor n x25 x8 x9) fun r26 =>
     let x27 : Nat := r26
     gd (Nat.ble (n15 + 1) 2147483648) (
     let n28 : Nat := (n15 + 1)
     let l29 : List T := (l16 ++ (setN (reps 1 [(T.flt FloatKind.f32 0)]) 0 [(T.flt FloatKind.f32 (fmul FloatKind.f32 x21 x27))]))
     f191_i_DuckSamples.l0 n m n1 l2 n3 l4 x23 x24 x25 x8 x9 x10 x11 x12 x13 x14 n28 l29 n17 l18 i19 (IntKind.i64.wrap (i20 + (1 : Int))))))) (
     some (x5, x6, x7, x8, x9, x10, x11, x12, x13, x14, n15, l16))
termination_by structural x => x
def f191_i_DuckSamples : Nat → Nat → Nat → Nat → Nat → Nat → Nat → List T → Nat → List T → Option (Nat × List T × Nat × Nat × Nat × Nat × Nat × Bool)
  | 0, _, _, _, _, _, _, _, _, _ => none
  | n + 1, x1, x2, x3, x4, x5, n6, l7, n8, l9 =>
    bd (f66_i_areSamples n n6 l7) fun r10 =>
    let b11 : Bool := r10
    br (!b11) (
     some (0, [], 0, 0, 0, 0, 0, false)) (
     br (((n8 : Nat) : Int) != ((n6 : Nat) : Int)) (
      some (0, [], 0, 0, 0, 0, 0, false)) (
      bd (f191_i_DuckSamples.l0 n n n6 l7 n8 l9 x1 x2 x3 x4 x5 0 0 0 0 0 0 [] n6 l7 ((n6 : Nat) : Int) (0 : Int)) fun r12 =>
      let x13 : Nat := r12.1
      let x14 : Nat := r12.2.1
      let x15 : Nat := r12.2.2.1
      let x16 : Nat := r12.2.2.2.1
      let x17 : Nat := r12.2.2.2.2.1
      let x18 : Nat := r12.2.2.2.2.2.1
      let x19 : Nat := r12.2.2.2.2.2.2.1
      let x20 : Nat := r12.2.2.2.2.2.2.2.1
      let x21 : Nat := r12.2.2.2.2.2.2.2.2.1
      let x22 : Nat := r12.2.2.2.2.2.2.2.2.2.1
      let n23 : Nat := r12.2.2.2.2.2.2.2.2.2.2.1
      let l24 : List T := r12.2.2.2.2.2.2.2.2.2.2.2
      some (n23, l24, x13, x14, x15, x16, x17, true)))
def sg_fffffll : Sig (Nat × Nat × Nat × Nat × Nat × Nat × List T × Nat × List T) where
  pk := fun v => [.flt v.1, .flt v.2.1, .flt v.2.2.1, .flt v.2.2.2.1, .flt v.2.2.2.2.1, .lst v.2.2.2.2.2.1 v.2.2.2.2.2.2.1, .lst v.2.2.2.2.2.2.2.1 v.2.2.2.2.2.2.2.2]
  up := fun ls => match ls with
    | [.flt a0, .flt a1, .flt a2, .flt a3, .flt a4, .lst a5 a6, .lst a7 a8] => some (a0, a1, a2, a3, a4, a5, a6, a7, a8)
    | _ => none
  ok := by
    intro ls v h
    split at h
    · cases h; rfl
    · cases h

def sg_lfffffb : Sig (Nat × List T × Nat × Nat × Nat × Nat × Nat × Bool) where
  pk := fun v => [.lst v.1 v.2.1, .flt v.2.2.1, .flt v.2.2.2.1, .flt v.2.2.2.2.1, .flt v.2.2.2.2.2.1, .flt v.2.2.2.2.2.2.1, .bool v.2.2.2.2.2.2.2]
  up := fun ls => match ls with
    | [.lst a0 a1, .flt a2, .flt a3, .flt a4, .flt a5, .flt a6, .bool a7] => some (a0, a1, a2, a3, a4, a5, a6, a7)
    | _ => none
  ok := by
    intro ls v h
    split at h
    · cases h; rfl
    · cases h

def sg_llffffffffffllii : Sig (Nat × List T × Nat × List T × Nat × Nat × Nat × Nat × Nat × Nat × Nat × Nat × Nat × Nat × Nat × List T × Nat × List T × Int × Int) where
  pk := fun v => [.lst v.1 v.2.1, .lst v.2.2.1 v.2.2.2.1, .flt v.2.2.2.2.1, .flt v.2.2.2.2.2.1, .flt v.2.2.2.2.2.2.1, .flt v.2.2.2.2.2.2.2.1, .flt v.2.2.2.2.2.2.2.2.1, .flt v.2.2.2.2.2.2.2.2.2.1, .flt v.2.2.2.2.2.2.2.2.2.2.1, .flt v.2.2.2.2.2.2.2.2.2.2.2.1, .flt v.2.2.2.2.2.2.2.2.2.2.2.2.1, .flt v.2.2.2.2.2.2.2.2.2.2.2.2.2.1, .lst v.2.2.2.2.2.2.2.2.2.2.2.2.2.2.1 v.2.2.2.2.2.2.2.2.2.2.2.2.2.2.2.1, .lst v.2.2.2.2.2.2.2.2.2.2.2.2.2.2.2.2.1 v.2.2.2.2.2.2.2.2.2.2.2.2.2.2.2.2.2.1, .int v.2.2.2.2.2.2.2.2.2.2.2.2.2.2.2.2.2.2.1, .int v.2.2.2.2.2.2.2.2.2.2.2.2.2.2.2.2.2.2.2]
  up := fun ls => match ls with
    | [.lst a0 a1, .lst a2 a3, .flt a4, .flt a5, .flt a6, .flt a7, .flt a8, .flt a9, .flt a10, .flt a11, .flt a12, .flt a13, .lst a14 a15, .lst a16 a17, .int a18, .int a19] => some (a0, a1, a2, a3, a4, a5, a6, a7, a8, a9, a10, a11, a12, a13, a14, a15, a16, a17, a18, a19)
    | _ => none
  ok := by
    intro ls v h
    split at h
    · cases h; rfl
    · cases h

def sg_ffffffffffl : Sig (Nat × Nat × Nat × Nat × Nat × Nat × Nat × Nat × Nat × Nat × Nat × List T) where
  pk := fun v => [.flt v.1, .flt v.2.1, .flt v.2.2.1, .flt v.2.2.2.1, .flt v.2.2.2.2.1, .flt v.2.2.2.2.2.1, .flt v.2.2.2.2.2.2.1, .flt v.2.2.2.2.2.2.2.1, .flt v.2.2.2.2.2.2.2.2.1, .flt v.2.2.2.2.2.2.2.2.2.1, .lst v.2.2.2.2.2.2.2.2.2.2.1 v.2.2.2.2.2.2.2.2.2.2.2]
  up := fun ls => match ls with
    | [.flt a0, .flt a1, .flt a2, .flt a3, .flt a4, .flt a5, .flt a6, .flt a7, .flt a8, .flt a9, .lst a10 a11] => some (a0, a1, a2, a3, a4, a5, a6, a7, a8, a9, a10, a11)
    | _ => none
  ok := by
    intro ls v h
    split at h
    · cases h; rfl
    · cases h

def f191_i_DuckSamples.l0.P : AS := ⟨[(1, .val false [.sl .shr [.leaf]] [.lst 0 []] [] 0), (2, .val false [.sl .shr [.leaf]] [.lst 0 []] [] 0), (3, .box [.leaf, .leaf, .leaf, .leaf, .leaf] [.flt .f32 0, .flt .f32 0, .flt .f32 0, .flt .f32 0, .flt .f32 0] [] 0), (7, .box [.leaf, .leaf, .leaf, .leaf, .leaf] [.flt .f32 0, .flt .f32 0, .flt .f32 0, .flt .f32 0, .flt .f32 0] [] 0), (9, .val false [.sl .own [.leaf]] [.lst 0 []] [] 0), (23, .val false [.sl .shr [.leaf]] [.lst 0 []] [] 0), (24, .val false [.leaf] [.int .i64 0] [] 0), (25, .val false [.leaf] [.int .i64 0] [] 0)], 0⟩
def f191_i_DuckSamples.l0.A : Alt (Nat × Nat × Nat × Nat × Nat × Nat × Nat × Nat × Nat × Nat × Nat × List T) := .one (.exit 0) ⟨[(3, .box [.leaf, .leaf, .leaf, .leaf, .leaf] [.flt .f32 0, .flt .f32 0, .flt .f32 0, .flt .f32 0, .flt .f32 0] [] 0), (7, .box [.leaf, .leaf, .leaf, .leaf, .leaf] [.flt .f32 0, .flt .f32 0, .flt .f32 0, .flt .f32 0, .flt .f32 0] [] 0), (9, .val false [.sl .own [.leaf]] [.lst 0 []] [] 0)], 0⟩ sg_ffffffffffl
def f191_i_DuckSamples.l0.F (n m : Nat) (v : Nat × List T × Nat × List T × Nat × Nat × Nat × Nat × Nat × Nat × Nat × Nat × Nat × Nat × Nat × List T × Nat × List T × Int × Int) := f191_i_DuckSamples.l0 n m v.1 v.2.1 v.2.2.1 v.2.2.2.1 v.2.2.2.2.1 v.2.2.2.2.2.1 v.2.2.2.2.2.2.1 v.2.2.2.2.2.2.2.1 v.2.2.2.2.2.2.2.2.1 v.2.2.2.2.2.2.2.2.2.1 v.2.2.2.2.2.2.2.2.2.2.1 v.2.2.2.2.2.2.2.2.2.2.2.1 v.2.2.2.2.2.2.2.2.2.2.2.2.1 v.2.2.2.2.2.2.2.2.2.2.2.2.2.1 v.2.2.2.2.2.2.2.2.2.2.2.2.2.2.1 v.2.2.2.2.2.2.2.2.2.2.2.2.2.2.2.1 v.2.2.2.2.2.2.2.2.2.2.2.2.2.2.2.2.1 v.2.2.2.2.2.2.2.2.2.2.2.2.2.2.2.2.2.1 v.2.2.2.2.2.2.2.2.2.2.2.2.2.2.2.2.2.2.1 v.2.2.2.2.2.2.2.2.2.2.2.2.2.2.2.2.2.2.2
def f191_i_DuckSamples.l0.W (n : Nat) : LpW := .of 80 f191_i_DuckSamples.l0.P sg_llffffffffffllii f191_i_DuckSamples.l0.A (f191_i_DuckSamples.l0.F n n)
def f191_i_DuckSamples.P : List Arg := [⟨.val, ⟨true, [.leaf, .leaf, .leaf, .leaf, .leaf], [.flt .f32 0, .flt .f32 0, .flt .f32 0, .flt .f32 0, .flt .f32 0]⟩⟩, ⟨.val, ⟨false, [.sl .shr [.leaf]], [.lst 0 []]⟩⟩, ⟨.val, ⟨false, [.sl .shr [.leaf]], [.lst 0 []]⟩⟩]
def f191_i_DuckSamples.A : RAlt (Nat × List T × Nat × Nat × Nat × Nat × Nat × Bool) := .one ⟨[⟨false, [.sl .own [.leaf]], [.lst 0 []]⟩, ⟨true, [.leaf, .leaf, .leaf, .leaf, .leaf], [.flt .f32 0, .flt .f32 0, .flt .f32 0, .flt .f32 0, .flt .f32 0]⟩, ⟨false, [.leaf], [.bool false]⟩], [none, none, none]⟩ sg_lfffffb
def f191_i_DuckSamples.F (n : Nat) (v : Nat × Nat × Nat × Nat × Nat × Nat × List T × Nat × List T) := f191_i_DuckSamples n v.1 v.2.1 v.2.2.1 v.2.2.2.1 v.2.2.2.2.1 v.2.2.2.2.2.1 v.2.2.2.2.2.2.1 v.2.2.2.2.2.2.2.1 v.2.2.2.2.2.2.2.2
noncomputable def f191_i_DuckSamples.O (n : Nat) : Orc := orcOf (E := E) [f66_i_areSamples.w, f202_i_Followerstep.w, f203_i_GainFor.w] [f191_i_DuckSamples.l0.W n] n
theorem f191_i_DuckSamples.l0.ok (n : Nat) : LpOk (f191_i_DuckSamples.O n) E (evalFn E n) n (keepAt 191) (.loop (loopAt c191 0)) :=
  lp_pure f191_i_DuckSamples.l0.P sg_llffffffffffllii f191_i_DuckSamples.l0.A (f191_i_DuckSamples.l0.F n) (orcOf_cf _ _ n) (lpOk_of (bs := []) (by kernel_rfl) .nil) (fun _ => rfl) (fun _ _ => by kernel_rfl) (fun _ _ _ => by kernel_rfl)
theorem f191_i_DuckSamples.ok : ∀ n v x, f191_i_DuckSamples.F n v = some x → evalFn E n 191 (flAs f191_i_DuckSamples.P (sg_fffffll.pk v)) = some (f191_i_DuckSamples.A.enc x) :=
  fn_pure (modes := (fdAt 191).ms) (outs := (fdAt 191).os) (results := (fdAt 191).rs) f191_i_DuckSamples.O (c := c191) (keep := keepAt 191) (by kernel_rfl) (fun n => orcOf_cf _ _ n) (fun n => lpOk_of (bs := [loopAt c191 0]) (by kernel_rfl) (.cons (f191_i_DuckSamples.l0.ok n) .nil)) (fun _ => rfl) (fun _ _ => by kernel_rfl)
noncomputable def f191_i_DuckSamples.w : FnW E := fnW 191 f191_i_DuckSamples.P sg_fffffll f191_i_DuckSamples.A f191_i_DuckSamples.F f191_i_DuckSamples.ok

def f170_i_RunSqueeze : Nat → Nat → Nat → Nat → Nat → Nat → Nat → List T → Option (Nat × List T × Nat × Nat × Nat × Nat × Nat × Bool)
  | 0, _, _, _, _, _, _, _ => none
  | n + 1, x1, x2, x3, x4, x5, n6, l7 =>
    bd (f191_i_DuckSamples n x1 x2 x3 x4 x5 n6 l7 n6 l7) fun r8 =>
    let n9 : Nat := r8.1
    let l10 : List T := r8.2.1
    let x11 : Nat := r8.2.2.1
    let x12 : Nat := r8.2.2.2.1
    let x13 : Nat := r8.2.2.2.2.1
    let x14 : Nat := r8.2.2.2.2.2.1
    let x15 : Nat := r8.2.2.2.2.2.2.1
    let b16 : Bool := r8.2.2.2.2.2.2.2
    some (n9, l10, x11, x12, x13, x14, x15, b16)
def sg_fffffl : Sig (Nat × Nat × Nat × Nat × Nat × Nat × List T) where
  pk := fun v => [.flt v.1, .flt v.2.1, .flt v.2.2.1, .flt v.2.2.2.1, .flt v.2.2.2.2.1, .lst v.2.2.2.2.2.1 v.2.2.2.2.2.2]
  up := fun ls => match ls with
    | [.flt a0, .flt a1, .flt a2, .flt a3, .flt a4, .lst a5 a6] => some (a0, a1, a2, a3, a4, a5, a6)
    | _ => none
  ok := by
    intro ls v h
    split at h
    · cases h; rfl
    · cases h

def f170_i_RunSqueeze.P : List Arg := [⟨.val, ⟨true, [.leaf, .leaf, .leaf, .leaf, .leaf], [.flt .f32 0, .flt .f32 0, .flt .f32 0, .flt .f32 0, .flt .f32 0]⟩⟩, ⟨.val, ⟨false, [.sl .shr [.leaf]], [.lst 0 []]⟩⟩]
def f170_i_RunSqueeze.A : RAlt (Nat × List T × Nat × Nat × Nat × Nat × Nat × Bool) := .one ⟨[⟨false, [.sl .own [.leaf]], [.lst 0 []]⟩, ⟨true, [.leaf, .leaf, .leaf, .leaf, .leaf], [.flt .f32 0, .flt .f32 0, .flt .f32 0, .flt .f32 0, .flt .f32 0]⟩, ⟨false, [.leaf], [.bool false]⟩], [none, none]⟩ sg_lfffffb
def f170_i_RunSqueeze.F (n : Nat) (v : Nat × Nat × Nat × Nat × Nat × Nat × List T) := f170_i_RunSqueeze n v.1 v.2.1 v.2.2.1 v.2.2.2.1 v.2.2.2.2.1 v.2.2.2.2.2.1 v.2.2.2.2.2.2
noncomputable def f170_i_RunSqueeze.O (n : Nat) : Orc := orcOf (E := E) [f191_i_DuckSamples.w] [] n
theorem f170_i_RunSqueeze.ok : ∀ n v x, f170_i_RunSqueeze.F n v = some x → evalFn E n 170 (flAs f170_i_RunSqueeze.P (sg_fffffl.pk v)) = some (f170_i_RunSqueeze.A.enc x) :=
  fn_pure (modes := (fdAt 170).ms) (outs := (fdAt 170).os) (results := (fdAt 170).rs) f170_i_RunSqueeze.O (c := c170) (keep := keepAt 170) (by kernel_rfl) (fun n => orcOf_cf _ _ n) (fun n => lpOk_of (bs := []) (by kernel_rfl) .nil) (fun _ => rfl) (fun _ _ => by kernel_rfl)
noncomputable def f170_i_RunSqueeze.w : FnW E := fnW 170 f170_i_RunSqueeze.P sg_fffffl f170_i_RunSqueeze.A f170_i_RunSqueeze.F f170_i_RunSqueeze.ok

def f192_i_clipped : Nat → Nat → Nat → Option (Nat)
  | 0, _, _ => none
  | n + 1, x1, x2 =>
    bd (f204_i_absolute n x1) fun r3 =>
    let x4 : Nat := r3
    br (!(fgt FloatKind.f32 x4 x2)) (
     some x1) (
     br (flt FloatKind.f32 x1 0) (
      some (negF FloatKind.f32 x2)) (
      some x2))
def sg_ff : Sig (Nat × Nat) where
  pk := fun v => [.flt v.1, .flt v.2]
  up := fun ls => match ls with
    | [.flt a0, .flt a1] => some (a0, a1)
    | _ => none
  ok := by
    intro ls v h
    split at h
    · cases h; rfl
    · cases h

def f192_i_clipped.P : List Arg := [⟨.val, ⟨false, [.leaf], [.flt .f32 0]⟩⟩, ⟨.val, ⟨false, [.leaf], [.flt .f32 0]⟩⟩]
def f192_i_clipped.A : RAlt (Nat) := .one ⟨[⟨false, [.leaf], [.flt .f32 0]⟩], [none, none]⟩ sg_f
def f192_i_clipped.F (n : Nat) (v : Nat × Nat) := f192_i_clipped n v.1 v.2
noncomputable def f192_i_clipped.O (n : Nat) : Orc := orcOf (E := E) [f204_i_absolute.w] [] n
theorem f192_i_clipped.ok : ∀ n v x, f192_i_clipped.F n v = some x → evalFn E n 192 (flAs f192_i_clipped.P (sg_ff.pk v)) = some (f192_i_clipped.A.enc x) :=
  fn_pure (modes := (fdAt 192).ms) (outs := (fdAt 192).os) (results := (fdAt 192).rs) f192_i_clipped.O (c := c192) (keep := keepAt 192) (by kernel_rfl) (fun n => orcOf_cf _ _ n) (fun n => lpOk_of (bs := []) (by kernel_rfl) .nil) (fun _ => rfl) (fun _ _ => by kernel_rfl)
noncomputable def f192_i_clipped.w : FnW E := fnW 192 f192_i_clipped.P sg_ff f192_i_clipped.A f192_i_clipped.F f192_i_clipped.ok

def f171_i_ClipSamples.l0 (n : Nat) : Nat → Nat → List T → Nat → Nat → List T → Nat → List T → Int → Int → Option (Nat × List T)
  | 0, _, _, _, _, _, _, _, _, _ => none
  | m + 1, n1, l2, x3, n4, l5, n6, l7, i8, i9 =>
    br (decide (i9 < i8)) (
     gd ((decide (((0 : Int) ≤ i9) ∧ (i9 < ((n6 : Nat) : Int)))) && (okAt [(CK.flt FloatKind.f32)] l7 (Int.toNat i9))) (
     let x10 : Nat := (fAt l7 (Int.toNat i9))
     bd (f192_i_clipped n x10 x3) fun r11 =>
     let x12 : Nat := r11
     gd (Nat.ble (n4 + 1) 2147483648) (
     let n13 : Nat := (n4 + 1)
     let l14 : List T := (l5 ++ (setN (reps 1 [(T.flt FloatKind.f32 0)]) 0 [(T.flt FloatKind.f32 x12)]))
     f171_i_ClipSamples.l0 n m n1 l2 x3 n13 l14 n6 l7 i8 (IntKind.i64.wrap (i9 + (1 : Int)))))) (
     some (n4, l5))
def f171_i_ClipSamples : Nat → Nat → List T → Nat → Option (Nat × List T × Bool)
  | 0, _, _, _ => none
  | n + 1, n1, l2, x3 =>
    bd (f66_i_areSamples n n1 l2) fun r4 =>
    let b5 : Bool := r4
    br (!b5) (
     some (0, [], false)) (
     bd (f171_i_ClipSamples.l0 n n n1 l2 x3 0 [] n1 l2 ((n1 : Nat) : Int) (0 : Int)) fun r6 =>
     let n7 : Nat := r6.1
     let l8 : List T := r6.2
     some (n7, l8, true))
def sg_lb : Sig (Nat × List T × Bool) where
  pk := fun v => [.lst v.1 v.2.1, .bool v.2.2]
  up := fun ls => match ls with
    | [.lst a0 a1, .bool a2] => some (a0, a1, a2)
    | _ => none
  ok := by
    intro ls v h
    split at h
    · cases h; rfl
    · cases h

def f171_i_ClipSamples.l0.P : AS := ⟨[(0, .val false [.sl .shr [.leaf]] [.lst 0 []] [] 0), (1, .val false [.leaf] [.flt .f32 0] [] 0), (6, .val false [.sl .own [.leaf]] [.lst 0 []] [] 0), (12, .val false [.sl .shr [.leaf]] [.lst 0 []] [] 0), (13, .val false [.leaf] [.int .i64 0] [] 0), (14, .val false [.leaf] [.int .i64 0] [] 0)], 0⟩
def f171_i_ClipSamples.l0.A : Alt (Nat × List T) := .one (.exit 0) ⟨[(6, .val false [.sl .own [.leaf]] [.lst 0 []] [] 0)], 0⟩ sg_l
def f171_i_ClipSamples.l0.F (n m : Nat) (v : Nat × List T × Nat × Nat × List T × Nat × List T × Int × Int) := f171_i_ClipSamples.l0 n m v.1 v.2.1 v.2.2.1 v.2.2.2.1 v.2.2.2.2.1 v.2.2.2.2.2.1 v.2.2.2.2.2.2.1 v.2.2.2.2.2.2.2.1 v.2.2.2.2.2.2.2.2
def f171_i_ClipSamples.l0.W (n : Nat) : LpW := .of 80 f171_i_ClipSamples.l0.P sg_lfllii f171_i_ClipSamples.l0.A (f171_i_ClipSamples.l0.F n n)
def f171_i_ClipSamples.P : List Arg := [⟨.val, ⟨false, [.sl .shr [.leaf]], [.lst 0 []]⟩⟩, ⟨.val, ⟨false, [.leaf], [.flt .f32 0]⟩⟩]
def f171_i_ClipSamples.A : RAlt (Nat × List T × Bool) := .one ⟨[⟨false, [.sl .own [.leaf]], [.lst 0 []]⟩, ⟨false, [.leaf], [.bool false]⟩], [none, none]⟩ sg_lb
def f171_i_ClipSamples.F (n : Nat) (v : Nat × List T × Nat) := f171_i_ClipSamples n v.1 v.2.1 v.2.2
noncomputable def f171_i_ClipSamples.O (n : Nat) : Orc := orcOf (E := E) [f66_i_areSamples.w, f192_i_clipped.w] [f171_i_ClipSamples.l0.W n] n
theorem f171_i_ClipSamples.l0.ok (n : Nat) : LpOk (f171_i_ClipSamples.O n) E (evalFn E n) n (keepAt 171) (.loop (loopAt c171 0)) :=
  lp_pure f171_i_ClipSamples.l0.P sg_lfllii f171_i_ClipSamples.l0.A (f171_i_ClipSamples.l0.F n) (orcOf_cf _ _ n) (lpOk_of (bs := []) (by kernel_rfl) .nil) (fun _ => rfl) (fun _ _ => by kernel_rfl) (fun _ _ _ => by kernel_rfl)
theorem f171_i_ClipSamples.ok : ∀ n v x, f171_i_ClipSamples.F n v = some x → evalFn E n 171 (flAs f171_i_ClipSamples.P (sg_lf.pk v)) = some (f171_i_ClipSamples.A.enc x) :=
  fn_pure (modes := (fdAt 171).ms) (outs := (fdAt 171).os) (results := (fdAt 171).rs) f171_i_ClipSamples.O (c := c171) (keep := keepAt 171) (by kernel_rfl) (fun n => orcOf_cf _ _ n) (fun n => lpOk_of (bs := [loopAt c171 0]) (by kernel_rfl) (.cons (f171_i_ClipSamples.l0.ok n) .nil)) (fun _ => rfl) (fun _ _ => by kernel_rfl)
noncomputable def f171_i_ClipSamples.w : FnW E := fnW 171 f171_i_ClipSamples.P sg_lf f171_i_ClipSamples.A f171_i_ClipSamples.F f171_i_ClipSamples.ok

def f172_i_BendSample : Nat → Nat → Option (Nat)
  | 0, _ => none
  | n + 1, x1 =>
    br (fge FloatKind.f32 x1 1065353216) (
     some 1065353216) (
     br (fle FloatKind.f32 x1 3212836864) (
      some 3212836864) (
      some (fmul FloatKind.f32 x1 (fsub FloatKind.f32 1069547520 (fmul FloatKind.f32 1056964608 (fmul FloatKind.f32 x1 x1))))))
def f172_i_BendSample.P : List Arg := [⟨.val, ⟨false, [.leaf], [.flt .f32 0]⟩⟩]
def f172_i_BendSample.A : RAlt (Nat) := .one ⟨[⟨false, [.leaf], [.flt .f32 0]⟩], [none]⟩ sg_f
def f172_i_BendSample.F (n : Nat) (v : Nat) := f172_i_BendSample n v
noncomputable def f172_i_BendSample.O (n : Nat) : Orc := orcOf (E := E) [] [] n
theorem f172_i_BendSample.ok : ∀ n v x, f172_i_BendSample.F n v = some x → evalFn E n 172 (flAs f172_i_BendSample.P (sg_f.pk v)) = some (f172_i_BendSample.A.enc x) :=
  fn_pure (modes := (fdAt 172).ms) (outs := (fdAt 172).os) (results := (fdAt 172).rs) f172_i_BendSample.O (c := c172) (keep := keepAt 172) (by kernel_rfl) (fun n => orcOf_cf _ _ n) (fun n => lpOk_of (bs := []) (by kernel_rfl) .nil) (fun _ => rfl) (fun _ _ => by kernel_rfl)
noncomputable def f172_i_BendSample.w : FnW E := fnW 172 f172_i_BendSample.P sg_f f172_i_BendSample.A f172_i_BendSample.F f172_i_BendSample.ok

def f135_i_Effectrun.l1 (n : Nat) : Nat → Nat → List T → Nat → List T → Nat → List T → Int → Int → Option (Nat × List T)
  | 0, _, _, _, _, _, _, _, _ => none
  | m + 1, n1, l2, n3, l4, n5, l6, i7, i8 =>
    br (decide (i8 < i7)) (
     gd ((decide (((0 : Int) ≤ i8) ∧ (i8 < ((n5 : Nat) : Int)))) && (okAt [(CK.flt FloatKind.f32)] l6 (Int.toNat i8))) (
     let x9 : Nat := (fAt l6 (Int.toNat i8))
     bd (f172_i_BendSample n x9) fun r10 =>
     let x11 : Nat := r10
     gd (Nat.ble (n3 + 1) 2147483648) (
     let n12 : Nat := (n3 + 1)
     let l13 : List T := (l4 ++ (setN (reps 1 [(T.flt FloatKind.f32 0)]) 0 [(T.flt FloatKind.f32 x11)]))
     f135_i_Effectrun.l1 n m n1 l2 n12 l13 n5 l6 i7 (IntKind.i64.wrap (i8 + (1 : Int)))))) (
     some (n3, l4))
def f193_i_peakOf.l0 (n : Nat) : Nat → Nat → List T → Nat → Nat → List T → Int → Int → Option (Nat)
  | 0, _, _, _, _, _, _, _ => none
  | m + 1, n1, l2, x3, n4, l5, i6, i7 =>
    br (decide (i7 < i6)) (
     gd ((decide (((0 : Int) ≤ i7) ∧ (i7 < ((n4 : Nat) : Int)))) && (okAt [(CK.flt FloatKind.f32)] l5 (Int.toNat i7))) (
     let x8 : Nat := (fAt l5 (Int.toNat i7))
     bd (f204_i_absolute n x8) fun r9 =>
     let x10 : Nat := r9
     br (fgt FloatKind.f32 x10 x3) (
      f193_i_peakOf.l0 n m n1 l2 x10 n4 l5 i6 (IntKind.i64.wrap (i7 + (1 : Int)))) (
      f193_i_peakOf.l0 n m n1 l2 x3 n4 l5 i6 (IntKind.i64.wrap (i7 + (1 : Int)))))) (
     some x3)
def f193_i_peakOf : Nat → Nat → List T → Option (Nat)
  | 0, _, _ => none
  | n + 1, n1, l2 =>
    bd (f193_i_peakOf.l0 n n n1 l2 0 n1 l2 ((n1 : Nat) : Int) (0 : Int)) fun r3 =>
    let x4 : Nat := r3
    some x4
def sg_lflii : Sig (Nat × List T × Nat × Nat × List T × Int × Int) where
  pk := fun v => [.lst v.1 v.2.1, .flt v.2.2.1, .lst v.2.2.2.1 v.2.2.2.2.1, .int v.2.2.2.2.2.1, .int v.2.2.2.2.2.2]
  up := fun ls => match ls with
    | [.lst a0 a1, .flt a2, .lst a3 a4, .int a5, .int a6] => some (a0, a1, a2, a3, a4, a5, a6)
    | _ => none
  ok := by
    intro ls v h
    split at h
    · cases h; rfl
    · cases h

def f193_i_peakOf.l0.P : AS := ⟨[(0, .val false [.sl .shr [.leaf]] [.lst 0 []] [] 0), (3, .val false [.leaf] [.flt .f32 0] [] 0), (7, .val false [.sl .shr [.leaf]] [.lst 0 []] [] 0), (8, .val false [.leaf] [.int .i64 0] [] 0), (9, .val false [.leaf] [.int .i64 0] [] 0)], 0⟩
def f193_i_peakOf.l0.A : Alt (Nat) := .one (.exit 0) ⟨[(3, .val false [.leaf] [.flt .f32 0] [] 0)], 0⟩ sg_f
def f193_i_peakOf.l0.F (n m : Nat) (v : Nat × List T × Nat × Nat × List T × Int × Int) := f193_i_peakOf.l0 n m v.1 v.2.1 v.2.2.1 v.2.2.2.1 v.2.2.2.2.1 v.2.2.2.2.2.1 v.2.2.2.2.2.2
def f193_i_peakOf.l0.W (n : Nat) : LpW := .of 48 f193_i_peakOf.l0.P sg_lflii f193_i_peakOf.l0.A (f193_i_peakOf.l0.F n n)
def f193_i_peakOf.P : List Arg := [⟨.val, ⟨false, [.sl .shr [.leaf]], [.lst 0 []]⟩⟩]
def f193_i_peakOf.A : RAlt (Nat) := .one ⟨[⟨false, [.leaf], [.flt .f32 0]⟩], [none]⟩ sg_f
def f193_i_peakOf.F (n : Nat) (v : Nat × List T) := f193_i_peakOf n v.1 v.2
noncomputable def f193_i_peakOf.O (n : Nat) : Orc := orcOf (E := E) [f204_i_absolute.w] [f193_i_peakOf.l0.W n] n
theorem f193_i_peakOf.l0.ok (n : Nat) : LpOk (f193_i_peakOf.O n) E (evalFn E n) n (keepAt 193) (.loop (loopAt c193 0)) :=
  lp_pure f193_i_peakOf.l0.P sg_lflii f193_i_peakOf.l0.A (f193_i_peakOf.l0.F n) (orcOf_cf _ _ n) (lpOk_of (bs := []) (by kernel_rfl) .nil) (fun _ => rfl) (fun _ _ => by kernel_rfl) (fun _ _ _ => by kernel_rfl)
theorem f193_i_peakOf.ok : ∀ n v x, f193_i_peakOf.F n v = some x → evalFn E n 193 (flAs f193_i_peakOf.P (sg_l.pk v)) = some (f193_i_peakOf.A.enc x) :=
  fn_pure (modes := (fdAt 193).ms) (outs := (fdAt 193).os) (results := (fdAt 193).rs) f193_i_peakOf.O (c := c193) (keep := keepAt 193) (by kernel_rfl) (fun n => orcOf_cf _ _ n) (fun n => lpOk_of (bs := [loopAt c193 0]) (by kernel_rfl) (.cons (f193_i_peakOf.l0.ok n) .nil)) (fun _ => rfl) (fun _ _ => by kernel_rfl)
noncomputable def f193_i_peakOf.w : FnW E := fnW 193 f193_i_peakOf.P sg_l f193_i_peakOf.A f193_i_peakOf.F f193_i_peakOf.ok

def f173_i_RunLimiter.l0 (n : Nat) : Nat → Nat → List T → Nat → Nat → Nat → Nat → List T → Nat → Nat → Nat → Nat → List T → Nat → List T → Nat → List T → Int → Int → Option (Nat × Nat × Nat × Nat × List T × Nat × Nat × Nat × Nat × List T × Nat × List T)
  | 0, _, _, _, _, _, _, _, _, _, _, _, _, _, _, _, _, _, _ => none
  | m + 1, n1, l2, x3, x4, x5, n6, l7, x8, x9, x10, n11, l12, n13, l14, n15, l16, i17, i18 =>
    br (decide (i18 < i17)) (
     gd ((decide (((0 : Int) ≤ i18) ∧ (i18 < ((n15 : Nat) : Int)))) && (okAt [(CK.flt FloatKind.f32)] l16 (Int.toNat i18))) (
     let x19 : Nat := (fAt l16 (Int.toNat i18))
     bd (f84_i_copyNumbers n n6 l7) fun r20 =>
     let n21 : Nat := r20.1
     let l22 : List T := r20.2
     gd (Nat.ble (n21 + 1) 2147483648) (
     let n23 : Nat := (n21 + 1)
     let l24 : List T := (l22 ++ (setN (reps 1 [(T.flt FloatKind.f32 0)]) 0 [(T.flt FloatKind.f32 x19)]))
     bd (f193_i_peakOf n n23 l24) fun r25 =>
     let x26 : Nat := r25
     br (fgt FloatKind.f32 x26 x3) (
      let x27 : Nat := (fdiv FloatKind.f32 x3 x26)
      let x28 : Nat := (fadd FloatKind.f32 x5 x4)
      br (flt FloatKind.f32 x27 x28) (
       gd (decide (((0 : Int) ≤ (1 : Int)) ∧ (((1 : Int) ≤ ((n23 : Nat) : Int)) ∧ (((n23 : Nat) : Int) ≤ ((n23 : Nat) : Int))))) (
       let n29 : Nat := (n23 - 1)
       let l30 : List T := (List.take (n23 - 1) (List.drop 1 l24))
       gd ((decide (((0 : Int) ≤ (0 : Int)) ∧ ((0 : Int) < ((n23 : Nat) : Int)))) && (okAt [(CK.flt FloatKind.f32)] l24 0)) (
       bd (f192_i_clipped n (fmul FloatKind.f32 (fAt l24 0) x27) x3) fun r31 =>
       let x32 : Nat := r31
       gd (Nat.ble (n13 + 1) 2147483648) (
       let n33 : Nat := (n13 + 1)
       let l34 : List T := (l14 ++ (setN (reps 1 [(T.flt FloatKind.f32 0)]) 0 [(T.flt FloatKind.f32 x32)]))
       f173_i_RunLimiter.l0 n m n1 l2 x3 x4 x27 n29 l30 x8 x9 x10 n11 l12 n33 l34 n15 l16 i17 (IntKind.i64.wrap (i18 + (1 : Int))))))) (
       br (fne FloatKind.f32 x28 x28) (
        gd (decide (((0 : Int) ≤ (1 : Int)) ∧ (((1 : Int) ≤ ((n23 : Nat) : Int)) ∧ (((n23 : Nat) : Int) ≤ ((n23 : Nat) : Int))))) (
        let n35 : Nat := (n23 - 1)
        let l36 : List T := (List.take (n23 - 1) (List.drop 1 l24))
        gd ((decide (((0 : Int) ≤ (0 : Int)) ∧ ((0 : Int) < ((n23 : Nat) : Int)))) && (okAt [(CK.flt FloatKind.f32)] l24 0)) (
        bd (f192_i_clipped n (fmul FloatKind.f32 (fAt l24 0) x27) x3) fun r37 =>
        let x38 : Nat := r37
        gd (Nat.ble (n13 + 1) 2147483648) (
        let n39 : Nat := (n13 + 1)
        let l40 : List T := (l14 ++ (setN (reps 1 [(T.flt FloatKind.f32 0)]) 0 [(T.flt FloatKind.f32 x38)]))
        f173_i_RunLimiter.l0 n m n1 l2 x3 x4 x27 n35 l36 x8 x9 x10 n11 l12 n39 l40 n15 l16 i17 (IntKind.i64.wrap (i18 + (1 : Int))))))) (
        gd (decide (((0 : Int) ≤ (1 : Int)) ∧ (((1 : Int) ≤ ((n23 : Nat) : Int)) ∧ (((n23 : Nat) : Int) ≤ ((n23 : Nat) : Int))))) (
        let n41 : Nat := (n23 - 1)
        let l42 : List T := (List.take (n23 - 1) (List.drop 1 l24))
        gd ((decide (((0 : Int) ≤ (0 : Int)) ∧ ((0 : Int) < ((n23 : Nat) : Int)))) && (okAt [(CK.flt FloatKind.f32)] l24 0)) (
        bd (f192_i_clipped n (fmul FloatKind.f32 (fAt l24 0) x28) x3) fun r43 =>
        let x44 : Nat := r43
        gd (Nat.ble (n13 + 1) 2147483648) (
        let n45 : Nat := (n13 + 1)
        let l46 : List T := (l14 ++ (setN (reps 1 [(T.flt FloatKind.f32 0)]) 0 [(T.flt FloatKind.f32 x44)]))
        f173_i_RunLimiter.l0 n m n1 l2 x3 x4 x28 n41 l42 x8 x9 x10 n11 l12 n45 l46 n15 l16 i17 (IntKind.i64.wrap (i18 + (1 : Int))))))))) (
      let x47 : Nat := (fadd FloatKind.f32 x5 x4)
      br (flt FloatKind.f32 1065353216 x47) (
       gd (decide (((0 : Int) ≤ (1 : Int)) ∧ (((1 : Int) ≤ ((n23 : Nat) : Int)) ∧ (((n23 : Nat) : Int) ≤ ((n23 : Nat) : Int))))) (
       let n48 : Nat := (n23 - 1)
       let l49 : List T := (List.take (n23 - 1) (List.drop 1 l24))
       gd ((decide (((0 : Int) ≤ (0 : Int)) ∧ ((0 : Int) < ((n23 : Nat) : Int)))) && (okAt [(CK.flt FloatKind.f32)] l24 0)) (
       bd (f192_i_clipped n (fmul FloatKind.f32 (fAt l24 0) 1065353216) x3) fun r50 =>
       let x51 : Nat := r50
       gd (Nat.ble (n13 + 1) 2147483648) (
       let n52 : Nat := (n13 + 1)
       let l53 : List T := (l14 ++ (setN (reps 1 [(T.flt FloatKind.f32 0)]) 0 [(T.flt FloatKind.f32 x51)]))
       f173_i_RunLimiter.l0 n m n1 l2 x3 x4 1065353216 n48 l49 x8 x9 x10 n11 l12 n52 l53 n15 l16 i17 (IntKind.i64.wrap (i18 + (1 : Int))))))) (
       br (fne FloatKind.f32 x47 x47) (
        gd (decide (((0 : Int) ≤ (1 : Int)) ∧ (((1 : Int) ≤ ((n23 : Nat) : Int)) ∧ (((n23 : Nat) : Int) ≤ ((n23 : Nat) : Int))))) (
        let n54 : Nat := (n23 - 1)
        let l55 : List T := (List.take (n23 - 1) (List.drop 1 l24))
        gd ((decide (((0 : Int) ≤ (0 : Int)) ∧ ((0 : Int) < ((n23 : Nat) : Int)))) && (okAt [(CK.flt FloatKind.f32)] l24 0)) (
        bd (f192_i_clipped n (fmul FloatKind.f32 (fAt l24 0) 1065353216) x3) fun r56 =>
        let x57 : Nat := r56
        gd (Nat.ble (n13 + 1) 2147483648) (
        let n58 : Nat := (n13 + 1)
        let l59 : List T := (l14 ++ (setN (reps 1 [(T.flt FloatKind.f32 0)]) 0 [(T.flt FloatKind.f32 x57)]))
        f173_i_RunLimiter.l0 n m n1 l2 x3 x4 1065353216 n54 l55 x8 x9 x10 n11 l12 n58 l59 n15 l16 i17 (IntKind.i64.wrap (i18 + (1 : Int))))))) (
        gd (decide (((0 : Int) ≤ (1 : Int)) ∧ (((1 : Int) ≤ ((n23 : Nat) : Int)) ∧ (((n23 : Nat) : Int) ≤ ((n23 : Nat) : Int))))) (
        let n60 : Nat := (n23 - 1)
        let l61 : List T := (List.take (n23 - 1) (List.drop 1 l24))
        gd ((decide (((0 : Int) ≤ (0 : Int)) ∧ ((0 : Int) < ((n23 : Nat) : Int)))) && (okAt [(CK.flt FloatKind.f32)] l24 0)) (
        bd (f192_i_clipped n (fmul FloatKind.f32 (fAt l24 0) x47) x3) fun r62 =>
        let x63 : Nat := r62
        gd (Nat.ble (n13 + 1) 2147483648) (
        let n64 : Nat := (n13 + 1)
        let l65 : List T := (l14 ++ (setN (reps 1 [(T.flt FloatKind.f32 0)]) 0 [(T.flt FloatKind.f32 x63)]))
        f173_i_RunLimiter.l0 n m n1 l2 x3 x4 x47 n60 l61 x8 x9 x10 n11 l12 n64 l65 n15 l16 i17 (IntKind.i64.wrap (i18 + (1 : Int)))))))))))) (
     some (x3, x4, x5, n6, l7, x8, x9, x10, n11, l12, n13, l14))
termination_by structural x => x
def f173_i_RunLimiter : Nat → Nat → Nat → Nat → Nat → List T → Nat → List T → Option (Nat × List T × Nat × Nat × Nat × Nat × List T × Bool)
  | 0, _, _, _, _, _, _, _ => none
  | n + 1, x1, x2, x3, n4, l5, n6, l7 =>
    bd (f137_i_isLimit n x1) fun r8 =>
    let b9 : Bool := r8
    br (!b9) (
     some (0, [], 0, 0, 0, 0, [], false)) (
     br (decide (((n4 : Nat) : Int) > (64 : Int))) (
      some (0, [], 0, 0, 0, 0, [], false)) (
      bd (f66_i_areSamples n n6 l7) fun r10 =>
      let b11 : Bool := r10
      br (!b11) (
       some (0, [], 0, 0, 0, 0, [], false)) (
       bd (f84_i_copyNumbers n n4 l5) fun r12 =>
       let n13 : Nat := r12.1
       let l14 : List T := r12.2
       bd (f173_i_RunLimiter.l0 n n n6 l7 x1 x2 x3 n13 l14 0 0 0 0 [] 0 [] n6 l7 ((n6 : Nat) : Int) (0 : Int)) fun r15 =>
       let x16 : Nat := r15.1
       let x17 : Nat := r15.2.1
       let x18 : Nat := r15.2.2.1
       let n19 : Nat := r15.2.2.2.1
       let l20 : List T := r15.2.2.2.2.1
       let x21 : Nat := r15.2.2.2.2.2.1
       let x22 : Nat := r15.2.2.2.2.2.2.1
       let x23 : Nat := r15.2.2.2.2.2.2.2.1
       let n24 : Nat := r15.2.2.2.2.2.2.2.2.1
       let l25 : List T := r15.2.2.2.2.2.2.2.2.2.1
       let n26 : Nat := r15.2.2.2.2.2.2.2.2.2.2.1
       let l27 : List T := r15.2.2.2.2.2.2.2.2.2.2.2
       bd (f84_i_copyNumbers n n19 l20) fun r28 =>
       let n29 : Nat := r28.1
       let l30 : List T := r28.2
       some (n26, l27, x16, x17, x18, n29, l30, true))))
def sg_fffll : Sig (Nat × Nat × Nat × Nat × List T × Nat × List T) where
  pk := fun v => [.flt v.1, .flt v.2.1, .flt v.2.2.1, .lst v.2.2.2.1 v.2.2.2.2.1, .lst v.2.2.2.2.2.1 v.2.2.2.2.2.2]
  up := fun ls => match ls with
    | [.flt a0, .flt a1, .flt a2, .lst a3 a4, .lst a5 a6] => some (a0, a1, a2, a3, a4, a5, a6)
    | _ => none
  ok := by
    intro ls v h
    split at h
    · cases h; rfl
    · cases h

def sg_lffflb : Sig (Nat × List T × Nat × Nat × Nat × Nat × List T × Bool) where
  pk := fun v => [.lst v.1 v.2.1, .flt v.2.2.1, .flt v.2.2.2.1, .flt v.2.2.2.2.1, .lst v.2.2.2.2.2.1 v.2.2.2.2.2.2.1, .bool v.2.2.2.2.2.2.2]
  up := fun ls => match ls with
    | [.lst a0 a1, .flt a2, .flt a3, .flt a4, .lst a5 a6, .bool a7] => some (a0, a1, a2, a3, a4, a5, a6, a7)
    | _ => none
  ok := by
    intro ls v h
    split at h
    · cases h; rfl
    · cases h

def sg_lffflffflllii : Sig (Nat × List T × Nat × Nat × Nat × Nat × List T × Nat × Nat × Nat × Nat × List T × Nat × List T × Nat × List T × Int × Int) where
  pk := fun v => [.lst v.1 v.2.1, .flt v.2.2.1, .flt v.2.2.2.1, .flt v.2.2.2.2.1, .lst v.2.2.2.2.2.1 v.2.2.2.2.2.2.1, .flt v.2.2.2.2.2.2.2.1, .flt v.2.2.2.2.2.2.2.2.1, .flt v.2.2.2.2.2.2.2.2.2.1, .lst v.2.2.2.2.2.2.2.2.2.2.1 v.2.2.2.2.2.2.2.2.2.2.2.1, .lst v.2.2.2.2.2.2.2.2.2.2.2.2.1 v.2.2.2.2.2.2.2.2.2.2.2.2.2.1, .lst v.2.2.2.2.2.2.2.2.2.2.2.2.2.2.1 v.2.2.2.2.2.2.2.2.2.2.2.2.2.2.2.1, .int v.2.2.2.2.2.2.2.2.2.2.2.2.2.2.2.2.1, .int v.2.2.2.2.2.2.2.2.2.2.2.2.2.2.2.2.2]
  up := fun ls => match ls with
    | [.lst a0 a1, .flt a2, .flt a3, .flt a4, .lst a5 a6, .flt a7, .flt a8, .flt a9, .lst a10 a11, .lst a12 a13, .lst a14 a15, .int a16, .int a17] => some (a0, a1, a2, a3, a4, a5, a6, a7, a8, a9, a10, a11, a12, a13, a14, a15, a16, a17)
    | _ => none
  ok := by
    intro ls v h
    split at h
    · cases h; rfl
    · cases h

def sg_ffflfffll : Sig (Nat × Nat × Nat × Nat × List T × Nat × Nat × Nat × Nat × List T × Nat × List T) where
  pk := fun v => [.flt v.1, .flt v.2.1, .flt v.2.2.1, .lst v.2.2.2.1 v.2.2.2.2.1, .flt v.2.2.2.2.2.1, .flt v.2.2.2.2.2.2.1, .flt v.2.2.2.2.2.2.2.1, .lst v.2.2.2.2.2.2.2.2.1 v.2.2.2.2.2.2.2.2.2.1, .lst v.2.2.2.2.2.2.2.2.2.2.1 v.2.2.2.2.2.2.2.2.2.2.2]
  up := fun ls => match ls with
    | [.flt a0, .flt a1, .flt a2, .lst a3 a4, .flt a5, .flt a6, .flt a7, .lst a8 a9, .lst a10 a11] => some (a0, a1, a2, a3, a4, a5, a6, a7, a8, a9, a10, a11)
    | _ => none
  ok := by
    intro ls v h
    split at h
    · cases h; rfl
    · cases h

def f173_i_RunLimiter.l0.P : AS := ⟨[(1, .val false [.sl .shr [.leaf]] [.lst 0 []] [] 0), (2, .box [.leaf, .leaf, .leaf, .sl .shr [.leaf]] [.flt .f32 0, .flt .f32 0, .flt .f32 0, .lst 0 []] [] 0), (5, .box [.leaf, .leaf, .leaf, .sl .own [.leaf]] [.flt .f32 0, .flt .f32 0, .flt .f32 0, .lst 0 []] [] 0), (7, .val false [.sl .own [.leaf]] [.lst 0 []] [] 0), (34, .val false [.sl .shr [.leaf]] [.lst 0 []] [] 0), (35, .val false [.leaf] [.int .i64 0] [] 0), (36, .val false [.leaf] [.int .i64 0] [] 0)], 0⟩
def f173_i_RunLimiter.l0.A : Alt (Nat × Nat × Nat × Nat × List T × Nat × Nat × Nat × Nat × List T × Nat × List T) := .one (.exit 0) ⟨[(2, .box [.leaf, .leaf, .leaf, .sl .shr [.leaf]] [.flt .f32 0, .flt .f32 0, .flt .f32 0, .lst 0 []] [] 0), (5, .box [.leaf, .leaf, .leaf, .sl .own [.leaf]] [.flt .f32 0, .flt .f32 0, .flt .f32 0, .lst 0 []] [] 0), (7, .val false [.sl .own [.leaf]] [.lst 0 []] [] 0)], 0⟩ sg_ffflfffll
def f173_i_RunLimiter.l0.F (n m : Nat) (v : Nat × List T × Nat × Nat × Nat × Nat × List T × Nat × Nat × Nat × Nat × List T × Nat × List T × Nat × List T × Int × Int) := f173_i_RunLimiter.l0 n m v.1 v.2.1 v.2.2.1 v.2.2.2.1 v.2.2.2.2.1 v.2.2.2.2.2.1 v.2.2.2.2.2.2.1 v.2.2.2.2.2.2.2.1 v.2.2.2.2.2.2.2.2.1 v.2.2.2.2.2.2.2.2.2.1 v.2.2.2.2.2.2.2.2.2.2.1 v.2.2.2.2.2.2.2.2.2.2.2.1 v.2.2.2.2.2.2.2.2.2.2.2.2.1 v.2.2.2.2.2.2.2.2.2.2.2.2.2.1 v.2.2.2.2.2.2.2.2.2.2.2.2.2.2.1 v.2.2.2.2.2.2.2.2.2.2.2.2.2.2.2.1 v.2.2.2.2.2.2.2.2.2.2.2.2.2.2.2.2.1 v.2.2.2.2.2.2.2.2.2.2.2.2.2.2.2.2.2
def f173_i_RunLimiter.l0.W (n : Nat) : LpW := .of 96 f173_i_RunLimiter.l0.P sg_lffflffflllii f173_i_RunLimiter.l0.A (f173_i_RunLimiter.l0.F n n)
def f173_i_RunLimiter.P : List Arg := [⟨.val, ⟨true, [.leaf, .leaf, .leaf, .sl .shr [.leaf]], [.flt .f32 0, .flt .f32 0, .flt .f32 0, .lst 0 []]⟩⟩, ⟨.val, ⟨false, [.sl .shr [.leaf]], [.lst 0 []]⟩⟩]
def f173_i_RunLimiter.A : RAlt (Nat × List T × Nat × Nat × Nat × Nat × List T × Bool) := .one ⟨[⟨false, [.sl .own [.leaf]], [.lst 0 []]⟩, ⟨true, [.leaf, .leaf, .leaf, .sl .own [.leaf]], [.flt .f32 0, .flt .f32 0, .flt .f32 0, .lst 0 []]⟩, ⟨false, [.leaf], [.bool false]⟩], [none, none]⟩ sg_lffflb
def f173_i_RunLimiter.F (n : Nat) (v : Nat × Nat × Nat × Nat × List T × Nat × List T) := f173_i_RunLimiter n v.1 v.2.1 v.2.2.1 v.2.2.2.1 v.2.2.2.2.1 v.2.2.2.2.2.1 v.2.2.2.2.2.2
noncomputable def f173_i_RunLimiter.O (n : Nat) : Orc := orcOf (E := E) [f137_i_isLimit.w, f66_i_areSamples.w, f84_i_copyNumbers.w, f192_i_clipped.w, f193_i_peakOf.w] [f173_i_RunLimiter.l0.W n] n
theorem f173_i_RunLimiter.l0.ok (n : Nat) : LpOk (f173_i_RunLimiter.O n) E (evalFn E n) n (keepAt 173) (.loop (loopAt c173 0)) :=
  lp_pure f173_i_RunLimiter.l0.P sg_lffflffflllii f173_i_RunLimiter.l0.A (f173_i_RunLimiter.l0.F n) (orcOf_cf _ _ n) (lpOk_of (bs := []) (by kernel_rfl) .nil) (fun _ => rfl) (fun _ _ => by kernel_rfl) (fun _ _ _ => by kernel_rfl)
theorem f173_i_RunLimiter.ok : ∀ n v x, f173_i_RunLimiter.F n v = some x → evalFn E n 173 (flAs f173_i_RunLimiter.P (sg_fffll.pk v)) = some (f173_i_RunLimiter.A.enc x) :=
  fn_pure (modes := (fdAt 173).ms) (outs := (fdAt 173).os) (results := (fdAt 173).rs) f173_i_RunLimiter.O (c := c173) (keep := keepAt 173) (by kernel_rfl) (fun n => orcOf_cf _ _ n) (fun n => lpOk_of (bs := [loopAt c173 0]) (by kernel_rfl) (.cons (f173_i_RunLimiter.l0.ok n) .nil)) (fun _ => rfl) (fun _ _ => by kernel_rfl)
noncomputable def f173_i_RunLimiter.w : FnW E := fnW 173 f173_i_RunLimiter.P sg_fffll f173_i_RunLimiter.A f173_i_RunLimiter.F f173_i_RunLimiter.ok

def f135_i_Effectrun : Nat → Int → Int → Nat → List T → Nat → List T → Nat → List T → Option (Nat × List T × Nat × List T)
  | 0, _, _, _, _, _, _, _, _ => none
  | n + 1, i1, i2, n3, l4, n5, l6, n7, l8 =>
    br (i1 == (0 : Int)) (
     gd ((decide (((0 : Int) ≤ (0 : Int)) ∧ ((0 : Int) < ((n3 : Nat) : Int)))) && (okAt [(CK.flt FloatKind.f32)] l4 0)) (
     bd (f167_i_scaled n n7 l8 (fAt l4 0)) fun r9 =>
     let n10 : Nat := r9.1
     let l11 : List T := r9.2
     some (n10, l11, 0, []))) (
     br (i1 == (1 : Int)) (
      gd ((decide (((0 : Int) ≤ (0 : Int)) ∧ ((0 : Int) < ((n3 : Nat) : Int)))) && (okAt [(CK.flt FloatKind.f32)] l4 0)) (
      gd ((decide (((0 : Int) ≤ (1 : Int)) ∧ ((1 : Int) < ((n3 : Nat) : Int)))) && (okAt [(CK.flt FloatKind.f32)] l4 1)) (
      gd ((decide (((0 : Int) ≤ (2 : Int)) ∧ ((2 : Int) < ((n3 : Nat) : Int)))) && (okAt [(CK.flt FloatKind.f32)] l4 2)) (
      gd ((decide (((0 : Int) ≤ (3 : Int)) ∧ ((3 : Int) < ((n3 : Nat) : Int)))) && (okAt [(CK.flt FloatKind.f32)] l4 3)) (
      gd ((decide (((0 : Int) ≤ (4 : Int)) ∧ ((4 : Int) < ((n3 : Nat) : Int)))) && (okAt [(CK.flt FloatKind.f32)] l4 4)) (
      let x12 : Nat := (fAt l4 0)
      let x13 : Nat := (fAt l4 1)
      let x14 : Nat := (fAt l4 2)
      let x15 : Nat := (fAt l4 3)
      let x16 : Nat := (fAt l4 4)
      gd ((decide (((0 : Int) ≤ (0 : Int)) ∧ ((0 : Int) < ((n5 : Nat) : Int)))) && (okAt [(CK.flt FloatKind.f32)] l6 0)) (
      gd ((decide (((0 : Int) ≤ (1 : Int)) ∧ ((1 : Int) < ((n5 : Nat) : Int)))) && (okAt [(CK.flt FloatKind.f32)] l6 1)) (
      bd (f96_i_Filterrun n x12 x13 x14 x15 x16 (1 : Int) true (fAt l6 0) (fAt l6 1) 0 0 n7 l8) fun r17 =>
      let n18 : Nat := r17.1
      let l19 : List T := r17.2.1
      let x20 : Nat := r17.2.2.1
      let x21 : Nat := r17.2.2.2.1
      let x22 : Nat := r17.2.2.2.2.1
      let x23 : Nat := r17.2.2.2.2.2
      some (n18, l19, 2, (setN (setN (reps 2 [(T.flt FloatKind.f32 0)]) 0 [(T.flt FloatKind.f32 x20)]) 1 [(T.flt FloatKind.f32 x21)])))))))))) (
      br (i1 == (2 : Int)) (
       bd (f84_i_copyNumbers n n5 l6) fun r24 =>
       let n25 : Nat := r24.1
       let l26 : List T := r24.2
       bd (f135_i_Effectrun.l0 n n n7 l8 n3 l4 n25 l26 0 [] n7 l8 ((n7 : Nat) : Int) (0 : Int)) fun r27 =>
       let n28 : Nat := r27.1
       let l29 : List T := r27.2.1
       let n30 : Nat := r27.2.2.1
       let l31 : List T := r27.2.2.2
       some (n30, l31, n28, l29)) (
       br (i1 == (3 : Int)) (
        gd ((decide (((0 : Int) ≤ (0 : Int)) ∧ ((0 : Int) < ((n3 : Nat) : Int)))) && (okAt [(CK.flt FloatKind.f32)] l4 0)) (
        gd ((decide (((0 : Int) ≤ (1 : Int)) ∧ ((1 : Int) < ((n3 : Nat) : Int)))) && (okAt [(CK.flt FloatKind.f32)] l4 1)) (
        gd ((decide (((0 : Int) ≤ (0 : Int)) ∧ ((0 : Int) < ((n5 : Nat) : Int)))) && (okAt [(CK.flt FloatKind.f32)] l6 0)) (
        gd ((decide (((0 : Int) ≤ (2 : Int)) ∧ ((2 : Int) < ((n3 : Nat) : Int)))) && (okAt [(CK.flt FloatKind.f32)] l4 2)) (
        gd ((decide (((0 : Int) ≤ (3 : Int)) ∧ ((3 : Int) < ((n3 : Nat) : Int)))) && (okAt [(CK.flt FloatKind.f32)] l4 3)) (
        let x32 : Nat := (fAt l4 0)
        let x33 : Nat := (fAt l4 1)
        let x34 : Nat := (fAt l6 0)
        let x35 : Nat := (fAt l4 2)
        let x36 : Nat := (fAt l4 3)
        bd (f170_i_RunSqueeze n x32 x33 x34 x35 x36 n7 l8) fun r37 =>
        let n38 : Nat := r37.1
        let l39 : List T := r37.2.1
        let x40 : Nat := r37.2.2.1
        let x41 : Nat := r37.2.2.2.1
        let x42 : Nat := r37.2.2.2.2.1
        let x43 : Nat := r37.2.2.2.2.2.1
        let x44 : Nat := r37.2.2.2.2.2.2.1
        let b45 : Bool := r37.2.2.2.2.2.2.2
        some (n38, l39, 1, (setN (reps 1 [(T.flt FloatKind.f32 0)]) 0 [(T.flt FloatKind.f32 x42)])))))))) (
        br (i1 == (4 : Int)) (
         gd ((decide (((0 : Int) ≤ (0 : Int)) ∧ ((0 : Int) < ((n3 : Nat) : Int)))) && (okAt [(CK.flt FloatKind.f32)] l4 0)) (
         bd (f171_i_ClipSamples n n7 l8 (fAt l4 0)) fun r46 =>
         let n47 : Nat := r46.1
         let l48 : List T := r46.2.1
         let b49 : Bool := r46.2.2
         some (n47, l48, 0, []))) (
         br (i1 == (5 : Int)) (
          bd (f135_i_Effectrun.l1 n n n7 l8 0 [] n7 l8 ((n7 : Nat) : Int) (0 : Int)) fun r50 =>
          let n51 : Nat := r50.1
          let l52 : List T := r50.2
          some (n51, l52, 0, [])) (
          gd ((decide (((0 : Int) ≤ (0 : Int)) ∧ ((0 : Int) < ((n3 : Nat) : Int)))) && (okAt [(CK.flt FloatKind.f32)] l4 0)) (
          gd ((decide (((0 : Int) ≤ (1 : Int)) ∧ ((1 : Int) < ((n3 : Nat) : Int)))) && (okAt [(CK.flt FloatKind.f32)] l4 1)) (
          gd ((decide (((0 : Int) ≤ (0 : Int)) ∧ ((0 : Int) < ((n5 : Nat) : Int)))) && (okAt [(CK.flt FloatKind.f32)] l6 0)) (
          gd (decide (((0 : Int) ≤ (1 : Int)) ∧ (((1 : Int) ≤ ((n5 : Nat) : Int)) ∧ (((n5 : Nat) : Int) ≤ ((n5 : Nat) : Int))))) (
          bd (f173_i_RunLimiter n (fAt l4 0) (fAt l4 1) (fAt l6 0) (n5 - 1) (List.take (n5 - 1) (List.drop 1 l6)) n7 l8) fun r53 =>
          let n54 : Nat := r53.1
          let l55 : List T := r53.2.1
          let x56 : Nat := r53.2.2.1
          let x57 : Nat := r53.2.2.2.1
          let x58 : Nat := r53.2.2.2.2.1
          let n59 : Nat := r53.2.2.2.2.2.1
          let l60 : List T := r53.2.2.2.2.2.2.1
          let b61 : Bool := r53.2.2.2.2.2.2.2
          gd (Nat.ble (1 + n59) 2147483648) (
          some (n54, l55, (1 + n59), ((setN (reps 1 [(T.flt FloatKind.f32 0)]) 0 [(T.flt FloatKind.f32 x58)]) ++ l60)))))))))))))
def sg_iilll : Sig (Int × Int × Nat × List T × Nat × List T × Nat × List T) where
  pk := fun v => [.int v.1, .int v.2.1, .lst v.2.2.1 v.2.2.2.1, .lst v.2.2.2.2.1 v.2.2.2.2.2.1, .lst v.2.2.2.2.2.2.1 v.2.2.2.2.2.2.2]
  up := fun ls => match ls with
    | [.int a0, .int a1, .lst a2 a3, .lst a4 a5, .lst a6 a7] => some (a0, a1, a2, a3, a4, a5, a6, a7)
    | _ => none
  ok := by
    intro ls v h
    split at h
    · cases h; rfl
    · cases h

def sg_lllllii : Sig (Nat × List T × Nat × List T × Nat × List T × Nat × List T × Nat × List T × Int × Int) where
  pk := fun v => [.lst v.1 v.2.1, .lst v.2.2.1 v.2.2.2.1, .lst v.2.2.2.2.1 v.2.2.2.2.2.1, .lst v.2.2.2.2.2.2.1 v.2.2.2.2.2.2.2.1, .lst v.2.2.2.2.2.2.2.2.1 v.2.2.2.2.2.2.2.2.2.1, .int v.2.2.2.2.2.2.2.2.2.2.1, .int v.2.2.2.2.2.2.2.2.2.2.2]
  up := fun ls => match ls with
    | [.lst a0 a1, .lst a2 a3, .lst a4 a5, .lst a6 a7, .lst a8 a9, .int a10, .int a11] => some (a0, a1, a2, a3, a4, a5, a6, a7, a8, a9, a10, a11)
    | _ => none
  ok := by
    intro ls v h
    split at h
    · cases h; rfl
    · cases h

def f135_i_Effectrun.l0.P : AS := ⟨[(2, .val false [.sl .shr [.leaf]] [.lst 0 []] [] 0), (8, .val false [.sl .shr [.leaf]] [.lst 0 []] [] 0), (12, .val false [.sl .own [.leaf]] [.lst 0 []] [] 0), (13, .val false [.sl .own [.leaf]] [.lst 0 []] [] 0), (80, .val false [.sl .shr [.leaf]] [.lst 0 []] [] 0), (81, .val false [.leaf] [.int .i64 0] [] 0), (82, .val false [.leaf] [.int .i64 0] [] 0)], 0⟩
def f135_i_Effectrun.l0.A : Alt (Nat × List T × Nat × List T) := .one (.exit 1) ⟨[(12, .val false [.sl .own [.leaf]] [.lst 0 []] [] 0), (13, .val false [.sl .own [.leaf]] [.lst 0 []] [] 0)], 0⟩ sg_ll
def f135_i_Effectrun.l0.F (n m : Nat) (v : Nat × List T × Nat × List T × Nat × List T × Nat × List T × Nat × List T × Int × Int) := f135_i_Effectrun.l0 n m v.1 v.2.1 v.2.2.1 v.2.2.2.1 v.2.2.2.2.1 v.2.2.2.2.2.1 v.2.2.2.2.2.2.1 v.2.2.2.2.2.2.2.1 v.2.2.2.2.2.2.2.2.1 v.2.2.2.2.2.2.2.2.2.1 v.2.2.2.2.2.2.2.2.2.2.1 v.2.2.2.2.2.2.2.2.2.2.2
def f135_i_Effectrun.l0.W (n : Nat) : LpW := .of 208 f135_i_Effectrun.l0.P sg_lllllii f135_i_Effectrun.l0.A (f135_i_Effectrun.l0.F n n)
def f135_i_Effectrun.l1.P : AS := ⟨[(2, .val false [.sl .shr [.leaf]] [.lst 0 []] [] 0), (22, .val false [.sl .own [.leaf]] [.lst 0 []] [] 0), (156, .val false [.sl .shr [.leaf]] [.lst 0 []] [] 0), (157, .val false [.leaf] [.int .i64 0] [] 0), (158, .val false [.leaf] [.int .i64 0] [] 0)], 0⟩
def f135_i_Effectrun.l1.A : Alt (Nat × List T) := .one (.exit 3) ⟨[(22, .val false [.sl .own [.leaf]] [.lst 0 []] [] 0)], 0⟩ sg_l
def f135_i_Effectrun.l1.F (n m : Nat) (v : Nat × List T × Nat × List T × Nat × List T × Int × Int) := f135_i_Effectrun.l1 n m v.1 v.2.1 v.2.2.1 v.2.2.2.1 v.2.2.2.2.1 v.2.2.2.2.2.1 v.2.2.2.2.2.2.1 v.2.2.2.2.2.2.2
def f135_i_Effectrun.l1.W (n : Nat) : LpW := .of 480 f135_i_Effectrun.l1.P sg_lllii f135_i_Effectrun.l1.A (f135_i_Effectrun.l1.F n n)
def f135_i_Effectrun.P : List Arg := [⟨.val, ⟨true, [.leaf, .leaf, .sl .shr [.leaf]], [.int .i64 0, .int .i64 0, .lst 0 []]⟩⟩, ⟨.val, ⟨false, [.sl .shr [.leaf]], [.lst 0 []]⟩⟩, ⟨.val, ⟨false, [.sl .shr [.leaf]], [.lst 0 []]⟩⟩]
def f135_i_Effectrun.A : RAlt (Nat × List T × Nat × List T) := .one ⟨[⟨false, [.sl .own [.leaf]], [.lst 0 []]⟩, ⟨false, [.sl .own [.leaf]], [.lst 0 []]⟩], [none, none, none]⟩ sg_ll
def f135_i_Effectrun.F (n : Nat) (v : Int × Int × Nat × List T × Nat × List T × Nat × List T) := f135_i_Effectrun n v.1 v.2.1 v.2.2.1 v.2.2.2.1 v.2.2.2.2.1 v.2.2.2.2.2.1 v.2.2.2.2.2.2.1 v.2.2.2.2.2.2.2
noncomputable def f135_i_Effectrun.O (n : Nat) : Orc := orcOf (E := E) [f84_i_copyNumbers.w, f167_i_scaled.w, f169_i_FlushNumber.w, f96_i_Filterrun.w, f168_i_take.w, f170_i_RunSqueeze.w, f171_i_ClipSamples.w, f172_i_BendSample.w, f173_i_RunLimiter.w] [f135_i_Effectrun.l0.W n, f135_i_Effectrun.l1.W n] n
theorem f135_i_Effectrun.l0.ok (n : Nat) : LpOk (f135_i_Effectrun.O n) E (evalFn E n) n (keepAt 135) (.loop (loopAt c135 0)) :=
  lp_pure f135_i_Effectrun.l0.P sg_lllllii f135_i_Effectrun.l0.A (f135_i_Effectrun.l0.F n) (orcOf_cf _ _ n) (lpOk_of (bs := []) (by kernel_rfl) .nil) (fun _ => rfl) (fun _ _ => by kernel_rfl) (fun _ _ _ => by kernel_rfl)
theorem f135_i_Effectrun.l1.ok (n : Nat) : LpOk (f135_i_Effectrun.O n) E (evalFn E n) n (keepAt 135) (.loop (loopAt c135 1)) :=
  lp_pure f135_i_Effectrun.l1.P sg_lllii f135_i_Effectrun.l1.A (f135_i_Effectrun.l1.F n) (orcOf_cf _ _ n) (lpOk_of (bs := []) (by kernel_rfl) .nil) (fun _ => rfl) (fun _ _ => by kernel_rfl) (fun _ _ _ => by kernel_rfl)
theorem f135_i_Effectrun.ok : ∀ n v x, f135_i_Effectrun.F n v = some x → evalFn E n 135 (flAs f135_i_Effectrun.P (sg_iilll.pk v)) = some (f135_i_Effectrun.A.enc x) :=
  fn_pure (modes := (fdAt 135).ms) (outs := (fdAt 135).os) (results := (fdAt 135).rs) f135_i_Effectrun.O (c := c135) (keep := keepAt 135) (by kernel_rfl) (fun n => orcOf_cf _ _ n) (fun n => lpOk_of (bs := [loopAt c135 0, loopAt c135 1]) (by kernel_rfl) (.cons (f135_i_Effectrun.l0.ok n) (.cons (f135_i_Effectrun.l1.ok n) .nil))) (fun _ => rfl) (fun _ _ => by kernel_rfl)
noncomputable def f135_i_Effectrun.w : FnW E := fnW 135 f135_i_Effectrun.P sg_iilll f135_i_Effectrun.A f135_i_Effectrun.F f135_i_Effectrun.ok

def f75_i_runChain.l0 (n : Nat) : Nat → Nat → List T → Nat → List T → Nat → List T → Nat → List T → Nat → List T → Int → Int → Option (Nat × List T × Nat × List T)
  | 0, _, _, _, _, _, _, _, _, _, _, _, _ => none
  | m + 1, n1, l2, n3, l4, n5, l6, n7, l8, n9, l10, i11, i12 =>
    br (decide (i12 < i11)) (
     gd ((decide (((0 : Int) ≤ i12) ∧ (i12 < ((n9 : Nat) : Int)))) && (okAt [(CK.int IntKind.i64), (CK.int IntKind.i64), CK.lst] l10 (((Int.toNat i12) * 3) + 0))) (
     let i13 : Int := (iAt l10 (((Int.toNat i12) * 3) + 0))
     let i14 : Int := (iAt l10 ((((Int.toNat i12) * 3) + 0) + 1))
     let n15 : Nat := (nAt l10 (((((Int.toNat i12) * 3) + 0) + 1) + 1))
     let l16 : List T := (lAt l10 (((((Int.toNat i12) * 3) + 0) + 1) + 1))
     gd ((decide (((0 : Int) ≤ i12) ∧ (i12 < ((n3 : Nat) : Int)))) && (okAt [CK.lst] l4 (Int.toNat i12))) (
     bd (f135_i_Effectrun n i13 i14 n15 l16 (nAt l4 (Int.toNat i12)) (lAt l4 (Int.toNat i12)) n5 l6) fun r17 =>
     let n18 : Nat := r17.1
     let l19 : List T := r17.2.1
     let n20 : Nat := r17.2.2.1
     let l21 : List T := r17.2.2.2
     gd (Nat.ble (n7 + 1) 2147483648) (
     let n22 : Nat := (n7 + 1)
     let l23 : List T := (l8 ++ (setN (reps 1 [(T.lst 0 [])]) 0 [(T.lst n20 l21)]))
     f75_i_runChain.l0 n m n1 l2 n3 l4 n18 l19 n22 l23 n9 l10 i11 (IntKind.i64.wrap (i12 + (1 : Int))))))) (
     some (n5, l6, n7, l8))
termination_by structural x => x
def f75_i_runChain : Nat → Nat → List T → Nat → List T → Nat → List T → Option (Nat × List T × Nat × List T)
  | 0, _, _, _, _, _, _ => none
  | n + 1, n1, l2, n3, l4, n5, l6 =>
    bd (f84_i_copyNumbers n n5 l6) fun r7 =>
    let n8 : Nat := r7.1
    let l9 : List T := r7.2
    bd (f75_i_runChain.l0 n n n1 l2 n3 l4 n8 l9 0 [] n1 l2 ((n1 : Nat) : Int) (0 : Int)) fun r10 =>
    let n11 : Nat := r10.1
    let l12 : List T := r10.2.1
    let n13 : Nat := r10.2.2.1
    let l14 : List T := r10.2.2.2
    some (n11, l12, n13, l14)
def sg_lll : Sig (Nat × List T × Nat × List T × Nat × List T) where
  pk := fun v => [.lst v.1 v.2.1, .lst v.2.2.1 v.2.2.2.1, .lst v.2.2.2.2.1 v.2.2.2.2.2]
  up := fun ls => match ls with
    | [.lst a0 a1, .lst a2 a3, .lst a4 a5] => some (a0, a1, a2, a3, a4, a5)
    | _ => none
  ok := by
    intro ls v h
    split at h
    · cases h; rfl
    · cases h

def f75_i_runChain.l0.P : AS := ⟨[(0, .val false [.sl .shr [.leaf, .leaf, .sl .shr [.leaf]]] [.lst 0 []] [] 0), (1, .val false [.sl .shr [.sl .shr [.leaf]]] [.lst 0 []] [] 0), (8, .val false [.sl .own [.leaf]] [.lst 0 []] [] 0), (9, .val false [.sl .own [.sl .own [.leaf]]] [.lst 0 []] [] 0), (16, .val false [.sl .shr [.leaf, .leaf, .sl .shr [.leaf]]] [.lst 0 []] [] 0), (17, .val false [.leaf] [.int .i64 0] [] 0), (18, .val false [.leaf] [.int .i64 0] [] 0)], 0⟩
def f75_i_runChain.l0.A : Alt (Nat × List T × Nat × List T) := .one (.exit 0) ⟨[(8, .val false [.sl .own [.leaf]] [.lst 0 []] [] 0), (9, .val false [.sl .own [.sl .own [.leaf]]] [.lst 0 []] [] 0)], 0⟩ sg_ll
def f75_i_runChain.l0.F (n m : Nat) (v : Nat × List T × Nat × List T × Nat × List T × Nat × List T × Nat × List T × Int × Int) := f75_i_runChain.l0 n m v.1 v.2.1 v.2.2.1 v.2.2.2.1 v.2.2.2.2.1 v.2.2.2.2.2.1 v.2.2.2.2.2.2.1 v.2.2.2.2.2.2.2.1 v.2.2.2.2.2.2.2.2.1 v.2.2.2.2.2.2.2.2.2.1 v.2.2.2.2.2.2.2.2.2.2.1 v.2.2.2.2.2.2.2.2.2.2.2
def f75_i_runChain.l0.W (n : Nat) : LpW := .of 64 f75_i_runChain.l0.P sg_lllllii f75_i_runChain.l0.A (f75_i_runChain.l0.F n n)
def f75_i_runChain.P : List Arg := [⟨.val, ⟨false, [.sl .shr [.leaf, .leaf, .sl .shr [.leaf]]], [.lst 0 []]⟩⟩, ⟨.val, ⟨false, [.sl .shr [.sl .shr [.leaf]]], [.lst 0 []]⟩⟩, ⟨.val, ⟨false, [.sl .shr [.leaf]], [.lst 0 []]⟩⟩]
def f75_i_runChain.A : RAlt (Nat × List T × Nat × List T) := .one ⟨[⟨false, [.sl .own [.leaf]], [.lst 0 []]⟩, ⟨false, [.sl .own [.sl .own [.leaf]]], [.lst 0 []]⟩], [none, none, none]⟩ sg_ll
def f75_i_runChain.F (n : Nat) (v : Nat × List T × Nat × List T × Nat × List T) := f75_i_runChain n v.1 v.2.1 v.2.2.1 v.2.2.2.1 v.2.2.2.2.1 v.2.2.2.2.2
noncomputable def f75_i_runChain.O (n : Nat) : Orc := orcOf (E := E) [f84_i_copyNumbers.w, f135_i_Effectrun.w] [f75_i_runChain.l0.W n] n
theorem f75_i_runChain.l0.ok (n : Nat) : LpOk (f75_i_runChain.O n) E (evalFn E n) n (keepAt 75) (.loop (loopAt c75 0)) :=
  lp_pure f75_i_runChain.l0.P sg_lllllii f75_i_runChain.l0.A (f75_i_runChain.l0.F n) (orcOf_cf _ _ n) (lpOk_of (bs := []) (by kernel_rfl) .nil) (fun _ => rfl) (fun _ _ => by kernel_rfl) (fun _ _ _ => by kernel_rfl)
theorem f75_i_runChain.ok : ∀ n v x, f75_i_runChain.F n v = some x → evalFn E n 75 (flAs f75_i_runChain.P (sg_lll.pk v)) = some (f75_i_runChain.A.enc x) :=
  fn_pure (modes := (fdAt 75).ms) (outs := (fdAt 75).os) (results := (fdAt 75).rs) f75_i_runChain.O (c := c75) (keep := keepAt 75) (by kernel_rfl) (fun n => orcOf_cf _ _ n) (fun n => lpOk_of (bs := [loopAt c75 0]) (by kernel_rfl) (.cons (f75_i_runChain.l0.ok n) .nil)) (fun _ => rfl) (fun _ _ => by kernel_rfl)
noncomputable def f75_i_runChain.w : FnW E := fnW 75 f75_i_runChain.P sg_lll f75_i_runChain.A f75_i_runChain.F f75_i_runChain.ok

def f22_i_RunChain : Nat → Nat → List T → Nat → List T → Nat → List T → Option (Nat × List T × Nat × List T × Bool)
  | 0, _, _, _, _, _, _ => none
  | n + 1, n1, l2, n3, l4, n5, l6 =>
    bd (f24_i_IsState n n1 l2 n3 l4) fun r7 =>
    let b8 : Bool := r7
    br (!b8) (
     some (0, [], 0, [], false)) (
     bd (f66_i_areSamples n n5 l6) fun r9 =>
     let b10 : Bool := r9
     br (!b10) (
      some (0, [], 0, [], false)) (
      bd (f75_i_runChain n n1 l2 n3 l4 n5 l6) fun r11 =>
      let n12 : Nat := r11.1
      let l13 : List T := r11.2.1
      let n14 : Nat := r11.2.2.1
      let l15 : List T := r11.2.2.2
      some (n12, l13, n14, l15, true)))
def sg_llb : Sig (Nat × List T × Nat × List T × Bool) where
  pk := fun v => [.lst v.1 v.2.1, .lst v.2.2.1 v.2.2.2.1, .bool v.2.2.2.2]
  up := fun ls => match ls with
    | [.lst a0 a1, .lst a2 a3, .bool a4] => some (a0, a1, a2, a3, a4)
    | _ => none
  ok := by
    intro ls v h
    split at h
    · cases h; rfl
    · cases h

def f22_i_RunChain.P : List Arg := [⟨.val, ⟨false, [.sl .shr [.leaf, .leaf, .sl .shr [.leaf]]], [.lst 0 []]⟩⟩, ⟨.val, ⟨false, [.sl .shr [.sl .shr [.leaf]]], [.lst 0 []]⟩⟩, ⟨.val, ⟨false, [.sl .shr [.leaf]], [.lst 0 []]⟩⟩]
def f22_i_RunChain.A : RAlt (Nat × List T × Nat × List T × Bool) := .one ⟨[⟨false, [.sl .own [.leaf]], [.lst 0 []]⟩, ⟨false, [.sl .own [.sl .own [.leaf]]], [.lst 0 []]⟩, ⟨false, [.leaf], [.bool false]⟩], [none, none, none]⟩ sg_llb
def f22_i_RunChain.F (n : Nat) (v : Nat × List T × Nat × List T × Nat × List T) := f22_i_RunChain n v.1 v.2.1 v.2.2.1 v.2.2.2.1 v.2.2.2.2.1 v.2.2.2.2.2
noncomputable def f22_i_RunChain.O (n : Nat) : Orc := orcOf (E := E) [f24_i_IsState.w, f66_i_areSamples.w, f75_i_runChain.w] [] n
theorem f22_i_RunChain.ok : ∀ n v x, f22_i_RunChain.F n v = some x → evalFn E n 22 (flAs f22_i_RunChain.P (sg_lll.pk v)) = some (f22_i_RunChain.A.enc x) :=
  fn_pure (modes := (fdAt 22).ms) (outs := (fdAt 22).os) (results := (fdAt 22).rs) f22_i_RunChain.O (c := c22) (keep := keepAt 22) (by kernel_rfl) (fun n => orcOf_cf _ _ n) (fun n => lpOk_of (bs := []) (by kernel_rfl) .nil) (fun _ => rfl) (fun _ _ => by kernel_rfl)
noncomputable def f22_i_RunChain.w : FnW E := fnW 22 f22_i_RunChain.P sg_lll f22_i_RunChain.A f22_i_RunChain.F f22_i_RunChain.ok

def f18_i_SameNumber : Nat → Nat → Nat → Option (Bool)
  | 0, _, _ => none
  | n + 1, x1, x2 =>
    br (fne FloatKind.f32 x1 x1) (
     br (fne FloatKind.f32 x1 x1) (
      some (fne FloatKind.f32 x2 x2)) (
      some false)) (
     br (fne FloatKind.f32 x2 x2) (
      br (fne FloatKind.f32 x1 x1) (
       some (fne FloatKind.f32 x2 x2)) (
       some false)) (
      bd (xF32bits n x1) fun r3 =>
      let i4 : Int := r3
      bd (xF32bits n x2) fun r5 =>
      let i6 : Int := r5
      some (i4 == i6)))
def f18_i_SameNumber.P : List Arg := [⟨.val, ⟨false, [.leaf], [.flt .f32 0]⟩⟩, ⟨.val, ⟨false, [.leaf], [.flt .f32 0]⟩⟩]
def f18_i_SameNumber.A : RAlt (Bool) := .one ⟨[⟨false, [.leaf], [.bool false]⟩], [none, none]⟩ sg_b
def f18_i_SameNumber.F (n : Nat) (v : Nat × Nat) := f18_i_SameNumber n v.1 v.2
noncomputable def f18_i_SameNumber.O (n : Nat) : Orc := orcOf (E := E) [x70.w] [] n
theorem f18_i_SameNumber.ok : ∀ n v x, f18_i_SameNumber.F n v = some x → evalFn E n 18 (flAs f18_i_SameNumber.P (sg_ff.pk v)) = some (f18_i_SameNumber.A.enc x) :=
  fn_pure (modes := (fdAt 18).ms) (outs := (fdAt 18).os) (results := (fdAt 18).rs) f18_i_SameNumber.O (c := c18) (keep := keepAt 18) (by kernel_rfl) (fun n => orcOf_cf _ _ n) (fun n => lpOk_of (bs := []) (by kernel_rfl) .nil) (fun _ => rfl) (fun _ _ => by kernel_rfl)
noncomputable def f18_i_SameNumber.w : FnW E := fnW 18 f18_i_SameNumber.P sg_ff f18_i_SameNumber.A f18_i_SameNumber.F f18_i_SameNumber.ok

def f25_l_r8Same.l0 (n : Nat) : Nat → Nat → List T → Nat → List T → Int → Option ((Bool) ⊕ (Unit))
  | 0, _, _, _, _, _ => none
  | m + 1, n1, l2, n3, l4, i5 =>
    br (decide (i5 < ((n1 : Nat) : Int))) (
     gd ((decide (((0 : Int) ≤ i5) ∧ (i5 < ((n1 : Nat) : Int)))) && (okAt [(CK.flt FloatKind.f32)] l2 (Int.toNat i5))) (
     gd ((decide (((0 : Int) ≤ i5) ∧ (i5 < ((n3 : Nat) : Int)))) && (okAt [(CK.flt FloatKind.f32)] l4 (Int.toNat i5))) (
     bd (f18_i_SameNumber n (fAt l2 (Int.toNat i5)) (fAt l4 (Int.toNat i5))) fun r6 =>
     let b7 : Bool := r6
     br (!b7) (
      some (Sum.inl false)) (
      f25_l_r8Same.l0 n m n1 l2 n3 l4 (IntKind.i64.wrap (i5 + (1 : Int))))))) (
     some (Sum.inr ()))
def f25_l_r8Same : Nat → Nat → List T → Nat → List T → Option (Bool)
  | 0, _, _, _, _ => none
  | n + 1, n1, l2, n3, l4 =>
    br (((n1 : Nat) : Int) != ((n3 : Nat) : Int)) (
     some false) (
     bd (f25_l_r8Same.l0 n n n1 l2 n3 l4 (0 : Int)) fun r5 =>
     sm r5 (fun u6 =>
      let b7 : Bool := u6
      some b7) (fun u8 =>
      some true))
def f25_l_r8Same.l0.P : AS := ⟨[(0, .val false [.sl .shr [.leaf]] [.lst 0 []] [] 0), (1, .val false [.sl .shr [.leaf]] [.lst 0 []] [] 0), (5, .val false [.leaf] [.int .i64 0] [] 0)], 0⟩
def f25_l_r8Same.l0.A : Alt ((Bool) ⊕ (Unit)) := .or (.one .ret ⟨[(4, .val false [.leaf] [.bool false] [] 0)], 0⟩ sg_b) (.one (.exit 0) ⟨[(4, .dead)], 0⟩ sg)
def f25_l_r8Same.l0.F (n m : Nat) (v : Nat × List T × Nat × List T × Int) := f25_l_r8Same.l0 n m v.1 v.2.1 v.2.2.1 v.2.2.2.1 v.2.2.2.2
def f25_l_r8Same.l0.W (n : Nat) : LpW := .of 64 f25_l_r8Same.l0.P sg_lli f25_l_r8Same.l0.A (f25_l_r8Same.l0.F n n)
def f25_l_r8Same.P : List Arg := [⟨.val, ⟨false, [.sl .shr [.leaf]], [.lst 0 []]⟩⟩, ⟨.val, ⟨false, [.sl .shr [.leaf]], [.lst 0 []]⟩⟩]
def f25_l_r8Same.A : RAlt (Bool) := .one ⟨[⟨false, [.leaf], [.bool false]⟩], [none, none]⟩ sg_b
def f25_l_r8Same.F (n : Nat) (v : Nat × List T × Nat × List T) := f25_l_r8Same n v.1 v.2.1 v.2.2.1 v.2.2.2
noncomputable def f25_l_r8Same.O (n : Nat) : Orc := orcOf (E := E) [f18_i_SameNumber.w] [f25_l_r8Same.l0.W n] n
theorem f25_l_r8Same.l0.ok (n : Nat) : LpOk (f25_l_r8Same.O n) E (evalFn E n) n (keepAt 25) (.loop (loopAt c25 0)) :=
  lp_pure f25_l_r8Same.l0.P sg_lli f25_l_r8Same.l0.A (f25_l_r8Same.l0.F n) (orcOf_cf _ _ n) (lpOk_of (bs := []) (by kernel_rfl) .nil) (fun _ => rfl) (fun _ _ => by kernel_rfl) (fun _ _ _ => by kernel_rfl)
theorem f25_l_r8Same.ok : ∀ n v x, f25_l_r8Same.F n v = some x → evalFn E n 25 (flAs f25_l_r8Same.P (sg_ll.pk v)) = some (f25_l_r8Same.A.enc x) :=
  fn_pure (modes := (fdAt 25).ms) (outs := (fdAt 25).os) (results := (fdAt 25).rs) f25_l_r8Same.O (c := c25) (keep := keepAt 25) (by kernel_rfl) (fun n => orcOf_cf _ _ n) (fun n => lpOk_of (bs := [loopAt c25 0]) (by kernel_rfl) (.cons (f25_l_r8Same.l0.ok n) .nil)) (fun _ => rfl) (fun _ _ => by kernel_rfl)
noncomputable def f25_l_r8Same.w : FnW E := fnW 25 f25_l_r8Same.P sg_ll f25_l_r8Same.A f25_l_r8Same.F f25_l_r8Same.ok

def f4_l_FnChainBlocks.l0 (n : Nat) : Nat → Nat → List T → Nat → List T → Int → Option ((Bool) ⊕ (Unit))
  | 0, _, _, _, _, _ => none
  | m + 1, n1, l2, n3, l4, i5 =>
    br (decide (i5 < ((n1 : Nat) : Int))) (
     gd (decide (((0 : Int) ≤ i5) ∧ (i5 < ((n1 : Nat) : Int)))) (
     gd (okAt [CK.lst] l2 (Int.toNat i5)) (
     gd (decide (((0 : Int) ≤ i5) ∧ (i5 < ((n3 : Nat) : Int)))) (
     gd (okAt [CK.lst] l4 (Int.toNat i5)) (
     gd ((okAt [CK.lst] l2 (Int.toNat i5)) && ((okAt [CK.lst] l4 (Int.toNat i5)) && true)) (
     bd (f25_l_r8Same n (nAt l2 (Int.toNat i5)) (lAt l2 (Int.toNat i5)) (nAt l4 (Int.toNat i5)) (lAt l4 (Int.toNat i5))) fun r6 =>
     let b7 : Bool := r6
     br (!b7) (
      some (Sum.inl false)) (
      f4_l_FnChainBlocks.l0 n m n1 l2 n3 l4 (IntKind.i64.wrap (i5 + (1 : Int)))))))))) (
     some (Sum.inr ()))
def f4_l_FnChainBlocks : Nat → Nat → List T → Nat → List T → Option (Bool)
  | 0, _, _, _, _ => none
  | n + 1, n1, l2, n3, l4 =>
    bd (f12_l_r8Long n n1 l2 n3 l4) fun r5 =>
    let b6 : Bool := r5
    br b6 (
     some true) (
     bd (f19_s_R8Chain n n1 l2) fun r7 =>
     let n8 : Nat := r7.1
     let l9 : List T := r7.2
     bd (f20_s_R8State n n3 l4 n8 l9) fun r10 =>
     let n11 : Nat := r10.1
     let l12 : List T := r10.2
     bd (f21_s_R8Samples n n3 l4 (16 : Int)) fun r13 =>
     let n14 : Nat := r13.1
     let l15 : List T := r13.2
     bd (f14_l_r8At n n1 l2 (40 : Int) (IntKind.i64.wrap (((n14 : Nat) : Int) + (1 : Int)))) fun r16 =>
     let i17 : Int := r16
     bd (f22_i_RunChain n n8 l9 n11 l12 n14 l15) fun r18 =>
     let n19 : Nat := r18.1
     let l20 : List T := r18.2.1
     let n21 : Nat := r18.2.2.1
     let l22 : List T := r18.2.2.2.1
     let b23 : Bool := r18.2.2.2.2
     gd (decide (((0 : Int) ≤ (0 : Int)) ∧ (((0 : Int) ≤ i17) ∧ (i17 ≤ ((n14 : Nat) : Int))))) (
     bd (f22_i_RunChain n n8 l9 n11 l12 ((Int.toNat i17) - 0) (List.take ((Int.toNat i17) - 0) (List.drop 0 l15))) fun r24 =>
     let n25 : Nat := r24.1
     let l26 : List T := r24.2.1
     let n27 : Nat := r24.2.2.1
     let l28 : List T := r24.2.2.2.1
     let b29 : Bool := r24.2.2.2.2
     gd (decide (((0 : Int) ≤ i17) ∧ ((i17 ≤ ((n14 : Nat) : Int)) ∧ (((n14 : Nat) : Int) ≤ ((n14 : Nat) : Int))))) (
     bd (f22_i_RunChain n n8 l9 n27 l28 (n14 - (Int.toNat i17)) (List.take (n14 - (Int.toNat i17)) (List.drop (Int.toNat i17) l15))) fun r30 =>
     let n31 : Nat := r30.1
     let l32 : List T := r30.2.1
     let n33 : Nat := r30.2.2.1
     let l34 : List T := r30.2.2.2.1
     let b35 : Bool := r30.2.2.2.2
     br (!b23) (
      some false) (
      br (!b29) (
       some false) (
       br (!b35) (
        some false) (
        bd (f23_i_ValidChain n n8 l9) fun r36 =>
        let b37 : Bool := r36
        br (!b37) (
         some false) (
         bd (f24_i_IsState n n8 l9 n11 l12) fun r38 =>
         let b39 : Bool := r38
         br (!b39) (
          some false) (
          bd (f24_i_IsState n n8 l9 n21 l22) fun r40 =>
          let b41 : Bool := r40
          br (!b41) (
           some false) (
           bd (f24_i_IsState n n8 l9 n33 l34) fun r42 =>
           let b43 : Bool := r42
           br (!b43) (
            some false) (
            br (((n19 : Nat) : Int) != ((n14 : Nat) : Int)) (
             some false) (
             gd (Nat.ble (0 + n25) 2147483648) (
             gd (Nat.ble ((0 + n25) + n31) 2147483648) (
             bd (f25_l_r8Same n ((0 + n25) + n31) (((reps 0 [(T.flt FloatKind.f32 0)]) ++ l26) ++ l32) n19 l20) fun r44 =>
             let b45 : Bool := r44
             br (!b45) (
              some false) (
              bd (f4_l_FnChainBlocks.l0 n n n21 l22 n33 l34 (0 : Int)) fun r46 =>
              sm r46 (fun u47 =>
               let b48 : Bool := u47
               some b48) (fun u49 =>
               some true)))))))))))))))
def f4_l_FnChainBlocks.l0.P : AS := ⟨[(10, .val false [.sl .own [.sl .own [.leaf]]] [.lst 0 []] [] 0), (16, .val false [.sl .own [.sl .own [.leaf]]] [.lst 0 []] [] 0), (18, .val false [.leaf] [.int .i64 0] [] 0)], 0⟩
def f4_l_FnChainBlocks.l0.A : Alt ((Bool) ⊕ (Unit)) := .or (.one .ret ⟨[(4, .val false [.leaf] [.bool false] [] 0)], 0⟩ sg_b) (.one (.exit 0) ⟨[(4, .dead)], 0⟩ sg)
def f4_l_FnChainBlocks.l0.F (n m : Nat) (v : Nat × List T × Nat × List T × Int) := f4_l_FnChainBlocks.l0 n m v.1 v.2.1 v.2.2.1 v.2.2.2.1 v.2.2.2.2
def f4_l_FnChainBlocks.l0.W (n : Nat) : LpW := .of 208 f4_l_FnChainBlocks.l0.P sg_lli f4_l_FnChainBlocks.l0.A (f4_l_FnChainBlocks.l0.F n n)
def f4_l_FnChainBlocks.P : List Arg := [⟨.val, ⟨false, [.sl .shr [.leaf]], [.lst 0 []]⟩⟩, ⟨.val, ⟨false, [.sl .shr [.leaf]], [.lst 0 []]⟩⟩]
def f4_l_FnChainBlocks.A : RAlt (Bool) := .one ⟨[⟨false, [.leaf], [.bool false]⟩], [none, none]⟩ sg_b
def f4_l_FnChainBlocks.F (n : Nat) (v : Nat × List T × Nat × List T) := f4_l_FnChainBlocks n v.1 v.2.1 v.2.2.1 v.2.2.2
noncomputable def f4_l_FnChainBlocks.O (n : Nat) : Orc := orcOf (E := E) [f12_l_r8Long.w, f19_s_R8Chain.w, f20_s_R8State.w, f21_s_R8Samples.w, f14_l_r8At.w, f23_i_ValidChain.w, f24_i_IsState.w, f22_i_RunChain.w, f25_l_r8Same.w] [f4_l_FnChainBlocks.l0.W n] n
theorem f4_l_FnChainBlocks.l0.ok (n : Nat) : LpOk (f4_l_FnChainBlocks.O n) E (evalFn E n) n (keepAt 4) (.loop (loopAt c4 0)) :=
  lp_pure f4_l_FnChainBlocks.l0.P sg_lli f4_l_FnChainBlocks.l0.A (f4_l_FnChainBlocks.l0.F n) (orcOf_cf _ _ n) (lpOk_of (bs := []) (by kernel_rfl) .nil) (fun _ => rfl) (fun _ _ => by kernel_rfl) (fun _ _ _ => by kernel_rfl)
theorem f4_l_FnChainBlocks.ok : ∀ n v x, f4_l_FnChainBlocks.F n v = some x → evalFn E n 4 (flAs f4_l_FnChainBlocks.P (sg_ll.pk v)) = some (f4_l_FnChainBlocks.A.enc x) :=
  fn_pure (modes := (fdAt 4).ms) (outs := (fdAt 4).os) (results := (fdAt 4).rs) f4_l_FnChainBlocks.O (c := c4) (keep := keepAt 4) (by kernel_rfl) (fun n => orcOf_cf _ _ n) (fun n => lpOk_of (bs := [loopAt c4 0]) (by kernel_rfl) (.cons (f4_l_FnChainBlocks.l0.ok n) .nil)) (fun _ => rfl) (fun _ _ => by kernel_rfl)
noncomputable def f4_l_FnChainBlocks.w : FnW E := fnW 4 f4_l_FnChainBlocks.P sg_ll f4_l_FnChainBlocks.A f4_l_FnChainBlocks.F f4_l_FnChainBlocks.ok
end Go.Proofs.Ytdobhipbgpiceaa.D
end
