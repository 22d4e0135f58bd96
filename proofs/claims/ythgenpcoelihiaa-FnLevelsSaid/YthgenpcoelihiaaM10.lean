/- FnLevels holds: for every input the law returns true, and its arguments read as before. -/
import Derived.Test.YthgenpcoelihiaaChecked
import Derived.Test.YthgenpcoelihiaaDeskE
import Derived.KernelRfl
import Derived.Test.YthgenpcoelihiaaRows
import Derived.WalkKit
import Derived.ProofKit
import Derived.OpenShut
import Derived.ShutString
import Derived.ChangeOld
import Derived.Below
import Derived.SizedLaws
set_option linter.all false
section
/- What math.Abs owes: tables of its own, and the reading of its code. -/
namespace Go.Proofs.Ythgenpcoelihiaa.DA
open Go Go.Desk
def bodyOf (f : Func) : Code := match f.body with
  | some c => c
  | none => .skip
def tyTab : List (Nat × TD) := [
  (28, ⟨false, 1, 8, [.leaf], [.flt .f64 0], .flt .f64⟩),
  (103, ⟨false, 1, 8, [.leaf], [.int .u64 0], .int .u64⟩)]
noncomputable def c115 : Code := bodyOf Try.f115
noncomputable def fnTab : List (Nat × FD) := [
  (115, .code c115 [.val] [] [(2, none)] [(0, [0]), (1, [0])]),
  (117, .ext (pF64frombits)),
  (118, .ext (pF64bits))]
noncomputable def E : Env := ⟨fun t => lookT tyTab t, lookF fnTab⟩
noncomputable def fdAt (n : Nat) : FD := match lookF fnTab n with
  | some d => d
  | none => .ext fun _ => none
noncomputable def keepAt (n : Nat) : List (Nat × List Nat) := match lookF fnTab n with
  | some d => d.keep
  | none => []
theorem tysOk : TysOk Try.prog E := tysOk_of (l := tyTab) (fun _ => rfl) (by kernel_rfl)
theorem ft115 : FnTab Try.prog E 115 (fdAt 115) := fnTab_code (c := c115) (modes := (fdAt 115).ms) (outs := (fdAt 115).os) (results := (fdAt 115).rs) (keep := (fdAt 115).keep) Try.func115 (by kernel_rfl) (by kernel_rfl) (by kernel_rfl)
theorem ft117 : FnTab Try.prog E 117 (.ext (pF64frombits)) := ext_pF64frombits Try.func117 (by kernel_rfl) (by kernel_rfl) (by kernel_rfl) (by kernel_rfl)
theorem ft118 : FnTab Try.prog E 118 (.ext (pF64bits)) := ext_pF64bits Try.func118 (by kernel_rfl) (by kernel_rfl) (by kernel_rfl) (by kernel_rfl)
theorem allFns : AllFns Try.prog E fnTab := .cons ft115 (.cons ft117 (.cons ft118 (.nil)))
theorem fnOk : ∀ f fd, E.fn f = some fd → FnTab Try.prog E f fd := fnTab_of (l := fnTab) (fun _ => rfl) allFns
end Go.Proofs.Ythgenpcoelihiaa.DA
section
namespace Go.Proofs.Ythgenpcoelihiaa.DA
open Go Go.Desk
set_option linter.unusedVariables false
noncomputable def x117.w : FnW E := xF64frombits.w 117 (by kernel_rfl)

noncomputable def x118.w : FnW E := xF64bits.w 118 (by kernel_rfl)

def f115_mathAbs : Nat → Nat → Option (Nat)
  | 0, _ => none
  | n + 1, x1 =>
    bd (xF64bits n x1) fun r2 =>
    let i3 : Int := r2
    bd (xF64frombits n (intBits BinOp.andNot IntKind.u64 i3 (9223372036854775808 : Int))) fun r4 =>
    let x5 : Nat := r4
    some x5
def sg_f : Sig (Nat) where
  pk := fun v => [.flt v]
  up := fun ls => match ls with
    | [.flt a0] => some a0
    | _ => none
  ok := by
    intro ls v h
    split at h
    · cases h; rfl
    · cases h

def f115_mathAbs.P : List Arg := [⟨.val, ⟨false, [.leaf], [.flt .f64 0]⟩⟩]
def f115_mathAbs.A : RAlt (Nat) := .one ⟨[⟨false, [.leaf], [.flt .f64 0]⟩], [none]⟩ sg_f
def f115_mathAbs.F (n : Nat) (v : Nat) := f115_mathAbs n v
noncomputable def f115_mathAbs.O (n : Nat) : Orc := orcOf (E := E) [x117.w, x118.w] [] n
theorem f115_mathAbs.ok : ∀ n v x, f115_mathAbs.F n v = some x → evalFn E n 115 (flAs f115_mathAbs.P (sg_f.pk v)) = some (f115_mathAbs.A.enc x) :=
  fn_pure (modes := (fdAt 115).ms) (outs := (fdAt 115).os) (results := (fdAt 115).rs) f115_mathAbs.O (c := c115) (keep := keepAt 115) (by kernel_rfl) (fun n => orcOf_cf _ _ n) (fun n => lpOk_of (bs := []) (by kernel_rfl) .nil) (fun _ => rfl) (fun _ _ => by kernel_rfl)
noncomputable def f115_mathAbs.w : FnW E := fnW 115 f115_mathAbs.P sg_f f115_mathAbs.A f115_mathAbs.F f115_mathAbs.ok
end Go.Proofs.Ythgenpcoelihiaa.DA
end
namespace Go.Proofs.Ythgenpcoelihiaa.DA
open Go Go.Desk
theorem absOk : ExtOk Try.prog 115 pAbs := ext_pAbs_of Try.checked.mixed tysOk fnOk
  (fun x hN hx => ⟨3, f115_mathAbs.ok 3 x _ (abs_plain 1 hN)⟩)
  ⟨5, by kernel_rfl⟩
end Go.Proofs.Ythgenpcoelihiaa.DA
end
section
/- What math.Copysign owes: tables of its own, and the reading of its code. -/
namespace Go.Proofs.Ythgenpcoelihiaa.DC
open Go Go.Desk
def bodyOf (f : Func) : Code := match f.body with
  | some c => c
  | none => .skip
def tyTab : List (Nat × TD) := [
  (28, ⟨false, 1, 8, [.leaf], [.flt .f64 0], .flt .f64⟩),
  (103, ⟨false, 1, 8, [.leaf], [.int .u64 0], .int .u64⟩)]
noncomputable def c106 : Code := bodyOf Try.f106
noncomputable def fnTab : List (Nat × FD) := [
  (106, .code c106 [.val, .val] [] [(4, none)] [(0, [0, 1]), (1, [0, 1])]),
  (117, .ext (pF64frombits)),
  (118, .ext (pF64bits))]
noncomputable def E : Env := ⟨fun t => lookT tyTab t, lookF fnTab⟩
noncomputable def fdAt (n : Nat) : FD := match lookF fnTab n with
  | some d => d
  | none => .ext fun _ => none
noncomputable def keepAt (n : Nat) : List (Nat × List Nat) := match lookF fnTab n with
  | some d => d.keep
  | none => []
theorem tysOk : TysOk Try.prog E := tysOk_of (l := tyTab) (fun _ => rfl) (by kernel_rfl)
theorem ft106 : FnTab Try.prog E 106 (fdAt 106) := fnTab_code (c := c106) (modes := (fdAt 106).ms) (outs := (fdAt 106).os) (results := (fdAt 106).rs) (keep := (fdAt 106).keep) Try.func106 (by kernel_rfl) (by kernel_rfl) (by kernel_rfl)
theorem ft117 : FnTab Try.prog E 117 (.ext (pF64frombits)) := ext_pF64frombits Try.func117 (by kernel_rfl) (by kernel_rfl) (by kernel_rfl) (by kernel_rfl)
theorem ft118 : FnTab Try.prog E 118 (.ext (pF64bits)) := ext_pF64bits Try.func118 (by kernel_rfl) (by kernel_rfl) (by kernel_rfl) (by kernel_rfl)
theorem allFns : AllFns Try.prog E fnTab := .cons ft106 (.cons ft117 (.cons ft118 (.nil)))
theorem fnOk : ∀ f fd, E.fn f = some fd → FnTab Try.prog E f fd := fnTab_of (l := fnTab) (fun _ => rfl) allFns
end Go.Proofs.Ythgenpcoelihiaa.DC
section
namespace Go.Proofs.Ythgenpcoelihiaa.DC
open Go Go.Desk
set_option linter.unusedVariables false
noncomputable def x117.w : FnW E := xF64frombits.w 117 (by kernel_rfl)

noncomputable def x118.w : FnW E := xF64bits.w 118 (by kernel_rfl)

def f106_mathCopysign : Nat → Nat → Nat → Option (Nat)
  | 0, _, _ => none
  | n + 1, x1, x2 =>
    bd (xF64bits n x1) fun r3 =>
    let i4 : Int := r3
    bd (xF64bits n x2) fun r5 =>
    let i6 : Int := r5
    bd (xF64frombits n (intBits BinOp.or IntKind.u64 (intBits BinOp.andNot IntKind.u64 i4 (9223372036854775808 : Int)) (intBits BinOp.and IntKind.u64 i6 (9223372036854775808 : Int)))) fun r7 =>
    let x8 : Nat := r7
    some x8
def sg_ff : Sig (Nat × Nat) where
  pk := fun v => [.flt v.1, .flt v.2]
  up := fun ls => match ls with
    | [.flt a0, .flt a1] => some (a0, a1)
    | _ => none
  ok := by
    intro ls v h
    split at h
    · cases h; rfl
    · cases h

def sg_f : Sig (Nat) where
  pk := fun v => [.flt v]
  up := fun ls => match ls with
    | [.flt a0] => some a0
    | _ => none
  ok := by
    intro ls v h
    split at h
    · cases h; rfl
    · cases h

def f106_mathCopysign.P : List Arg := [⟨.val, ⟨false, [.leaf], [.flt .f64 0]⟩⟩, ⟨.val, ⟨false, [.leaf], [.flt .f64 0]⟩⟩]
def f106_mathCopysign.A : RAlt (Nat) := .one ⟨[⟨false, [.leaf], [.flt .f64 0]⟩], [none, none]⟩ sg_f
def f106_mathCopysign.F (n : Nat) (v : Nat × Nat) := f106_mathCopysign n v.1 v.2
noncomputable def f106_mathCopysign.O (n : Nat) : Orc := orcOf (E := E) [x117.w, x118.w] [] n
theorem f106_mathCopysign.ok : ∀ n v x, f106_mathCopysign.F n v = some x → evalFn E n 106 (flAs f106_mathCopysign.P (sg_ff.pk v)) = some (f106_mathCopysign.A.enc x) :=
  fn_pure (modes := (fdAt 106).ms) (outs := (fdAt 106).os) (results := (fdAt 106).rs) f106_mathCopysign.O (c := c106) (keep := keepAt 106) (by kernel_rfl) (fun n => orcOf_cf _ _ n) (fun n => lpOk_of (bs := []) (by kernel_rfl) .nil) (fun _ => rfl) (fun _ _ => by kernel_rfl)
noncomputable def f106_mathCopysign.w : FnW E := fnW 106 f106_mathCopysign.P sg_ff f106_mathCopysign.A f106_mathCopysign.F f106_mathCopysign.ok
end Go.Proofs.Ythgenpcoelihiaa.DC
end
namespace Go.Proofs.Ythgenpcoelihiaa.DC
open Go Go.Desk
theorem signOk : ExtOk Try.prog 106 pCopysign := ext_pCopysign_of Try.checked.mixed tysOk fnOk
  (fun x s hx hs hx' hs' => ⟨3, f106_mathCopysign.ok 3 (x, s) _ (copysign_plain 1 hx hs hx' hs')⟩)
end Go.Proofs.Ythgenpcoelihiaa.DC
end
section
/- The tables of the reading: types and functions of the translation, with what is kept at each region's beginning (written by a program of this workplace). -/
namespace Go.Proofs.Ythgenpcoelihiaa.D
open Go Go.Desk
def bodyOf (f : Func) : Code := match f.body with
  | some c => c
  | none => .skip
def tyTab : List (Nat × TD) := [
  (2, ⟨false, 1, 8, [.leaf], [.int .i64 0], .int .i64⟩),
  (3, ⟨false, 1, 8, [.leaf], [.int .i64 0], .int .i64⟩),
  (4, ⟨false, 1, 1, [.leaf], [.bool false], .bool⟩),
  (5, ⟨false, 1, 1, [.leaf], [.int .u8 0], .int .u8⟩),
  (22, ⟨false, 1, 24, [.sl .own [.leaf]], [.lst 0 []], .slc 5⟩),
  (24, ⟨false, 1, 4, [.leaf], [.flt .f32 0], .flt .f32⟩),
  (28, ⟨false, 1, 8, [.leaf], [.flt .f64 0], .flt .f64⟩),
  (33, ⟨false, 1, 24, [.sl .own [.leaf]], [.lst 0 []], .slc 24⟩),
  (52, ⟨true, 3, 12, [.leaf, .leaf, .leaf], [.flt .f32 0, .flt .f32 0, .flt .f32 0], .st [(0, 24), (1, 24), (2, 24)]⟩),
  (54, ⟨true, 5, 20, [.leaf, .leaf, .leaf, .leaf, .leaf], [.flt .f32 0, .flt .f32 0, .flt .f32 0, .flt .f32 0, .flt .f32 0], .st [(0, 52), (3, 24), (4, 24)]⟩),
  (75, ⟨false, 1, 8, [.leaf], [.nil], .ptr 105⟩),
  (87, ⟨false, 1, 4, [.leaf], [.int .u32 0], .int .u32⟩),
  (103, ⟨false, 1, 8, [.leaf], [.int .u64 0], .int .u64⟩),
  (105, ⟨true, 3, 40, [.sl .own [.leaf], .leaf, .leaf], [.lst 0 [], .int .i64 0, .int .u64 0], .st [(0, 22), (1, 3), (2, 103)]⟩),
  (112, ⟨false, 1, 8, [.leaf], [.nil], .ptr 52⟩),
  (116, ⟨false, 1, 8, [.leaf], [.int .u64 0], .int .u64⟩)]
noncomputable def c10 : Code := bodyOf Try.f10
noncomputable def c22 : Code := bodyOf Try.f22
noncomputable def c23 : Code := bodyOf Try.f23
noncomputable def c24 : Code := bodyOf Try.f24
noncomputable def c32 : Code := bodyOf Try.f32
noncomputable def c37 : Code := bodyOf Try.f37
noncomputable def c43 : Code := bodyOf Try.f43
noncomputable def c46 : Code := bodyOf Try.f46
noncomputable def c48 : Code := bodyOf Try.f48
noncomputable def c63 : Code := bodyOf Try.f63
noncomputable def c65 : Code := bodyOf Try.f65
noncomputable def c71 : Code := bodyOf Try.f71
noncomputable def c72 : Code := bodyOf Try.f72
noncomputable def c73 : Code := bodyOf Try.f73
noncomputable def c80 : Code := bodyOf Try.f80
noncomputable def c82 : Code := bodyOf Try.f82
noncomputable def c92 : Code := bodyOf Try.f92
noncomputable def c96 : Code := bodyOf Try.f96
noncomputable def c97 : Code := bodyOf Try.f97
noncomputable def c111 : Code := bodyOf Try.f111
noncomputable def fnTab : List (Nat × FD) := [
  (10, .code c10 [.val, .val] [] [(4, none)] [(0, [0, 1]), (1, [0, 1]), (2, []), (3, [0, 1]), (4, [0, 1, 5]), (5, [0, 5, 6]), (6, [5, 6, 7]), (7, [5, 6, 7, 8, 9, 10]), (8, [6, 7, 8, 9, 10, 11, 12, 13]), (9, [6, 8, 9, 10, 11, 13, 14, 15, 16]), (10, [8, 9, 10, 11, 13, 14, 15, 16, 17, 18]), (11, []), (12, [8, 17]), (13, [8, 17, 19]), (14, [8, 17, 19]), (15, [8, 17, 19]), (16, []), (17, []), (1000013, [4])]),
  (22, .code c22 [.val, .val] [] [(4, none)] [(0, [0, 1]), (1, [0, 1])]),
  (23, .code c23 [.val, .val, .val] [] [(6, none)] [(0, [0, 1, 2]), (1, [0, 1, 2]), (2, []), (3, [0, 1, 2])]),
  (24, .code c24 [.val, .val] [] [(4, none)] [(0, [0, 1]), (1, [0, 1]), (2, [1, 5]), (3, [1, 5, 6]), (4, [1, 5, 6, 7]), (5, [1, 5, 6, 7]), (6, [1, 5, 6, 7]), (7, [6]), (1000004, [6])]),
  (32, .code c32 [.val, .val] [] [(4, none)] [(0, [0, 1]), (1, [0, 1]), (2, [0, 1]), (3, [0, 1])]),
  (37, .code c37 [.val, .val] [] [(4, none)] [(0, [0, 1]), (1, [0, 1]), (2, []), (3, [0, 1]), (4, [0, 1, 5]), (5, [0, 1, 5]), (6, [0, 1, 5]), (7, []), (8, []), (1000004, [4])]),
  (43, .code c43 [.val] [] [(2, some (true, 5))] [(0, [0]), (1, [0, 2]), (2, [2, 3]), (3, [2, 3, 4]), (4, [2, 3, 4]), (5, [2, 3, 4]), (6, [2, 4])]),
  (46, .code c46 [.val, .val] [] [(4, none), (5, some (true, 3)), (6, none)] [(0, [0, 1]), (1, [1, 2, 5]), (2, [5]), (3, [1, 2, 5]), (4, [1, 2, 5, 7]), (5, [1, 2, 5, 7, 14, 15, 16]), (6, [1, 2, 5, 7, 14, 15, 16]), (7, [1, 2, 5, 7, 9, 14, 15, 16]), (8, [1, 2, 5, 7, 14, 15, 16]), (9, [1, 2, 5, 7, 14, 15, 16]), (10, [2, 5, 7]), (1000005, [2, 5, 7])]),
  (48, .code c48 [.val] [] [(2, none), (3, none)] [(0, [0]), (1, [0]), (2, []), (3, [0])]),
  (63, .code c63 [.val] [] [(2, none)] [(0, [0]), (1, [0]), (2, [0]), (3, [0])]),
  (65, .code c65 [.val] [] [(2, none)] [(0, [0]), (1, [0])]),
  (71, .code c71 [.val] [] [(2, none)] [(0, [0]), (1, [0])]),
  (72, .code c72 [.iop, .val] [0] [(4, none)] [(0, [0, 1]), (1, [0, 1])]),
  (73, .code c73 [.iop, .val] [0] [(4, none)] [(0, [0, 1]), (1, [0, 1]), (2, [0]), (3, [0, 1]), (4, [0, 1, 5]), (5, [0, 1, 5]), (6, [0, 1, 5])]),
  (80, .code c80 [.iop] [0] [(2, none)] [(0, [0]), (1, [0]), (2, [0, 3]), (3, [0, 3]), (4, [0, 3])]),
  (82, .code c82 [.val] [] [(2, none)] [(0, [0]), (1, [0])]),
  (87, .ext (pF32bits)),
  (92, .code c92 [.val] [] [(2, none)] [(0, [0]), (1, [0])]),
  (96, .code c96 [.iop, .val] [0] [] [(0, [0, 1]), (1, [0, 4]), (2, [0, 4, 5]), (3, [0, 4]), (4, [0, 4, 5])]),
  (97, .code c97 [.val] [] [(2, none)] [(0, [0]), (1, [0]), (2, [0, 3]), (3, [0, 3, 7, 8, 9]), (4, [0, 3, 7, 8, 9]), (5, [0, 3, 5, 7, 8, 9]), (6, [0, 3, 6, 7, 8, 9]), (7, [0, 6, 7, 8, 9]), (8, [0, 3, 7, 8, 9]), (9, [3]), (1000003, [3])]),
  (106, .ext (pCopysign)),
  (111, .code c111 [.iop] [0] [(2, none)] [(0, [0]), (1, [0]), (2, [0, 3]), (3, [0]), (4, [0, 3]), (5, [0, 3]), (6, [0, 3]), (7, [0, 3]), (8, [0])]),
  (115, .ext (pAbs))]
noncomputable def E : Env := ⟨fun t => lookT tyTab t, lookF fnTab⟩
noncomputable def fdAt (n : Nat) : FD := match lookF fnTab n with
  | some d => d
  | none => .ext fun _ => none
noncomputable def keepAt (n : Nat) : List (Nat × List Nat) := match lookF fnTab n with
  | some d => d.keep
  | none => []
theorem tysOk : TysOk Try.prog E := tysOk_of (l := tyTab) (fun _ => rfl) (by kernel_rfl)
theorem ft10 : FnTab Try.prog E 10 (fdAt 10) := fnTab_code (c := c10) (modes := (fdAt 10).ms) (outs := (fdAt 10).os) (results := (fdAt 10).rs) (keep := (fdAt 10).keep) Try.func10 (by kernel_rfl) (by kernel_rfl) (by kernel_rfl)
theorem ft22 : FnTab Try.prog E 22 (fdAt 22) := fnTab_code (c := c22) (modes := (fdAt 22).ms) (outs := (fdAt 22).os) (results := (fdAt 22).rs) (keep := (fdAt 22).keep) Try.func22 (by kernel_rfl) (by kernel_rfl) (by kernel_rfl)
theorem ft23 : FnTab Try.prog E 23 (fdAt 23) := fnTab_code (c := c23) (modes := (fdAt 23).ms) (outs := (fdAt 23).os) (results := (fdAt 23).rs) (keep := (fdAt 23).keep) Try.func23 (by kernel_rfl) (by kernel_rfl) (by kernel_rfl)
theorem ft24 : FnTab Try.prog E 24 (fdAt 24) := fnTab_code (c := c24) (modes := (fdAt 24).ms) (outs := (fdAt 24).os) (results := (fdAt 24).rs) (keep := (fdAt 24).keep) Try.func24 (by kernel_rfl) (by kernel_rfl) (by kernel_rfl)
theorem ft32 : FnTab Try.prog E 32 (fdAt 32) := fnTab_code (c := c32) (modes := (fdAt 32).ms) (outs := (fdAt 32).os) (results := (fdAt 32).rs) (keep := (fdAt 32).keep) Try.func32 (by kernel_rfl) (by kernel_rfl) (by kernel_rfl)
theorem ft37 : FnTab Try.prog E 37 (fdAt 37) := fnTab_code (c := c37) (modes := (fdAt 37).ms) (outs := (fdAt 37).os) (results := (fdAt 37).rs) (keep := (fdAt 37).keep) Try.func37 (by kernel_rfl) (by kernel_rfl) (by kernel_rfl)
theorem ft43 : FnTab Try.prog E 43 (fdAt 43) := fnTab_code (c := c43) (modes := (fdAt 43).ms) (outs := (fdAt 43).os) (results := (fdAt 43).rs) (keep := (fdAt 43).keep) Try.func43 (by kernel_rfl) (by kernel_rfl) (by kernel_rfl)
theorem ft46 : FnTab Try.prog E 46 (fdAt 46) := fnTab_code (c := c46) (modes := (fdAt 46).ms) (outs := (fdAt 46).os) (results := (fdAt 46).rs) (keep := (fdAt 46).keep) Try.func46 (by kernel_rfl) (by kernel_rfl) (by kernel_rfl)
theorem ft48 : FnTab Try.prog E 48 (fdAt 48) := fnTab_code (c := c48) (modes := (fdAt 48).ms) (outs := (fdAt 48).os) (results := (fdAt 48).rs) (keep := (fdAt 48).keep) Try.func48 (by kernel_rfl) (by kernel_rfl) (by kernel_rfl)
theorem ft63 : FnTab Try.prog E 63 (fdAt 63) := fnTab_code (c := c63) (modes := (fdAt 63).ms) (outs := (fdAt 63).os) (results := (fdAt 63).rs) (keep := (fdAt 63).keep) Try.func63 (by kernel_rfl) (by kernel_rfl) (by kernel_rfl)
theorem ft65 : FnTab Try.prog E 65 (fdAt 65) := fnTab_code (c := c65) (modes := (fdAt 65).ms) (outs := (fdAt 65).os) (results := (fdAt 65).rs) (keep := (fdAt 65).keep) Try.func65 (by kernel_rfl) (by kernel_rfl) (by kernel_rfl)
theorem ft71 : FnTab Try.prog E 71 (fdAt 71) := fnTab_code (c := c71) (modes := (fdAt 71).ms) (outs := (fdAt 71).os) (results := (fdAt 71).rs) (keep := (fdAt 71).keep) Try.func71 (by kernel_rfl) (by kernel_rfl) (by kernel_rfl)
theorem ft72 : FnTab Try.prog E 72 (fdAt 72) := fnTab_code (c := c72) (modes := (fdAt 72).ms) (outs := (fdAt 72).os) (results := (fdAt 72).rs) (keep := (fdAt 72).keep) Try.func72 (by kernel_rfl) (by kernel_rfl) (by kernel_rfl)
theorem ft73 : FnTab Try.prog E 73 (fdAt 73) := fnTab_code (c := c73) (modes := (fdAt 73).ms) (outs := (fdAt 73).os) (results := (fdAt 73).rs) (keep := (fdAt 73).keep) Try.func73 (by kernel_rfl) (by kernel_rfl) (by kernel_rfl)
theorem ft80 : FnTab Try.prog E 80 (fdAt 80) := fnTab_code (c := c80) (modes := (fdAt 80).ms) (outs := (fdAt 80).os) (results := (fdAt 80).rs) (keep := (fdAt 80).keep) Try.func80 (by kernel_rfl) (by kernel_rfl) (by kernel_rfl)
theorem ft82 : FnTab Try.prog E 82 (fdAt 82) := fnTab_code (c := c82) (modes := (fdAt 82).ms) (outs := (fdAt 82).os) (results := (fdAt 82).rs) (keep := (fdAt 82).keep) Try.func82 (by kernel_rfl) (by kernel_rfl) (by kernel_rfl)
theorem ft87 : FnTab Try.prog E 87 (.ext (pF32bits)) := ext_pF32bits Try.func87 (by kernel_rfl) (by kernel_rfl) (by kernel_rfl) (by kernel_rfl)
theorem ft92 : FnTab Try.prog E 92 (fdAt 92) := fnTab_code (c := c92) (modes := (fdAt 92).ms) (outs := (fdAt 92).os) (results := (fdAt 92).rs) (keep := (fdAt 92).keep) Try.func92 (by kernel_rfl) (by kernel_rfl) (by kernel_rfl)
theorem ft96 : FnTab Try.prog E 96 (fdAt 96) := fnTab_code (c := c96) (modes := (fdAt 96).ms) (outs := (fdAt 96).os) (results := (fdAt 96).rs) (keep := (fdAt 96).keep) Try.func96 (by kernel_rfl) (by kernel_rfl) (by kernel_rfl)
theorem ft97 : FnTab Try.prog E 97 (fdAt 97) := fnTab_code (c := c97) (modes := (fdAt 97).ms) (outs := (fdAt 97).os) (results := (fdAt 97).rs) (keep := (fdAt 97).keep) Try.func97 (by kernel_rfl) (by kernel_rfl) (by kernel_rfl)
theorem ft106 : FnTab Try.prog E 106 (.ext (pCopysign)) := DC.signOk
theorem ft111 : FnTab Try.prog E 111 (fdAt 111) := fnTab_code (c := c111) (modes := (fdAt 111).ms) (outs := (fdAt 111).os) (results := (fdAt 111).rs) (keep := (fdAt 111).keep) Try.func111 (by kernel_rfl) (by kernel_rfl) (by kernel_rfl)
theorem ft115 : FnTab Try.prog E 115 (.ext (pAbs)) := DA.absOk
theorem allFns : AllFns Try.prog E fnTab := .cons ft10 (.cons ft22 (.cons ft23 (.cons ft24 (.cons ft32 (.cons ft37 (.cons ft43 (.cons ft46 (.cons ft48 (.cons ft63 (.cons ft65 (.cons ft71 (.cons ft72 (.cons ft73 (.cons ft80 (.cons ft82 (.cons ft87 (.cons ft92 (.cons ft96 (.cons ft97 (.cons ft106 (.cons ft111 (.cons ft115 (.nil)))))))))))))))))))))))
theorem fnOk : ∀ f fd, E.fn f = some fd → FnTab Try.prog E f fd := fnTab_of (l := fnTab) (fun _ => rfl) allFns
end Go.Proofs.Ythgenpcoelihiaa.D
end
section
/- Plain functions for the law's Go functions, each tied to the reading by the kernel (printed by a program of this workplace). -/
namespace Go.Proofs.Ythgenpcoelihiaa.D
open Go Go.Desk
set_option linter.unusedVariables false
noncomputable def x87.w : FnW E := xF32bits.w 87 (by kernel_rfl)

noncomputable def x106.w : FnW E := xCopysign.w 106 (by kernel_rfl)

noncomputable def x115.w : FnW E := xAbs.w 115 (by kernel_rfl)

def f22_l_r8Long : Nat → Nat → List T → Nat → List T → Option (Bool)
  | 0, _, _, _, _ => none
  | n + 1, n1, l2, n3, l4 =>
    br (decide (((n1 : Nat) : Int) > (48 : Int))) (
     some true) (
     some (decide (((n3 : Nat) : Int) > (48 : Int))))
def sg_ll : Sig (Nat × List T × Nat × List T) where
  pk := fun v => [.lst v.1 v.2.1, .lst v.2.2.1 v.2.2.2]
  up := fun ls => match ls with
    | [.lst a0 a1, .lst a2 a3] => some (a0, a1, a2, a3)
    | _ => none
  ok := by
    intro ls v h
    split at h
    · cases h; rfl
    · cases h

def sg_b : Sig (Bool) where
  pk := fun v => [.bool v]
  up := fun ls => match ls with
    | [.bool a0] => some a0
    | _ => none
  ok := by
    intro ls v h
    split at h
    · cases h; rfl
    · cases h

def f22_l_r8Long.P : List Arg := [⟨.val, ⟨false, [.sl .shr [.leaf]], [.lst 0 []]⟩⟩, ⟨.val, ⟨false, [.sl .shr [.leaf]], [.lst 0 []]⟩⟩]
def f22_l_r8Long.A : RAlt (Bool) := .one ⟨[⟨false, [.leaf], [.bool false]⟩], [none, none]⟩ sg_b
def f22_l_r8Long.F (n : Nat) (v : Nat × List T × Nat × List T) := f22_l_r8Long n v.1 v.2.1 v.2.2.1 v.2.2.2
noncomputable def f22_l_r8Long.O (n : Nat) : Orc := orcOf (E := E) [] [] n
theorem f22_l_r8Long.ok : ∀ n v x, f22_l_r8Long.F n v = some x → evalFn E n 22 (flAs f22_l_r8Long.P (sg_ll.pk v)) = some (f22_l_r8Long.A.enc x) :=
  fn_pure (modes := (fdAt 22).ms) (outs := (fdAt 22).os) (results := (fdAt 22).rs) f22_l_r8Long.O (c := c22) (keep := keepAt 22) (by kernel_rfl) (fun n => orcOf_cf _ _ n) (fun n => lpOk_of (bs := []) (by kernel_rfl) .nil) (fun _ => rfl) (fun _ _ => by kernel_rfl)
noncomputable def f22_l_r8Long.w : FnW E := fnW 22 f22_l_r8Long.P sg_ll f22_l_r8Long.A f22_l_r8Long.F f22_l_r8Long.ok

def f71_s_l00From : Nat → Nat → List T → Option (Nat × List T × Int × Int)
  | 0, _, _ => none
  | n + 1, n1, l2 =>
    some (n1, l2, (0 : Int), (0 : Int))
def sg_l : Sig (Nat × List T) where
  pk := fun v => [.lst v.1 v.2]
  up := fun ls => match ls with
    | [.lst a0 a1] => some (a0, a1)
    | _ => none
  ok := by
    intro ls v h
    split at h
    · cases h; rfl
    · cases h

def sg_lii : Sig (Nat × List T × Int × Int) where
  pk := fun v => [.lst v.1 v.2.1, .int v.2.2.1, .int v.2.2.2]
  up := fun ls => match ls with
    | [.lst a0 a1, .int a2, .int a3] => some (a0, a1, a2, a3)
    | _ => none
  ok := by
    intro ls v h
    split at h
    · cases h; rfl
    · cases h

def f71_s_l00From.P : List Arg := [⟨.val, ⟨false, [.sl .shr [.leaf]], [.lst 0 []]⟩⟩]
def f71_s_l00From.A : RAlt (Nat × List T × Int × Int) := .one ⟨[⟨false, [.rf .own [.sl .shr [.leaf], .leaf, .leaf]], [.ref [.lst 0 [], .int .i64 0, .int .u64 0]]⟩], [none]⟩ sg_lii
def f71_s_l00From.F (n : Nat) (v : Nat × List T) := f71_s_l00From n v.1 v.2
noncomputable def f71_s_l00From.O (n : Nat) : Orc := orcOf (E := E) [] [] n
theorem f71_s_l00From.ok : ∀ n v x, f71_s_l00From.F n v = some x → evalFn E n 71 (flAs f71_s_l00From.P (sg_l.pk v)) = some (f71_s_l00From.A.enc x) :=
  fn_pure (modes := (fdAt 71).ms) (outs := (fdAt 71).os) (results := (fdAt 71).rs) f71_s_l00From.O (c := c71) (keep := keepAt 71) (by kernel_rfl) (fun n => orcOf_cf _ _ n) (fun n => lpOk_of (bs := []) (by kernel_rfl) .nil) (fun _ => rfl) (fun _ _ => by kernel_rfl)
noncomputable def f71_s_l00From.w : FnW E := fnW 71 f71_s_l00From.P sg_l f71_s_l00From.A f71_s_l00From.F f71_s_l00From.ok

def f111_s_l00Srcnext : Nat → Nat → List T → Int → Int → Option (Int × Nat × List T × Int × Int)
  | 0, _, _, _, _ => none
  | n + 1, n1, l2, i3, i4 =>
    br (decide (i3 < ((n1 : Nat) : Int))) (
     gd ((decide (((0 : Int) ≤ i3) ∧ (i3 < ((n1 : Nat) : Int)))) && (okAt [(CK.int IntKind.u8)] l2 (Int.toNat i3))) (
     let i5 : Int := (IntKind.i64.wrap (iAt l2 (Int.toNat i3)))
     let i6 : Int := (IntKind.i64.wrap (i3 + (1 : Int)))
     let i7 : Int := (IntKind.u64.wrap ((IntKind.u64.wrap ((IntKind.u64.wrap (i4 * (6364136223846793005 : Int))) + (IntKind.u64.wrap i5))) + (1442695040888963407 : Int)))
     br (decide (i6 ≤ ((n1 : Nat) : Int))) (
      some (i5, n1, l2, i6, i7)) (
      some ((IntKind.i64.wrap (intBits BinOp.and IntKind.u64 (Int.fdiv i7 (1099511627776 : Int)) (255 : Int))), n1, l2, i6, i7)))) (
     let i8 : Int := (IntKind.i64.wrap (i3 + (1 : Int)))
     let i9 : Int := (IntKind.u64.wrap ((IntKind.u64.wrap ((IntKind.u64.wrap (i4 * (6364136223846793005 : Int))) + (0 : Int))) + (1442695040888963407 : Int)))
     br (decide (i8 ≤ ((n1 : Nat) : Int))) (
      some ((0 : Int), n1, l2, i8, i9)) (
      some ((IntKind.i64.wrap (intBits BinOp.and IntKind.u64 (Int.fdiv i9 (1099511627776 : Int)) (255 : Int))), n1, l2, i8, i9)))
def sg_ilii : Sig (Int × Nat × List T × Int × Int) where
  pk := fun v => [.int v.1, .lst v.2.1 v.2.2.1, .int v.2.2.2.1, .int v.2.2.2.2]
  up := fun ls => match ls with
    | [.int a0, .lst a1 a2, .int a3, .int a4] => some (a0, a1, a2, a3, a4)
    | _ => none
  ok := by
    intro ls v h
    split at h
    · cases h; rfl
    · cases h

def f111_s_l00Srcnext.P : List Arg := [⟨.iop, ⟨false, [.rf .own [.sl .shr [.leaf], .leaf, .leaf]], [.ref [.lst 0 [], .int .i64 0, .int .u64 0]]⟩⟩]
def f111_s_l00Srcnext.A : RAlt (Int × Nat × List T × Int × Int) := .one ⟨[⟨false, [.leaf], [.int .i64 0]⟩], [some ⟨false, [.rf .own [.sl .shr [.leaf], .leaf, .leaf]], [.ref [.lst 0 [], .int .i64 0, .int .u64 0]]⟩]⟩ sg_ilii
def f111_s_l00Srcnext.F (n : Nat) (v : Nat × List T × Int × Int) := f111_s_l00Srcnext n v.1 v.2.1 v.2.2.1 v.2.2.2
noncomputable def f111_s_l00Srcnext.O (n : Nat) : Orc := orcOf (E := E) [] [] n
theorem f111_s_l00Srcnext.ok : ∀ n v x, f111_s_l00Srcnext.F n v = some x → evalFn E n 111 (flAs f111_s_l00Srcnext.P (sg_lii.pk v)) = some (f111_s_l00Srcnext.A.enc x) :=
  fn_pure (modes := (fdAt 111).ms) (outs := (fdAt 111).os) (results := (fdAt 111).rs) f111_s_l00Srcnext.O (c := c111) (keep := keepAt 111) (by kernel_rfl) (fun n => orcOf_cf _ _ n) (fun n => lpOk_of (bs := []) (by kernel_rfl) .nil) (fun _ => rfl) (fun _ _ => by kernel_rfl)
noncomputable def f111_s_l00Srcnext.w : FnW E := fnW 111 f111_s_l00Srcnext.P sg_lii f111_s_l00Srcnext.A f111_s_l00Srcnext.F f111_s_l00Srcnext.ok

def f73_s_l00Srcpick : Nat → Nat → List T → Int → Int → Int → Option (Int × Nat × List T × Int × Int)
  | 0, _, _, _, _, _ => none
  | n + 1, n1, l2, i3, i4, i5 =>
    br (decide (i5 ≤ (1 : Int))) (
     some ((0 : Int), n1, l2, i3, i4)) (
     bd (f111_s_l00Srcnext n n1 l2 i3 i4) fun r6 =>
     let i7 : Int := r6.1
     let n8 : Nat := r6.2.1
     let l9 : List T := r6.2.2.1
     let i10 : Int := r6.2.2.2.1
     let i11 : Int := r6.2.2.2.2
     br (decide (i5 > (200 : Int))) (
      bd (f111_s_l00Srcnext n n8 l9 i10 i11) fun r12 =>
      let i13 : Int := r12.1
      let n14 : Nat := r12.2.1
      let l15 : List T := r12.2.2.1
      let i16 : Int := r12.2.2.2.1
      let i17 : Int := r12.2.2.2.2
      let i18 : Int := (IntKind.i64.wrap ((IntKind.i64.wrap (i7 * (256 : Int))) + i13))
      gd (!(decide (i5 = (0 : Int)))) (
      some ((Int.tmod i18 i5), n14, l15, i16, i17))) (
      gd (!(decide (i5 = (0 : Int)))) (
      some ((Int.tmod i7 i5), n8, l9, i10, i11))))
def sg_liii : Sig (Nat × List T × Int × Int × Int) where
  pk := fun v => [.lst v.1 v.2.1, .int v.2.2.1, .int v.2.2.2.1, .int v.2.2.2.2]
  up := fun ls => match ls with
    | [.lst a0 a1, .int a2, .int a3, .int a4] => some (a0, a1, a2, a3, a4)
    | _ => none
  ok := by
    intro ls v h
    split at h
    · cases h; rfl
    · cases h

def f73_s_l00Srcpick.P : List Arg := [⟨.iop, ⟨false, [.rf .own [.sl .shr [.leaf], .leaf, .leaf]], [.ref [.lst 0 [], .int .i64 0, .int .u64 0]]⟩⟩, ⟨.val, ⟨false, [.leaf], [.int .i64 0]⟩⟩]
def f73_s_l00Srcpick.A : RAlt (Int × Nat × List T × Int × Int) := .one ⟨[⟨false, [.leaf], [.int .i64 0]⟩], [some ⟨false, [.rf .own [.sl .shr [.leaf], .leaf, .leaf]], [.ref [.lst 0 [], .int .i64 0, .int .u64 0]]⟩, none]⟩ sg_ilii
def f73_s_l00Srcpick.F (n : Nat) (v : Nat × List T × Int × Int × Int) := f73_s_l00Srcpick n v.1 v.2.1 v.2.2.1 v.2.2.2.1 v.2.2.2.2
noncomputable def f73_s_l00Srcpick.O (n : Nat) : Orc := orcOf (E := E) [f111_s_l00Srcnext.w] [] n
theorem f73_s_l00Srcpick.ok : ∀ n v x, f73_s_l00Srcpick.F n v = some x → evalFn E n 73 (flAs f73_s_l00Srcpick.P (sg_liii.pk v)) = some (f73_s_l00Srcpick.A.enc x) :=
  fn_pure (modes := (fdAt 73).ms) (outs := (fdAt 73).os) (results := (fdAt 73).rs) f73_s_l00Srcpick.O (c := c73) (keep := keepAt 73) (by kernel_rfl) (fun n => orcOf_cf _ _ n) (fun n => lpOk_of (bs := []) (by kernel_rfl) .nil) (fun _ => rfl) (fun _ _ => by kernel_rfl)
noncomputable def f73_s_l00Srcpick.w : FnW E := fnW 73 f73_s_l00Srcpick.P sg_liii f73_s_l00Srcpick.A f73_s_l00Srcpick.F f73_s_l00Srcpick.ok

def f43_s_R8Squeeze : Nat → Nat → List T → Option (Nat × Nat × Nat × Nat × Nat)
  | 0, _, _ => none
  | n + 1, n1, l2 =>
    bd (f71_s_l00From n n1 l2) fun r3 =>
    let n4 : Nat := r3.1
    let l5 : List T := r3.2.1
    let i6 : Int := r3.2.2.1
    let i7 : Int := r3.2.2.2
    bd (f73_s_l00Srcpick n n4 l5 i6 i7 (17 : Int)) fun r8 =>
    let i9 : Int := r8.1
    let n10 : Nat := r8.2.1
    let l11 : List T := r8.2.2.1
    let i12 : Int := r8.2.2.2.1
    let i13 : Int := r8.2.2.2.2
    let x14 : Nat := (fdiv FloatKind.f32 (FloatKind.nearest FloatKind.f32 i9) 1098907648)
    bd (f73_s_l00Srcpick n n10 l11 i12 i13 (17 : Int)) fun r15 =>
    let i16 : Int := r15.1
    let n17 : Nat := r15.2.1
    let l18 : List T := r15.2.2.1
    let i19 : Int := r15.2.2.2.1
    let i20 : Int := r15.2.2.2.2
    let x21 : Nat := (fdiv FloatKind.f32 (FloatKind.nearest FloatKind.f32 i16) 1098907648)
    bd (f73_s_l00Srcpick n n17 l18 i19 i20 (17 : Int)) fun r22 =>
    let i23 : Int := r22.1
    let n24 : Nat := r22.2.1
    let l25 : List T := r22.2.2.1
    let i26 : Int := r22.2.2.2.1
    let i27 : Int := r22.2.2.2.2
    let x28 : Nat := (fdiv FloatKind.f32 (FloatKind.nearest FloatKind.f32 i23) 1098907648)
    bd (f73_s_l00Srcpick n n24 l25 i26 i27 (8 : Int)) fun r29 =>
    let i30 : Int := r29.1
    let n31 : Nat := r29.2.1
    let l32 : List T := r29.2.2.1
    let i33 : Int := r29.2.2.2.1
    let i34 : Int := r29.2.2.2.2
    let x35 : Nat := (FloatKind.nearest FloatKind.f32 (IntKind.i64.wrap ((1 : Int) + i30)))
    some (x14, x21, 0, x28, x35)
def sg_fffff : Sig (Nat × Nat × Nat × Nat × Nat) where
  pk := fun v => [.flt v.1, .flt v.2.1, .flt v.2.2.1, .flt v.2.2.2.1, .flt v.2.2.2.2]
  up := fun ls => match ls with
    | [.flt a0, .flt a1, .flt a2, .flt a3, .flt a4] => some (a0, a1, a2, a3, a4)
    | _ => none
  ok := by
    intro ls v h
    split at h
    · cases h; rfl
    · cases h

def f43_s_R8Squeeze.P : List Arg := [⟨.val, ⟨false, [.sl .shr [.leaf]], [.lst 0 []]⟩⟩]
def f43_s_R8Squeeze.A : RAlt (Nat × Nat × Nat × Nat × Nat) := .one ⟨[⟨true, [.leaf, .leaf, .leaf, .leaf, .leaf], [.flt .f32 0, .flt .f32 0, .flt .f32 0, .flt .f32 0, .flt .f32 0]⟩], [none]⟩ sg_fffff
def f43_s_R8Squeeze.F (n : Nat) (v : Nat × List T) := f43_s_R8Squeeze n v.1 v.2
noncomputable def f43_s_R8Squeeze.O (n : Nat) : Orc := orcOf (E := E) [f71_s_l00From.w, f73_s_l00Srcpick.w] [] n
theorem f43_s_R8Squeeze.ok : ∀ n v x, f43_s_R8Squeeze.F n v = some x → evalFn E n 43 (flAs f43_s_R8Squeeze.P (sg_l.pk v)) = some (f43_s_R8Squeeze.A.enc x) :=
  fn_pure (modes := (fdAt 43).ms) (outs := (fdAt 43).os) (results := (fdAt 43).rs) f43_s_R8Squeeze.O (c := c43) (keep := keepAt 43) (by kernel_rfl) (fun n => orcOf_cf _ _ n) (fun n => lpOk_of (bs := []) (by kernel_rfl) .nil) (fun _ => rfl) (fun _ _ => by kernel_rfl)
noncomputable def f43_s_R8Squeeze.w : FnW E := fnW 43 f43_s_R8Squeeze.P sg_l f43_s_R8Squeeze.A f43_s_R8Squeeze.F f43_s_R8Squeeze.ok

def f72_s_l00Srcone : Nat → Nat → List T → Int → Int → Int → Option (Bool × Nat × List T × Int × Int)
  | 0, _, _, _, _, _ => none
  | n + 1, n1, l2, i3, i4, i5 =>
    bd (f73_s_l00Srcpick n n1 l2 i3 i4 i5) fun r6 =>
    let i7 : Int := r6.1
    let n8 : Nat := r6.2.1
    let l9 : List T := r6.2.2.1
    let i10 : Int := r6.2.2.2.1
    let i11 : Int := r6.2.2.2.2
    some ((i7 == (0 : Int)), n8, l9, i10, i11)
def sg_blii : Sig (Bool × Nat × List T × Int × Int) where
  pk := fun v => [.bool v.1, .lst v.2.1 v.2.2.1, .int v.2.2.2.1, .int v.2.2.2.2]
  up := fun ls => match ls with
    | [.bool a0, .lst a1 a2, .int a3, .int a4] => some (a0, a1, a2, a3, a4)
    | _ => none
  ok := by
    intro ls v h
    split at h
    · cases h; rfl
    · cases h

def f72_s_l00Srcone.P : List Arg := [⟨.iop, ⟨false, [.rf .own [.sl .shr [.leaf], .leaf, .leaf]], [.ref [.lst 0 [], .int .i64 0, .int .u64 0]]⟩⟩, ⟨.val, ⟨false, [.leaf], [.int .i64 0]⟩⟩]
def f72_s_l00Srcone.A : RAlt (Bool × Nat × List T × Int × Int) := .one ⟨[⟨false, [.leaf], [.bool false]⟩], [some ⟨false, [.rf .own [.sl .shr [.leaf], .leaf, .leaf]], [.ref [.lst 0 [], .int .i64 0, .int .u64 0]]⟩, none]⟩ sg_blii
def f72_s_l00Srcone.F (n : Nat) (v : Nat × List T × Int × Int × Int) := f72_s_l00Srcone n v.1 v.2.1 v.2.2.1 v.2.2.2.1 v.2.2.2.2
noncomputable def f72_s_l00Srcone.O (n : Nat) : Orc := orcOf (E := E) [f73_s_l00Srcpick.w] [] n
theorem f72_s_l00Srcone.ok : ∀ n v x, f72_s_l00Srcone.F n v = some x → evalFn E n 72 (flAs f72_s_l00Srcone.P (sg_liii.pk v)) = some (f72_s_l00Srcone.A.enc x) :=
  fn_pure (modes := (fdAt 72).ms) (outs := (fdAt 72).os) (results := (fdAt 72).rs) f72_s_l00Srcone.O (c := c72) (keep := keepAt 72) (by kernel_rfl) (fun n => orcOf_cf _ _ n) (fun n => lpOk_of (bs := []) (by kernel_rfl) .nil) (fun _ => rfl) (fun _ _ => by kernel_rfl)
noncomputable def f72_s_l00Srcone.w : FnW E := fnW 72 f72_s_l00Srcone.P sg_liii f72_s_l00Srcone.A f72_s_l00Srcone.F f72_s_l00Srcone.ok

def f80_s_l01DrawPlain : Nat → Nat → List T → Int → Int → Option (Nat × Nat × List T × Int × Int)
  | 0, _, _, _, _ => none
  | n + 1, n1, l2, i3, i4 =>
    bd (f73_s_l00Srcpick n n1 l2 i3 i4 (129 : Int)) fun r5 =>
    let i6 : Int := r5.1
    let n7 : Nat := r5.2.1
    let l8 : List T := r5.2.2.1
    let i9 : Int := r5.2.2.2.1
    let i10 : Int := r5.2.2.2.2
    let i11 : Int := (IntKind.i64.wrap (i6 - (64 : Int)))
    bd (f72_s_l00Srcone n n7 l8 i9 i10 (4 : Int)) fun r12 =>
    let b13 : Bool := r12.1
    let n14 : Nat := r12.2.1
    let l15 : List T := r12.2.2.1
    let i16 : Int := r12.2.2.2.1
    let i17 : Int := r12.2.2.2.2
    br b13 (
     some ((fdiv FloatKind.f32 (FloatKind.nearest FloatKind.f32 i11) 1088421888), n14, l15, i16, i17)) (
     some ((fdiv FloatKind.f32 (FloatKind.nearest FloatKind.f32 i11) 1098907648), n14, l15, i16, i17))
def sg_flii : Sig (Nat × Nat × List T × Int × Int) where
  pk := fun v => [.flt v.1, .lst v.2.1 v.2.2.1, .int v.2.2.2.1, .int v.2.2.2.2]
  up := fun ls => match ls with
    | [.flt a0, .lst a1 a2, .int a3, .int a4] => some (a0, a1, a2, a3, a4)
    | _ => none
  ok := by
    intro ls v h
    split at h
    · cases h; rfl
    · cases h

def f80_s_l01DrawPlain.P : List Arg := [⟨.iop, ⟨false, [.rf .own [.sl .shr [.leaf], .leaf, .leaf]], [.ref [.lst 0 [], .int .i64 0, .int .u64 0]]⟩⟩]
def f80_s_l01DrawPlain.A : RAlt (Nat × Nat × List T × Int × Int) := .one ⟨[⟨false, [.leaf], [.flt .f32 0]⟩], [some ⟨false, [.rf .own [.sl .shr [.leaf], .leaf, .leaf]], [.ref [.lst 0 [], .int .i64 0, .int .u64 0]]⟩]⟩ sg_flii
def f80_s_l01DrawPlain.F (n : Nat) (v : Nat × List T × Int × Int) := f80_s_l01DrawPlain n v.1 v.2.1 v.2.2.1 v.2.2.2
noncomputable def f80_s_l01DrawPlain.O (n : Nat) : Orc := orcOf (E := E) [f73_s_l00Srcpick.w, f72_s_l00Srcone.w] [] n
theorem f80_s_l01DrawPlain.ok : ∀ n v x, f80_s_l01DrawPlain.F n v = some x → evalFn E n 80 (flAs f80_s_l01DrawPlain.P (sg_lii.pk v)) = some (f80_s_l01DrawPlain.A.enc x) :=
  fn_pure (modes := (fdAt 80).ms) (outs := (fdAt 80).os) (results := (fdAt 80).rs) f80_s_l01DrawPlain.O (c := c80) (keep := keepAt 80) (by kernel_rfl) (fun n => orcOf_cf _ _ n) (fun n => lpOk_of (bs := []) (by kernel_rfl) .nil) (fun _ => rfl) (fun _ _ => by kernel_rfl)
noncomputable def f80_s_l01DrawPlain.w : FnW E := fnW 80 f80_s_l01DrawPlain.P sg_lii f80_s_l01DrawPlain.A f80_s_l01DrawPlain.F f80_s_l01DrawPlain.ok

def f24_s_R8Plain.l0 (n : Nat) : Nat → Int → Nat → List T → Int → Int → Nat → List T → Int → Option (Nat × List T)
  | 0, _, _, _, _, _, _, _, _ => none
  | m + 1, i1, n2, l3, i4, i5, n6, l7, i8 =>
    br (decide (i8 < i1)) (
     bd (f80_s_l01DrawPlain n n2 l3 i4 i5) fun r9 =>
     let x10 : Nat := r9.1
     let n11 : Nat := r9.2.1
     let l12 : List T := r9.2.2.1
     let i13 : Int := r9.2.2.2.1
     let i14 : Int := r9.2.2.2.2
     gd (Nat.ble (n6 + 1) 2147483648) (
     let n15 : Nat := (n6 + 1)
     let l16 : List T := (l7 ++ (setN (reps 1 [(T.flt FloatKind.f32 0)]) 0 [(T.flt FloatKind.f32 x10)]))
     f24_s_R8Plain.l0 n m i1 n11 l12 i13 i14 n15 l16 (IntKind.i64.wrap (i8 + (1 : Int))))) (
     some (n6, l7))
def f24_s_R8Plain : Nat → Nat → List T → Int → Option (Nat × List T)
  | 0, _, _, _ => none
  | n + 1, n1, l2, i3 =>
    bd (f71_s_l00From n n1 l2) fun r4 =>
    let n5 : Nat := r4.1
    let l6 : List T := r4.2.1
    let i7 : Int := r4.2.2.1
    let i8 : Int := r4.2.2.2
    bd (f24_s_R8Plain.l0 n n i3 n5 l6 i7 i8 0 (reps 0 [(T.flt FloatKind.f32 0)]) (0 : Int)) fun r9 =>
    let n10 : Nat := r9.1
    let l11 : List T := r9.2
    some (n10, l11)
def sg_li : Sig (Nat × List T × Int) where
  pk := fun v => [.lst v.1 v.2.1, .int v.2.2]
  up := fun ls => match ls with
    | [.lst a0 a1, .int a2] => some (a0, a1, a2)
    | _ => none
  ok := by
    intro ls v h
    split at h
    · cases h; rfl
    · cases h

def sg_iliili : Sig (Int × Nat × List T × Int × Int × Nat × List T × Int) where
  pk := fun v => [.int v.1, .lst v.2.1 v.2.2.1, .int v.2.2.2.1, .int v.2.2.2.2.1, .lst v.2.2.2.2.2.1 v.2.2.2.2.2.2.1, .int v.2.2.2.2.2.2.2]
  up := fun ls => match ls with
    | [.int a0, .lst a1 a2, .int a3, .int a4, .lst a5 a6, .int a7] => some (a0, a1, a2, a3, a4, a5, a6, a7)
    | _ => none
  ok := by
    intro ls v h
    split at h
    · cases h; rfl
    · cases h

def f24_s_R8Plain.l0.P : AS := ⟨[(1, .val false [.leaf] [.int .i64 0] [] 0), (5, .box [.sl .shr [.leaf], .leaf, .leaf] [.lst 0 [], .int .i64 0, .int .u64 0] [] 0), (6, .val false [.sl .own [.leaf]] [.lst 0 []] [] 0), (7, .val false [.leaf] [.int .i64 0] [] 0)], 0⟩
def f24_s_R8Plain.l0.A : Alt (Nat × List T) := .one (.exit 0) ⟨[(6, .val false [.sl .own [.leaf]] [.lst 0 []] [] 0)], 0⟩ sg_l
def f24_s_R8Plain.l0.F (n m : Nat) (v : Int × Nat × List T × Int × Int × Nat × List T × Int) := f24_s_R8Plain.l0 n m v.1 v.2.1 v.2.2.1 v.2.2.2.1 v.2.2.2.2.1 v.2.2.2.2.2.1 v.2.2.2.2.2.2.1 v.2.2.2.2.2.2.2
def f24_s_R8Plain.l0.W (n : Nat) : LpW := .of 64 f24_s_R8Plain.l0.P sg_iliili f24_s_R8Plain.l0.A (f24_s_R8Plain.l0.F n n)
def f24_s_R8Plain.P : List Arg := [⟨.val, ⟨false, [.sl .shr [.leaf]], [.lst 0 []]⟩⟩, ⟨.val, ⟨false, [.leaf], [.int .i64 0]⟩⟩]
def f24_s_R8Plain.A : RAlt (Nat × List T) := .one ⟨[⟨false, [.sl .own [.leaf]], [.lst 0 []]⟩], [none, none]⟩ sg_l
def f24_s_R8Plain.F (n : Nat) (v : Nat × List T × Int) := f24_s_R8Plain n v.1 v.2.1 v.2.2
noncomputable def f24_s_R8Plain.O (n : Nat) : Orc := orcOf (E := E) [f71_s_l00From.w, f80_s_l01DrawPlain.w] [f24_s_R8Plain.l0.W n] n
theorem f24_s_R8Plain.l0.ok (n : Nat) : LpOk (f24_s_R8Plain.O n) E (evalFn E n) n (keepAt 24) (.loop (loopAt c24 0)) :=
  lp_pure f24_s_R8Plain.l0.P sg_iliili f24_s_R8Plain.l0.A (f24_s_R8Plain.l0.F n) (orcOf_cf _ _ n) (lpOk_of (bs := []) (by kernel_rfl) .nil) (fun _ => rfl) (fun _ _ => by kernel_rfl) (fun _ _ _ => by kernel_rfl)
theorem f24_s_R8Plain.ok : ∀ n v x, f24_s_R8Plain.F n v = some x → evalFn E n 24 (flAs f24_s_R8Plain.P (sg_li.pk v)) = some (f24_s_R8Plain.A.enc x) :=
  fn_pure (modes := (fdAt 24).ms) (outs := (fdAt 24).os) (results := (fdAt 24).rs) f24_s_R8Plain.O (c := c24) (keep := keepAt 24) (by kernel_rfl) (fun n => orcOf_cf _ _ n) (fun n => lpOk_of (bs := [loopAt c24 0]) (by kernel_rfl) (.cons (f24_s_R8Plain.l0.ok n) .nil)) (fun _ => rfl) (fun _ _ => by kernel_rfl)
noncomputable def f24_s_R8Plain.w : FnW E := fnW 24 f24_s_R8Plain.P sg_li f24_s_R8Plain.A f24_s_R8Plain.F f24_s_R8Plain.ok

def f23_l_r8At : Nat → Nat → List T → Int → Int → Option (Int)
  | 0, _, _, _, _ => none
  | n + 1, n1, l2, i3, i4 =>
    br (decide (i4 ≤ (1 : Int))) (
     some (0 : Int)) (
     br (decide (i3 ≥ ((n1 : Nat) : Int))) (
      some (0 : Int)) (
      gd ((decide (((0 : Int) ≤ i3) ∧ (i3 < ((n1 : Nat) : Int)))) && (okAt [(CK.int IntKind.u8)] l2 (Int.toNat i3))) (
      gd (!(decide (i4 = (0 : Int)))) (
      some (Int.tmod (IntKind.i64.wrap (iAt l2 (Int.toNat i3))) i4)))))
def sg_i : Sig (Int) where
  pk := fun v => [.int v]
  up := fun ls => match ls with
    | [.int a0] => some a0
    | _ => none
  ok := by
    intro ls v h
    split at h
    · cases h; rfl
    · cases h

def f23_l_r8At.P : List Arg := [⟨.val, ⟨false, [.sl .shr [.leaf]], [.lst 0 []]⟩⟩, ⟨.val, ⟨false, [.leaf], [.int .i64 0]⟩⟩, ⟨.val, ⟨false, [.leaf], [.int .i64 0]⟩⟩]
def f23_l_r8At.A : RAlt (Int) := .one ⟨[⟨false, [.leaf], [.int .i64 0]⟩], [none, none, none]⟩ sg_i
def f23_l_r8At.F (n : Nat) (v : Nat × List T × Int × Int) := f23_l_r8At n v.1 v.2.1 v.2.2.1 v.2.2.2
noncomputable def f23_l_r8At.O (n : Nat) : Orc := orcOf (E := E) [] [] n
theorem f23_l_r8At.ok : ∀ n v x, f23_l_r8At.F n v = some x → evalFn E n 23 (flAs f23_l_r8At.P (sg_lii.pk v)) = some (f23_l_r8At.A.enc x) :=
  fn_pure (modes := (fdAt 23).ms) (outs := (fdAt 23).os) (results := (fdAt 23).rs) f23_l_r8At.O (c := c23) (keep := keepAt 23) (by kernel_rfl) (fun n => orcOf_cf _ _ n) (fun n => lpOk_of (bs := []) (by kernel_rfl) .nil) (fun _ => rfl) (fun _ _ => by kernel_rfl)
noncomputable def f23_l_r8At.w : FnW E := fnW 23 f23_l_r8At.P sg_lii f23_l_r8At.A f23_l_r8At.F f23_l_r8At.ok

def f82_i_areSamples : Nat → Nat → List T → Option (Bool)
  | 0, _, _ => none
  | n + 1, n1, l2 =>
    some (decide (((n1 : Nat) : Int) ≤ (256 : Int)))
def f82_i_areSamples.P : List Arg := [⟨.val, ⟨false, [.sl .shr [.leaf]], [.lst 0 []]⟩⟩]
def f82_i_areSamples.A : RAlt (Bool) := .one ⟨[⟨false, [.leaf], [.bool false]⟩], [none]⟩ sg_b
def f82_i_areSamples.F (n : Nat) (v : Nat × List T) := f82_i_areSamples n v.1 v.2
noncomputable def f82_i_areSamples.O (n : Nat) : Orc := orcOf (E := E) [] [] n
theorem f82_i_areSamples.ok : ∀ n v x, f82_i_areSamples.F n v = some x → evalFn E n 82 (flAs f82_i_areSamples.P (sg_l.pk v)) = some (f82_i_areSamples.A.enc x) :=
  fn_pure (modes := (fdAt 82).ms) (outs := (fdAt 82).os) (results := (fdAt 82).rs) f82_i_areSamples.O (c := c82) (keep := keepAt 82) (by kernel_rfl) (fun n => orcOf_cf _ _ n) (fun n => lpOk_of (bs := []) (by kernel_rfl) .nil) (fun _ => rfl) (fun _ _ => by kernel_rfl)
noncomputable def f82_i_areSamples.w : FnW E := fnW 82 f82_i_areSamples.P sg_l f82_i_areSamples.A f82_i_areSamples.F f82_i_areSamples.ok

def f92_i_absolute : Nat → Nat → Option (Nat)
  | 0, _ => none
  | n + 1, x1 =>
    bd ((fltToFlt FloatKind.f32 x1 FloatKind.f64)) fun y2 =>
    bd (xAbs n y2) fun r3 =>
    let x4 : Nat := r3
    bd ((fltToFlt FloatKind.f64 x4 FloatKind.f32)) fun y5 =>
    some y5
def sg_f : Sig (Nat) where
  pk := fun v => [.flt v]
  up := fun ls => match ls with
    | [.flt a0] => some a0
    | _ => none
  ok := by
    intro ls v h
    split at h
    · cases h; rfl
    · cases h

def f92_i_absolute.P : List Arg := [⟨.val, ⟨false, [.leaf], [.flt .f32 0]⟩⟩]
def f92_i_absolute.A : RAlt (Nat) := .one ⟨[⟨false, [.leaf], [.flt .f32 0]⟩], [none]⟩ sg_f
def f92_i_absolute.F (n : Nat) (v : Nat) := f92_i_absolute n v
noncomputable def f92_i_absolute.O (n : Nat) : Orc := orcOf (E := E) [x115.w] [] n
theorem f92_i_absolute.ok : ∀ n v x, f92_i_absolute.F n v = some x → evalFn E n 92 (flAs f92_i_absolute.P (sg_f.pk v)) = some (f92_i_absolute.A.enc x) :=
  fn_pure (modes := (fdAt 92).ms) (outs := (fdAt 92).os) (results := (fdAt 92).rs) f92_i_absolute.O (c := c92) (keep := keepAt 92) (by kernel_rfl) (fun n => orcOf_cf _ _ n) (fun n => lpOk_of (bs := []) (by kernel_rfl) .nil) (fun _ => rfl) (fun _ _ => by kernel_rfl)
noncomputable def f92_i_absolute.w : FnW E := fnW 92 f92_i_absolute.P sg_f f92_i_absolute.A f92_i_absolute.F f92_i_absolute.ok

def f65_i_IsSubnormal : Nat → Nat → Option (Bool)
  | 0, _ => none
  | n + 1, x1 =>
    br (fne FloatKind.f32 x1 0) (
     br (flt FloatKind.f32 x1 8388608) (
      some (fgt FloatKind.f32 x1 2155872256)) (
      some false)) (
     some false)
def f65_i_IsSubnormal.P : List Arg := [⟨.val, ⟨false, [.leaf], [.flt .f32 0]⟩⟩]
def f65_i_IsSubnormal.A : RAlt (Bool) := .one ⟨[⟨false, [.leaf], [.bool false]⟩], [none]⟩ sg_b
def f65_i_IsSubnormal.F (n : Nat) (v : Nat) := f65_i_IsSubnormal n v
noncomputable def f65_i_IsSubnormal.O (n : Nat) : Orc := orcOf (E := E) [] [] n
theorem f65_i_IsSubnormal.ok : ∀ n v x, f65_i_IsSubnormal.F n v = some x → evalFn E n 65 (flAs f65_i_IsSubnormal.P (sg_f.pk v)) = some (f65_i_IsSubnormal.A.enc x) :=
  fn_pure (modes := (fdAt 65).ms) (outs := (fdAt 65).os) (results := (fdAt 65).rs) f65_i_IsSubnormal.O (c := c65) (keep := keepAt 65) (by kernel_rfl) (fun n => orcOf_cf _ _ n) (fun n => lpOk_of (bs := []) (by kernel_rfl) .nil) (fun _ => rfl) (fun _ _ => by kernel_rfl)
noncomputable def f65_i_IsSubnormal.w : FnW E := fnW 65 f65_i_IsSubnormal.P sg_f f65_i_IsSubnormal.A f65_i_IsSubnormal.F f65_i_IsSubnormal.ok

def f63_i_FlushNumber : Nat → Nat → Option (Nat)
  | 0, _ => none
  | n + 1, x1 =>
    bd (f65_i_IsSubnormal n x1) fun r2 =>
    let b3 : Bool := r2
    br (!b3) (
     some x1) (
     bd ((fltToFlt FloatKind.f32 x1 FloatKind.f64)) fun y4 =>
     bd (xCopysign n 0 y4) fun r5 =>
     let x6 : Nat := r5
     bd ((fltToFlt FloatKind.f64 x6 FloatKind.f32)) fun y7 =>
     some y7)
def f63_i_FlushNumber.P : List Arg := [⟨.val, ⟨false, [.leaf], [.flt .f32 0]⟩⟩]
def f63_i_FlushNumber.A : RAlt (Nat) := .one ⟨[⟨false, [.leaf], [.flt .f32 0]⟩], [none]⟩ sg_f
def f63_i_FlushNumber.F (n : Nat) (v : Nat) := f63_i_FlushNumber n v
noncomputable def f63_i_FlushNumber.O (n : Nat) : Orc := orcOf (E := E) [x106.w, f65_i_IsSubnormal.w] [] n
theorem f63_i_FlushNumber.ok : ∀ n v x, f63_i_FlushNumber.F n v = some x → evalFn E n 63 (flAs f63_i_FlushNumber.P (sg_f.pk v)) = some (f63_i_FlushNumber.A.enc x) :=
  fn_pure (modes := (fdAt 63).ms) (outs := (fdAt 63).os) (results := (fdAt 63).rs) f63_i_FlushNumber.O (c := c63) (keep := keepAt 63) (by kernel_rfl) (fun n => orcOf_cf _ _ n) (fun n => lpOk_of (bs := []) (by kernel_rfl) .nil) (fun _ => rfl) (fun _ _ => by kernel_rfl)
noncomputable def f63_i_FlushNumber.w : FnW E := fnW 63 f63_i_FlushNumber.P sg_f f63_i_FlushNumber.A f63_i_FlushNumber.F f63_i_FlushNumber.ok

def f96_i_Followerstep : Nat → Nat → Nat → Nat → Nat → Option (Nat × Nat × Nat)
  | 0, _, _, _, _ => none
  | n + 1, x1, x2, x3, x4 =>
    bd (f92_i_absolute n x4) fun r5 =>
    let x6 : Nat := r5
    br (fgt FloatKind.f32 x6 x3) (
     bd (f63_i_FlushNumber n (fadd FloatKind.f32 x3 (fmul FloatKind.f32 x1 (fsub FloatKind.f32 x6 x3)))) fun r7 =>
     let x8 : Nat := r7
     some (x1, x2, x8)) (
     bd (f63_i_FlushNumber n (fadd FloatKind.f32 x3 (fmul FloatKind.f32 x2 (fsub FloatKind.f32 x6 x3)))) fun r9 =>
     let x10 : Nat := r9
     some (x1, x2, x10))
def sg_ffff : Sig (Nat × Nat × Nat × Nat) where
  pk := fun v => [.flt v.1, .flt v.2.1, .flt v.2.2.1, .flt v.2.2.2]
  up := fun ls => match ls with
    | [.flt a0, .flt a1, .flt a2, .flt a3] => some (a0, a1, a2, a3)
    | _ => none
  ok := by
    intro ls v h
    split at h
    · cases h; rfl
    · cases h

def sg_fff : Sig (Nat × Nat × Nat) where
  pk := fun v => [.flt v.1, .flt v.2.1, .flt v.2.2]
  up := fun ls => match ls with
    | [.flt a0, .flt a1, .flt a2] => some (a0, a1, a2)
    | _ => none
  ok := by
    intro ls v h
    split at h
    · cases h; rfl
    · cases h

def f96_i_Followerstep.P : List Arg := [⟨.iop, ⟨false, [.rf .own [.leaf, .leaf, .leaf]], [.ref [.flt .f32 0, .flt .f32 0, .flt .f32 0]]⟩⟩, ⟨.val, ⟨false, [.leaf], [.flt .f32 0]⟩⟩]
def f96_i_Followerstep.A : RAlt (Nat × Nat × Nat) := .one ⟨[], [some ⟨false, [.rf .own [.leaf, .leaf, .leaf]], [.ref [.flt .f32 0, .flt .f32 0, .flt .f32 0]]⟩, none]⟩ sg_fff
def f96_i_Followerstep.F (n : Nat) (v : Nat × Nat × Nat × Nat) := f96_i_Followerstep n v.1 v.2.1 v.2.2.1 v.2.2.2
noncomputable def f96_i_Followerstep.O (n : Nat) : Orc := orcOf (E := E) [f92_i_absolute.w, f63_i_FlushNumber.w] [] n
theorem f96_i_Followerstep.ok : ∀ n v x, f96_i_Followerstep.F n v = some x → evalFn E n 96 (flAs f96_i_Followerstep.P (sg_ffff.pk v)) = some (f96_i_Followerstep.A.enc x) :=
  fn_pure (modes := (fdAt 96).ms) (outs := (fdAt 96).os) (results := (fdAt 96).rs) f96_i_Followerstep.O (c := c96) (keep := keepAt 96) (by kernel_rfl) (fun n => orcOf_cf _ _ n) (fun n => lpOk_of (bs := []) (by kernel_rfl) .nil) (fun _ => rfl) (fun _ _ => by kernel_rfl)
noncomputable def f96_i_Followerstep.w : FnW E := fnW 96 f96_i_Followerstep.P sg_ffff f96_i_Followerstep.A f96_i_Followerstep.F f96_i_Followerstep.ok

def f46_i_FollowLevel.l0 (n : Nat) : Nat → Nat → List T → Nat → Nat → Nat → Nat → Nat → Nat → Nat → List T → Nat → List T → Int → Int → Option (Nat × Nat × Nat × Nat × Nat × Nat × Nat × List T)
  | 0, _, _, _, _, _, _, _, _, _, _, _, _, _, _ => none
  | m + 1, n1, l2, x3, x4, x5, x6, x7, x8, n9, l10, n11, l12, i13, i14 =>
    br (decide (i14 < i13)) (
     gd ((decide (((0 : Int) ≤ i14) ∧ (i14 < ((n11 : Nat) : Int)))) && (okAt [(CK.flt FloatKind.f32)] l12 (Int.toNat i14))) (
     let x15 : Nat := (fAt l12 (Int.toNat i14))
     bd (f96_i_Followerstep n x3 x4 x5 x15) fun r16 =>
     let x17 : Nat := r16.1
     let x18 : Nat := r16.2.1
     let x19 : Nat := r16.2.2
     gd (Nat.ble (n9 + 1) 2147483648) (
     let n20 : Nat := (n9 + 1)
     let l21 : List T := (l10 ++ (setN (reps 1 [(T.flt FloatKind.f32 0)]) 0 [(T.flt FloatKind.f32 x19)]))
     f46_i_FollowLevel.l0 n m n1 l2 x17 x18 x19 x6 x7 x8 n20 l21 n11 l12 i13 (IntKind.i64.wrap (i14 + (1 : Int)))))) (
     some (x3, x4, x5, x6, x7, x8, n9, l10))
termination_by structural x => x
def f46_i_FollowLevel : Nat → Nat → Nat → Nat → Nat → List T → Option (Nat × List T × Nat × Nat × Nat × Bool)
  | 0, _, _, _, _, _ => none
  | n + 1, x1, x2, x3, n4, l5 =>
    bd (f82_i_areSamples n n4 l5) fun r6 =>
    let b7 : Bool := r6
    br (!b7) (
     some (0, [], 0, 0, 0, false)) (
     bd (f46_i_FollowLevel.l0 n n n4 l5 x1 x2 x3 0 0 0 0 [] n4 l5 ((n4 : Nat) : Int) (0 : Int)) fun r8 =>
     let x9 : Nat := r8.1
     let x10 : Nat := r8.2.1
     let x11 : Nat := r8.2.2.1
     let x12 : Nat := r8.2.2.2.1
     let x13 : Nat := r8.2.2.2.2.1
     let x14 : Nat := r8.2.2.2.2.2.1
     let n15 : Nat := r8.2.2.2.2.2.2.1
     let l16 : List T := r8.2.2.2.2.2.2.2
     some (n15, l16, x9, x10, x11, true))
def sg_fffl : Sig (Nat × Nat × Nat × Nat × List T) where
  pk := fun v => [.flt v.1, .flt v.2.1, .flt v.2.2.1, .lst v.2.2.2.1 v.2.2.2.2]
  up := fun ls => match ls with
    | [.flt a0, .flt a1, .flt a2, .lst a3 a4] => some (a0, a1, a2, a3, a4)
    | _ => none
  ok := by
    intro ls v h
    split at h
    · cases h; rfl
    · cases h

def sg_lfffb : Sig (Nat × List T × Nat × Nat × Nat × Bool) where
  pk := fun v => [.lst v.1 v.2.1, .flt v.2.2.1, .flt v.2.2.2.1, .flt v.2.2.2.2.1, .bool v.2.2.2.2.2]
  up := fun ls => match ls with
    | [.lst a0 a1, .flt a2, .flt a3, .flt a4, .bool a5] => some (a0, a1, a2, a3, a4, a5)
    | _ => none
  ok := by
    intro ls v h
    split at h
    · cases h; rfl
    · cases h

def sg_lffffffllii : Sig (Nat × List T × Nat × Nat × Nat × Nat × Nat × Nat × Nat × List T × Nat × List T × Int × Int) where
  pk := fun v => [.lst v.1 v.2.1, .flt v.2.2.1, .flt v.2.2.2.1, .flt v.2.2.2.2.1, .flt v.2.2.2.2.2.1, .flt v.2.2.2.2.2.2.1, .flt v.2.2.2.2.2.2.2.1, .lst v.2.2.2.2.2.2.2.2.1 v.2.2.2.2.2.2.2.2.2.1, .lst v.2.2.2.2.2.2.2.2.2.2.1 v.2.2.2.2.2.2.2.2.2.2.2.1, .int v.2.2.2.2.2.2.2.2.2.2.2.2.1, .int v.2.2.2.2.2.2.2.2.2.2.2.2.2]
  up := fun ls => match ls with
    | [.lst a0 a1, .flt a2, .flt a3, .flt a4, .flt a5, .flt a6, .flt a7, .lst a8 a9, .lst a10 a11, .int a12, .int a13] => some (a0, a1, a2, a3, a4, a5, a6, a7, a8, a9, a10, a11, a12, a13)
    | _ => none
  ok := by
    intro ls v h
    split at h
    · cases h; rfl
    · cases h

def sg_ffffffl : Sig (Nat × Nat × Nat × Nat × Nat × Nat × Nat × List T) where
  pk := fun v => [.flt v.1, .flt v.2.1, .flt v.2.2.1, .flt v.2.2.2.1, .flt v.2.2.2.2.1, .flt v.2.2.2.2.2.1, .lst v.2.2.2.2.2.2.1 v.2.2.2.2.2.2.2]
  up := fun ls => match ls with
    | [.flt a0, .flt a1, .flt a2, .flt a3, .flt a4, .flt a5, .lst a6 a7] => some (a0, a1, a2, a3, a4, a5, a6, a7)
    | _ => none
  ok := by
    intro ls v h
    split at h
    · cases h; rfl
    · cases h

def f46_i_FollowLevel.l0.P : AS := ⟨[(1, .val false [.sl .shr [.leaf]] [.lst 0 []] [] 0), (2, .box [.leaf, .leaf, .leaf] [.flt .f32 0, .flt .f32 0, .flt .f32 0] [] 0), (5, .box [.leaf, .leaf, .leaf] [.flt .f32 0, .flt .f32 0, .flt .f32 0] [] 0), (7, .val false [.sl .own [.leaf]] [.lst 0 []] [] 0), (14, .val false [.sl .shr [.leaf]] [.lst 0 []] [] 0), (15, .val false [.leaf] [.int .i64 0] [] 0), (16, .val false [.leaf] [.int .i64 0] [] 0)], 0⟩
def f46_i_FollowLevel.l0.A : Alt (Nat × Nat × Nat × Nat × Nat × Nat × Nat × List T) := .one (.exit 0) ⟨[(2, .box [.leaf, .leaf, .leaf] [.flt .f32 0, .flt .f32 0, .flt .f32 0] [] 0), (5, .box [.leaf, .leaf, .leaf] [.flt .f32 0, .flt .f32 0, .flt .f32 0] [] 0), (7, .val false [.sl .own [.leaf]] [.lst 0 []] [] 0)], 0⟩ sg_ffffffl
def f46_i_FollowLevel.l0.F (n m : Nat) (v : Nat × List T × Nat × Nat × Nat × Nat × Nat × Nat × Nat × List T × Nat × List T × Int × Int) := f46_i_FollowLevel.l0 n m v.1 v.2.1 v.2.2.1 v.2.2.2.1 v.2.2.2.2.1 v.2.2.2.2.2.1 v.2.2.2.2.2.2.1 v.2.2.2.2.2.2.2.1 v.2.2.2.2.2.2.2.2.1 v.2.2.2.2.2.2.2.2.2.1 v.2.2.2.2.2.2.2.2.2.2.1 v.2.2.2.2.2.2.2.2.2.2.2.1 v.2.2.2.2.2.2.2.2.2.2.2.2.1 v.2.2.2.2.2.2.2.2.2.2.2.2.2
def f46_i_FollowLevel.l0.W (n : Nat) : LpW := .of 80 f46_i_FollowLevel.l0.P sg_lffffffllii f46_i_FollowLevel.l0.A (f46_i_FollowLevel.l0.F n n)
def f46_i_FollowLevel.P : List Arg := [⟨.val, ⟨true, [.leaf, .leaf, .leaf], [.flt .f32 0, .flt .f32 0, .flt .f32 0]⟩⟩, ⟨.val, ⟨false, [.sl .shr [.leaf]], [.lst 0 []]⟩⟩]
def f46_i_FollowLevel.A : RAlt (Nat × List T × Nat × Nat × Nat × Bool) := .one ⟨[⟨false, [.sl .own [.leaf]], [.lst 0 []]⟩, ⟨true, [.leaf, .leaf, .leaf], [.flt .f32 0, .flt .f32 0, .flt .f32 0]⟩, ⟨false, [.leaf], [.bool false]⟩], [none, none]⟩ sg_lfffb
def f46_i_FollowLevel.F (n : Nat) (v : Nat × Nat × Nat × Nat × List T) := f46_i_FollowLevel n v.1 v.2.1 v.2.2.1 v.2.2.2.1 v.2.2.2.2
noncomputable def f46_i_FollowLevel.O (n : Nat) : Orc := orcOf (E := E) [f82_i_areSamples.w, f96_i_Followerstep.w] [f46_i_FollowLevel.l0.W n] n
theorem f46_i_FollowLevel.l0.ok (n : Nat) : LpOk (f46_i_FollowLevel.O n) E (evalFn E n) n (keepAt 46) (.loop (loopAt c46 0)) :=
  lp_pure f46_i_FollowLevel.l0.P sg_lffffffllii f46_i_FollowLevel.l0.A (f46_i_FollowLevel.l0.F n) (orcOf_cf _ _ n) (lpOk_of (bs := []) (by kernel_rfl) .nil) (fun _ => rfl) (fun _ _ => by kernel_rfl) (fun _ _ _ => by kernel_rfl)
theorem f46_i_FollowLevel.ok : ∀ n v x, f46_i_FollowLevel.F n v = some x → evalFn E n 46 (flAs f46_i_FollowLevel.P (sg_fffl.pk v)) = some (f46_i_FollowLevel.A.enc x) :=
  fn_pure (modes := (fdAt 46).ms) (outs := (fdAt 46).os) (results := (fdAt 46).rs) f46_i_FollowLevel.O (c := c46) (keep := keepAt 46) (by kernel_rfl) (fun n => orcOf_cf _ _ n) (fun n => lpOk_of (bs := [loopAt c46 0]) (by kernel_rfl) (.cons (f46_i_FollowLevel.l0.ok n) .nil)) (fun _ => rfl) (fun _ _ => by kernel_rfl)
noncomputable def f46_i_FollowLevel.w : FnW E := fnW 46 f46_i_FollowLevel.P sg_fffl f46_i_FollowLevel.A f46_i_FollowLevel.F f46_i_FollowLevel.ok

def f97_i_peakOf.l0 (n : Nat) : Nat → Nat → List T → Nat → Nat → List T → Int → Int → Option (Nat)
  | 0, _, _, _, _, _, _, _ => none
  | m + 1, n1, l2, x3, n4, l5, i6, i7 =>
    br (decide (i7 < i6)) (
     gd ((decide (((0 : Int) ≤ i7) ∧ (i7 < ((n4 : Nat) : Int)))) && (okAt [(CK.flt FloatKind.f32)] l5 (Int.toNat i7))) (
     let x8 : Nat := (fAt l5 (Int.toNat i7))
     bd (f92_i_absolute n x8) fun r9 =>
     let x10 : Nat := r9
     br (fgt FloatKind.f32 x10 x3) (
      f97_i_peakOf.l0 n m n1 l2 x10 n4 l5 i6 (IntKind.i64.wrap (i7 + (1 : Int)))) (
      f97_i_peakOf.l0 n m n1 l2 x3 n4 l5 i6 (IntKind.i64.wrap (i7 + (1 : Int)))))) (
     some x3)
def f97_i_peakOf : Nat → Nat → List T → Option (Nat)
  | 0, _, _ => none
  | n + 1, n1, l2 =>
    bd (f97_i_peakOf.l0 n n n1 l2 0 n1 l2 ((n1 : Nat) : Int) (0 : Int)) fun r3 =>
    let x4 : Nat := r3
    some x4
def sg_lflii : Sig (Nat × List T × Nat × Nat × List T × Int × Int) where
  pk := fun v => [.lst v.1 v.2.1, .flt v.2.2.1, .lst v.2.2.2.1 v.2.2.2.2.1, .int v.2.2.2.2.2.1, .int v.2.2.2.2.2.2]
  up := fun ls => match ls with
    | [.lst a0 a1, .flt a2, .lst a3 a4, .int a5, .int a6] => some (a0, a1, a2, a3, a4, a5, a6)
    | _ => none
  ok := by
    intro ls v h
    split at h
    · cases h; rfl
    · cases h

def f97_i_peakOf.l0.P : AS := ⟨[(0, .val false [.sl .shr [.leaf]] [.lst 0 []] [] 0), (3, .val false [.leaf] [.flt .f32 0] [] 0), (7, .val false [.sl .shr [.leaf]] [.lst 0 []] [] 0), (8, .val false [.leaf] [.int .i64 0] [] 0), (9, .val false [.leaf] [.int .i64 0] [] 0)], 0⟩
def f97_i_peakOf.l0.A : Alt (Nat) := .one (.exit 0) ⟨[(3, .val false [.leaf] [.flt .f32 0] [] 0)], 0⟩ sg_f
def f97_i_peakOf.l0.F (n m : Nat) (v : Nat × List T × Nat × Nat × List T × Int × Int) := f97_i_peakOf.l0 n m v.1 v.2.1 v.2.2.1 v.2.2.2.1 v.2.2.2.2.1 v.2.2.2.2.2.1 v.2.2.2.2.2.2
def f97_i_peakOf.l0.W (n : Nat) : LpW := .of 48 f97_i_peakOf.l0.P sg_lflii f97_i_peakOf.l0.A (f97_i_peakOf.l0.F n n)
def f97_i_peakOf.P : List Arg := [⟨.val, ⟨false, [.sl .shr [.leaf]], [.lst 0 []]⟩⟩]
def f97_i_peakOf.A : RAlt (Nat) := .one ⟨[⟨false, [.leaf], [.flt .f32 0]⟩], [none]⟩ sg_f
def f97_i_peakOf.F (n : Nat) (v : Nat × List T) := f97_i_peakOf n v.1 v.2
noncomputable def f97_i_peakOf.O (n : Nat) : Orc := orcOf (E := E) [f92_i_absolute.w] [f97_i_peakOf.l0.W n] n
theorem f97_i_peakOf.l0.ok (n : Nat) : LpOk (f97_i_peakOf.O n) E (evalFn E n) n (keepAt 97) (.loop (loopAt c97 0)) :=
  lp_pure f97_i_peakOf.l0.P sg_lflii f97_i_peakOf.l0.A (f97_i_peakOf.l0.F n) (orcOf_cf _ _ n) (lpOk_of (bs := []) (by kernel_rfl) .nil) (fun _ => rfl) (fun _ _ => by kernel_rfl) (fun _ _ _ => by kernel_rfl)
theorem f97_i_peakOf.ok : ∀ n v x, f97_i_peakOf.F n v = some x → evalFn E n 97 (flAs f97_i_peakOf.P (sg_l.pk v)) = some (f97_i_peakOf.A.enc x) :=
  fn_pure (modes := (fdAt 97).ms) (outs := (fdAt 97).os) (results := (fdAt 97).rs) f97_i_peakOf.O (c := c97) (keep := keepAt 97) (by kernel_rfl) (fun n => orcOf_cf _ _ n) (fun n => lpOk_of (bs := [loopAt c97 0]) (by kernel_rfl) (.cons (f97_i_peakOf.l0.ok n) .nil)) (fun _ => rfl) (fun _ _ => by kernel_rfl)
noncomputable def f97_i_peakOf.w : FnW E := fnW 97 f97_i_peakOf.P sg_l f97_i_peakOf.A f97_i_peakOf.F f97_i_peakOf.ok

def f48_i_PeakOf : Nat → Nat → List T → Option (Nat × Bool)
  | 0, _, _ => none
  | n + 1, n1, l2 =>
    bd (f82_i_areSamples n n1 l2) fun r3 =>
    let b4 : Bool := r3
    br (!b4) (
     some (0, false)) (
     bd (f97_i_peakOf n n1 l2) fun r5 =>
     let x6 : Nat := r5
     some (x6, true))
def sg_fb : Sig (Nat × Bool) where
  pk := fun v => [.flt v.1, .bool v.2]
  up := fun ls => match ls with
    | [.flt a0, .bool a1] => some (a0, a1)
    | _ => none
  ok := by
    intro ls v h
    split at h
    · cases h; rfl
    · cases h

def f48_i_PeakOf.P : List Arg := [⟨.val, ⟨false, [.sl .shr [.leaf]], [.lst 0 []]⟩⟩]
def f48_i_PeakOf.A : RAlt (Nat × Bool) := .one ⟨[⟨false, [.leaf], [.flt .f32 0]⟩, ⟨false, [.leaf], [.bool false]⟩], [none]⟩ sg_fb
def f48_i_PeakOf.F (n : Nat) (v : Nat × List T) := f48_i_PeakOf n v.1 v.2
noncomputable def f48_i_PeakOf.O (n : Nat) : Orc := orcOf (E := E) [f82_i_areSamples.w, f97_i_peakOf.w] [] n
theorem f48_i_PeakOf.ok : ∀ n v x, f48_i_PeakOf.F n v = some x → evalFn E n 48 (flAs f48_i_PeakOf.P (sg_l.pk v)) = some (f48_i_PeakOf.A.enc x) :=
  fn_pure (modes := (fdAt 48).ms) (outs := (fdAt 48).os) (results := (fdAt 48).rs) f48_i_PeakOf.O (c := c48) (keep := keepAt 48) (by kernel_rfl) (fun n => orcOf_cf _ _ n) (fun n => lpOk_of (bs := []) (by kernel_rfl) .nil) (fun _ => rfl) (fun _ _ => by kernel_rfl)
noncomputable def f48_i_PeakOf.w : FnW E := fnW 48 f48_i_PeakOf.P sg_l f48_i_PeakOf.A f48_i_PeakOf.F f48_i_PeakOf.ok

def f32_i_SameNumber : Nat → Nat → Nat → Option (Bool)
  | 0, _, _ => none
  | n + 1, x1, x2 =>
    br (fne FloatKind.f32 x1 x1) (
     br (fne FloatKind.f32 x1 x1) (
      some (fne FloatKind.f32 x2 x2)) (
      some false)) (
     br (fne FloatKind.f32 x2 x2) (
      br (fne FloatKind.f32 x1 x1) (
       some (fne FloatKind.f32 x2 x2)) (
       some false)) (
      bd (xF32bits n x1) fun r3 =>
      let i4 : Int := r3
      bd (xF32bits n x2) fun r5 =>
      let i6 : Int := r5
      some (i4 == i6)))
def sg_ff : Sig (Nat × Nat) where
  pk := fun v => [.flt v.1, .flt v.2]
  up := fun ls => match ls with
    | [.flt a0, .flt a1] => some (a0, a1)
    | _ => none
  ok := by
    intro ls v h
    split at h
    · cases h; rfl
    · cases h

def f32_i_SameNumber.P : List Arg := [⟨.val, ⟨false, [.leaf], [.flt .f32 0]⟩⟩, ⟨.val, ⟨false, [.leaf], [.flt .f32 0]⟩⟩]
def f32_i_SameNumber.A : RAlt (Bool) := .one ⟨[⟨false, [.leaf], [.bool false]⟩], [none, none]⟩ sg_b
def f32_i_SameNumber.F (n : Nat) (v : Nat × Nat) := f32_i_SameNumber n v.1 v.2
noncomputable def f32_i_SameNumber.O (n : Nat) : Orc := orcOf (E := E) [x87.w] [] n
theorem f32_i_SameNumber.ok : ∀ n v x, f32_i_SameNumber.F n v = some x → evalFn E n 32 (flAs f32_i_SameNumber.P (sg_ff.pk v)) = some (f32_i_SameNumber.A.enc x) :=
  fn_pure (modes := (fdAt 32).ms) (outs := (fdAt 32).os) (results := (fdAt 32).rs) f32_i_SameNumber.O (c := c32) (keep := keepAt 32) (by kernel_rfl) (fun n => orcOf_cf _ _ n) (fun n => lpOk_of (bs := []) (by kernel_rfl) .nil) (fun _ => rfl) (fun _ _ => by kernel_rfl)
noncomputable def f32_i_SameNumber.w : FnW E := fnW 32 f32_i_SameNumber.P sg_ff f32_i_SameNumber.A f32_i_SameNumber.F f32_i_SameNumber.ok

def f37_l_r8Same.l0 (n : Nat) : Nat → Nat → List T → Nat → List T → Int → Option ((Bool) ⊕ (Unit))
  | 0, _, _, _, _, _ => none
  | m + 1, n1, l2, n3, l4, i5 =>
    br (decide (i5 < ((n1 : Nat) : Int))) (
     gd ((decide (((0 : Int) ≤ i5) ∧ (i5 < ((n1 : Nat) : Int)))) && (okAt [(CK.flt FloatKind.f32)] l2 (Int.toNat i5))) (
     gd ((decide (((0 : Int) ≤ i5) ∧ (i5 < ((n3 : Nat) : Int)))) && (okAt [(CK.flt FloatKind.f32)] l4 (Int.toNat i5))) (
     bd (f32_i_SameNumber n (fAt l2 (Int.toNat i5)) (fAt l4 (Int.toNat i5))) fun r6 =>
     let b7 : Bool := r6
     br (!b7) (
      some (Sum.inl false)) (
      f37_l_r8Same.l0 n m n1 l2 n3 l4 (IntKind.i64.wrap (i5 + (1 : Int))))))) (
     some (Sum.inr ()))
def f37_l_r8Same : Nat → Nat → List T → Nat → List T → Option (Bool)
  | 0, _, _, _, _ => none
  | n + 1, n1, l2, n3, l4 =>
    br (((n1 : Nat) : Int) != ((n3 : Nat) : Int)) (
     some false) (
     bd (f37_l_r8Same.l0 n n n1 l2 n3 l4 (0 : Int)) fun r5 =>
     sm r5 (fun u6 =>
      let b7 : Bool := u6
      some b7) (fun u8 =>
      some true))
def sg_lli : Sig (Nat × List T × Nat × List T × Int) where
  pk := fun v => [.lst v.1 v.2.1, .lst v.2.2.1 v.2.2.2.1, .int v.2.2.2.2]
  up := fun ls => match ls with
    | [.lst a0 a1, .lst a2 a3, .int a4] => some (a0, a1, a2, a3, a4)
    | _ => none
  ok := by
    intro ls v h
    split at h
    · cases h; rfl
    · cases h

def sg : Sig (Unit) where
  pk := fun v => []
  up := fun ls => match ls with
    | [] => some ()
    | _ => none
  ok := by
    intro ls v h
    split at h
    · cases h; rfl
    · cases h

def f37_l_r8Same.l0.P : AS := ⟨[(0, .val false [.sl .shr [.leaf]] [.lst 0 []] [] 0), (1, .val false [.sl .shr [.leaf]] [.lst 0 []] [] 0), (5, .val false [.leaf] [.int .i64 0] [] 0)], 0⟩
def f37_l_r8Same.l0.A : Alt ((Bool) ⊕ (Unit)) := .or (.one .ret ⟨[(4, .val false [.leaf] [.bool false] [] 0)], 0⟩ sg_b) (.one (.exit 0) ⟨[(4, .dead)], 0⟩ sg)
def f37_l_r8Same.l0.F (n m : Nat) (v : Nat × List T × Nat × List T × Int) := f37_l_r8Same.l0 n m v.1 v.2.1 v.2.2.1 v.2.2.2.1 v.2.2.2.2
def f37_l_r8Same.l0.W (n : Nat) : LpW := .of 64 f37_l_r8Same.l0.P sg_lli f37_l_r8Same.l0.A (f37_l_r8Same.l0.F n n)
def f37_l_r8Same.P : List Arg := [⟨.val, ⟨false, [.sl .shr [.leaf]], [.lst 0 []]⟩⟩, ⟨.val, ⟨false, [.sl .shr [.leaf]], [.lst 0 []]⟩⟩]
def f37_l_r8Same.A : RAlt (Bool) := .one ⟨[⟨false, [.leaf], [.bool false]⟩], [none, none]⟩ sg_b
def f37_l_r8Same.F (n : Nat) (v : Nat × List T × Nat × List T) := f37_l_r8Same n v.1 v.2.1 v.2.2.1 v.2.2.2
noncomputable def f37_l_r8Same.O (n : Nat) : Orc := orcOf (E := E) [f32_i_SameNumber.w] [f37_l_r8Same.l0.W n] n
theorem f37_l_r8Same.l0.ok (n : Nat) : LpOk (f37_l_r8Same.O n) E (evalFn E n) n (keepAt 37) (.loop (loopAt c37 0)) :=
  lp_pure f37_l_r8Same.l0.P sg_lli f37_l_r8Same.l0.A (f37_l_r8Same.l0.F n) (orcOf_cf _ _ n) (lpOk_of (bs := []) (by kernel_rfl) .nil) (fun _ => rfl) (fun _ _ => by kernel_rfl) (fun _ _ _ => by kernel_rfl)
theorem f37_l_r8Same.ok : ∀ n v x, f37_l_r8Same.F n v = some x → evalFn E n 37 (flAs f37_l_r8Same.P (sg_ll.pk v)) = some (f37_l_r8Same.A.enc x) :=
  fn_pure (modes := (fdAt 37).ms) (outs := (fdAt 37).os) (results := (fdAt 37).rs) f37_l_r8Same.O (c := c37) (keep := keepAt 37) (by kernel_rfl) (fun n => orcOf_cf _ _ n) (fun n => lpOk_of (bs := [loopAt c37 0]) (by kernel_rfl) (.cons (f37_l_r8Same.l0.ok n) .nil)) (fun _ => rfl) (fun _ _ => by kernel_rfl)
noncomputable def f37_l_r8Same.w : FnW E := fnW 37 f37_l_r8Same.P sg_ll f37_l_r8Same.A f37_l_r8Same.F f37_l_r8Same.ok

def f10_l_FnLevels.l0 (n : Nat) : Nat → Nat → List T → Nat → Int → Option ((Bool) ⊕ (Unit))
  | 0, _, _, _, _ => none
  | m + 1, n1, l2, x3, i4 =>
    br (decide (i4 < (12 : Int))) (
     gd (decide (((0 : Int) ≤ i4) ∧ (i4 < ((n1 : Nat) : Int)))) (
     gd (okAt [(CK.flt FloatKind.f32)] l2 (Int.toNat i4)) (
     br (!(fge FloatKind.f32 (fAt l2 (Int.toNat i4)) 0)) (
      some (Sum.inl false)) (
      gd (decide (((0 : Int) ≤ i4) ∧ (i4 < ((n1 : Nat) : Int)))) (
      gd (okAt [(CK.flt FloatKind.f32)] l2 (Int.toNat i4)) (
      bd ((fltToFlt FloatKind.f32 (fAt l2 (Int.toNat i4)) FloatKind.f64)) fun y5 =>
      bd ((fltToFlt FloatKind.f32 x3 FloatKind.f64)) fun y6 =>
      br (fgt FloatKind.f64 y5 (fmul FloatKind.f64 4607182869159980145 y6)) (
       some (Sum.inl false)) (
       f10_l_FnLevels.l0 n m n1 l2 x3 (IntKind.i64.wrap (i4 + (1 : Int)))))))))) (
     some (Sum.inr ()))
def f10_l_FnLevels : Nat → Nat → List T → Nat → List T → Option (Bool)
  | 0, _, _, _, _ => none
  | n + 1, n1, l2, n3, l4 =>
    bd (f22_l_r8Long n n1 l2 n3 l4) fun r5 =>
    let b6 : Bool := r5
    br b6 (
     some true) (
     bd (f43_s_R8Squeeze n n1 l2) fun r7 =>
     let x8 : Nat := r7.1
     let x9 : Nat := r7.2.1
     let x10 : Nat := r7.2.2.1
     let x11 : Nat := r7.2.2.2.1
     let x12 : Nat := r7.2.2.2.2
     bd (f24_s_R8Plain n n3 l4 (12 : Int)) fun r13 =>
     let n14 : Nat := r13.1
     let l15 : List T := r13.2
     bd (f23_l_r8At n n1 l2 (40 : Int) (13 : Int)) fun r16 =>
     let i17 : Int := r16
     bd (f46_i_FollowLevel n x8 x9 x10 n14 l15) fun r18 =>
     let n19 : Nat := r18.1
     let l20 : List T := r18.2.1
     let x21 : Nat := r18.2.2.1
     let x22 : Nat := r18.2.2.2.1
     let x23 : Nat := r18.2.2.2.2.1
     let b24 : Bool := r18.2.2.2.2.2
     gd (decide (((0 : Int) ≤ (0 : Int)) ∧ (((0 : Int) ≤ i17) ∧ (i17 ≤ ((n14 : Nat) : Int))))) (
     bd (f46_i_FollowLevel n x8 x9 x10 ((Int.toNat i17) - 0) (List.take ((Int.toNat i17) - 0) (List.drop 0 l15))) fun r25 =>
     let n26 : Nat := r25.1
     let l27 : List T := r25.2.1
     let x28 : Nat := r25.2.2.1
     let x29 : Nat := r25.2.2.2.1
     let x30 : Nat := r25.2.2.2.2.1
     let b31 : Bool := r25.2.2.2.2.2
     gd (decide (((0 : Int) ≤ i17) ∧ ((i17 ≤ ((n14 : Nat) : Int)) ∧ (((n14 : Nat) : Int) ≤ ((n14 : Nat) : Int))))) (
     bd (f46_i_FollowLevel n x28 x29 x30 (n14 - (Int.toNat i17)) (List.take (n14 - (Int.toNat i17)) (List.drop (Int.toNat i17) l15))) fun r32 =>
     let n33 : Nat := r32.1
     let l34 : List T := r32.2.1
     let x35 : Nat := r32.2.2.1
     let x36 : Nat := r32.2.2.2.1
     let x37 : Nat := r32.2.2.2.2.1
     let b38 : Bool := r32.2.2.2.2.2
     bd (f48_i_PeakOf n n14 l15) fun r39 =>
     let x40 : Nat := r39.1
     let b41 : Bool := r39.2
     br (!b24) (
      some false) (
      br (!b31) (
       some false) (
       br (!b38) (
        some false) (
        br (!b41) (
         some false) (
         br (((n19 : Nat) : Int) != (12 : Int)) (
          some false) (
          gd (Nat.ble (0 + n26) 2147483648) (
          gd (Nat.ble ((0 + n26) + n33) 2147483648) (
          bd (f37_l_r8Same n ((0 + n26) + n33) (((reps 0 [(T.flt FloatKind.f32 0)]) ++ l27) ++ l34) n19 l20) fun r42 =>
          let b43 : Bool := r42
          br (!b43) (
           some false) (
           bd (f32_i_SameNumber n x23 x37) fun r44 =>
           let b45 : Bool := r44
           br (!b45) (
            some false) (
            gd (decide (((0 : Int) ≤ (11 : Int)) ∧ ((11 : Int) < ((n19 : Nat) : Int)))) (
            gd (okAt [(CK.flt FloatKind.f32)] l20 11) (
            bd (f32_i_SameNumber n x23 (fAt l20 11)) fun r46 =>
            let b47 : Bool := r46
            br (!b47) (
             some false) (
             bd (f10_l_FnLevels.l0 n n n19 l20 x40 (0 : Int)) fun r48 =>
             sm r48 (fun u49 =>
              let b50 : Bool := u49
              some b50) (fun u51 =>
              some true))))))))))))))))
def sg_lfi : Sig (Nat × List T × Nat × Int) where
  pk := fun v => [.lst v.1 v.2.1, .flt v.2.2.1, .int v.2.2.2]
  up := fun ls => match ls with
    | [.lst a0 a1, .flt a2, .int a3] => some (a0, a1, a2, a3)
    | _ => none
  ok := by
    intro ls v h
    split at h
    · cases h; rfl
    · cases h

def f10_l_FnLevels.l0.P : AS := ⟨[(8, .val false [.sl .own [.leaf]] [.lst 0 []] [] 0), (17, .val false [.leaf] [.flt .f32 0] [] 0), (19, .val false [.leaf] [.int .i64 0] [] 0)], 0⟩
def f10_l_FnLevels.l0.A : Alt ((Bool) ⊕ (Unit)) := .or (.one .ret ⟨[(4, .val false [.leaf] [.bool false] [] 0)], 0⟩ sg_b) (.one (.exit 0) ⟨[(4, .dead)], 0⟩ sg)
def f10_l_FnLevels.l0.F (n m : Nat) (v : Nat × List T × Nat × Int) := f10_l_FnLevels.l0 n m v.1 v.2.1 v.2.2.1 v.2.2.2
def f10_l_FnLevels.l0.W (n : Nat) : LpW := .of 208 f10_l_FnLevels.l0.P sg_lfi f10_l_FnLevels.l0.A (f10_l_FnLevels.l0.F n n)
def f10_l_FnLevels.P : List Arg := [⟨.val, ⟨false, [.sl .shr [.leaf]], [.lst 0 []]⟩⟩, ⟨.val, ⟨false, [.sl .shr [.leaf]], [.lst 0 []]⟩⟩]
def f10_l_FnLevels.A : RAlt (Bool) := .one ⟨[⟨false, [.leaf], [.bool false]⟩], [none, none]⟩ sg_b
def f10_l_FnLevels.F (n : Nat) (v : Nat × List T × Nat × List T) := f10_l_FnLevels n v.1 v.2.1 v.2.2.1 v.2.2.2
noncomputable def f10_l_FnLevels.O (n : Nat) : Orc := orcOf (E := E) [f22_l_r8Long.w, f43_s_R8Squeeze.w, f24_s_R8Plain.w, f23_l_r8At.w, f46_i_FollowLevel.w, f48_i_PeakOf.w, f32_i_SameNumber.w, f37_l_r8Same.w] [f10_l_FnLevels.l0.W n] n
theorem f10_l_FnLevels.l0.ok (n : Nat) : LpOk (f10_l_FnLevels.O n) E (evalFn E n) n (keepAt 10) (.loop (loopAt c10 0)) :=
  lp_pure f10_l_FnLevels.l0.P sg_lfi f10_l_FnLevels.l0.A (f10_l_FnLevels.l0.F n) (orcOf_cf _ _ n) (lpOk_of (bs := []) (by kernel_rfl) .nil) (fun _ => rfl) (fun _ _ => by kernel_rfl) (fun _ _ _ => by kernel_rfl)
theorem f10_l_FnLevels.ok : ∀ n v x, f10_l_FnLevels.F n v = some x → evalFn E n 10 (flAs f10_l_FnLevels.P (sg_ll.pk v)) = some (f10_l_FnLevels.A.enc x) :=
  fn_pure (modes := (fdAt 10).ms) (outs := (fdAt 10).os) (results := (fdAt 10).rs) f10_l_FnLevels.O (c := c10) (keep := keepAt 10) (by kernel_rfl) (fun n => orcOf_cf _ _ n) (fun n => lpOk_of (bs := [loopAt c10 0]) (by kernel_rfl) (.cons (f10_l_FnLevels.l0.ok n) .nil)) (fun _ => rfl) (fun _ _ => by kernel_rfl)
noncomputable def f10_l_FnLevels.w : FnW E := fnW 10 f10_l_FnLevels.P sg_ll f10_l_FnLevels.A f10_l_FnLevels.F f10_l_FnLevels.ok
end Go.Proofs.Ythgenpcoelihiaa.D
end
section
/- FnLevels, in plain Lean. -/
namespace Go.Proofs.Ythgenpcoelihiaa.D
open Go Go.Desk
set_option linter.unusedVariables false
theorem s_from (n l : Nat) (c : List T) : f71_s_l00From (n + 1) l c = some (l, c, 0, 0) := by rw [f71_s_l00From]
theorem s_next (n : Nat) {bs : List Int} (hb : Bytes bs) {a : Int} (h0 : 0 ≤ a) (h1 : a ≤ 1125899906842624) (sd : Int) :
    ∃ r sd', (0 ≤ r ∧ r ≤ 255) ∧ f111_s_l00Srcnext (n + 1) bs.length (its .u8 bs) a sd = some (r, bs.length, its .u8 bs, a + 1, sd') := by
  rw [f111_s_l00Srcnext]
  rw [show IntKind.i64.wrap (a + 1) = a + 1 by rw [wrap64] <;> omega]
  cases h : decide (a < (bs.length : Int))
  · simp only [br_f]
    cases decide (a + 1 ≤ (bs.length : Int))
    · exact ⟨_, _, and255 _, rfl⟩
    · exact ⟨0, _, by omega, rfl⟩
  · simp only [decide_eq_true_eq] at h
    obtain ⟨i, rfl⟩ := Int.eq_ofNat_of_zero_le h0
    have hi : i < bs.length := by omega
    have hr := hb (bs[i]) (List.getElem_mem _)
    simp only [br_t, in_dec hi, Int.toNat_natCast, okAt_its hi, Bool.and_self, gd_t, iAt_its]
    rw [show bs.getD i 0 = bs[i] by simp [List.getD, hi], show IntKind.i64.wrap bs[i] = bs[i] by rw [wrap64] <;> omega]
    cases decide ((i : Int) + 1 ≤ (bs.length : Int))
    · exact ⟨_, _, and255 _, rfl⟩
    · exact ⟨_, _, hr, rfl⟩
theorem s_pick (n : Nat) {bs : List Int} (hb : Bytes bs) {a : Int} (h0 : 0 ≤ a) (h1 : a ≤ 1125899906842622) (sd k : Int) :
    ∃ r a' sd', (0 ≤ r ∧ (1 < k → r < k) ∧ (k ≤ 1 → r = 0)) ∧ (a ≤ a' ∧ a' ≤ a + 2) ∧ f73_s_l00Srcpick (n + 2) bs.length (its .u8 bs) a sd k = some (r, bs.length, its .u8 bs, a', sd') := by
  rw [f73_s_l00Srcpick]
  by_cases hk : k ≤ 1
  · rw [decide_eq_true hk]; exact ⟨0, a, sd, by omega, by omega, rfl⟩
  rw [decide_eq_false hk]
  obtain ⟨r, s1, hr, e1⟩ := s_next n hb h0 (by omega) sd
  simp only [br_f, e1, bd_s]
  have hk0 : (!decide (k = 0)) = true := by simp; omega
  by_cases hk2 : k > 200
  · rw [decide_eq_true hk2]
    obtain ⟨r', s2, hr', e2⟩ := s_next n hb (a := a + 1) (by omega) (by omega) s1
    simp only [br_t, e2, bd_s, hk0, gd_t]
    rw [show IntKind.i64.wrap (r * 256) = r * 256 by rw [wrap64] <;> omega, show IntKind.i64.wrap (r * 256 + r') = r * 256 + r' by rw [wrap64] <;> omega]
    refine ⟨_, _, _, ?_, ?_, rfl⟩
    · rw [Int.tmod_eq_emod_of_nonneg (by omega)]
      have := Int.emod_nonneg (r * 256 + r') (show k ≠ 0 by omega)
      have := Int.emod_lt_of_pos (r * 256 + r') (show 0 < k by omega)
      omega
    · omega
  · rw [decide_eq_false hk2]
    simp only [br_f, hk0, gd_t]
    refine ⟨_, _, _, ?_, ?_, rfl⟩
    · rw [Int.tmod_eq_emod_of_nonneg (by omega)]
      have := Int.emod_nonneg r (show k ≠ 0 by omega)
      have := Int.emod_lt_of_pos r (show 0 < k by omega)
      omega
    · omega
theorem s_one (n : Nat) {bs : List Int} (hb : Bytes bs) {a : Int} (h0 : 0 ≤ a) (h1 : a ≤ 1125899906842622) (sd k : Int) :
    ∃ r a' sd', (a ≤ a' ∧ a' ≤ a + 2) ∧ f72_s_l00Srcone (n + 3) bs.length (its .u8 bs) a sd k = some (r, bs.length, its .u8 bs, a', sd') := by
  obtain ⟨r, a', s', -, ha, e⟩ := s_pick n hb h0 h1 sd k
  rw [f72_s_l00Srcone, e]
  exact ⟨_, _, _, ha, rfl⟩
theorem s_plain (n : Nat) {bs : List Int} (hb : Bytes bs) {a : Int} (h0 : 0 ≤ a) (h1 : a ≤ 1125899906842620) (sd : Int) :
    ∃ x a' sd', Plain x ∧ (a ≤ a' ∧ a' ≤ a + 4) ∧ f80_s_l01DrawPlain (n + 4) bs.length (its .u8 bs) a sd = some (x, bs.length, its .u8 bs, a', sd') := by
  obtain ⟨r, a1, s1, hr, ha, e⟩ := s_pick (n + 1) hb h0 (by omega) sd 129
  obtain ⟨b, a2, s2, ha2, e2⟩ := s_one n hb (a := a1) (by omega) (by omega) s1 4
  rw [f80_s_l01DrawPlain, e]
  simp only [bd_s, e2]
  rw [show IntKind.i64.wrap (r - 64) = r - 64 by rw [wrap64] <;> omega]
  cases b
  · exact ⟨_, a2, s2, ⟨r - 64, by omega, .inr rfl⟩, by omega, rfl⟩
  · exact ⟨_, a2, s2, ⟨r - 64, by omega, .inl rfl⟩, by omega, rfl⟩
theorem s_r8plain_loop (n : Nat) {bs : List Int} (hb : Bytes bs) (k : Nat) : ∀ (j m : Nat) (a sd : Int) (acc : List Nat), 0 ≤ a → a + 4 * (j : Int) ≤ 1125899906842000 → k = acc.length + j → k ≤ 1000 → j < m → (∀ x ∈ acc, Plain x) →
    ∃ ys, ys.length = k ∧ (∀ x ∈ ys, Plain x) ∧
      (∃ u, f24_s_R8Plain.l0 (n + 4) m (k : Int) bs.length (its .u8 bs) a sd acc.length (fls .f32 acc) (acc.length : Int) = some u ∧ u = (ys.length, fls .f32 ys)) := by
  intro j
  induction j with
  | zero =>
    intro m a sd acc h0 h1 hl hk hm hw
    obtain ⟨m, rfl⟩ : ∃ k, m = k + 1 := ⟨m - 1, by omega⟩
    rw [f24_s_R8Plain.l0, decide_eq_false (show ¬ ((acc.length : Int) < (k : Int)) by omega)]
    exact ⟨acc, by omega, hw, _, rfl, rfl⟩
  | succ j ih =>
    intro m a sd acc h0 h1 hl hk hm hw
    obtain ⟨m, rfl⟩ : ∃ k, m = k + 1 := ⟨m - 1, by omega⟩
    obtain ⟨x, a1, s1, hx, ha, e⟩ := s_plain n hb h0 (by omega) sd
    rw [f24_s_R8Plain.l0, decide_eq_true (show ((acc.length : Int) < (k : Int)) by omega)]
    simp only [br_t, e, bd_s, push_ok (show acc.length < 2147483648 by omega), gd_t, push_fls]
    rw [wrap_len (z := x) (by omega), show acc.length + 1 = (acc ++ [x]).length by simp]
    exact ih m a1 s1 (acc ++ [x]) (by omega) (by omega) (by simp; omega) hk (by omega) (by
        intro y hy; simp only [List.mem_append, List.mem_singleton] at hy; rcases hy with hy | rfl
        · exact hw y hy
        · exact hx)
theorem s_r8plain (n : Nat) {bs : List Int} (hb : Bytes bs) (k : Nat) (hk : k ≤ 1000) (hn : k < n) : ∃ xs, xs.length = k ∧ (∀ x ∈ xs, Plain x) ∧ f24_s_R8Plain (n + 5) bs.length (its .u8 bs) (k : Int) = some (xs.length, fls .f32 xs) := by
  obtain ⟨ys, hy, hw, u, e, rfl⟩ := s_r8plain_loop n hb k k (n + 4) 0 0 [] (by omega) (by omega) (by simp) hk (by omega) (by simp)
  rw [f24_s_R8Plain, s_from]
  have e : f24_s_R8Plain.l0 (n + 4) (n + 4) (k : Int) bs.length (its .u8 bs) 0 0 0 (reps 0 [(T.flt FloatKind.f32 0)]) 0 = some (ys.length, fls .f32 ys) := e
  refine ⟨ys, hy, hw, ?_⟩
  simp only [bd_s, e]

theorem l_long (n : Nat) (bs cs : List Int) : f22_l_r8Long (n + 1) bs.length (its .u8 bs) cs.length (its .u8 cs) = some (decide (48 < bs.length ∨ 48 < cs.length)) := by
  rw [f22_l_r8Long]
  by_cases h : 48 < bs.length
  · rw [decide_eq_true (show (bs.length : Int) > 48 by omega), decide_eq_true (Or.inl h)]; rfl
  · rw [decide_eq_false (show ¬ (bs.length : Int) > 48 by omega), br_f]
    congr 1
    simp [h]; omega
theorem l_at (n : Nat) {bs : List Int} (hb : Bytes bs) {i k : Int} (hi : 0 ≤ i) (hk : 1 ≤ k) : ∃ r, (0 ≤ r ∧ r < k) ∧ f23_l_r8At (n + 1) bs.length (its .u8 bs) i k = some r := by
  rw [f23_l_r8At]
  by_cases h : k ≤ 1
  · rw [decide_eq_true h]; exact ⟨0, by omega, rfl⟩
  rw [decide_eq_false h]
  by_cases h2 : i ≥ (bs.length : Int)
  · rw [decide_eq_true h2]; exact ⟨0, by omega, rfl⟩
  rw [decide_eq_false h2]
  obtain ⟨i, rfl⟩ := Int.eq_ofNat_of_zero_le hi
  have hi : i < bs.length := by omega
  have hr := hb (bs[i]) (List.getElem_mem _)
  have hk0 : (!decide (k = 0)) = true := by simp; omega
  simp only [br_f, in_dec hi, Int.toNat_natCast, okAt_its hi, Bool.and_self, gd_t, iAt_its, hk0]
  rw [show bs.getD i 0 = bs[i] by simp [List.getD, hi], show IntKind.i64.wrap bs[i] = bs[i] by rw [wrap64] <;> omega]
  refine ⟨_, ?_, rfl⟩
  rw [Int.tmod_eq_emod_of_nonneg (by omega)]
  have := Int.emod_nonneg bs[i] (show k ≠ 0 by omega)
  have := Int.emod_lt_of_pos bs[i] (show 0 < k by omega)
  omega
theorem i_same (n : Nat) {x y : Nat} (hx : W32 x) (hy : W32 y) : f32_i_SameNumber (n + 2) x y = some (x == y) := by
  rw [f32_i_SameNumber]
  simp only [fne_nan]
  cases hn : isNaN .f32 x
  · cases hm : isNaN .f32 y
    · simp only [br_f]
      have e1 : ∀ z, isNaN .f32 z = false → xF32bits (n + 1) z = some (z : Int) := fun z hz => by simp [xF32bits, hz]
      simp only [e1 x hn, e1 y hm, bd_s, Option.some.injEq]
      rw [Bool.eq_iff_iff]; simp; constructor <;> omega
    · simp only [br_f, br_t]
      have : x ≠ y := fun e => by rw [e, hm] at hn; cases hn
      simp [this]
  · cases hm : isNaN .f32 y
    · simp only [br_f, br_t]
      have : x ≠ y := fun e => by rw [e, hm] at hn; cases hn
      simp [this]
    · simp only [br_t]
      have : x = y := by rw [← hx.2, ← hy.2, canon_nan hn, canon_nan hm]
      simp [this]
theorem l_same_loop (n : Nat) : ∀ (zs ys p q : List Nat) (m : Nat), ys.length = zs.length → p.length = q.length → (∀ x ∈ zs, W32 x) → (∀ x ∈ ys, W32 x) → p.length + zs.length ≤ 1048576 → zs.length < m →
    f37_l_r8Same.l0 (n + 2) m (p ++ zs).length (fls .f32 (p ++ zs)) (q ++ ys).length (fls .f32 (q ++ ys)) (p.length : Int) = some (if zs = ys then .inr () else .inl false) := by
  intro zs
  induction zs with
  | nil =>
    intro ys p q m hl hpq _ _ _ hm
    obtain ⟨m, rfl⟩ : ∃ k, m = k + 1 := ⟨m - 1, by omega⟩
    obtain rfl : ys = [] := List.length_eq_zero_iff.1 (by simpa using hl)
    rw [f37_l_r8Same.l0, lt_end]
    rfl
  | cons z zs ih =>
    intro ys p q m hl hpq hz hy hb hm
    obtain ⟨m, rfl⟩ : ∃ k, m = k + 1 := ⟨m - 1, by omega⟩
    cases ys with
    | nil => simp at hl
    | cons y ys =>
      rw [f37_l_r8Same.l0, lt_mid, in_mid]
      simp only [hpq, in_mid, toNat_len, okAt_mid]
      rw [← hpq]
      simp only [okAt_mid, fAt_mid, Bool.and_self, gd_t, br_t]
      rw [hpq]
      simp only [fAt_mid]
      rw [i_same n (hz z (by simp)) (hy y (by simp)), ← hpq]
      simp only [bd_s, br_not]
      cases h : z == y
      · simp only [beq_eq_false_iff_ne, ne_eq] at h
        simp [br_f, h]
      · simp only [beq_iff_eq] at h
        subst h
        rw [br_t, wrap_len (z := z) (by simp at hb; omega)]
        have := ih ys (p ++ [z]) (q ++ [z]) m (by simpa using hl) (by simp [hpq]) (fun x hx => hz x (by simp [hx])) (fun x hx => hy x (by simp [hx])) (by simp at hb ⊢; omega) (by simp at hm; omega)
        simpa using this
/-- two lists of numbers -/
theorem l_same (n : Nat) (xs ys : List Nat) (hx : ∀ x ∈ xs, W32 x) (hy : ∀ x ∈ ys, W32 x) (hl : xs.length ≤ 1048576) (hn : xs.length < n) : f37_l_r8Same (n + 3) xs.length (fls .f32 xs) ys.length (fls .f32 ys) = some (decide (xs = ys)) := by
  rw [f37_l_r8Same]
  by_cases h : ys.length = xs.length
  · rw [show (((xs.length : Nat) : Int) != ((ys.length : Nat) : Int)) = false by simp [h], br_f]
    have := l_same_loop n xs ys [] [] (n + 2) h rfl hx hy (by simpa using hl) (by omega)
    simp only [List.nil_append, List.length_nil] at this
    rw [show ((0 : Nat) : Int) = 0 from rfl] at this
    rw [this, bd_s]
    by_cases e : xs = ys
    · rw [if_pos e, decide_eq_true e]; rfl
    · rw [if_neg e, decide_eq_false e]; rfl
  · rw [show (((xs.length : Nat) : Int) != ((ys.length : Nat) : Int)) = true by simp; omega, decide_eq_false (fun e => h (by rw [e]))]
    rfl

theorem i_few (n k : Nat) (l : List T) : f82_i_areSamples (n + 1) k l = some (decide ((k : Int) ≤ 256)) := by rw [f82_i_areSamples]


theorem i_absolute (n : Nat) {x : Nat} (hg : W32 x) : f92_i_absolute (n + 2) x = some (size32 x) := by
  obtain ⟨h1, h2⟩ := abs_size hg.1 hg.2 n
  rw [f92_i_absolute, fltToFlt_wide]
  simp only [bd, h1, h2]



theorem i_sub (n : Nat) {x : Nat} (h : x < 4294967296) : f65_i_IsSubnormal (n + 1) x = some (sub32 x) := by
  rw [f65_i_IsSubnormal, ← sub_key h]
  cases fne .f32 x 0 <;> cases flt .f32 x 8388608 <;> rfl
theorem i_flush (n : Nat) {x : Nat} (h : W32 x) : f63_i_FlushNumber (n + 2) x = some (flushM x) := by
  rw [f63_i_FlushNumber, i_sub n h.1, bd_s, br_not]
  have hx := h.1
  cases hs : sub32 x
  · rw [br_f]
    unfold sub32 at hs
    unfold flushM
    simp at hs
    split
    · congr 1; omega
    · rfl
  · have hs' := hs
    unfold sub32 at hs
    simp at hs
    have hn : isNaN .f32 x = false := by rw [nan32]; simp; omega
    obtain ⟨y, e1, e2⟩ := copy_zero n hx hn
    rw [br_t, fltToFlt_wide]
    simp only [bd_s, e1, e2]
    unfold flushM
    rw [if_pos hs.2]

theorem i_fol (n : Nat) (a r : Nat) {l x : Nat} (hx : W32 x) : f96_i_Followerstep (n + 3) a r l x = some (a, r, levelM a r l x) := by
  rw [f96_i_Followerstep, i_absolute n hx]
  unfold levelM
  simp only [bd_s, i_flush n (w32_fadd _ _)]
  cases fgt .f32 (size32 x) l <;> rfl
theorem i_follow_loop (n : Nat) (N : Nat) (cs : List T) (a r u1 u2 u3 : Nat) : ∀ (zs p acc : List Nat) (l m : Nat), (∀ x ∈ zs, W32 x) → acc.length + zs.length < 1048576 → p.length + zs.length < 1048576 → zs.length < m →
    f46_i_FollowLevel.l0 (n + 3) m N cs a r l u1 u2 u3 acc.length (fls .f32 acc) (p ++ zs).length (fls .f32 (p ++ zs)) ((p ++ zs).length : Int) (p.length : Int) =
      some (a, r, (scan (followStep a r) l zs).2, u1, u2, u3, (acc ++ (scan (followStep a r) l zs).1).length, fls .f32 (acc ++ (scan (followStep a r) l zs).1)) := by
  intro zs
  induction zs with
  | nil =>
    intro p acc l m _ _ _ hm
    obtain ⟨m, rfl⟩ : ∃ k, m = k + 1 := ⟨m - 1, by omega⟩
    rw [f46_i_FollowLevel.l0, lt_end]; simp [br_f, scan]
  | cons z zs ih =>
    intro p acc l m hz ha hp hm
    obtain ⟨m, rfl⟩ : ∃ k, m = k + 1 := ⟨m - 1, by omega⟩
    have ha' : acc.length < 1048576 := by simp at ha; omega
    rw [f46_i_FollowLevel.l0, lt_mid, in_mid, toNat_len, okAt_mid, fAt_mid]
    simp only [br_t, gd_t, Bool.and_self, i_fol n a r (hz z (by simp)), bd_s, push_ok (show acc.length < 2147483648 by omega), push_fls, wrap_len (z := z) (show p.length < 4611686018427387904 by simp at hp; omega)]
    have := ih (p ++ [z]) (acc ++ [levelM a r l z]) (levelM a r l z) m (fun x hx => hz x (by simp [hx])) (by simp at ha ⊢; omega) (by simp at hp ⊢; omega) (by simp at hm; omega)
    simpa [scan, followStep] using this
theorem i_follow (n : Nat) (a r l : Nat) (xs : List Nat) (hx : ∀ x ∈ xs, W32 x) (hl : xs.length ≤ 256) (hn : xs.length < n) :
    f46_i_FollowLevel (n + 4) a r l xs.length (fls .f32 xs) = some ((scan (followStep a r) l xs).1.length, fls .f32 (scan (followStep a r) l xs).1, a, r, (scan (followStep a r) l xs).2, true) := by
  rw [f46_i_FollowLevel, i_few, decide_eq_true (show (xs.length : Int) ≤ 256 by omega)]
  have e := i_follow_loop n xs.length (fls .f32 xs) a r 0 0 0 xs [] [] l (n + 3) hx (by simp; omega) (by simp; omega) (by omega)
  have e : f46_i_FollowLevel.l0 (n + 3) (n + 3) xs.length (fls .f32 xs) a r l 0 0 0 0 [] xs.length (fls .f32 xs) (xs.length : Int) 0 = _ := e
  simp only [bd_s, br_not, br_t, e]; rfl
theorem s_squeeze (n : Nat) {bs : List Int} (hb : Bytes bs) : ∃ i j k r : Nat, (i ≤ 16 ∧ j ≤ 16 ∧ k ≤ 16 ∧ 1 ≤ r ∧ r ≤ 8) ∧
    f43_s_R8Squeeze (n + 3) bs.length (its .u8 bs) = some (fdiv .f32 (FloatKind.f32.nearest (i : Int)) 1098907648, fdiv .f32 (FloatKind.f32.nearest (j : Int)) 1098907648, 0, fdiv .f32 (FloatKind.f32.nearest (k : Int)) 1098907648, FloatKind.f32.nearest (r : Int)) := by
  obtain ⟨r1, a1, s1, h1, ha1, e1⟩ := s_pick n hb (a := 0) (by omega) (by omega) 0 17
  obtain ⟨r2, a2, s2, h2, ha2, e2⟩ := s_pick n hb (a := a1) (by omega) (by omega) s1 17
  obtain ⟨r3, a3, s3, h3, ha3, e3⟩ := s_pick n hb (a := a2) (by omega) (by omega) s2 17
  obtain ⟨r4, a4, s4, h4, ha4, e4⟩ := s_pick n hb (a := a3) (by omega) (by omega) s3 8
  obtain ⟨i, rfl⟩ := Int.eq_ofNat_of_zero_le h1.1
  obtain ⟨j, rfl⟩ := Int.eq_ofNat_of_zero_le h2.1
  obtain ⟨k, rfl⟩ := Int.eq_ofNat_of_zero_le h3.1
  obtain ⟨r, rfl⟩ := Int.eq_ofNat_of_zero_le h4.1
  refine ⟨i, j, k, 1 + r, by omega, ?_⟩
  rw [f43_s_R8Squeeze, s_from]
  simp only [bd_s, e1, e2, e3, e4]
  rw [show IntKind.i64.wrap (1 + (r : Int)) = ((1 + r : Nat) : Int) by rw [wrap64] <;> omega]

/-- the greatest size so far -/
def peakM (m : Nat) (xs : List Nat) : Nat := xs.foldl (fun m x => if fgt .f32 (size32 x) m then size32 x else m) m
theorem w32_peak : ∀ (xs : List Nat) (m : Nat), W32 m → (∀ x ∈ xs, W32 x) → W32 (peakM m xs)
  | [], m, h, _ => h
  | x :: xs, m, h, hx => by
    show W32 (peakM (if fgt .f32 (size32 x) m then size32 x else m) xs)
    refine w32_peak xs _ ?_ (fun y hy => hx y (by simp [hy]))
    split
    · exact w32_size (hx x (by simp))
    · exact h
theorem i_peak_loop (n : Nat) (N : Nat) (cs : List T) : ∀ (zs p : List Nat) (mx m : Nat), (∀ x ∈ zs, W32 x) → p.length + zs.length < 1048576 → zs.length < m →
    f97_i_peakOf.l0 (n + 2) m N cs mx (p ++ zs).length (fls .f32 (p ++ zs)) ((p ++ zs).length : Int) (p.length : Int) = some (peakM mx zs) := by
  intro zs
  induction zs with
  | nil =>
    intro p mx m _ _ hm
    obtain ⟨m, rfl⟩ : ∃ k, m = k + 1 := ⟨m - 1, by omega⟩
    rw [f97_i_peakOf.l0, lt_end]; rfl
  | cons z zs ih =>
    intro p mx m hz hp hm
    obtain ⟨m, rfl⟩ : ∃ k, m = k + 1 := ⟨m - 1, by omega⟩
    have ih' := fun mx => ih (p ++ [z]) mx m (fun x hx => hz x (by simp [hx])) (by simp at hp ⊢; omega) (by simp at hm; omega)
    simp only [List.append_assoc, List.cons_append, List.nil_append] at ih'
    rw [f97_i_peakOf.l0, lt_mid, in_mid, toNat_len, okAt_mid, fAt_mid]
    simp only [br_t, gd_t, Bool.and_self, i_absolute n (hz z (by simp)), bd_s, wrap_len (z := z) (show p.length < 4611686018427387904 by simp at hp; omega)]
    show _ = some (peakM (if fgt .f32 (size32 z) mx then size32 z else mx) zs)
    cases fgt .f32 (size32 z) mx
    · exact ih' mx
    · exact ih' _
theorem i_peak (n : Nat) (xs : List Nat) (hx : ∀ x ∈ xs, W32 x) (hl : xs.length < 1048576) (hn : xs.length < n) : f97_i_peakOf (n + 3) xs.length (fls .f32 xs) = some (peakM 0 xs) := by
  rw [f97_i_peakOf]
  have e := i_peak_loop n xs.length (fls .f32 xs) xs [] 0 (n + 2) hx (by simpa using hl) (by omega)
  have e : f97_i_peakOf.l0 (n + 2) (n + 2) xs.length (fls .f32 xs) 0 xs.length (fls .f32 xs) (xs.length : Int) 0 = some (peakM 0 xs) := e
  rw [e]; rfl
theorem i_peakof (n : Nat) (xs : List Nat) (hx : ∀ x ∈ xs, W32 x) (hl : xs.length ≤ 256) (hn : xs.length < n) : f48_i_PeakOf (n + 4) xs.length (fls .f32 xs) = some (peakM 0 xs, true) := by
  rw [f48_i_PeakOf, i_few, decide_eq_true (show (xs.length : Int) ≤ 256 by omega)]
  simp only [bd_s, br_not, br_t, i_peak n xs hx (by omega) hn]
theorem peak_facts : ∀ (xs : List Nat) (m : Nat), W32 m → isNaN .f32 m = false → 0 ≤ key .f32 m → (∀ x ∈ xs, W32 x) →
    isNaN .f32 (peakM m xs) = false ∧ key .f32 m ≤ key .f32 (peakM m xs) ∧ (∀ x ∈ xs, isNaN .f32 x = false → (key .f32 x).natAbs ≤ key .f32 (peakM m xs)) ∧ (peakM m xs = m ∨ ∃ x ∈ xs, isNaN .f32 x = false ∧ peakM m xs = size32 x)
  | [], m, _, hn, _, _ => ⟨hn, Int.le_refl _, by simp, .inl rfl⟩
  | x :: xs, m, hm, hn, h0, hx => by
    have hw := hx x (by simp)
    show isNaN .f32 (peakM (if fgt .f32 (size32 x) m then size32 x else m) xs) = false ∧ _
    cases hc : fgt .f32 (size32 x) m
    · obtain ⟨h1, h2, h3, h4⟩ := peak_facts xs m hm hn h0 (fun y hy => hx y (by simp [hy]))
      have e : peakM m (x :: xs) = peakM m xs := by show peakM (if fgt .f32 (size32 x) m then size32 x else m) xs = _; rw [hc]; rfl
      rw [e]
      refine ⟨h1, h2, fun y hy hyn => ?_, ?_⟩
      · simp only [List.mem_cons] at hy
        rcases hy with rfl | hy
        · rw [fgt_key] at hc
          unfold num2 at hc
          rw [nan_size, hyn, hn, key_size32 hw.1 hyn] at hc
          simp at hc
          omega
        · exact h3 y hy hyn
      · rcases h4 with h4 | ⟨y, hy, h5⟩
        · exact .inl h4
        · exact .inr ⟨y, by simp [hy], h5⟩
    · have hxn : isNaN .f32 x = false := by
        cases h : isNaN .f32 x
        · rfl
        · rw [fgt_nan _ (by rw [nan_size]; exact h)] at hc; cases hc
      have hk := key_size32 hw.1 hxn
      rw [fgt_key] at hc
      unfold num2 at hc
      rw [nan_size, hxn, hn, hk] at hc
      simp at hc
      obtain ⟨h1, h2, h3, h4⟩ := peak_facts xs (size32 x) (w32_size hw) (by rw [nan_size]; exact hxn) (by rw [hk]; omega) (fun y hy => hx y (by simp [hy]))
      have e : peakM m (x :: xs) = peakM (size32 x) xs := by
        show peakM (if fgt .f32 (size32 x) m then size32 x else m) xs = _
        rw [fgt_key]; unfold num2; rw [nan_size, hxn, hn, hk]; simp [hc]
      rw [e]
      refine ⟨h1, by omega, fun y hy hyn => ?_, ?_⟩
      · simp only [List.mem_cons] at hy
        rcases hy with rfl | hy
        · omega
        · exact h3 y hy hyn
      · rcases h4 with h4 | ⟨y, hy, h5⟩
        · exact .inr ⟨x, by simp, hxn, h4⟩
        · exact .inr ⟨y, by simp [hy], h5⟩

theorem told_loop (n : Nat) (P : Nat) : ∀ (zs p : List Nat) (m : Nat), p.length + zs.length = 12 → (∀ y ∈ zs, fge .f32 y 0 = true ∧ fgt .f64 (wide y) (fmul .f64 4607182869159980145 (wide P)) = false) → zs.length < m →
    f10_l_FnLevels.l0 n m (p ++ zs).length (fls .f32 (p ++ zs)) P (p.length : Int) = some (.inr ()) := by
  intro zs
  induction zs with
  | nil =>
    intro p m hp _ hm
    obtain ⟨m, rfl⟩ : ∃ k, m = k + 1 := ⟨m - 1, by omega⟩
    rw [f10_l_FnLevels.l0, decide_eq_false (show ¬ ((p.length : Int) < 12) by simp at hp; omega)]; rfl
  | cons z zs ih =>
    intro p m hp hz hm
    obtain ⟨m, rfl⟩ : ∃ k, m = k + 1 := ⟨m - 1, by omega⟩
    obtain ⟨h1, h2⟩ := hz z (by simp)
    rw [f10_l_FnLevels.l0, decide_eq_true (show ((p.length : Int) < 12) by simp at hp; omega), in_mid, toNat_len, okAt_mid, fAt_mid, h1, fltToFlt_wide, fltToFlt_wide]
    have := ih (p ++ [z]) m (by simp at hp ⊢; omega) (fun y hy => hz y (by simp [hy])) (by simp at hm; omega)
    simp only [br_t, gd_t, Bool.not_true, br_f, bd_s, h2, wrap_len (z := z) (show p.length < 4611686018427387904 by simp at hp; omega)]
    simpa using this
theorem p2_15 : p2 (-15) * 32768 = 1 := by
  have h1 := p2_add (-15) 15
  have h2 : p2 15 = 32768 := by have := p2_nat 15; rw [show ((15 : Nat) : Int) = 15 from rfl] at this; rw [this]; rfl
  rw [h2, show (-15 : Int) + 15 = 0 by decide, p2_zero] at h1
  exact h1.symm
theorem below_peak {y P : Nat} {v pv : Rat} (hy : Val .f32 y v) (hP : Val .f32 P pv) (hp0 : 0 ≤ pv) (hp10 : pv ≤ 10) (h : v ≤ pv + pv * p2 (-15)) : fgt .f64 (wide y) (fmul .f64 4607182869159980145 (wide P)) = false := by
  have wy := wide_val hy
  have wP := wide_val hP
  have hB : Rep0 .f64 ((20 : Nat) : Rat) := rep_nat .f64 (by decide)
  have hT : ((20 : Nat) : Rat) < p2 (topE .f64) := nat_top .f64 (by decide)
  have h20 : ((20 : Nat) : Rat) = 20 := rfl
  rw [h20] at hB hT
  have hlow : Val .f64 4607182693677924352 (mv (2 ^ 14 + 1) (-14)) := by
    have := read_val (k := .f64) (x := 4607182693677924352) (s := false) (m := (2 ^ 14 + 1) * 2 ^ 38) (e := -52) (by decide)
    rwa [sg_false, mv_shift, show (-52 : Int) + ((38 : Nat) : Int) = -14 by decide] at this
  obtain ⟨c, hc, c1, c2⟩ := between_val (x := 4607182869159980145) hlow val_two64 (by decide) (by decide)
  have hp15 := p2_15
  have hp14 : mv (2 ^ 14 + 1) (-14) = 1 + 2 * p2 (-15) := by
    unfold mv
    have e1 : p2 (-14) = p2 (-15) * 2 := by
      have := p2_add (-15) 1
      rw [p2_one] at this; rw [← this]; rfl
    have e2 : ((2 ^ 14 + 1 : Nat) : Rat) = 16385 := rfl
    rw [e1, e2]; grind
  rw [hp14] at c1
  have hcp : 0 ≤ c * pv := Rat.mul_nonneg (by have := p2_pos (-15); grind) hp0
  have hcp2 : c * pv ≤ 2 * 10 := by
    have h1 : c * pv ≤ c * 10 := Rat.mul_le_mul_of_nonneg_left hp10 (by have := p2_pos (-15); grind)
    grind
  obtain ⟨R, r1, r2⟩ := mul_val hc wP hB hT (by grind) (by grind)
  have hrep : Rep0 .f64 (pv * (1 + 2 * p2 (-15))) := by
    obtain ⟨s, m, e, g1, g2, g3, g4⟩ := hP
    obtain ⟨n1, n2, n3, -, -⟩ := read_norm g1
    rw [least32] at n2
    rw [binade32] at n1
    have hnn := mv_nonneg m e
    have hpm : pv = mv m e := by cases s <;> simp only [sg_true, sg_false] at g2 <;> grind
    refine ⟨m * (2 ^ 14 + 1), e + -14, by have : 2 * FloatKind.f64.format.binade = 9007199254740992 := by decide
                                          omega, by have : FloatKind.f64.format.leastPlace = -1074 := by decide
                                                    omega, ?_⟩
    rw [mv_mul, hp14, hpm]
  have hle : pv * (1 + 2 * p2 (-15)) ≤ c * pv := by
    have h1 : (1 + 2 * p2 (-15)) * pv ≤ c * pv := Rat.mul_le_mul_of_nonneg_right c1 hp0
    grind
  have hR := (r2 _ hrep.rep).2 hle
  cases hg : fgt .f64 (wide y) (fmul .f64 4607182869159980145 (wide P))
  · rfl
  · have h1 := (fgt_val wy r1).1 hg
    have h2 : 0 ≤ pv * p2 (-15) := Rat.mul_nonneg hp0 (Rat.le_of_lt (p2_pos _))
    grind
theorem exact_ (cs : List Int) (hc : ∀ b ∈ cs, GoodI .u8 b) (lc : cs.length ≤ maxLen) (ms : List Int) (hm : ∀ b ∈ ms, GoodI .u8 b) (lm : ms.length ≤ maxLen) : ∃ n, f10_l_FnLevels n cs.length (its .u8 cs) ms.length (its .u8 ms) = some true := by
  refine ⟨1000, ?_⟩
  suffices h : ∀ n, f10_l_FnLevels (n + 500) cs.length (its .u8 cs) ms.length (its .u8 ms) = some true from h 500
  intro n
  rw [f10_l_FnLevels, l_long]
  cases hlong : decide (48 < cs.length ∨ 48 < ms.length)
  case true => rfl
  obtain ⟨i, j, k, r, ⟨hi, hj, hk, hr⟩, e1⟩ := s_squeeze (n + 496) (bytes_of hc)
  obtain ⟨xs, hxl, hxp, e2⟩ := s_r8plain (n + 494) (bytes_of hm) 12 (by omega) (by omega)
  have e2 : f24_s_R8Plain (n + 499) ms.length (its .u8 ms) 12 = some (xs.length, fls .f32 xs) := e2
  obtain ⟨c, hc1, e3⟩ := l_at (n + 498) (bytes_of hc) (i := 40) (k := 13) (by omega) (by omega)
  obtain ⟨c, rfl⟩ := Int.eq_ofNat_of_zero_le hc1.1
  have hxw : ∀ x ∈ xs, W32 x := fun x hx => (hxp x hx).w32
  have va := sixteenth_val (i := i) (by omega)
  have vr := sixteenth_val (i := j) (by omega)
  obtain ⟨ia0, ia1⟩ := sixteenth_le hi
  obtain ⟨ir0, ir1⟩ := sixteenth_le hj
  obtain ⟨a, hA⟩ : ∃ a, a = fdiv .f32 (FloatKind.f32.nearest (i : Int)) 1098907648 := ⟨_, rfl⟩
  obtain ⟨b, hB⟩ : ∃ b, b = fdiv .f32 (FloatKind.f32.nearest (j : Int)) 1098907648 := ⟨_, rfl⟩
  rw [← hA] at va
  rw [← hB] at vr
  -- the peak
  obtain ⟨pf1, pf2, pf3, pf4⟩ := peak_facts xs 0 w32_zero (by decide) (by decide) hxw
  have hpeak : ∃ pv, Val .f32 (peakM 0 xs) pv ∧ (pv = 0 ∨ 1 / 16 ≤ pv) ∧ 0 ≤ pv ∧ pv ≤ 10 := by
    rcases pf4 with h | ⟨x, hx, -, h⟩
    · rw [h]; exact ⟨0, val_zero .f32, .inl rfl, Rat.le_refl, by decide⟩
    · obtain ⟨v, v1, v2, v3, v4, -⟩ := (hxp x hx).val
      rw [h]; exact ⟨v, v1, v2, v3, v4⟩
  obtain ⟨pv, hpv, hp16, hp0, hp10⟩ := hpeak
  have hle : ∀ x ∈ xs, ∀ v, Val .f32 (size32 x) v → v ≤ pv := by
    intro x hx v hv
    have hxn := fin_num (hxp x hx).fin
    have h1 := pf3 x hx hxn
    refine (fle_val hv hpv).1 ?_
    rw [fle_key]; unfold num2
    rw [hv.num, pf1, key_size32 (hxw x hx).1 hxn]
    simpa using h1
  have hp15 := p2_15
  have hpos15 := p2_pos (-15)
  have h20 : 2 * p2 (-20) = p2 (-15) / 16 := by
    have h1 := p2_add (-20) 5
    have h2 : p2 5 = 32 := by have := p2_nat 5; rw [show ((5 : Nat) : Int) = 5 from rfl] at this; rw [this]; rfl
    rw [h2, show (-20 : Int) + 5 = -15 by decide] at h1
    grind
  obtain ⟨Tb, hT⟩ : ∃ Tb, Tb = pv + pv * p2 (-15) := ⟨_, rfl⟩
  have hpv15 : 0 ≤ pv * p2 (-15) := Rat.mul_nonneg hp0 (Rat.le_of_lt hpos15)
  have hT11 : Tb ≤ 11 := by
    have : pv * p2 (-15) ≤ 10 * p2 (-15) := Rat.mul_le_mul_of_nonneg_right hp10 (Rat.le_of_lt hpos15)
    grind
  have hstep : ∀ l x, (∃ v, Val .f32 l v ∧ 0 ≤ v ∧ v ≤ Tb) → (x ∈ xs) → (∃ v, Val .f32 (levelM a b l x) v ∧ 0 ≤ v ∧ v ≤ Tb) := by
    rintro l x ⟨v, v1, v2, v3⟩ hx
    obtain ⟨u, u1, u2, u3, u4, -⟩ := (hxp x hx).val
    have hup := hle x hx u u1
    obtain ⟨w, w1, w2, w3, w4⟩ := level_val va vr ia0 ia1 ir0 ir1 v1 v2 (by grind) u1 u3 u4
    refine ⟨w, w1, w2, ?_⟩
    rcases (Rat.le_total : u ≤ v ∨ v ≤ u) with h | h
    · exact Rat.le_trans (w3 h) v3
    · rcases hp16 with h0 | h0
      · have : u ≤ v := by grind
        exact Rat.le_trans (w3 this) v3
      · have h5 : 1 / 16 * p2 (-15) ≤ pv * p2 (-15) := Rat.mul_le_mul_of_nonneg_right h0 (Rat.le_of_lt hpos15)
        refine Rat.le_trans w4 ?_
        grind
  have hscan := scan_inv (f := followStep a b) (P := fun l => ∃ v, Val .f32 l v ∧ 0 ≤ v ∧ v ≤ Tb) (Q := fun x => x ∈ xs) (S := fun l => ∃ v, Val .f32 l v ∧ 0 ≤ v ∧ v ≤ Tb) (fun l x hl hx => ⟨hstep l x hl hx, hstep l x hl hx⟩) xs 0 ⟨0, val_zero .f32, Rat.le_refl, by grind⟩ (fun x hx => hx)
  have hall : ∀ y ∈ (scan (followStep a b) 0 xs).1, fge .f32 y 0 = true ∧ fgt .f64 (wide y) (fmul .f64 4607182869159980145 (wide (peakM 0 xs))) = false := by
    intro y hy
    obtain ⟨v, v1, v2, v3⟩ := hscan.1 y hy
    exact ⟨(fge_val v1 (val_zero .f32)).2 v2, below_peak v1 hpv hp0 hp10 (by rw [hT] at v3; exact v3)⟩
  -- the blocks
  have ha : c ≤ xs.length := by omega
  have hwt : ∀ x ∈ xs.take c, W32 x := fun x hx => hxw x (List.mem_of_mem_take hx)
  have hwd : ∀ x ∈ xs.drop c, W32 x := fun x hx => hxw x (List.mem_of_mem_drop hx)
  have hl2 : (xs.take c).length = c := by rw [List.length_take]; omega
  have hl3 : (xs.drop c).length = xs.length - c := List.length_drop
  have g1 := i_follow (n + 495) a b 0 xs hxw (by omega) (by omega)
  have g2 := i_follow (n + 495) a b 0 (xs.take c) hwt (by omega) (by omega)
  have g3 := i_follow (n + 495) a b (scan (followStep a b) 0 (xs.take c)).2 (xs.drop c) hwd (by omega) (by omega)
  have g4 := i_peakof (n + 495) xs hxw (by omega) (by omega)
  rw [hl2] at g2
  rw [hl3] at g3
  have hsplit := scan_append (followStep a b) 0 (xs.take c) (xs.drop c)
  rw [List.take_append_drop] at hsplit
  have hlen := scan_length (followStep a b) 0 xs
  have hlen2 := scan_length (followStep a b) 0 (xs.take c)
  have hlen3 := scan_length (followStep a b) (scan (followStep a b) 0 (xs.take c)).2 (xs.drop c)
  have winv := (scan_inv (f := followStep a b) (P := W32) (Q := fun _ => True) (S := W32) (fun s x _ _ => ⟨w32_level _ _ _ _, w32_level _ _ _ _⟩) xs 0 w32_zero (fun _ _ => trivial))
  have hlast : ∀ (xs : List Nat) (l : Nat), xs ≠ [] → (scan (followStep a b) l xs).1.getD (xs.length - 1) 0 = (scan (followStep a b) l xs).2 := by
    intro xs
    induction xs with
    | nil => intro l h; exact absurd rfl h
    | cons x xs ih =>
      intro l _
      cases xs with
      | nil => rfl
      | cons y ys =>
        have := ih (levelM a b l x) (by simp)
        simp only [scan, followStep, List.length_cons] at this ⊢
        simpa [List.getD] using this
  have hl11 := hlast xs 0 (by intro h; rw [h] at hxl; simp at hxl)
  rw [hxl] at hl11
  have told := told_loop (n + 499) (peakM 0 xs) (scan (followStep a b) 0 xs).1 [] (n + 499) (by simp; omega) hall (by omega)
  have told : f10_l_FnLevels.l0 (n + 499) (n + 499) (scan (followStep a b) 0 xs).1.length (fls .f32 (scan (followStep a b) 0 xs).1) (peakM 0 xs) 0 = some (.inr ()) := told
  have q1 : decide ((0 : Int) ≤ 0 ∧ (0 : Int) ≤ (c : Int) ∧ (c : Int) ≤ (xs.length : Int)) = true := decide_eq_true (by omega)
  have q2 : decide ((0 : Int) ≤ (c : Int) ∧ (c : Int) ≤ (xs.length : Int) ∧ (xs.length : Int) ≤ (xs.length : Int)) = true := decide_eq_true (by omega)
  have q3 : (fls .f32 xs).take c = fls .f32 (xs.take c) := fls_take _ _ _
  have q4 : ((fls .f32 xs).drop c).take (xs.length - c) = fls .f32 (xs.drop c) := by rw [fls_drop, fls_take, List.take_of_length_le (by omega)]
  have q5 : ∀ p q : List Nat, reps 0 [T.flt FloatKind.f32 0] ++ fls .f32 p ++ fls .f32 q = fls .f32 (p ++ q) := by intro p q; rw [← fls_append]; rfl
  have q6 : decide ((0 : Int) ≤ 11 ∧ (11 : Int) < ((scan (followStep a b) 0 xs).1.length : Int)) = true := decide_eq_true (by omega)
  have q7 : okAt [.flt .f32] (fls .f32 (scan (followStep a b) 0 xs).1) 11 = true := okAt_fls (by omega)
  have q8 : fAt (fls .f32 (scan (followStep a b) 0 xs).1) 11 = (scan (followStep a b) 0 xs).2 := by rw [fAt_fls]; exact hl11
  have q9 : ((((scan (followStep a b) 0 xs).1.length : Nat) : Int) != 12) = false := by simp; omega
  simp only [br_f, br_not, bd_s, e1, ← hA, ← hB, e2, e3, g1, q1, gd_t, Int.toNat_natCast, List.drop_zero, Nat.sub_zero, q3, g2, q2, q4, g3, g4, br_t, q5, q6, q7, q8, told, sm_r, q9]
  have hs1 : (scan (followStep a b) 0 (xs.take c)).1 ++ (scan (followStep a b) (scan (followStep a b) 0 (xs.take c)).2 (xs.drop c)).1 = (scan (followStep a b) 0 xs).1 := by rw [hsplit]
  have hs2 : (scan (followStep a b) (scan (followStep a b) 0 (xs.take c)).2 (xs.drop c)).2 = (scan (followStep a b) 0 xs).2 := by rw [hsplit]
  have hsn : 0 + (scan (followStep a b) 0 (xs.take c)).1.length + (scan (followStep a b) (scan (followStep a b) 0 (xs.take c)).2 (xs.drop c)).1.length = (scan (followStep a b) 0 xs).1.length := by rw [← hs1, List.length_append, Nat.zero_add]
  have z1 : f37_l_r8Same (n + 499) (scan (followStep a b) 0 xs).1.length (fls .f32 (scan (followStep a b) 0 xs).1) (scan (followStep a b) 0 xs).1.length (fls .f32 (scan (followStep a b) 0 xs).1) = some true := by
    have := l_same (n + 496) (scan (followStep a b) 0 xs).1 (scan (followStep a b) 0 xs).1 winv.1 winv.1 (by omega) (by omega)
    simpa using this
  have z2 : f32_i_SameNumber (n + 499) (scan (followStep a b) 0 xs).2 (scan (followStep a b) 0 xs).2 = some true := by
    have := i_same (n + 497) winv.2 winv.2
    simpa using this
  rw [hsn, hs1, hs2, le_ble (show (0 + (scan (followStep a b) 0 (xs.take c)).1.length) ≤ 2147483648 by omega), le_ble (show (scan (followStep a b) 0 xs).1.length ≤ 2147483648 by omega)]
  simp only [gd_t, z1, z2, bd_s, br_t]
theorem law10 : ∀ args, LawArgs E Try.f10.params.toList args → ∃ N os, evalFn E N 10 args = some ⟨[⟨false, [.leaf], [.bool true]⟩], os⟩ := by
  intro args h0
  have hp : Try.f10.params.toList = [22, 22] := by kernel_rfl
  rw [hp] at h0
  obtain ⟨ts0, r0, rfl, hw0, h1⟩ := h0.cons_inv (d := ⟨false, 1, 24, [.sl .own [.leaf]], [.lst 0 []], .slc 5⟩) (by kernel_rfl)
  obtain ⟨n0, cs0, rfl, gl0, hs0⟩ := hw0.slc_inv (e := 5) (d := ⟨false, 1, 24, [.sl .own [.leaf]], [.lst 0 []], .slc 5⟩) (by kernel_rfl) rfl
  obtain ⟨a0, rfl, rfl, g0⟩ := hs0.ints (k := .u8) (d := ⟨false, 1, 1, [.leaf], [.int .u8 0], .int .u8⟩) (by kernel_rfl) rfl
  obtain ⟨ts1, r1, rfl, hw1, h2⟩ := h1.cons_inv (d := ⟨false, 1, 24, [.sl .own [.leaf]], [.lst 0 []], .slc 5⟩) (by kernel_rfl)
  obtain ⟨n1, cs1, rfl, gl1, hs1⟩ := hw1.slc_inv (e := 5) (d := ⟨false, 1, 24, [.sl .own [.leaf]], [.lst 0 []], .slc 5⟩) (by kernel_rfl) rfl
  obtain ⟨a1, rfl, rfl, g1⟩ := hs1.ints (k := .u8) (d := ⟨false, 1, 1, [.leaf], [.int .u8 0], .int .u8⟩) (by kernel_rfl) rfl
  obtain rfl := h2.nil_inv
  obtain ⟨N, hN⟩ := exact_ a0 g0 gl0 a1 g1 gl1
  exact ⟨N, _, f10_l_FnLevels.ok N (a0.length, its .u8 a0, a1.length, its .u8 a1) true hN⟩


end Go.Proofs.Ythgenpcoelihiaa.D
end
section
/- FnLevels holds: for every input the law returns true, and its arguments read as before. -/
namespace Go.Proofs.Ythgenpcoelihiaa.fnLevels
open Go Go.ChangeShapes Go.WideShapes Go.ChangeAt Go.RowKit Go.Desk
set_option linter.unusedVariables false
theorem own : ownKnob Try.prog.godebug = none := by kernel_rfl
theorem laidOut : laidOutB Try.prog = true := by kernel_rfl
set_option maxRecDepth 100000 in
theorem lifted (os : Os) (started : os.Started) (H : Type) (enc : TypeId × Value → H) :
    ReturnsInHanded {} Try.checked os 10 .any (Rows.fnLevelsSpec.pre6 enc Try.prog Try.f10 Rows.fnLevelsRow.domain false) (Rows.fnLevelsSpec.post enc Try.prog Try.f10 false true false false) := by
  refine returnsInHanded_of_change (C := Try.checked) own started (by kernel_rfl) Try.func10
    (ChangeSpec.witness6 (enc := enc) (C := Try.checked) false ⟨#[], #[.slice none 0 0, .slice none 0 0], []⟩ 8 (by kernel_rfl) (by kernel_rfl) (by kernel_rfl) (by kernel_rfl)) ?_
  intro W base args ds gs before hval hW hcnd _
  exact law_contract (c := D.c10) Try.checked.mixed D.tysOk D.fnOk Try.func10 (by kernel_rfl) (by kernel_rfl) (by kernel_rfl) Try.underlying4 rfl
    (fun ds h => by
      rw [show Try.f10.params.toList.length = 2 by kernel_rfl] at h
      match ds, h with
      | [_, _], _ => rfl)
    laidOut (N := 8) (by kernel_rfl) (by kernel_rfl) D.law10 hval hW
theorem over : Rows.fnLevelsRow.holds Try.pinned (OpenSpec.ofChange Rows.fnLevelsSpec) :=
  OpenClaim.holds_of_wide 10 Try.f10 rfl rfl rfl rfl rfl rfl rfl ⟨rfl, rfl, rfl, rfl, rfl⟩ rfl rfl rfl rfl rfl (by kernel_rfl) Try.func10 (by kernel_rfl)
    (of_decide_eq_true (by kernel_rfl)) (by unfold Func.isWrapper; first | (rw [if_pos (by decide +kernel)]; kernel_rfl) | (rw [if_neg (by decide +kernel)]; exact ⟨rfl, rfl⟩))
    (fun os started H enc _ => lifted os started H enc)
theorem proved : Rows.FnLevelsSaid := over
#print axioms proved
end Go.Proofs.Ythgenpcoelihiaa.fnLevels
namespace Go.Proofs.Ythgenpcoelihiaa
/-- The row, under a short name, for the claim. -/
theorem fnLevels_holds : Rows.FnLevelsSaid := fnLevels.proved
end Go.Proofs.Ythgenpcoelihiaa
end
