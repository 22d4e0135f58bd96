/- FnSqueezed holds: for every input the law returns true, and its arguments read as before. -/
import Derived.Test.YthgenpcoelihiaaChecked
import Derived.Test.YthgenpcoelihiaaDeskE
import Derived.KernelRfl
import Derived.Test.YthgenpcoelihiaaRows
import Derived.WalkKit
import Derived.ProofKit
import Derived.OpenShut
import Derived.ShutString
import Derived.ChangeOld
import Derived.Below
import Derived.SizedLaws
set_option linter.all false
section
/- What math.Abs owes: tables of its own, and the reading of its code. -/
namespace Go.Proofs.Ythgenpcoelihiaa.DA
open Go Go.Desk
def bodyOf (f : Func) : Code := match f.body with
  | some c => c
  | none => .skip
def tyTab : List (Nat × TD) := [
  (28, ⟨false, 1, 8, [.leaf], [.flt .f64 0], .flt .f64⟩),
  (103, ⟨false, 1, 8, [.leaf], [.int .u64 0], .int .u64⟩)]
noncomputable def c115 : Code := bodyOf Try.f115
noncomputable def fnTab : List (Nat × FD) := [
  (115, .code c115 [.val] [] [(2, none)] [(0, [0]), (1, [0])]),
  (117, .ext (pF64frombits)),
  (118, .ext (pF64bits))]
noncomputable def E : Env := ⟨fun t => lookT tyTab t, lookF fnTab⟩
noncomputable def fdAt (n : Nat) : FD := match lookF fnTab n with
  | some d => d
  | none => .ext fun _ => none
noncomputable def keepAt (n : Nat) : List (Nat × List Nat) := match lookF fnTab n with
  | some d => d.keep
  | none => []
theorem tysOk : TysOk Try.prog E := tysOk_of (l := tyTab) (fun _ => rfl) (by kernel_rfl)
theorem ft115 : FnTab Try.prog E 115 (fdAt 115) := fnTab_code (c := c115) (modes := (fdAt 115).ms) (outs := (fdAt 115).os) (results := (fdAt 115).rs) (keep := (fdAt 115).keep) Try.func115 (by kernel_rfl) (by kernel_rfl) (by kernel_rfl)
theorem ft117 : FnTab Try.prog E 117 (.ext (pF64frombits)) := ext_pF64frombits Try.func117 (by kernel_rfl) (by kernel_rfl) (by kernel_rfl) (by kernel_rfl)
theorem ft118 : FnTab Try.prog E 118 (.ext (pF64bits)) := ext_pF64bits Try.func118 (by kernel_rfl) (by kernel_rfl) (by kernel_rfl) (by kernel_rfl)
theorem allFns : AllFns Try.prog E fnTab := .cons ft115 (.cons ft117 (.cons ft118 (.nil)))
theorem fnOk : ∀ f fd, E.fn f = some fd → FnTab Try.prog E f fd := fnTab_of (l := fnTab) (fun _ => rfl) allFns
end Go.Proofs.Ythgenpcoelihiaa.DA
section
namespace Go.Proofs.Ythgenpcoelihiaa.DA
open Go Go.Desk
set_option linter.unusedVariables false
noncomputable def x117.w : FnW E := xF64frombits.w 117 (by kernel_rfl)

noncomputable def x118.w : FnW E := xF64bits.w 118 (by kernel_rfl)

def f115_mathAbs : Nat → Nat → Option (Nat)
  | 0, _ => none
  | n + 1, x1 =>
    bd (xF64bits n x1) fun r2 =>
    let i3 : Int := r2
    bd (xF64frombits n (intBits BinOp.andNot IntKind.u64 i3 (9223372036854775808 : Int))) fun r4 =>
    let x5 : Nat := r4
    some x5
def sg_f : Sig (Nat) where
  pk := fun v => [.flt v]
  up := fun ls => match ls with
    | [.flt a0] => some a0
    | _ => none
  ok := by
    intro ls v h
    split at h
    · cases h; rfl
    · cases h

def f115_mathAbs.P : List Arg := [⟨.val, ⟨false, [.leaf], [.flt .f64 0]⟩⟩]
def f115_mathAbs.A : RAlt (Nat) := .one ⟨[⟨false, [.leaf], [.flt .f64 0]⟩], [none]⟩ sg_f
def f115_mathAbs.F (n : Nat) (v : Nat) := f115_mathAbs n v
noncomputable def f115_mathAbs.O (n : Nat) : Orc := orcOf (E := E) [x117.w, x118.w] [] n
theorem f115_mathAbs.ok : ∀ n v x, f115_mathAbs.F n v = some x → evalFn E n 115 (flAs f115_mathAbs.P (sg_f.pk v)) = some (f115_mathAbs.A.enc x) :=
  fn_pure (modes := (fdAt 115).ms) (outs := (fdAt 115).os) (results := (fdAt 115).rs) f115_mathAbs.O (c := c115) (keep := keepAt 115) (by kernel_rfl) (fun n => orcOf_cf _ _ n) (fun n => lpOk_of (bs := []) (by kernel_rfl) .nil) (fun _ => rfl) (fun _ _ => by kernel_rfl)
noncomputable def f115_mathAbs.w : FnW E := fnW 115 f115_mathAbs.P sg_f f115_mathAbs.A f115_mathAbs.F f115_mathAbs.ok
end Go.Proofs.Ythgenpcoelihiaa.DA
end
namespace Go.Proofs.Ythgenpcoelihiaa.DA
open Go Go.Desk
theorem absOk : ExtOk Try.prog 115 pAbs := ext_pAbs_of Try.checked.mixed tysOk fnOk
  (fun x hN hx => ⟨3, f115_mathAbs.ok 3 x _ (abs_plain 1 hN)⟩)
  ⟨5, by kernel_rfl⟩
end Go.Proofs.Ythgenpcoelihiaa.DA
end
section
/- What math.Copysign owes: tables of its own, and the reading of its code. -/
namespace Go.Proofs.Ythgenpcoelihiaa.DC
open Go Go.Desk
def bodyOf (f : Func) : Code := match f.body with
  | some c => c
  | none => .skip
def tyTab : List (Nat × TD) := [
  (28, ⟨false, 1, 8, [.leaf], [.flt .f64 0], .flt .f64⟩),
  (103, ⟨false, 1, 8, [.leaf], [.int .u64 0], .int .u64⟩)]
noncomputable def c106 : Code := bodyOf Try.f106
noncomputable def fnTab : List (Nat × FD) := [
  (106, .code c106 [.val, .val] [] [(4, none)] [(0, [0, 1]), (1, [0, 1])]),
  (117, .ext (pF64frombits)),
  (118, .ext (pF64bits))]
noncomputable def E : Env := ⟨fun t => lookT tyTab t, lookF fnTab⟩
noncomputable def fdAt (n : Nat) : FD := match lookF fnTab n with
  | some d => d
  | none => .ext fun _ => none
noncomputable def keepAt (n : Nat) : List (Nat × List Nat) := match lookF fnTab n with
  | some d => d.keep
  | none => []
theorem tysOk : TysOk Try.prog E := tysOk_of (l := tyTab) (fun _ => rfl) (by kernel_rfl)
theorem ft106 : FnTab Try.prog E 106 (fdAt 106) := fnTab_code (c := c106) (modes := (fdAt 106).ms) (outs := (fdAt 106).os) (results := (fdAt 106).rs) (keep := (fdAt 106).keep) Try.func106 (by kernel_rfl) (by kernel_rfl) (by kernel_rfl)
theorem ft117 : FnTab Try.prog E 117 (.ext (pF64frombits)) := ext_pF64frombits Try.func117 (by kernel_rfl) (by kernel_rfl) (by kernel_rfl) (by kernel_rfl)
theorem ft118 : FnTab Try.prog E 118 (.ext (pF64bits)) := ext_pF64bits Try.func118 (by kernel_rfl) (by kernel_rfl) (by kernel_rfl) (by kernel_rfl)
theorem allFns : AllFns Try.prog E fnTab := .cons ft106 (.cons ft117 (.cons ft118 (.nil)))
theorem fnOk : ∀ f fd, E.fn f = some fd → FnTab Try.prog E f fd := fnTab_of (l := fnTab) (fun _ => rfl) allFns
end Go.Proofs.Ythgenpcoelihiaa.DC
section
namespace Go.Proofs.Ythgenpcoelihiaa.DC
open Go Go.Desk
set_option linter.unusedVariables false
noncomputable def x117.w : FnW E := xF64frombits.w 117 (by kernel_rfl)

noncomputable def x118.w : FnW E := xF64bits.w 118 (by kernel_rfl)

def f106_mathCopysign : Nat → Nat → Nat → Option (Nat)
  | 0, _, _ => none
  | n + 1, x1, x2 =>
    bd (xF64bits n x1) fun r3 =>
    let i4 : Int := r3
    bd (xF64bits n x2) fun r5 =>
    let i6 : Int := r5
    bd (xF64frombits n (intBits BinOp.or IntKind.u64 (intBits BinOp.andNot IntKind.u64 i4 (9223372036854775808 : Int)) (intBits BinOp.and IntKind.u64 i6 (9223372036854775808 : Int)))) fun r7 =>
    let x8 : Nat := r7
    some x8
def sg_ff : Sig (Nat × Nat) where
  pk := fun v => [.flt v.1, .flt v.2]
  up := fun ls => match ls with
    | [.flt a0, .flt a1] => some (a0, a1)
    | _ => none
  ok := by
    intro ls v h
    split at h
    · cases h; rfl
    · cases h

def sg_f : Sig (Nat) where
  pk := fun v => [.flt v]
  up := fun ls => match ls with
    | [.flt a0] => some a0
    | _ => none
  ok := by
    intro ls v h
    split at h
    · cases h; rfl
    · cases h

def f106_mathCopysign.P : List Arg := [⟨.val, ⟨false, [.leaf], [.flt .f64 0]⟩⟩, ⟨.val, ⟨false, [.leaf], [.flt .f64 0]⟩⟩]
def f106_mathCopysign.A : RAlt (Nat) := .one ⟨[⟨false, [.leaf], [.flt .f64 0]⟩], [none, none]⟩ sg_f
def f106_mathCopysign.F (n : Nat) (v : Nat × Nat) := f106_mathCopysign n v.1 v.2
noncomputable def f106_mathCopysign.O (n : Nat) : Orc := orcOf (E := E) [x117.w, x118.w] [] n
theorem f106_mathCopysign.ok : ∀ n v x, f106_mathCopysign.F n v = some x → evalFn E n 106 (flAs f106_mathCopysign.P (sg_ff.pk v)) = some (f106_mathCopysign.A.enc x) :=
  fn_pure (modes := (fdAt 106).ms) (outs := (fdAt 106).os) (results := (fdAt 106).rs) f106_mathCopysign.O (c := c106) (keep := keepAt 106) (by kernel_rfl) (fun n => orcOf_cf _ _ n) (fun n => lpOk_of (bs := []) (by kernel_rfl) .nil) (fun _ => rfl) (fun _ _ => by kernel_rfl)
noncomputable def f106_mathCopysign.w : FnW E := fnW 106 f106_mathCopysign.P sg_ff f106_mathCopysign.A f106_mathCopysign.F f106_mathCopysign.ok
end Go.Proofs.Ythgenpcoelihiaa.DC
end
namespace Go.Proofs.Ythgenpcoelihiaa.DC
open Go Go.Desk
theorem signOk : ExtOk Try.prog 106 pCopysign := ext_pCopysign_of Try.checked.mixed tysOk fnOk
  (fun x s hx hs hx' hs' => ⟨3, f106_mathCopysign.ok 3 (x, s) _ (copysign_plain 1 hx hs hx' hs')⟩)
end Go.Proofs.Ythgenpcoelihiaa.DC
end
section
/- The tables of the reading: types and functions of the translation, with what is kept at each region's beginning (written by a program of this workplace). -/
namespace Go.Proofs.Ythgenpcoelihiaa.D
open Go Go.Desk
def bodyOf (f : Func) : Code := match f.body with
  | some c => c
  | none => .skip
def tyTab : List (Nat × TD) := [
  (2, ⟨false, 1, 8, [.leaf], [.int .i64 0], .int .i64⟩),
  (3, ⟨false, 1, 8, [.leaf], [.int .i64 0], .int .i64⟩),
  (4, ⟨false, 1, 1, [.leaf], [.bool false], .bool⟩),
  (5, ⟨false, 1, 1, [.leaf], [.int .u8 0], .int .u8⟩),
  (22, ⟨false, 1, 24, [.sl .own [.leaf]], [.lst 0 []], .slc 5⟩),
  (24, ⟨false, 1, 4, [.leaf], [.flt .f32 0], .flt .f32⟩),
  (28, ⟨false, 1, 8, [.leaf], [.flt .f64 0], .flt .f64⟩),
  (33, ⟨false, 1, 24, [.sl .own [.leaf]], [.lst 0 []], .slc 24⟩),
  (52, ⟨true, 3, 12, [.leaf, .leaf, .leaf], [.flt .f32 0, .flt .f32 0, .flt .f32 0], .st [(0, 24), (1, 24), (2, 24)]⟩),
  (54, ⟨true, 5, 20, [.leaf, .leaf, .leaf, .leaf, .leaf], [.flt .f32 0, .flt .f32 0, .flt .f32 0, .flt .f32 0, .flt .f32 0], .st [(0, 52), (3, 24), (4, 24)]⟩),
  (75, ⟨false, 1, 8, [.leaf], [.nil], .ptr 105⟩),
  (87, ⟨false, 1, 4, [.leaf], [.int .u32 0], .int .u32⟩),
  (103, ⟨false, 1, 8, [.leaf], [.int .u64 0], .int .u64⟩),
  (105, ⟨true, 3, 40, [.sl .own [.leaf], .leaf, .leaf], [.lst 0 [], .int .i64 0, .int .u64 0], .st [(0, 22), (1, 3), (2, 103)]⟩),
  (112, ⟨false, 1, 8, [.leaf], [.nil], .ptr 52⟩),
  (116, ⟨false, 1, 8, [.leaf], [.int .u64 0], .int .u64⟩)]
noncomputable def c9 : Code := bodyOf Try.f9
noncomputable def c22 : Code := bodyOf Try.f22
noncomputable def c24 : Code := bodyOf Try.f24
noncomputable def c32 : Code := bodyOf Try.f32
noncomputable def c37 : Code := bodyOf Try.f37
noncomputable def c43 : Code := bodyOf Try.f43
noncomputable def c44 : Code := bodyOf Try.f44
noncomputable def c45 : Code := bodyOf Try.f45
noncomputable def c46 : Code := bodyOf Try.f46
noncomputable def c47 : Code := bodyOf Try.f47
noncomputable def c63 : Code := bodyOf Try.f63
noncomputable def c65 : Code := bodyOf Try.f65
noncomputable def c71 : Code := bodyOf Try.f71
noncomputable def c72 : Code := bodyOf Try.f72
noncomputable def c73 : Code := bodyOf Try.f73
noncomputable def c80 : Code := bodyOf Try.f80
noncomputable def c82 : Code := bodyOf Try.f82
noncomputable def c92 : Code := bodyOf Try.f92
noncomputable def c96 : Code := bodyOf Try.f96
noncomputable def c111 : Code := bodyOf Try.f111
noncomputable def fnTab : List (Nat × FD) := [
  (9, .code c9 [.val, .val] [] [(4, none)] [(0, [0, 1]), (1, [0, 1]), (2, []), (3, [0, 1]), (4, [1, 5]), (5, [5, 6]), (6, [5, 6, 7, 8, 9]), (7, [5, 6, 7, 8, 9, 10, 11, 12]), (8, [5, 6, 7, 8, 9, 10, 11, 12, 13, 14, 15]), (9, []), (10, [5, 6, 7, 13]), (11, [5, 6, 7, 13, 16]), (12, [5, 6, 7, 13, 16]), (13, [5, 6, 7, 13, 16]), (14, [5, 6, 7, 13, 16, 17]), (15, []), (16, []), (1000011, [4])]),
  (22, .code c22 [.val, .val] [] [(4, none)] [(0, [0, 1]), (1, [0, 1])]),
  (24, .code c24 [.val, .val] [] [(4, none)] [(0, [0, 1]), (1, [0, 1]), (2, [1, 5]), (3, [1, 5, 6]), (4, [1, 5, 6, 7]), (5, [1, 5, 6, 7]), (6, [1, 5, 6, 7]), (7, [6]), (1000004, [6])]),
  (32, .code c32 [.val, .val] [] [(4, none)] [(0, [0, 1]), (1, [0, 1]), (2, [0, 1]), (3, [0, 1])]),
  (37, .code c37 [.val, .val] [] [(4, none)] [(0, [0, 1]), (1, [0, 1]), (2, []), (3, [0, 1]), (4, [0, 1, 5]), (5, [0, 1, 5]), (6, [0, 1, 5]), (7, []), (8, []), (1000004, [4])]),
  (43, .code c43 [.val] [] [(2, some (true, 5))] [(0, [0]), (1, [0, 2]), (2, [2, 3]), (3, [2, 3, 4]), (4, [2, 3, 4]), (5, [2, 3, 4]), (6, [2, 4])]),
  (44, .code c44 [.val, .val] [] [(4, none), (5, some (true, 5)), (6, none)] [(0, [0, 1]), (1, [1, 2, 5])]),
  (45, .code c45 [.val, .val, .val] [] [(6, none), (7, some (true, 5)), (8, none)] [(0, [0, 1, 2]), (1, [1, 2, 3, 7]), (2, [7]), (3, [1, 2, 3, 7]), (4, [1, 2, 3, 7, 9]), (5, [1, 2, 3, 7, 9, 23, 24, 25]), (6, [1, 2, 3, 7, 9, 23, 24, 25]), (7, [1, 2, 3, 7, 9, 10, 11, 23, 24, 25]), (8, [1, 2, 3, 7, 9, 11, 23, 24, 25]), (9, [1, 2, 3, 7, 9, 23, 24, 25]), (10, [3, 7, 9]), (1000005, [3, 7, 9])]),
  (46, .code c46 [.val, .val] [] [(4, none), (5, some (true, 3)), (6, none)] [(0, [0, 1]), (1, [1, 2, 5]), (2, [5]), (3, [1, 2, 5]), (4, [1, 2, 5, 7]), (5, [1, 2, 5, 7, 14, 15, 16]), (6, [1, 2, 5, 7, 14, 15, 16]), (7, [1, 2, 5, 7, 9, 14, 15, 16]), (8, [1, 2, 5, 7, 14, 15, 16]), (9, [1, 2, 5, 7, 14, 15, 16]), (10, [2, 5, 7]), (1000005, [2, 5, 7])]),
  (47, .code c47 [.val, .val, .val] [] [(6, none)] [(0, [0, 1, 2]), (1, [0, 1, 2]), (2, []), (3, [0, 1, 2])]),
  (63, .code c63 [.val] [] [(2, none)] [(0, [0]), (1, [0]), (2, [0]), (3, [0])]),
  (65, .code c65 [.val] [] [(2, none)] [(0, [0]), (1, [0])]),
  (71, .code c71 [.val] [] [(2, none)] [(0, [0]), (1, [0])]),
  (72, .code c72 [.iop, .val] [0] [(4, none)] [(0, [0, 1]), (1, [0, 1])]),
  (73, .code c73 [.iop, .val] [0] [(4, none)] [(0, [0, 1]), (1, [0, 1]), (2, [0]), (3, [0, 1]), (4, [0, 1, 5]), (5, [0, 1, 5]), (6, [0, 1, 5])]),
  (80, .code c80 [.iop] [0] [(2, none)] [(0, [0]), (1, [0]), (2, [0, 3]), (3, [0, 3]), (4, [0, 3])]),
  (82, .code c82 [.val] [] [(2, none)] [(0, [0]), (1, [0])]),
  (87, .ext (pF32bits)),
  (92, .code c92 [.val] [] [(2, none)] [(0, [0]), (1, [0])]),
  (96, .code c96 [.iop, .val] [0] [] [(0, [0, 1]), (1, [0, 4]), (2, [0, 4, 5]), (3, [0, 4]), (4, [0, 4, 5])]),
  (106, .ext (pCopysign)),
  (111, .code c111 [.iop] [0] [(2, none)] [(0, [0]), (1, [0]), (2, [0, 3]), (3, [0]), (4, [0, 3]), (5, [0, 3]), (6, [0, 3]), (7, [0, 3]), (8, [0])]),
  (115, .ext (pAbs))]
noncomputable def E : Env := ⟨fun t => lookT tyTab t, lookF fnTab⟩
noncomputable def fdAt (n : Nat) : FD := match lookF fnTab n with
  | some d => d
  | none => .ext fun _ => none
noncomputable def keepAt (n : Nat) : List (Nat × List Nat) := match lookF fnTab n with
  | some d => d.keep
  | none => []
theorem tysOk : TysOk Try.prog E := tysOk_of (l := tyTab) (fun _ => rfl) (by kernel_rfl)
theorem ft9 : FnTab Try.prog E 9 (fdAt 9) := fnTab_code (c := c9) (modes := (fdAt 9).ms) (outs := (fdAt 9).os) (results := (fdAt 9).rs) (keep := (fdAt 9).keep) Try.func9 (by kernel_rfl) (by kernel_rfl) (by kernel_rfl)
theorem ft22 : FnTab Try.prog E 22 (fdAt 22) := fnTab_code (c := c22) (modes := (fdAt 22).ms) (outs := (fdAt 22).os) (results := (fdAt 22).rs) (keep := (fdAt 22).keep) Try.func22 (by kernel_rfl) (by kernel_rfl) (by kernel_rfl)
theorem ft24 : FnTab Try.prog E 24 (fdAt 24) := fnTab_code (c := c24) (modes := (fdAt 24).ms) (outs := (fdAt 24).os) (results := (fdAt 24).rs) (keep := (fdAt 24).keep) Try.func24 (by kernel_rfl) (by kernel_rfl) (by kernel_rfl)
theorem ft32 : FnTab Try.prog E 32 (fdAt 32) := fnTab_code (c := c32) (modes := (fdAt 32).ms) (outs := (fdAt 32).os) (results := (fdAt 32).rs) (keep := (fdAt 32).keep) Try.func32 (by kernel_rfl) (by kernel_rfl) (by kernel_rfl)
theorem ft37 : FnTab Try.prog E 37 (fdAt 37) := fnTab_code (c := c37) (modes := (fdAt 37).ms) (outs := (fdAt 37).os) (results := (fdAt 37).rs) (keep := (fdAt 37).keep) Try.func37 (by kernel_rfl) (by kernel_rfl) (by kernel_rfl)
theorem ft43 : FnTab Try.prog E 43 (fdAt 43) := fnTab_code (c := c43) (modes := (fdAt 43).ms) (outs := (fdAt 43).os) (results := (fdAt 43).rs) (keep := (fdAt 43).keep) Try.func43 (by kernel_rfl) (by kernel_rfl) (by kernel_rfl)
theorem ft44 : FnTab Try.prog E 44 (fdAt 44) := fnTab_code (c := c44) (modes := (fdAt 44).ms) (outs := (fdAt 44).os) (results := (fdAt 44).rs) (keep := (fdAt 44).keep) Try.func44 (by kernel_rfl) (by kernel_rfl) (by kernel_rfl)
theorem ft45 : FnTab Try.prog E 45 (fdAt 45) := fnTab_code (c := c45) (modes := (fdAt 45).ms) (outs := (fdAt 45).os) (results := (fdAt 45).rs) (keep := (fdAt 45).keep) Try.func45 (by kernel_rfl) (by kernel_rfl) (by kernel_rfl)
theorem ft46 : FnTab Try.prog E 46 (fdAt 46) := fnTab_code (c := c46) (modes := (fdAt 46).ms) (outs := (fdAt 46).os) (results := (fdAt 46).rs) (keep := (fdAt 46).keep) Try.func46 (by kernel_rfl) (by kernel_rfl) (by kernel_rfl)
theorem ft47 : FnTab Try.prog E 47 (fdAt 47) := fnTab_code (c := c47) (modes := (fdAt 47).ms) (outs := (fdAt 47).os) (results := (fdAt 47).rs) (keep := (fdAt 47).keep) Try.func47 (by kernel_rfl) (by kernel_rfl) (by kernel_rfl)
theorem ft63 : FnTab Try.prog E 63 (fdAt 63) := fnTab_code (c := c63) (modes := (fdAt 63).ms) (outs := (fdAt 63).os) (results := (fdAt 63).rs) (keep := (fdAt 63).keep) Try.func63 (by kernel_rfl) (by kernel_rfl) (by kernel_rfl)
theorem ft65 : FnTab Try.prog E 65 (fdAt 65) := fnTab_code (c := c65) (modes := (fdAt 65).ms) (outs := (fdAt 65).os) (results := (fdAt 65).rs) (keep := (fdAt 65).keep) Try.func65 (by kernel_rfl) (by kernel_rfl) (by kernel_rfl)
theorem ft71 : FnTab Try.prog E 71 (fdAt 71) := fnTab_code (c := c71) (modes := (fdAt 71).ms) (outs := (fdAt 71).os) (results := (fdAt 71).rs) (keep := (fdAt 71).keep) Try.func71 (by kernel_rfl) (by kernel_rfl) (by kernel_rfl)
theorem ft72 : FnTab Try.prog E 72 (fdAt 72) := fnTab_code (c := c72) (modes := (fdAt 72).ms) (outs := (fdAt 72).os) (results := (fdAt 72).rs) (keep := (fdAt 72).keep) Try.func72 (by kernel_rfl) (by kernel_rfl) (by kernel_rfl)
theorem ft73 : FnTab Try.prog E 73 (fdAt 73) := fnTab_code (c := c73) (modes := (fdAt 73).ms) (outs := (fdAt 73).os) (results := (fdAt 73).rs) (keep := (fdAt 73).keep) Try.func73 (by kernel_rfl) (by kernel_rfl) (by kernel_rfl)
theorem ft80 : FnTab Try.prog E 80 (fdAt 80) := fnTab_code (c := c80) (modes := (fdAt 80).ms) (outs := (fdAt 80).os) (results := (fdAt 80).rs) (keep := (fdAt 80).keep) Try.func80 (by kernel_rfl) (by kernel_rfl) (by kernel_rfl)
theorem ft82 : FnTab Try.prog E 82 (fdAt 82) := fnTab_code (c := c82) (modes := (fdAt 82).ms) (outs := (fdAt 82).os) (results := (fdAt 82).rs) (keep := (fdAt 82).keep) Try.func82 (by kernel_rfl) (by kernel_rfl) (by kernel_rfl)
theorem ft87 : FnTab Try.prog E 87 (.ext (pF32bits)) := ext_pF32bits Try.func87 (by kernel_rfl) (by kernel_rfl) (by kernel_rfl) (by kernel_rfl)
theorem ft92 : FnTab Try.prog E 92 (fdAt 92) := fnTab_code (c := c92) (modes := (fdAt 92).ms) (outs := (fdAt 92).os) (results := (fdAt 92).rs) (keep := (fdAt 92).keep) Try.func92 (by kernel_rfl) (by kernel_rfl) (by kernel_rfl)
theorem ft96 : FnTab Try.prog E 96 (fdAt 96) := fnTab_code (c := c96) (modes := (fdAt 96).ms) (outs := (fdAt 96).os) (results := (fdAt 96).rs) (keep := (fdAt 96).keep) Try.func96 (by kernel_rfl) (by kernel_rfl) (by kernel_rfl)
theorem ft106 : FnTab Try.prog E 106 (.ext (pCopysign)) := DC.signOk
theorem ft111 : FnTab Try.prog E 111 (fdAt 111) := fnTab_code (c := c111) (modes := (fdAt 111).ms) (outs := (fdAt 111).os) (results := (fdAt 111).rs) (keep := (fdAt 111).keep) Try.func111 (by kernel_rfl) (by kernel_rfl) (by kernel_rfl)
theorem ft115 : FnTab Try.prog E 115 (.ext (pAbs)) := DA.absOk
theorem allFns : AllFns Try.prog E fnTab := .cons ft9 (.cons ft22 (.cons ft24 (.cons ft32 (.cons ft37 (.cons ft43 (.cons ft44 (.cons ft45 (.cons ft46 (.cons ft47 (.cons ft63 (.cons ft65 (.cons ft71 (.cons ft72 (.cons ft73 (.cons ft80 (.cons ft82 (.cons ft87 (.cons ft92 (.cons ft96 (.cons ft106 (.cons ft111 (.cons ft115 (.nil)))))))))))))))))))))))
theorem fnOk : ∀ f fd, E.fn f = some fd → FnTab Try.prog E f fd := fnTab_of (l := fnTab) (fun _ => rfl) allFns
end Go.Proofs.Ythgenpcoelihiaa.D
end
section
/- Plain functions for the law's Go functions, each tied to the reading by the kernel (printed by a program of this workplace). -/
namespace Go.Proofs.Ythgenpcoelihiaa.D
open Go Go.Desk
set_option linter.unusedVariables false
noncomputable def x87.w : FnW E := xF32bits.w 87 (by kernel_rfl)

noncomputable def x106.w : FnW E := xCopysign.w 106 (by kernel_rfl)

noncomputable def x115.w : FnW E := xAbs.w 115 (by kernel_rfl)

def f22_l_r8Long : Nat → Nat → List T → Nat → List T → Option (Bool)
  | 0, _, _, _, _ => none
  | n + 1, n1, l2, n3, l4 =>
    br (decide (((n1 : Nat) : Int) > (48 : Int))) (
     some true) (
     some (decide (((n3 : Nat) : Int) > (48 : Int))))
def sg_ll : Sig (Nat × List T × Nat × List T) where
  pk := fun v => [.lst v.1 v.2.1, .lst v.2.2.1 v.2.2.2]
  up := fun ls => match ls with
    | [.lst a0 a1, .lst a2 a3] => some (a0, a1, a2, a3)
    | _ => none
  ok := by
    intro ls v h
    split at h
    · cases h; rfl
    · cases h

def sg_b : Sig (Bool) where
  pk := fun v => [.bool v]
  up := fun ls => match ls with
    | [.bool a0] => some a0
    | _ => none
  ok := by
    intro ls v h
    split at h
    · cases h; rfl
    · cases h

def f22_l_r8Long.P : List Arg := [⟨.val, ⟨false, [.sl .shr [.leaf]], [.lst 0 []]⟩⟩, ⟨.val, ⟨false, [.sl .shr [.leaf]], [.lst 0 []]⟩⟩]
def f22_l_r8Long.A : RAlt (Bool) := .one ⟨[⟨false, [.leaf], [.bool false]⟩], [none, none]⟩ sg_b
def f22_l_r8Long.F (n : Nat) (v : Nat × List T × Nat × List T) := f22_l_r8Long n v.1 v.2.1 v.2.2.1 v.2.2.2
noncomputable def f22_l_r8Long.O (n : Nat) : Orc := orcOf (E := E) [] [] n
theorem f22_l_r8Long.ok : ∀ n v x, f22_l_r8Long.F n v = some x → evalFn E n 22 (flAs f22_l_r8Long.P (sg_ll.pk v)) = some (f22_l_r8Long.A.enc x) :=
  fn_pure (modes := (fdAt 22).ms) (outs := (fdAt 22).os) (results := (fdAt 22).rs) f22_l_r8Long.O (c := c22) (keep := keepAt 22) (by kernel_rfl) (fun n => orcOf_cf _ _ n) (fun n => lpOk_of (bs := []) (by kernel_rfl) .nil) (fun _ => rfl) (fun _ _ => by kernel_rfl)
noncomputable def f22_l_r8Long.w : FnW E := fnW 22 f22_l_r8Long.P sg_ll f22_l_r8Long.A f22_l_r8Long.F f22_l_r8Long.ok

def f71_s_l00From : Nat → Nat → List T → Option (Nat × List T × Int × Int)
  | 0, _, _ => none
  | n + 1, n1, l2 =>
    some (n1, l2, (0 : Int), (0 : Int))
def sg_l : Sig (Nat × List T) where
  pk := fun v => [.lst v.1 v.2]
  up := fun ls => match ls with
    | [.lst a0 a1] => some (a0, a1)
    | _ => none
  ok := by
    intro ls v h
    split at h
    · cases h; rfl
    · cases h

def sg_lii : Sig (Nat × List T × Int × Int) where
  pk := fun v => [.lst v.1 v.2.1, .int v.2.2.1, .int v.2.2.2]
  up := fun ls => match ls with
    | [.lst a0 a1, .int a2, .int a3] => some (a0, a1, a2, a3)
    | _ => none
  ok := by
    intro ls v h
    split at h
    · cases h; rfl
    · cases h

def f71_s_l00From.P : List Arg := [⟨.val, ⟨false, [.sl .shr [.leaf]], [.lst 0 []]⟩⟩]
def f71_s_l00From.A : RAlt (Nat × List T × Int × Int) := .one ⟨[⟨false, [.rf .own [.sl .shr [.leaf], .leaf, .leaf]], [.ref [.lst 0 [], .int .i64 0, .int .u64 0]]⟩], [none]⟩ sg_lii
def f71_s_l00From.F (n : Nat) (v : Nat × List T) := f71_s_l00From n v.1 v.2
noncomputable def f71_s_l00From.O (n : Nat) : Orc := orcOf (E := E) [] [] n
theorem f71_s_l00From.ok : ∀ n v x, f71_s_l00From.F n v = some x → evalFn E n 71 (flAs f71_s_l00From.P (sg_l.pk v)) = some (f71_s_l00From.A.enc x) :=
  fn_pure (modes := (fdAt 71).ms) (outs := (fdAt 71).os) (results := (fdAt 71).rs) f71_s_l00From.O (c := c71) (keep := keepAt 71) (by kernel_rfl) (fun n => orcOf_cf _ _ n) (fun n => lpOk_of (bs := []) (by kernel_rfl) .nil) (fun _ => rfl) (fun _ _ => by kernel_rfl)
noncomputable def f71_s_l00From.w : FnW E := fnW 71 f71_s_l00From.P sg_l f71_s_l00From.A f71_s_l00From.F f71_s_l00From.ok

def f111_s_l00Srcnext : Nat → Nat → List T → Int → Int → Option (Int × Nat × List T × Int × Int)
  | 0, _, _, _, _ => none
  | n + 1, n1, l2, i3, i4 =>
    br (decide (i3 < ((n1 : Nat) : Int))) (
     gd ((decide (((0 : Int) ≤ i3) ∧ (i3 < ((n1 : Nat) : Int)))) && (okAt [(CK.int IntKind.u8)] l2 (Int.toNat i3))) (
     let i5 : Int := (IntKind.i64.wrap (iAt l2 (Int.toNat i3)))
     let i6 : Int := (IntKind.i64.wrap (i3 + (1 : Int)))
     let i7 : Int := (IntKind.u64.wrap ((IntKind.u64.wrap ((IntKind.u64.wrap (i4 * (6364136223846793005 : Int))) + (IntKind.u64.wrap i5))) + (1442695040888963407 : Int)))
     br (decide (i6 ≤ ((n1 : Nat) : Int))) (
      some (i5, n1, l2, i6, i7)) (
      some ((IntKind.i64.wrap (intBits BinOp.and IntKind.u64 (Int.fdiv i7 (1099511627776 : Int)) (255 : Int))), n1, l2, i6, i7)))) (
     let i8 : Int := (IntKind.i64.wrap (i3 + (1 : Int)))
     let i9 : Int := (IntKind.u64.wrap ((IntKind.u64.wrap ((IntKind.u64.wrap (i4 * (6364136223846793005 : Int))) + (0 : Int))) + (1442695040888963407 : Int)))
     br (decide (i8 ≤ ((n1 : Nat) : Int))) (
      some ((0 : Int), n1, l2, i8, i9)) (
      some ((IntKind.i64.wrap (intBits BinOp.and IntKind.u64 (Int.fdiv i9 (1099511627776 : Int)) (255 : Int))), n1, l2, i8, i9)))
def sg_ilii : Sig (Int × Nat × List T × Int × Int) where
  pk := fun v => [.int v.1, .lst v.2.1 v.2.2.1, .int v.2.2.2.1, .int v.2.2.2.2]
  up := fun ls => match ls with
    | [.int a0, .lst a1 a2, .int a3, .int a4] => some (a0, a1, a2, a3, a4)
    | _ => none
  ok := by
    intro ls v h
    split at h
    · cases h; rfl
    · cases h

def f111_s_l00Srcnext.P : List Arg := [⟨.iop, ⟨false, [.rf .own [.sl .shr [.leaf], .leaf, .leaf]], [.ref [.lst 0 [], .int .i64 0, .int .u64 0]]⟩⟩]
def f111_s_l00Srcnext.A : RAlt (Int × Nat × List T × Int × Int) := .one ⟨[⟨false, [.leaf], [.int .i64 0]⟩], [some ⟨false, [.rf .own [.sl .shr [.leaf], .leaf, .leaf]], [.ref [.lst 0 [], .int .i64 0, .int .u64 0]]⟩]⟩ sg_ilii
def f111_s_l00Srcnext.F (n : Nat) (v : Nat × List T × Int × Int) := f111_s_l00Srcnext n v.1 v.2.1 v.2.2.1 v.2.2.2
noncomputable def f111_s_l00Srcnext.O (n : Nat) : Orc := orcOf (E := E) [] [] n
theorem f111_s_l00Srcnext.ok : ∀ n v x, f111_s_l00Srcnext.F n v = some x → evalFn E n 111 (flAs f111_s_l00Srcnext.P (sg_lii.pk v)) = some (f111_s_l00Srcnext.A.enc x) :=
  fn_pure (modes := (fdAt 111).ms) (outs := (fdAt 111).os) (results := (fdAt 111).rs) f111_s_l00Srcnext.O (c := c111) (keep := keepAt 111) (by kernel_rfl) (fun n => orcOf_cf _ _ n) (fun n => lpOk_of (bs := []) (by kernel_rfl) .nil) (fun _ => rfl) (fun _ _ => by kernel_rfl)
noncomputable def f111_s_l00Srcnext.w : FnW E := fnW 111 f111_s_l00Srcnext.P sg_lii f111_s_l00Srcnext.A f111_s_l00Srcnext.F f111_s_l00Srcnext.ok

def f73_s_l00Srcpick : Nat → Nat → List T → Int → Int → Int → Option (Int × Nat × List T × Int × Int)
  | 0, _, _, _, _, _ => none
  | n + 1, n1, l2, i3, i4, i5 =>
    br (decide (i5 ≤ (1 : Int))) (
     some ((0 : Int), n1, l2, i3, i4)) (
     bd (f111_s_l00Srcnext n n1 l2 i3 i4) fun r6 =>
     let i7 : Int := r6.1
     let n8 : Nat := r6.2.1
     let l9 : List T := r6.2.2.1
     let i10 : Int := r6.2.2.2.1
     let i11 : Int := r6.2.2.2.2
     br (decide (i5 > (200 : Int))) (
      bd (f111_s_l00Srcnext n n8 l9 i10 i11) fun r12 =>
      let i13 : Int := r12.1
      let n14 : Nat := r12.2.1
      let l15 : List T := r12.2.2.1
      let i16 : Int := r12.2.2.2.1
      let i17 : Int := r12.2.2.2.2
      let i18 : Int := (IntKind.i64.wrap ((IntKind.i64.wrap (i7 * (256 : Int))) + i13))
      gd (!(decide (i5 = (0 : Int)))) (
      some ((Int.tmod i18 i5), n14, l15, i16, i17))) (
      gd (!(decide (i5 = (0 : Int)))) (
      some ((Int.tmod i7 i5), n8, l9, i10, i11))))
def sg_liii : Sig (Nat × List T × Int × Int × Int) where
  pk := fun v => [.lst v.1 v.2.1, .int v.2.2.1, .int v.2.2.2.1, .int v.2.2.2.2]
  up := fun ls => match ls with
    | [.lst a0 a1, .int a2, .int a3, .int a4] => some (a0, a1, a2, a3, a4)
    | _ => none
  ok := by
    intro ls v h
    split at h
    · cases h; rfl
    · cases h

def f73_s_l00Srcpick.P : List Arg := [⟨.iop, ⟨false, [.rf .own [.sl .shr [.leaf], .leaf, .leaf]], [.ref [.lst 0 [], .int .i64 0, .int .u64 0]]⟩⟩, ⟨.val, ⟨false, [.leaf], [.int .i64 0]⟩⟩]
def f73_s_l00Srcpick.A : RAlt (Int × Nat × List T × Int × Int) := .one ⟨[⟨false, [.leaf], [.int .i64 0]⟩], [some ⟨false, [.rf .own [.sl .shr [.leaf], .leaf, .leaf]], [.ref [.lst 0 [], .int .i64 0, .int .u64 0]]⟩, none]⟩ sg_ilii
def f73_s_l00Srcpick.F (n : Nat) (v : Nat × List T × Int × Int × Int) := f73_s_l00Srcpick n v.1 v.2.1 v.2.2.1 v.2.2.2.1 v.2.2.2.2
noncomputable def f73_s_l00Srcpick.O (n : Nat) : Orc := orcOf (E := E) [f111_s_l00Srcnext.w] [] n
theorem f73_s_l00Srcpick.ok : ∀ n v x, f73_s_l00Srcpick.F n v = some x → evalFn E n 73 (flAs f73_s_l00Srcpick.P (sg_liii.pk v)) = some (f73_s_l00Srcpick.A.enc x) :=
  fn_pure (modes := (fdAt 73).ms) (outs := (fdAt 73).os) (results := (fdAt 73).rs) f73_s_l00Srcpick.O (c := c73) (keep := keepAt 73) (by kernel_rfl) (fun n => orcOf_cf _ _ n) (fun n => lpOk_of (bs := []) (by kernel_rfl) .nil) (fun _ => rfl) (fun _ _ => by kernel_rfl)
noncomputable def f73_s_l00Srcpick.w : FnW E := fnW 73 f73_s_l00Srcpick.P sg_liii f73_s_l00Srcpick.A f73_s_l00Srcpick.F f73_s_l00Srcpick.ok

def f43_s_R8Squeeze : Nat → Nat → List T → Option (Nat × Nat × Nat × Nat × Nat)
  | 0, _, _ => none
  | n + 1, n1, l2 =>
    bd (f71_s_l00From n n1 l2) fun r3 =>
    let n4 : Nat := r3.1
    let l5 : List T := r3.2.1
    let i6 : Int := r3.2.2.1
    let i7 : Int := r3.2.2.2
    bd (f73_s_l00Srcpick n n4 l5 i6 i7 (17 : Int)) fun r8 =>
    let i9 : Int := r8.1
    let n10 : Nat := r8.2.1
    let l11 : List T := r8.2.2.1
    let i12 : Int := r8.2.2.2.1
    let i13 : Int := r8.2.2.2.2
    let x14 : Nat := (fdiv FloatKind.f32 (FloatKind.nearest FloatKind.f32 i9) 1098907648)
    bd (f73_s_l00Srcpick n n10 l11 i12 i13 (17 : Int)) fun r15 =>
    let i16 : Int := r15.1
    let n17 : Nat := r15.2.1
    let l18 : List T := r15.2.2.1
    let i19 : Int := r15.2.2.2.1
    let i20 : Int := r15.2.2.2.2
    let x21 : Nat := (fdiv FloatKind.f32 (FloatKind.nearest FloatKind.f32 i16) 1098907648)
    bd (f73_s_l00Srcpick n n17 l18 i19 i20 (17 : Int)) fun r22 =>
    let i23 : Int := r22.1
    let n24 : Nat := r22.2.1
    let l25 : List T := r22.2.2.1
    let i26 : Int := r22.2.2.2.1
    let i27 : Int := r22.2.2.2.2
    let x28 : Nat := (fdiv FloatKind.f32 (FloatKind.nearest FloatKind.f32 i23) 1098907648)
    bd (f73_s_l00Srcpick n n24 l25 i26 i27 (8 : Int)) fun r29 =>
    let i30 : Int := r29.1
    let n31 : Nat := r29.2.1
    let l32 : List T := r29.2.2.1
    let i33 : Int := r29.2.2.2.1
    let i34 : Int := r29.2.2.2.2
    let x35 : Nat := (FloatKind.nearest FloatKind.f32 (IntKind.i64.wrap ((1 : Int) + i30)))
    some (x14, x21, 0, x28, x35)
def sg_fffff : Sig (Nat × Nat × Nat × Nat × Nat) where
  pk := fun v => [.flt v.1, .flt v.2.1, .flt v.2.2.1, .flt v.2.2.2.1, .flt v.2.2.2.2]
  up := fun ls => match ls with
    | [.flt a0, .flt a1, .flt a2, .flt a3, .flt a4] => some (a0, a1, a2, a3, a4)
    | _ => none
  ok := by
    intro ls v h
    split at h
    · cases h; rfl
    · cases h

def f43_s_R8Squeeze.P : List Arg := [⟨.val, ⟨false, [.sl .shr [.leaf]], [.lst 0 []]⟩⟩]
def f43_s_R8Squeeze.A : RAlt (Nat × Nat × Nat × Nat × Nat) := .one ⟨[⟨true, [.leaf, .leaf, .leaf, .leaf, .leaf], [.flt .f32 0, .flt .f32 0, .flt .f32 0, .flt .f32 0, .flt .f32 0]⟩], [none]⟩ sg_fffff
def f43_s_R8Squeeze.F (n : Nat) (v : Nat × List T) := f43_s_R8Squeeze n v.1 v.2
noncomputable def f43_s_R8Squeeze.O (n : Nat) : Orc := orcOf (E := E) [f71_s_l00From.w, f73_s_l00Srcpick.w] [] n
theorem f43_s_R8Squeeze.ok : ∀ n v x, f43_s_R8Squeeze.F n v = some x → evalFn E n 43 (flAs f43_s_R8Squeeze.P (sg_l.pk v)) = some (f43_s_R8Squeeze.A.enc x) :=
  fn_pure (modes := (fdAt 43).ms) (outs := (fdAt 43).os) (results := (fdAt 43).rs) f43_s_R8Squeeze.O (c := c43) (keep := keepAt 43) (by kernel_rfl) (fun n => orcOf_cf _ _ n) (fun n => lpOk_of (bs := []) (by kernel_rfl) .nil) (fun _ => rfl) (fun _ _ => by kernel_rfl)
noncomputable def f43_s_R8Squeeze.w : FnW E := fnW 43 f43_s_R8Squeeze.P sg_l f43_s_R8Squeeze.A f43_s_R8Squeeze.F f43_s_R8Squeeze.ok

def f72_s_l00Srcone : Nat → Nat → List T → Int → Int → Int → Option (Bool × Nat × List T × Int × Int)
  | 0, _, _, _, _, _ => none
  | n + 1, n1, l2, i3, i4, i5 =>
    bd (f73_s_l00Srcpick n n1 l2 i3 i4 i5) fun r6 =>
    let i7 : Int := r6.1
    let n8 : Nat := r6.2.1
    let l9 : List T := r6.2.2.1
    let i10 : Int := r6.2.2.2.1
    let i11 : Int := r6.2.2.2.2
    some ((i7 == (0 : Int)), n8, l9, i10, i11)
def sg_blii : Sig (Bool × Nat × List T × Int × Int) where
  pk := fun v => [.bool v.1, .lst v.2.1 v.2.2.1, .int v.2.2.2.1, .int v.2.2.2.2]
  up := fun ls => match ls with
    | [.bool a0, .lst a1 a2, .int a3, .int a4] => some (a0, a1, a2, a3, a4)
    | _ => none
  ok := by
    intro ls v h
    split at h
    · cases h; rfl
    · cases h

def f72_s_l00Srcone.P : List Arg := [⟨.iop, ⟨false, [.rf .own [.sl .shr [.leaf], .leaf, .leaf]], [.ref [.lst 0 [], .int .i64 0, .int .u64 0]]⟩⟩, ⟨.val, ⟨false, [.leaf], [.int .i64 0]⟩⟩]
def f72_s_l00Srcone.A : RAlt (Bool × Nat × List T × Int × Int) := .one ⟨[⟨false, [.leaf], [.bool false]⟩], [some ⟨false, [.rf .own [.sl .shr [.leaf], .leaf, .leaf]], [.ref [.lst 0 [], .int .i64 0, .int .u64 0]]⟩, none]⟩ sg_blii
def f72_s_l00Srcone.F (n : Nat) (v : Nat × List T × Int × Int × Int) := f72_s_l00Srcone n v.1 v.2.1 v.2.2.1 v.2.2.2.1 v.2.2.2.2
noncomputable def f72_s_l00Srcone.O (n : Nat) : Orc := orcOf (E := E) [f73_s_l00Srcpick.w] [] n
theorem f72_s_l00Srcone.ok : ∀ n v x, f72_s_l00Srcone.F n v = some x → evalFn E n 72 (flAs f72_s_l00Srcone.P (sg_liii.pk v)) = some (f72_s_l00Srcone.A.enc x) :=
  fn_pure (modes := (fdAt 72).ms) (outs := (fdAt 72).os) (results := (fdAt 72).rs) f72_s_l00Srcone.O (c := c72) (keep := keepAt 72) (by kernel_rfl) (fun n => orcOf_cf _ _ n) (fun n => lpOk_of (bs := []) (by kernel_rfl) .nil) (fun _ => rfl) (fun _ _ => by kernel_rfl)
noncomputable def f72_s_l00Srcone.w : FnW E := fnW 72 f72_s_l00Srcone.P sg_liii f72_s_l00Srcone.A f72_s_l00Srcone.F f72_s_l00Srcone.ok

def f80_s_l01DrawPlain : Nat → Nat → List T → Int → Int → Option (Nat × Nat × List T × Int × Int)
  | 0, _, _, _, _ => none
  | n + 1, n1, l2, i3, i4 =>
    bd (f73_s_l00Srcpick n n1 l2 i3 i4 (129 : Int)) fun r5 =>
    let i6 : Int := r5.1
    let n7 : Nat := r5.2.1
    let l8 : List T := r5.2.2.1
    let i9 : Int := r5.2.2.2.1
    let i10 : Int := r5.2.2.2.2
    let i11 : Int := (IntKind.i64.wrap (i6 - (64 : Int)))
    bd (f72_s_l00Srcone n n7 l8 i9 i10 (4 : Int)) fun r12 =>
    let b13 : Bool := r12.1
    let n14 : Nat := r12.2.1
    let l15 : List T := r12.2.2.1
    let i16 : Int := r12.2.2.2.1
    let i17 : Int := r12.2.2.2.2
    br b13 (
     some ((fdiv FloatKind.f32 (FloatKind.nearest FloatKind.f32 i11) 1088421888), n14, l15, i16, i17)) (
     some ((fdiv FloatKind.f32 (FloatKind.nearest FloatKind.f32 i11) 1098907648), n14, l15, i16, i17))
def sg_flii : Sig (Nat × Nat × List T × Int × Int) where
  pk := fun v => [.flt v.1, .lst v.2.1 v.2.2.1, .int v.2.2.2.1, .int v.2.2.2.2]
  up := fun ls => match ls with
    | [.flt a0, .lst a1 a2, .int a3, .int a4] => some (a0, a1, a2, a3, a4)
    | _ => none
  ok := by
    intro ls v h
    split at h
    · cases h; rfl
    · cases h

def f80_s_l01DrawPlain.P : List Arg := [⟨.iop, ⟨false, [.rf .own [.sl .shr [.leaf], .leaf, .leaf]], [.ref [.lst 0 [], .int .i64 0, .int .u64 0]]⟩⟩]
def f80_s_l01DrawPlain.A : RAlt (Nat × Nat × List T × Int × Int) := .one ⟨[⟨false, [.leaf], [.flt .f32 0]⟩], [some ⟨false, [.rf .own [.sl .shr [.leaf], .leaf, .leaf]], [.ref [.lst 0 [], .int .i64 0, .int .u64 0]]⟩]⟩ sg_flii
def f80_s_l01DrawPlain.F (n : Nat) (v : Nat × List T × Int × Int) := f80_s_l01DrawPlain n v.1 v.2.1 v.2.2.1 v.2.2.2
noncomputable def f80_s_l01DrawPlain.O (n : Nat) : Orc := orcOf (E := E) [f73_s_l00Srcpick.w, f72_s_l00Srcone.w] [] n
theorem f80_s_l01DrawPlain.ok : ∀ n v x, f80_s_l01DrawPlain.F n v = some x → evalFn E n 80 (flAs f80_s_l01DrawPlain.P (sg_lii.pk v)) = some (f80_s_l01DrawPlain.A.enc x) :=
  fn_pure (modes := (fdAt 80).ms) (outs := (fdAt 80).os) (results := (fdAt 80).rs) f80_s_l01DrawPlain.O (c := c80) (keep := keepAt 80) (by kernel_rfl) (fun n => orcOf_cf _ _ n) (fun n => lpOk_of (bs := []) (by kernel_rfl) .nil) (fun _ => rfl) (fun _ _ => by kernel_rfl)
noncomputable def f80_s_l01DrawPlain.w : FnW E := fnW 80 f80_s_l01DrawPlain.P sg_lii f80_s_l01DrawPlain.A f80_s_l01DrawPlain.F f80_s_l01DrawPlain.ok

def f24_s_R8Plain.l0 (n : Nat) : Nat → Int → Nat → List T → Int → Int → Nat → List T → Int → Option (Nat × List T)
  | 0, _, _, _, _, _, _, _, _ => none
  | m + 1, i1, n2, l3, i4, i5, n6, l7, i8 =>
    br (decide (i8 < i1)) (
     bd (f80_s_l01DrawPlain n n2 l3 i4 i5) fun r9 =>
     let x10 : Nat := r9.1
     let n11 : Nat := r9.2.1
     let l12 : List T := r9.2.2.1
     let i13 : Int := r9.2.2.2.1
     let i14 : Int := r9.2.2.2.2
     gd (Nat.ble (n6 + 1) 2147483648) (
     let n15 : Nat := (n6 + 1)
     let l16 : List T := (l7 ++ (setN (reps 1 [(T.flt FloatKind.f32 0)]) 0 [(T.flt FloatKind.f32 x10)]))
     f24_s_R8Plain.l0 n m i1 n11 l12 i13 i14 n15 l16 (IntKind.i64.wrap (i8 + (1 : Int))))) (
     some (n6, l7))
def f24_s_R8Plain : Nat → Nat → List T → Int → Option (Nat × List T)
  | 0, _, _, _ => none
  | n + 1, n1, l2, i3 =>
    bd (f71_s_l00From n n1 l2) fun r4 =>
    let n5 : Nat := r4.1
    let l6 : List T := r4.2.1
    let i7 : Int := r4.2.2.1
    let i8 : Int := r4.2.2.2
    bd (f24_s_R8Plain.l0 n n i3 n5 l6 i7 i8 0 (reps 0 [(T.flt FloatKind.f32 0)]) (0 : Int)) fun r9 =>
    let n10 : Nat := r9.1
    let l11 : List T := r9.2
    some (n10, l11)
def sg_li : Sig (Nat × List T × Int) where
  pk := fun v => [.lst v.1 v.2.1, .int v.2.2]
  up := fun ls => match ls with
    | [.lst a0 a1, .int a2] => some (a0, a1, a2)
    | _ => none
  ok := by
    intro ls v h
    split at h
    · cases h; rfl
    · cases h

def sg_iliili : Sig (Int × Nat × List T × Int × Int × Nat × List T × Int) where
  pk := fun v => [.int v.1, .lst v.2.1 v.2.2.1, .int v.2.2.2.1, .int v.2.2.2.2.1, .lst v.2.2.2.2.2.1 v.2.2.2.2.2.2.1, .int v.2.2.2.2.2.2.2]
  up := fun ls => match ls with
    | [.int a0, .lst a1 a2, .int a3, .int a4, .lst a5 a6, .int a7] => some (a0, a1, a2, a3, a4, a5, a6, a7)
    | _ => none
  ok := by
    intro ls v h
    split at h
    · cases h; rfl
    · cases h

def f24_s_R8Plain.l0.P : AS := ⟨[(1, .val false [.leaf] [.int .i64 0] [] 0), (5, .box [.sl .shr [.leaf], .leaf, .leaf] [.lst 0 [], .int .i64 0, .int .u64 0] [] 0), (6, .val false [.sl .own [.leaf]] [.lst 0 []] [] 0), (7, .val false [.leaf] [.int .i64 0] [] 0)], 0⟩
def f24_s_R8Plain.l0.A : Alt (Nat × List T) := .one (.exit 0) ⟨[(6, .val false [.sl .own [.leaf]] [.lst 0 []] [] 0)], 0⟩ sg_l
def f24_s_R8Plain.l0.F (n m : Nat) (v : Int × Nat × List T × Int × Int × Nat × List T × Int) := f24_s_R8Plain.l0 n m v.1 v.2.1 v.2.2.1 v.2.2.2.1 v.2.2.2.2.1 v.2.2.2.2.2.1 v.2.2.2.2.2.2.1 v.2.2.2.2.2.2.2
def f24_s_R8Plain.l0.W (n : Nat) : LpW := .of 64 f24_s_R8Plain.l0.P sg_iliili f24_s_R8Plain.l0.A (f24_s_R8Plain.l0.F n n)
def f24_s_R8Plain.P : List Arg := [⟨.val, ⟨false, [.sl .shr [.leaf]], [.lst 0 []]⟩⟩, ⟨.val, ⟨false, [.leaf], [.int .i64 0]⟩⟩]
def f24_s_R8Plain.A : RAlt (Nat × List T) := .one ⟨[⟨false, [.sl .own [.leaf]], [.lst 0 []]⟩], [none, none]⟩ sg_l
def f24_s_R8Plain.F (n : Nat) (v : Nat × List T × Int) := f24_s_R8Plain n v.1 v.2.1 v.2.2
noncomputable def f24_s_R8Plain.O (n : Nat) : Orc := orcOf (E := E) [f71_s_l00From.w, f80_s_l01DrawPlain.w] [f24_s_R8Plain.l0.W n] n
theorem f24_s_R8Plain.l0.ok (n : Nat) : LpOk (f24_s_R8Plain.O n) E (evalFn E n) n (keepAt 24) (.loop (loopAt c24 0)) :=
  lp_pure f24_s_R8Plain.l0.P sg_iliili f24_s_R8Plain.l0.A (f24_s_R8Plain.l0.F n) (orcOf_cf _ _ n) (lpOk_of (bs := []) (by kernel_rfl) .nil) (fun _ => rfl) (fun _ _ => by kernel_rfl) (fun _ _ _ => by kernel_rfl)
theorem f24_s_R8Plain.ok : ∀ n v x, f24_s_R8Plain.F n v = some x → evalFn E n 24 (flAs f24_s_R8Plain.P (sg_li.pk v)) = some (f24_s_R8Plain.A.enc x) :=
  fn_pure (modes := (fdAt 24).ms) (outs := (fdAt 24).os) (results := (fdAt 24).rs) f24_s_R8Plain.O (c := c24) (keep := keepAt 24) (by kernel_rfl) (fun n => orcOf_cf _ _ n) (fun n => lpOk_of (bs := [loopAt c24 0]) (by kernel_rfl) (.cons (f24_s_R8Plain.l0.ok n) .nil)) (fun _ => rfl) (fun _ _ => by kernel_rfl)
noncomputable def f24_s_R8Plain.w : FnW E := fnW 24 f24_s_R8Plain.P sg_li f24_s_R8Plain.A f24_s_R8Plain.F f24_s_R8Plain.ok

def f82_i_areSamples : Nat → Nat → List T → Option (Bool)
  | 0, _, _ => none
  | n + 1, n1, l2 =>
    some (decide (((n1 : Nat) : Int) ≤ (256 : Int)))
def f82_i_areSamples.P : List Arg := [⟨.val, ⟨false, [.sl .shr [.leaf]], [.lst 0 []]⟩⟩]
def f82_i_areSamples.A : RAlt (Bool) := .one ⟨[⟨false, [.leaf], [.bool false]⟩], [none]⟩ sg_b
def f82_i_areSamples.F (n : Nat) (v : Nat × List T) := f82_i_areSamples n v.1 v.2
noncomputable def f82_i_areSamples.O (n : Nat) : Orc := orcOf (E := E) [] [] n
theorem f82_i_areSamples.ok : ∀ n v x, f82_i_areSamples.F n v = some x → evalFn E n 82 (flAs f82_i_areSamples.P (sg_l.pk v)) = some (f82_i_areSamples.A.enc x) :=
  fn_pure (modes := (fdAt 82).ms) (outs := (fdAt 82).os) (results := (fdAt 82).rs) f82_i_areSamples.O (c := c82) (keep := keepAt 82) (by kernel_rfl) (fun n => orcOf_cf _ _ n) (fun n => lpOk_of (bs := []) (by kernel_rfl) .nil) (fun _ => rfl) (fun _ _ => by kernel_rfl)
noncomputable def f82_i_areSamples.w : FnW E := fnW 82 f82_i_areSamples.P sg_l f82_i_areSamples.A f82_i_areSamples.F f82_i_areSamples.ok

def f92_i_absolute : Nat → Nat → Option (Nat)
  | 0, _ => none
  | n + 1, x1 =>
    bd ((fltToFlt FloatKind.f32 x1 FloatKind.f64)) fun y2 =>
    bd (xAbs n y2) fun r3 =>
    let x4 : Nat := r3
    bd ((fltToFlt FloatKind.f64 x4 FloatKind.f32)) fun y5 =>
    some y5
def sg_f : Sig (Nat) where
  pk := fun v => [.flt v]
  up := fun ls => match ls with
    | [.flt a0] => some a0
    | _ => none
  ok := by
    intro ls v h
    split at h
    · cases h; rfl
    · cases h

def f92_i_absolute.P : List Arg := [⟨.val, ⟨false, [.leaf], [.flt .f32 0]⟩⟩]
def f92_i_absolute.A : RAlt (Nat) := .one ⟨[⟨false, [.leaf], [.flt .f32 0]⟩], [none]⟩ sg_f
def f92_i_absolute.F (n : Nat) (v : Nat) := f92_i_absolute n v
noncomputable def f92_i_absolute.O (n : Nat) : Orc := orcOf (E := E) [x115.w] [] n
theorem f92_i_absolute.ok : ∀ n v x, f92_i_absolute.F n v = some x → evalFn E n 92 (flAs f92_i_absolute.P (sg_f.pk v)) = some (f92_i_absolute.A.enc x) :=
  fn_pure (modes := (fdAt 92).ms) (outs := (fdAt 92).os) (results := (fdAt 92).rs) f92_i_absolute.O (c := c92) (keep := keepAt 92) (by kernel_rfl) (fun n => orcOf_cf _ _ n) (fun n => lpOk_of (bs := []) (by kernel_rfl) .nil) (fun _ => rfl) (fun _ _ => by kernel_rfl)
noncomputable def f92_i_absolute.w : FnW E := fnW 92 f92_i_absolute.P sg_f f92_i_absolute.A f92_i_absolute.F f92_i_absolute.ok

def f65_i_IsSubnormal : Nat → Nat → Option (Bool)
  | 0, _ => none
  | n + 1, x1 =>
    br (fne FloatKind.f32 x1 0) (
     br (flt FloatKind.f32 x1 8388608) (
      some (fgt FloatKind.f32 x1 2155872256)) (
      some false)) (
     some false)
def f65_i_IsSubnormal.P : List Arg := [⟨.val, ⟨false, [.leaf], [.flt .f32 0]⟩⟩]
def f65_i_IsSubnormal.A : RAlt (Bool) := .one ⟨[⟨false, [.leaf], [.bool false]⟩], [none]⟩ sg_b
def f65_i_IsSubnormal.F (n : Nat) (v : Nat) := f65_i_IsSubnormal n v
noncomputable def f65_i_IsSubnormal.O (n : Nat) : Orc := orcOf (E := E) [] [] n
theorem f65_i_IsSubnormal.ok : ∀ n v x, f65_i_IsSubnormal.F n v = some x → evalFn E n 65 (flAs f65_i_IsSubnormal.P (sg_f.pk v)) = some (f65_i_IsSubnormal.A.enc x) :=
  fn_pure (modes := (fdAt 65).ms) (outs := (fdAt 65).os) (results := (fdAt 65).rs) f65_i_IsSubnormal.O (c := c65) (keep := keepAt 65) (by kernel_rfl) (fun n => orcOf_cf _ _ n) (fun n => lpOk_of (bs := []) (by kernel_rfl) .nil) (fun _ => rfl) (fun _ _ => by kernel_rfl)
noncomputable def f65_i_IsSubnormal.w : FnW E := fnW 65 f65_i_IsSubnormal.P sg_f f65_i_IsSubnormal.A f65_i_IsSubnormal.F f65_i_IsSubnormal.ok

def f63_i_FlushNumber : Nat → Nat → Option (Nat)
  | 0, _ => none
  | n + 1, x1 =>
    bd (f65_i_IsSubnormal n x1) fun r2 =>
    let b3 : Bool := r2
    br (!b3) (
     some x1) (
     bd ((fltToFlt FloatKind.f32 x1 FloatKind.f64)) fun y4 =>
     bd (xCopysign n 0 y4) fun r5 =>
     let x6 : Nat := r5
     bd ((fltToFlt FloatKind.f64 x6 FloatKind.f32)) fun y7 =>
     some y7)
def f63_i_FlushNumber.P : List Arg := [⟨.val, ⟨false, [.leaf], [.flt .f32 0]⟩⟩]
def f63_i_FlushNumber.A : RAlt (Nat) := .one ⟨[⟨false, [.leaf], [.flt .f32 0]⟩], [none]⟩ sg_f
def f63_i_FlushNumber.F (n : Nat) (v : Nat) := f63_i_FlushNumber n v
noncomputable def f63_i_FlushNumber.O (n : Nat) : Orc := orcOf (E := E) [x106.w, f65_i_IsSubnormal.w] [] n
theorem f63_i_FlushNumber.ok : ∀ n v x, f63_i_FlushNumber.F n v = some x → evalFn E n 63 (flAs f63_i_FlushNumber.P (sg_f.pk v)) = some (f63_i_FlushNumber.A.enc x) :=
  fn_pure (modes := (fdAt 63).ms) (outs := (fdAt 63).os) (results := (fdAt 63).rs) f63_i_FlushNumber.O (c := c63) (keep := keepAt 63) (by kernel_rfl) (fun n => orcOf_cf _ _ n) (fun n => lpOk_of (bs := []) (by kernel_rfl) .nil) (fun _ => rfl) (fun _ _ => by kernel_rfl)
noncomputable def f63_i_FlushNumber.w : FnW E := fnW 63 f63_i_FlushNumber.P sg_f f63_i_FlushNumber.A f63_i_FlushNumber.F f63_i_FlushNumber.ok

def f96_i_Followerstep : Nat → Nat → Nat → Nat → Nat → Option (Nat × Nat × Nat)
  | 0, _, _, _, _ => none
  | n + 1, x1, x2, x3, x4 =>
    bd (f92_i_absolute n x4) fun r5 =>
    let x6 : Nat := r5
    br (fgt FloatKind.f32 x6 x3) (
     bd (f63_i_FlushNumber n (fadd FloatKind.f32 x3 (fmul FloatKind.f32 x1 (fsub FloatKind.f32 x6 x3)))) fun r7 =>
     let x8 : Nat := r7
     some (x1, x2, x8)) (
     bd (f63_i_FlushNumber n (fadd FloatKind.f32 x3 (fmul FloatKind.f32 x2 (fsub FloatKind.f32 x6 x3)))) fun r9 =>
     let x10 : Nat := r9
     some (x1, x2, x10))
def sg_ffff : Sig (Nat × Nat × Nat × Nat) where
  pk := fun v => [.flt v.1, .flt v.2.1, .flt v.2.2.1, .flt v.2.2.2]
  up := fun ls => match ls with
    | [.flt a0, .flt a1, .flt a2, .flt a3] => some (a0, a1, a2, a3)
    | _ => none
  ok := by
    intro ls v h
    split at h
    · cases h; rfl
    · cases h

def sg_fff : Sig (Nat × Nat × Nat) where
  pk := fun v => [.flt v.1, .flt v.2.1, .flt v.2.2]
  up := fun ls => match ls with
    | [.flt a0, .flt a1, .flt a2] => some (a0, a1, a2)
    | _ => none
  ok := by
    intro ls v h
    split at h
    · cases h; rfl
    · cases h

def f96_i_Followerstep.P : List Arg := [⟨.iop, ⟨false, [.rf .own [.leaf, .leaf, .leaf]], [.ref [.flt .f32 0, .flt .f32 0, .flt .f32 0]]⟩⟩, ⟨.val, ⟨false, [.leaf], [.flt .f32 0]⟩⟩]
def f96_i_Followerstep.A : RAlt (Nat × Nat × Nat) := .one ⟨[], [some ⟨false, [.rf .own [.leaf, .leaf, .leaf]], [.ref [.flt .f32 0, .flt .f32 0, .flt .f32 0]]⟩, none]⟩ sg_fff
def f96_i_Followerstep.F (n : Nat) (v : Nat × Nat × Nat × Nat) := f96_i_Followerstep n v.1 v.2.1 v.2.2.1 v.2.2.2
noncomputable def f96_i_Followerstep.O (n : Nat) : Orc := orcOf (E := E) [f92_i_absolute.w, f63_i_FlushNumber.w] [] n
theorem f96_i_Followerstep.ok : ∀ n v x, f96_i_Followerstep.F n v = some x → evalFn E n 96 (flAs f96_i_Followerstep.P (sg_ffff.pk v)) = some (f96_i_Followerstep.A.enc x) :=
  fn_pure (modes := (fdAt 96).ms) (outs := (fdAt 96).os) (results := (fdAt 96).rs) f96_i_Followerstep.O (c := c96) (keep := keepAt 96) (by kernel_rfl) (fun n => orcOf_cf _ _ n) (fun n => lpOk_of (bs := []) (by kernel_rfl) .nil) (fun _ => rfl) (fun _ _ => by kernel_rfl)
noncomputable def f96_i_Followerstep.w : FnW E := fnW 96 f96_i_Followerstep.P sg_ffff f96_i_Followerstep.A f96_i_Followerstep.F f96_i_Followerstep.ok

def f47_i_GainFor : Nat → Nat → Nat → Nat → Option (Nat)
  | 0, _, _, _ => none
  | n + 1, x1, x2, x3 =>
    br (!(fgt FloatKind.f32 x1 x2)) (
     some 1065353216) (
     some (fdiv FloatKind.f32 (fadd FloatKind.f32 x2 (fdiv FloatKind.f32 (fsub FloatKind.f32 x1 x2) x3)) x1))
def f47_i_GainFor.P : List Arg := [⟨.val, ⟨false, [.leaf], [.flt .f32 0]⟩⟩, ⟨.val, ⟨false, [.leaf], [.flt .f32 0]⟩⟩, ⟨.val, ⟨false, [.leaf], [.flt .f32 0]⟩⟩]
def f47_i_GainFor.A : RAlt (Nat) := .one ⟨[⟨false, [.leaf], [.flt .f32 0]⟩], [none, none, none]⟩ sg_f
def f47_i_GainFor.F (n : Nat) (v : Nat × Nat × Nat) := f47_i_GainFor n v.1 v.2.1 v.2.2
noncomputable def f47_i_GainFor.O (n : Nat) : Orc := orcOf (E := E) [] [] n
theorem f47_i_GainFor.ok : ∀ n v x, f47_i_GainFor.F n v = some x → evalFn E n 47 (flAs f47_i_GainFor.P (sg_fff.pk v)) = some (f47_i_GainFor.A.enc x) :=
  fn_pure (modes := (fdAt 47).ms) (outs := (fdAt 47).os) (results := (fdAt 47).rs) f47_i_GainFor.O (c := c47) (keep := keepAt 47) (by kernel_rfl) (fun n => orcOf_cf _ _ n) (fun n => lpOk_of (bs := []) (by kernel_rfl) .nil) (fun _ => rfl) (fun _ _ => by kernel_rfl)
noncomputable def f47_i_GainFor.w : FnW E := fnW 47 f47_i_GainFor.P sg_fff f47_i_GainFor.A f47_i_GainFor.F f47_i_GainFor.ok

def f45_i_DuckSamples.l0 (n : Nat) : Nat → Nat → List T → Nat → List T → Nat → Nat → Nat → Nat → Nat → Nat → Nat → Nat → Nat → Nat → Nat → List T → Nat → List T → Int → Int → Option (Nat × Nat × Nat × Nat × Nat × Nat × Nat × Nat × Nat × Nat × Nat × List T)
  | 0, _, _, _, _, _, _, _, _, _, _, _, _, _, _, _, _, _, _, _, _ => none
  | m + 1, n1, l2, n3, l4, x5, x6, x7, x8, x9, x10, x11, x12, x13, x14, n15, l16, n17, l18, i19, i20 =>
    br (decide (i20 < i19)) (
     gd ((decide (((0 : Int) ≤ i20) ∧ (i20 < ((n17 : Nat) : Int)))) && (okAt [(CK.flt FloatKind.f32)] l18 (Int.toNat i20))) (
     let x21 : Nat := (fAt l18 (Int.toNat i20))
     gd ((decide (((0 : Int) ≤ i20) ∧ (i20 < ((n3 : Nat) : Int)))) && (okAt [(CK.flt FloatKind.f32)] l4 (Int.toNat i20))) (
     bd (f96_i_Followerstep n x5 x6 x7 (fAt l4 (Int.toNat i20))) fun r22 =>
     let x23 : Nat := r22.1
     let x24 : Nat := r22.2.1
     let x25 : Nat := r22.2.2
     bd (f47_i_GainFor n x25 x8 x9) fun r26 =>
     let x27 : Nat := r26
     gd (Nat.ble (n15 + 1) 2147483648) (
     let n28 : Nat := (n15 + 1)
     let l29 : List T := (l16 ++ (setN (reps 1 [(T.flt FloatKind.f32 0)]) 0 [(T.flt FloatKind.f32 (fmul FloatKind.f32 x21 x27))]))
     f45_i_DuckSamples.l0 n m n1 l2 n3 l4 x23 x24 x25 x8 x9 x10 x11 x12 x13 x14 n28 l29 n17 l18 i19 (IntKind.i64.wrap (i20 + (1 : Int))))))) (
     some (x5, x6, x7, x8, x9, x10, x11, x12, x13, x14, n15, l16))
termination_by structural x => x
def f45_i_DuckSamples : Nat → Nat → Nat → Nat → Nat → Nat → Nat → List T → Nat → List T → Option (Nat × List T × Nat × Nat × Nat × Nat × Nat × Bool)
  | 0, _, _, _, _, _, _, _, _, _ => none
  | n + 1, x1, x2, x3, x4, x5, n6, l7, n8, l9 =>
    bd (f82_i_areSamples n n6 l7) fun r10 =>
    let b11 : Bool := r10
    br (!b11) (
     some (0, [], 0, 0, 0, 0, 0, false)) (
     br (((n8 : Nat) : Int) != ((n6 : Nat) : Int)) (
      some (0, [], 0, 0, 0, 0, 0, false)) (
      bd (f45_i_DuckSamples.l0 n n n6 l7 n8 l9 x1 x2 x3 x4 x5 0 0 0 0 0 0 [] n6 l7 ((n6 : Nat) : Int) (0 : Int)) fun r12 =>
      let x13 : Nat := r12.1
      let x14 : Nat := r12.2.1
      let x15 : Nat := r12.2.2.1
      let x16 : Nat := r12.2.2.2.1
      let x17 : Nat := r12.2.2.2.2.1
      let x18 : Nat := r12.2.2.2.2.2.1
      let x19 : Nat := r12.2.2.2.2.2.2.1
      let x20 : Nat := r12.2.2.2.2.2.2.2.1
      let x21 : Nat := r12.2.2.2.2.2.2.2.2.1
      let x22 : Nat := r12.2.2.2.2.2.2.2.2.2.1
      let n23 : Nat := r12.2.2.2.2.2.2.2.2.2.2.1
      let l24 : List T := r12.2.2.2.2.2.2.2.2.2.2.2
      some (n23, l24, x13, x14, x15, x16, x17, true)))
def sg_fffffll : Sig (Nat × Nat × Nat × Nat × Nat × Nat × List T × Nat × List T) where
  pk := fun v => [.flt v.1, .flt v.2.1, .flt v.2.2.1, .flt v.2.2.2.1, .flt v.2.2.2.2.1, .lst v.2.2.2.2.2.1 v.2.2.2.2.2.2.1, .lst v.2.2.2.2.2.2.2.1 v.2.2.2.2.2.2.2.2]
  up := fun ls => match ls with
    | [.flt a0, .flt a1, .flt a2, .flt a3, .flt a4, .lst a5 a6, .lst a7 a8] => some (a0, a1, a2, a3, a4, a5, a6, a7, a8)
    | _ => none
  ok := by
    intro ls v h
    split at h
    · cases h; rfl
    · cases h

def sg_lfffffb : Sig (Nat × List T × Nat × Nat × Nat × Nat × Nat × Bool) where
  pk := fun v => [.lst v.1 v.2.1, .flt v.2.2.1, .flt v.2.2.2.1, .flt v.2.2.2.2.1, .flt v.2.2.2.2.2.1, .flt v.2.2.2.2.2.2.1, .bool v.2.2.2.2.2.2.2]
  up := fun ls => match ls with
    | [.lst a0 a1, .flt a2, .flt a3, .flt a4, .flt a5, .flt a6, .bool a7] => some (a0, a1, a2, a3, a4, a5, a6, a7)
    | _ => none
  ok := by
    intro ls v h
    split at h
    · cases h; rfl
    · cases h

def sg_llffffffffffllii : Sig (Nat × List T × Nat × List T × Nat × Nat × Nat × Nat × Nat × Nat × Nat × Nat × Nat × Nat × Nat × List T × Nat × List T × Int × Int) where
  pk := fun v => [.lst v.1 v.2.1, .lst v.2.2.1 v.2.2.2.1, .flt v.2.2.2.2.1, .flt v.2.2.2.2.2.1, .flt v.2.2.2.2.2.2.1, .flt v.2.2.2.2.2.2.2.1, .flt v.2.2.2.2.2.2.2.2.1, .flt v.2.2.2.2.2.2.2.2.2.1, .flt v.2.2.2.2.2.2.2.2.2.2.1, .flt v.2.2.2.2.2.2.2.2.2.2.2.1, .flt v.2.2.2.2.2.2.2.2.2.2.2.2.1, .flt v.2.2.2.2.2.2.2.2.2.2.2.2.2.1, .lst v.2.2.2.2.2.2.2.2.2.2.2.2.2.2.1 v.2.2.2.2.2.2.2.2.2.2.2.2.2.2.2.1, .lst v.2.2.2.2.2.2.2.2.2.2.2.2.2.2.2.2.1 v.2.2.2.2.2.2.2.2.2.2.2.2.2.2.2.2.2.1, .int v.2.2.2.2.2.2.2.2.2.2.2.2.2.2.2.2.2.2.1, .int v.2.2.2.2.2.2.2.2.2.2.2.2.2.2.2.2.2.2.2]
  up := fun ls => match ls with
    | [.lst a0 a1, .lst a2 a3, .flt a4, .flt a5, .flt a6, .flt a7, .flt a8, .flt a9, .flt a10, .flt a11, .flt a12, .flt a13, .lst a14 a15, .lst a16 a17, .int a18, .int a19] => some (a0, a1, a2, a3, a4, a5, a6, a7, a8, a9, a10, a11, a12, a13, a14, a15, a16, a17, a18, a19)
    | _ => none
  ok := by
    intro ls v h
    split at h
    · cases h; rfl
    · cases h

def sg_ffffffffffl : Sig (Nat × Nat × Nat × Nat × Nat × Nat × Nat × Nat × Nat × Nat × Nat × List T) where
  pk := fun v => [.flt v.1, .flt v.2.1, .flt v.2.2.1, .flt v.2.2.2.1, .flt v.2.2.2.2.1, .flt v.2.2.2.2.2.1, .flt v.2.2.2.2.2.2.1, .flt v.2.2.2.2.2.2.2.1, .flt v.2.2.2.2.2.2.2.2.1, .flt v.2.2.2.2.2.2.2.2.2.1, .lst v.2.2.2.2.2.2.2.2.2.2.1 v.2.2.2.2.2.2.2.2.2.2.2]
  up := fun ls => match ls with
    | [.flt a0, .flt a1, .flt a2, .flt a3, .flt a4, .flt a5, .flt a6, .flt a7, .flt a8, .flt a9, .lst a10 a11] => some (a0, a1, a2, a3, a4, a5, a6, a7, a8, a9, a10, a11)
    | _ => none
  ok := by
    intro ls v h
    split at h
    · cases h; rfl
    · cases h

def f45_i_DuckSamples.l0.P : AS := ⟨[(1, .val false [.sl .shr [.leaf]] [.lst 0 []] [] 0), (2, .val false [.sl .shr [.leaf]] [.lst 0 []] [] 0), (3, .box [.leaf, .leaf, .leaf, .leaf, .leaf] [.flt .f32 0, .flt .f32 0, .flt .f32 0, .flt .f32 0, .flt .f32 0] [] 0), (7, .box [.leaf, .leaf, .leaf, .leaf, .leaf] [.flt .f32 0, .flt .f32 0, .flt .f32 0, .flt .f32 0, .flt .f32 0] [] 0), (9, .val false [.sl .own [.leaf]] [.lst 0 []] [] 0), (23, .val false [.sl .shr [.leaf]] [.lst 0 []] [] 0), (24, .val false [.leaf] [.int .i64 0] [] 0), (25, .val false [.leaf] [.int .i64 0] [] 0)], 0⟩
def f45_i_DuckSamples.l0.A : Alt (Nat × Nat × Nat × Nat × Nat × Nat × Nat × Nat × Nat × Nat × Nat × List T) := .one (.exit 0) ⟨[(3, .box [.leaf, .leaf, .leaf, .leaf, .leaf] [.flt .f32 0, .flt .f32 0, .flt .f32 0, .flt .f32 0, .flt .f32 0] [] 0), (7, .box [.leaf, .leaf, .leaf, .leaf, .leaf] [.flt .f32 0, .flt .f32 0, .flt .f32 0, .flt .f32 0, .flt .f32 0] [] 0), (9, .val false [.sl .own [.leaf]] [.lst 0 []] [] 0)], 0⟩ sg_ffffffffffl
def f45_i_DuckSamples.l0.F (n m : Nat) (v : Nat × List T × Nat × List T × Nat × Nat × Nat × Nat × Nat × Nat × Nat × Nat × Nat × Nat × Nat × List T × Nat × List T × Int × Int) := f45_i_DuckSamples.l0 n m v.1 v.2.1 v.2.2.1 v.2.2.2.1 v.2.2.2.2.1 v.2.2.2.2.2.1 v.2.2.2.2.2.2.1 v.2.2.2.2.2.2.2.1 v.2.2.2.2.2.2.2.2.1 v.2.2.2.2.2.2.2.2.2.1 v.2.2.2.2.2.2.2.2.2.2.1 v.2.2.2.2.2.2.2.2.2.2.2.1 v.2.2.2.2.2.2.2.2.2.2.2.2.1 v.2.2.2.2.2.2.2.2.2.2.2.2.2.1 v.2.2.2.2.2.2.2.2.2.2.2.2.2.2.1 v.2.2.2.2.2.2.2.2.2.2.2.2.2.2.2.1 v.2.2.2.2.2.2.2.2.2.2.2.2.2.2.2.2.1 v.2.2.2.2.2.2.2.2.2.2.2.2.2.2.2.2.2.1 v.2.2.2.2.2.2.2.2.2.2.2.2.2.2.2.2.2.2.1 v.2.2.2.2.2.2.2.2.2.2.2.2.2.2.2.2.2.2.2
def f45_i_DuckSamples.l0.W (n : Nat) : LpW := .of 80 f45_i_DuckSamples.l0.P sg_llffffffffffllii f45_i_DuckSamples.l0.A (f45_i_DuckSamples.l0.F n n)
def f45_i_DuckSamples.P : List Arg := [⟨.val, ⟨true, [.leaf, .leaf, .leaf, .leaf, .leaf], [.flt .f32 0, .flt .f32 0, .flt .f32 0, .flt .f32 0, .flt .f32 0]⟩⟩, ⟨.val, ⟨false, [.sl .shr [.leaf]], [.lst 0 []]⟩⟩, ⟨.val, ⟨false, [.sl .shr [.leaf]], [.lst 0 []]⟩⟩]
def f45_i_DuckSamples.A : RAlt (Nat × List T × Nat × Nat × Nat × Nat × Nat × Bool) := .one ⟨[⟨false, [.sl .own [.leaf]], [.lst 0 []]⟩, ⟨true, [.leaf, .leaf, .leaf, .leaf, .leaf], [.flt .f32 0, .flt .f32 0, .flt .f32 0, .flt .f32 0, .flt .f32 0]⟩, ⟨false, [.leaf], [.bool false]⟩], [none, none, none]⟩ sg_lfffffb
def f45_i_DuckSamples.F (n : Nat) (v : Nat × Nat × Nat × Nat × Nat × Nat × List T × Nat × List T) := f45_i_DuckSamples n v.1 v.2.1 v.2.2.1 v.2.2.2.1 v.2.2.2.2.1 v.2.2.2.2.2.1 v.2.2.2.2.2.2.1 v.2.2.2.2.2.2.2.1 v.2.2.2.2.2.2.2.2
noncomputable def f45_i_DuckSamples.O (n : Nat) : Orc := orcOf (E := E) [f82_i_areSamples.w, f96_i_Followerstep.w, f47_i_GainFor.w] [f45_i_DuckSamples.l0.W n] n
theorem f45_i_DuckSamples.l0.ok (n : Nat) : LpOk (f45_i_DuckSamples.O n) E (evalFn E n) n (keepAt 45) (.loop (loopAt c45 0)) :=
  lp_pure f45_i_DuckSamples.l0.P sg_llffffffffffllii f45_i_DuckSamples.l0.A (f45_i_DuckSamples.l0.F n) (orcOf_cf _ _ n) (lpOk_of (bs := []) (by kernel_rfl) .nil) (fun _ => rfl) (fun _ _ => by kernel_rfl) (fun _ _ _ => by kernel_rfl)
theorem f45_i_DuckSamples.ok : ∀ n v x, f45_i_DuckSamples.F n v = some x → evalFn E n 45 (flAs f45_i_DuckSamples.P (sg_fffffll.pk v)) = some (f45_i_DuckSamples.A.enc x) :=
  fn_pure (modes := (fdAt 45).ms) (outs := (fdAt 45).os) (results := (fdAt 45).rs) f45_i_DuckSamples.O (c := c45) (keep := keepAt 45) (by kernel_rfl) (fun n => orcOf_cf _ _ n) (fun n => lpOk_of (bs := [loopAt c45 0]) (by kernel_rfl) (.cons (f45_i_DuckSamples.l0.ok n) .nil)) (fun _ => rfl) (fun _ _ => by kernel_rfl)
noncomputable def f45_i_DuckSamples.w : FnW E := fnW 45 f45_i_DuckSamples.P sg_fffffll f45_i_DuckSamples.A f45_i_DuckSamples.F f45_i_DuckSamples.ok

def f44_i_RunSqueeze : Nat → Nat → Nat → Nat → Nat → Nat → Nat → List T → Option (Nat × List T × Nat × Nat × Nat × Nat × Nat × Bool)
  | 0, _, _, _, _, _, _, _ => none
  | n + 1, x1, x2, x3, x4, x5, n6, l7 =>
    bd (f45_i_DuckSamples n x1 x2 x3 x4 x5 n6 l7 n6 l7) fun r8 =>
    let n9 : Nat := r8.1
    let l10 : List T := r8.2.1
    let x11 : Nat := r8.2.2.1
    let x12 : Nat := r8.2.2.2.1
    let x13 : Nat := r8.2.2.2.2.1
    let x14 : Nat := r8.2.2.2.2.2.1
    let x15 : Nat := r8.2.2.2.2.2.2.1
    let b16 : Bool := r8.2.2.2.2.2.2.2
    some (n9, l10, x11, x12, x13, x14, x15, b16)
def sg_fffffl : Sig (Nat × Nat × Nat × Nat × Nat × Nat × List T) where
  pk := fun v => [.flt v.1, .flt v.2.1, .flt v.2.2.1, .flt v.2.2.2.1, .flt v.2.2.2.2.1, .lst v.2.2.2.2.2.1 v.2.2.2.2.2.2]
  up := fun ls => match ls with
    | [.flt a0, .flt a1, .flt a2, .flt a3, .flt a4, .lst a5 a6] => some (a0, a1, a2, a3, a4, a5, a6)
    | _ => none
  ok := by
    intro ls v h
    split at h
    · cases h; rfl
    · cases h

def f44_i_RunSqueeze.P : List Arg := [⟨.val, ⟨true, [.leaf, .leaf, .leaf, .leaf, .leaf], [.flt .f32 0, .flt .f32 0, .flt .f32 0, .flt .f32 0, .flt .f32 0]⟩⟩, ⟨.val, ⟨false, [.sl .shr [.leaf]], [.lst 0 []]⟩⟩]
def f44_i_RunSqueeze.A : RAlt (Nat × List T × Nat × Nat × Nat × Nat × Nat × Bool) := .one ⟨[⟨false, [.sl .own [.leaf]], [.lst 0 []]⟩, ⟨true, [.leaf, .leaf, .leaf, .leaf, .leaf], [.flt .f32 0, .flt .f32 0, .flt .f32 0, .flt .f32 0, .flt .f32 0]⟩, ⟨false, [.leaf], [.bool false]⟩], [none, none]⟩ sg_lfffffb
def f44_i_RunSqueeze.F (n : Nat) (v : Nat × Nat × Nat × Nat × Nat × Nat × List T) := f44_i_RunSqueeze n v.1 v.2.1 v.2.2.1 v.2.2.2.1 v.2.2.2.2.1 v.2.2.2.2.2.1 v.2.2.2.2.2.2
noncomputable def f44_i_RunSqueeze.O (n : Nat) : Orc := orcOf (E := E) [f45_i_DuckSamples.w] [] n
theorem f44_i_RunSqueeze.ok : ∀ n v x, f44_i_RunSqueeze.F n v = some x → evalFn E n 44 (flAs f44_i_RunSqueeze.P (sg_fffffl.pk v)) = some (f44_i_RunSqueeze.A.enc x) :=
  fn_pure (modes := (fdAt 44).ms) (outs := (fdAt 44).os) (results := (fdAt 44).rs) f44_i_RunSqueeze.O (c := c44) (keep := keepAt 44) (by kernel_rfl) (fun n => orcOf_cf _ _ n) (fun n => lpOk_of (bs := []) (by kernel_rfl) .nil) (fun _ => rfl) (fun _ _ => by kernel_rfl)
noncomputable def f44_i_RunSqueeze.w : FnW E := fnW 44 f44_i_RunSqueeze.P sg_fffffl f44_i_RunSqueeze.A f44_i_RunSqueeze.F f44_i_RunSqueeze.ok

def f46_i_FollowLevel.l0 (n : Nat) : Nat → Nat → List T → Nat → Nat → Nat → Nat → Nat → Nat → Nat → List T → Nat → List T → Int → Int → Option (Nat × Nat × Nat × Nat × Nat × Nat × Nat × List T)
  | 0, _, _, _, _, _, _, _, _, _, _, _, _, _, _ => none
  | m + 1, n1, l2, x3, x4, x5, x6, x7, x8, n9, l10, n11, l12, i13, i14 =>
    br (decide (i14 < i13)) (
     gd ((decide (((0 : Int) ≤ i14) ∧ (i14 < ((n11 : Nat) : Int)))) && (okAt [(CK.flt FloatKind.f32)] l12 (Int.toNat i14))) (
     let x15 : Nat := (fAt l12 (Int.toNat i14))
     bd (f96_i_Followerstep n x3 x4 x5 x15) fun r16 =>
     let x17 : Nat := r16.1
     let x18 : Nat := r16.2.1
     let x19 : Nat := r16.2.2
     gd (Nat.ble (n9 + 1) 2147483648) (
     let n20 : Nat := (n9 + 1)
     let l21 : List T := (l10 ++ (setN (reps 1 [(T.flt FloatKind.f32 0)]) 0 [(T.flt FloatKind.f32 x19)]))
     f46_i_FollowLevel.l0 n m n1 l2 x17 x18 x19 x6 x7 x8 n20 l21 n11 l12 i13 (IntKind.i64.wrap (i14 + (1 : Int)))))) (
     some (x3, x4, x5, x6, x7, x8, n9, l10))
termination_by structural x => x
def f46_i_FollowLevel : Nat → Nat → Nat → Nat → Nat → List T → Option (Nat × List T × Nat × Nat × Nat × Bool)
  | 0, _, _, _, _, _ => none
  | n + 1, x1, x2, x3, n4, l5 =>
    bd (f82_i_areSamples n n4 l5) fun r6 =>
    let b7 : Bool := r6
    br (!b7) (
     some (0, [], 0, 0, 0, false)) (
     bd (f46_i_FollowLevel.l0 n n n4 l5 x1 x2 x3 0 0 0 0 [] n4 l5 ((n4 : Nat) : Int) (0 : Int)) fun r8 =>
     let x9 : Nat := r8.1
     let x10 : Nat := r8.2.1
     let x11 : Nat := r8.2.2.1
     let x12 : Nat := r8.2.2.2.1
     let x13 : Nat := r8.2.2.2.2.1
     let x14 : Nat := r8.2.2.2.2.2.1
     let n15 : Nat := r8.2.2.2.2.2.2.1
     let l16 : List T := r8.2.2.2.2.2.2.2
     some (n15, l16, x9, x10, x11, true))
def sg_fffl : Sig (Nat × Nat × Nat × Nat × List T) where
  pk := fun v => [.flt v.1, .flt v.2.1, .flt v.2.2.1, .lst v.2.2.2.1 v.2.2.2.2]
  up := fun ls => match ls with
    | [.flt a0, .flt a1, .flt a2, .lst a3 a4] => some (a0, a1, a2, a3, a4)
    | _ => none
  ok := by
    intro ls v h
    split at h
    · cases h; rfl
    · cases h

def sg_lfffb : Sig (Nat × List T × Nat × Nat × Nat × Bool) where
  pk := fun v => [.lst v.1 v.2.1, .flt v.2.2.1, .flt v.2.2.2.1, .flt v.2.2.2.2.1, .bool v.2.2.2.2.2]
  up := fun ls => match ls with
    | [.lst a0 a1, .flt a2, .flt a3, .flt a4, .bool a5] => some (a0, a1, a2, a3, a4, a5)
    | _ => none
  ok := by
    intro ls v h
    split at h
    · cases h; rfl
    · cases h

def sg_lffffffllii : Sig (Nat × List T × Nat × Nat × Nat × Nat × Nat × Nat × Nat × List T × Nat × List T × Int × Int) where
  pk := fun v => [.lst v.1 v.2.1, .flt v.2.2.1, .flt v.2.2.2.1, .flt v.2.2.2.2.1, .flt v.2.2.2.2.2.1, .flt v.2.2.2.2.2.2.1, .flt v.2.2.2.2.2.2.2.1, .lst v.2.2.2.2.2.2.2.2.1 v.2.2.2.2.2.2.2.2.2.1, .lst v.2.2.2.2.2.2.2.2.2.2.1 v.2.2.2.2.2.2.2.2.2.2.2.1, .int v.2.2.2.2.2.2.2.2.2.2.2.2.1, .int v.2.2.2.2.2.2.2.2.2.2.2.2.2]
  up := fun ls => match ls with
    | [.lst a0 a1, .flt a2, .flt a3, .flt a4, .flt a5, .flt a6, .flt a7, .lst a8 a9, .lst a10 a11, .int a12, .int a13] => some (a0, a1, a2, a3, a4, a5, a6, a7, a8, a9, a10, a11, a12, a13)
    | _ => none
  ok := by
    intro ls v h
    split at h
    · cases h; rfl
    · cases h

def sg_ffffffl : Sig (Nat × Nat × Nat × Nat × Nat × Nat × Nat × List T) where
  pk := fun v => [.flt v.1, .flt v.2.1, .flt v.2.2.1, .flt v.2.2.2.1, .flt v.2.2.2.2.1, .flt v.2.2.2.2.2.1, .lst v.2.2.2.2.2.2.1 v.2.2.2.2.2.2.2]
  up := fun ls => match ls with
    | [.flt a0, .flt a1, .flt a2, .flt a3, .flt a4, .flt a5, .lst a6 a7] => some (a0, a1, a2, a3, a4, a5, a6, a7)
    | _ => none
  ok := by
    intro ls v h
    split at h
    · cases h; rfl
    · cases h

def f46_i_FollowLevel.l0.P : AS := ⟨[(1, .val false [.sl .shr [.leaf]] [.lst 0 []] [] 0), (2, .box [.leaf, .leaf, .leaf] [.flt .f32 0, .flt .f32 0, .flt .f32 0] [] 0), (5, .box [.leaf, .leaf, .leaf] [.flt .f32 0, .flt .f32 0, .flt .f32 0] [] 0), (7, .val false [.sl .own [.leaf]] [.lst 0 []] [] 0), (14, .val false [.sl .shr [.leaf]] [.lst 0 []] [] 0), (15, .val false [.leaf] [.int .i64 0] [] 0), (16, .val false [.leaf] [.int .i64 0] [] 0)], 0⟩
def f46_i_FollowLevel.l0.A : Alt (Nat × Nat × Nat × Nat × Nat × Nat × Nat × List T) := .one (.exit 0) ⟨[(2, .box [.leaf, .leaf, .leaf] [.flt .f32 0, .flt .f32 0, .flt .f32 0] [] 0), (5, .box [.leaf, .leaf, .leaf] [.flt .f32 0, .flt .f32 0, .flt .f32 0] [] 0), (7, .val false [.sl .own [.leaf]] [.lst 0 []] [] 0)], 0⟩ sg_ffffffl
def f46_i_FollowLevel.l0.F (n m : Nat) (v : Nat × List T × Nat × Nat × Nat × Nat × Nat × Nat × Nat × List T × Nat × List T × Int × Int) := f46_i_FollowLevel.l0 n m v.1 v.2.1 v.2.2.1 v.2.2.2.1 v.2.2.2.2.1 v.2.2.2.2.2.1 v.2.2.2.2.2.2.1 v.2.2.2.2.2.2.2.1 v.2.2.2.2.2.2.2.2.1 v.2.2.2.2.2.2.2.2.2.1 v.2.2.2.2.2.2.2.2.2.2.1 v.2.2.2.2.2.2.2.2.2.2.2.1 v.2.2.2.2.2.2.2.2.2.2.2.2.1 v.2.2.2.2.2.2.2.2.2.2.2.2.2
def f46_i_FollowLevel.l0.W (n : Nat) : LpW := .of 80 f46_i_FollowLevel.l0.P sg_lffffffllii f46_i_FollowLevel.l0.A (f46_i_FollowLevel.l0.F n n)
def f46_i_FollowLevel.P : List Arg := [⟨.val, ⟨true, [.leaf, .leaf, .leaf], [.flt .f32 0, .flt .f32 0, .flt .f32 0]⟩⟩, ⟨.val, ⟨false, [.sl .shr [.leaf]], [.lst 0 []]⟩⟩]
def f46_i_FollowLevel.A : RAlt (Nat × List T × Nat × Nat × Nat × Bool) := .one ⟨[⟨false, [.sl .own [.leaf]], [.lst 0 []]⟩, ⟨true, [.leaf, .leaf, .leaf], [.flt .f32 0, .flt .f32 0, .flt .f32 0]⟩, ⟨false, [.leaf], [.bool false]⟩], [none, none]⟩ sg_lfffb
def f46_i_FollowLevel.F (n : Nat) (v : Nat × Nat × Nat × Nat × List T) := f46_i_FollowLevel n v.1 v.2.1 v.2.2.1 v.2.2.2.1 v.2.2.2.2
noncomputable def f46_i_FollowLevel.O (n : Nat) : Orc := orcOf (E := E) [f82_i_areSamples.w, f96_i_Followerstep.w] [f46_i_FollowLevel.l0.W n] n
theorem f46_i_FollowLevel.l0.ok (n : Nat) : LpOk (f46_i_FollowLevel.O n) E (evalFn E n) n (keepAt 46) (.loop (loopAt c46 0)) :=
  lp_pure f46_i_FollowLevel.l0.P sg_lffffffllii f46_i_FollowLevel.l0.A (f46_i_FollowLevel.l0.F n) (orcOf_cf _ _ n) (lpOk_of (bs := []) (by kernel_rfl) .nil) (fun _ => rfl) (fun _ _ => by kernel_rfl) (fun _ _ _ => by kernel_rfl)
theorem f46_i_FollowLevel.ok : ∀ n v x, f46_i_FollowLevel.F n v = some x → evalFn E n 46 (flAs f46_i_FollowLevel.P (sg_fffl.pk v)) = some (f46_i_FollowLevel.A.enc x) :=
  fn_pure (modes := (fdAt 46).ms) (outs := (fdAt 46).os) (results := (fdAt 46).rs) f46_i_FollowLevel.O (c := c46) (keep := keepAt 46) (by kernel_rfl) (fun n => orcOf_cf _ _ n) (fun n => lpOk_of (bs := [loopAt c46 0]) (by kernel_rfl) (.cons (f46_i_FollowLevel.l0.ok n) .nil)) (fun _ => rfl) (fun _ _ => by kernel_rfl)
noncomputable def f46_i_FollowLevel.w : FnW E := fnW 46 f46_i_FollowLevel.P sg_fffl f46_i_FollowLevel.A f46_i_FollowLevel.F f46_i_FollowLevel.ok

def f32_i_SameNumber : Nat → Nat → Nat → Option (Bool)
  | 0, _, _ => none
  | n + 1, x1, x2 =>
    br (fne FloatKind.f32 x1 x1) (
     br (fne FloatKind.f32 x1 x1) (
      some (fne FloatKind.f32 x2 x2)) (
      some false)) (
     br (fne FloatKind.f32 x2 x2) (
      br (fne FloatKind.f32 x1 x1) (
       some (fne FloatKind.f32 x2 x2)) (
       some false)) (
      bd (xF32bits n x1) fun r3 =>
      let i4 : Int := r3
      bd (xF32bits n x2) fun r5 =>
      let i6 : Int := r5
      some (i4 == i6)))
def sg_ff : Sig (Nat × Nat) where
  pk := fun v => [.flt v.1, .flt v.2]
  up := fun ls => match ls with
    | [.flt a0, .flt a1] => some (a0, a1)
    | _ => none
  ok := by
    intro ls v h
    split at h
    · cases h; rfl
    · cases h

def f32_i_SameNumber.P : List Arg := [⟨.val, ⟨false, [.leaf], [.flt .f32 0]⟩⟩, ⟨.val, ⟨false, [.leaf], [.flt .f32 0]⟩⟩]
def f32_i_SameNumber.A : RAlt (Bool) := .one ⟨[⟨false, [.leaf], [.bool false]⟩], [none, none]⟩ sg_b
def f32_i_SameNumber.F (n : Nat) (v : Nat × Nat) := f32_i_SameNumber n v.1 v.2
noncomputable def f32_i_SameNumber.O (n : Nat) : Orc := orcOf (E := E) [x87.w] [] n
theorem f32_i_SameNumber.ok : ∀ n v x, f32_i_SameNumber.F n v = some x → evalFn E n 32 (flAs f32_i_SameNumber.P (sg_ff.pk v)) = some (f32_i_SameNumber.A.enc x) :=
  fn_pure (modes := (fdAt 32).ms) (outs := (fdAt 32).os) (results := (fdAt 32).rs) f32_i_SameNumber.O (c := c32) (keep := keepAt 32) (by kernel_rfl) (fun n => orcOf_cf _ _ n) (fun n => lpOk_of (bs := []) (by kernel_rfl) .nil) (fun _ => rfl) (fun _ _ => by kernel_rfl)
noncomputable def f32_i_SameNumber.w : FnW E := fnW 32 f32_i_SameNumber.P sg_ff f32_i_SameNumber.A f32_i_SameNumber.F f32_i_SameNumber.ok

def f37_l_r8Same.l0 (n : Nat) : Nat → Nat → List T → Nat → List T → Int → Option ((Bool) ⊕ (Unit))
  | 0, _, _, _, _, _ => none
  | m + 1, n1, l2, n3, l4, i5 =>
    br (decide (i5 < ((n1 : Nat) : Int))) (
     gd ((decide (((0 : Int) ≤ i5) ∧ (i5 < ((n1 : Nat) : Int)))) && (okAt [(CK.flt FloatKind.f32)] l2 (Int.toNat i5))) (
     gd ((decide (((0 : Int) ≤ i5) ∧ (i5 < ((n3 : Nat) : Int)))) && (okAt [(CK.flt FloatKind.f32)] l4 (Int.toNat i5))) (
     bd (f32_i_SameNumber n (fAt l2 (Int.toNat i5)) (fAt l4 (Int.toNat i5))) fun r6 =>
     let b7 : Bool := r6
     br (!b7) (
      some (Sum.inl false)) (
      f37_l_r8Same.l0 n m n1 l2 n3 l4 (IntKind.i64.wrap (i5 + (1 : Int))))))) (
     some (Sum.inr ()))
def f37_l_r8Same : Nat → Nat → List T → Nat → List T → Option (Bool)
  | 0, _, _, _, _ => none
  | n + 1, n1, l2, n3, l4 =>
    br (((n1 : Nat) : Int) != ((n3 : Nat) : Int)) (
     some false) (
     bd (f37_l_r8Same.l0 n n n1 l2 n3 l4 (0 : Int)) fun r5 =>
     sm r5 (fun u6 =>
      let b7 : Bool := u6
      some b7) (fun u8 =>
      some true))
def sg_lli : Sig (Nat × List T × Nat × List T × Int) where
  pk := fun v => [.lst v.1 v.2.1, .lst v.2.2.1 v.2.2.2.1, .int v.2.2.2.2]
  up := fun ls => match ls with
    | [.lst a0 a1, .lst a2 a3, .int a4] => some (a0, a1, a2, a3, a4)
    | _ => none
  ok := by
    intro ls v h
    split at h
    · cases h; rfl
    · cases h

def sg : Sig (Unit) where
  pk := fun v => []
  up := fun ls => match ls with
    | [] => some ()
    | _ => none
  ok := by
    intro ls v h
    split at h
    · cases h; rfl
    · cases h

def f37_l_r8Same.l0.P : AS := ⟨[(0, .val false [.sl .shr [.leaf]] [.lst 0 []] [] 0), (1, .val false [.sl .shr [.leaf]] [.lst 0 []] [] 0), (5, .val false [.leaf] [.int .i64 0] [] 0)], 0⟩
def f37_l_r8Same.l0.A : Alt ((Bool) ⊕ (Unit)) := .or (.one .ret ⟨[(4, .val false [.leaf] [.bool false] [] 0)], 0⟩ sg_b) (.one (.exit 0) ⟨[(4, .dead)], 0⟩ sg)
def f37_l_r8Same.l0.F (n m : Nat) (v : Nat × List T × Nat × List T × Int) := f37_l_r8Same.l0 n m v.1 v.2.1 v.2.2.1 v.2.2.2.1 v.2.2.2.2
def f37_l_r8Same.l0.W (n : Nat) : LpW := .of 64 f37_l_r8Same.l0.P sg_lli f37_l_r8Same.l0.A (f37_l_r8Same.l0.F n n)
def f37_l_r8Same.P : List Arg := [⟨.val, ⟨false, [.sl .shr [.leaf]], [.lst 0 []]⟩⟩, ⟨.val, ⟨false, [.sl .shr [.leaf]], [.lst 0 []]⟩⟩]
def f37_l_r8Same.A : RAlt (Bool) := .one ⟨[⟨false, [.leaf], [.bool false]⟩], [none, none]⟩ sg_b
def f37_l_r8Same.F (n : Nat) (v : Nat × List T × Nat × List T) := f37_l_r8Same n v.1 v.2.1 v.2.2.1 v.2.2.2
noncomputable def f37_l_r8Same.O (n : Nat) : Orc := orcOf (E := E) [f32_i_SameNumber.w] [f37_l_r8Same.l0.W n] n
theorem f37_l_r8Same.l0.ok (n : Nat) : LpOk (f37_l_r8Same.O n) E (evalFn E n) n (keepAt 37) (.loop (loopAt c37 0)) :=
  lp_pure f37_l_r8Same.l0.P sg_lli f37_l_r8Same.l0.A (f37_l_r8Same.l0.F n) (orcOf_cf _ _ n) (lpOk_of (bs := []) (by kernel_rfl) .nil) (fun _ => rfl) (fun _ _ => by kernel_rfl) (fun _ _ _ => by kernel_rfl)
theorem f37_l_r8Same.ok : ∀ n v x, f37_l_r8Same.F n v = some x → evalFn E n 37 (flAs f37_l_r8Same.P (sg_ll.pk v)) = some (f37_l_r8Same.A.enc x) :=
  fn_pure (modes := (fdAt 37).ms) (outs := (fdAt 37).os) (results := (fdAt 37).rs) f37_l_r8Same.O (c := c37) (keep := keepAt 37) (by kernel_rfl) (fun n => orcOf_cf _ _ n) (fun n => lpOk_of (bs := [loopAt c37 0]) (by kernel_rfl) (.cons (f37_l_r8Same.l0.ok n) .nil)) (fun _ => rfl) (fun _ _ => by kernel_rfl)
noncomputable def f37_l_r8Same.w : FnW E := fnW 37 f37_l_r8Same.P sg_ll f37_l_r8Same.A f37_l_r8Same.F f37_l_r8Same.ok

def f9_l_FnSqueezed.l0 (n : Nat) : Nat → Nat → Nat → Nat → Nat → Nat → Nat → List T → Nat → List T → Nat → List T → Int → Option ((Bool) ⊕ (Unit))
  | 0, _, _, _, _, _, _, _, _, _, _, _, _ => none
  | m + 1, x1, x2, x3, x4, x5, n6, l7, n8, l9, n10, l11, i12 =>
    br (decide (i12 < (10 : Int))) (
     gd (decide (((0 : Int) ≤ i12) ∧ (i12 < ((n10 : Nat) : Int)))) (
     gd (okAt [(CK.flt FloatKind.f32)] l11 (Int.toNat i12)) (
     bd (f47_i_GainFor n (fAt l11 (Int.toNat i12)) x4 x5) fun r13 =>
     let x14 : Nat := r13
     br (!(fge FloatKind.f32 x14 0)) (
      some (Sum.inl false)) (
      br (fgt FloatKind.f32 x14 1065353216) (
       some (Sum.inl false)) (
       gd (decide (((0 : Int) ≤ i12) ∧ (i12 < ((n8 : Nat) : Int)))) (
       gd (okAt [(CK.flt FloatKind.f32)] l9 (Int.toNat i12)) (
       gd (decide (((0 : Int) ≤ i12) ∧ (i12 < ((n6 : Nat) : Int)))) (
       gd (okAt [(CK.flt FloatKind.f32)] l7 (Int.toNat i12)) (
       bd (f32_i_SameNumber n (fAt l9 (Int.toNat i12)) (fmul FloatKind.f32 (fAt l7 (Int.toNat i12)) x14)) fun r15 =>
       let b16 : Bool := r15
       br (!b16) (
        some (Sum.inl false)) (
        gd (decide (((0 : Int) ≤ i12) ∧ (i12 < ((n10 : Nat) : Int)))) (
        gd (okAt [(CK.flt FloatKind.f32)] l11 (Int.toNat i12)) (
        br (fle FloatKind.f32 (fAt l11 (Int.toNat i12)) x4) (
         br (fne FloatKind.f32 x14 1065353216) (
          some (Sum.inl false)) (
          f9_l_FnSqueezed.l0 n m x1 x2 x3 x4 x5 n6 l7 n8 l9 n10 l11 (IntKind.i64.wrap (i12 + (1 : Int))))) (
         f9_l_FnSqueezed.l0 n m x1 x2 x3 x4 x5 n6 l7 n8 l9 n10 l11 (IntKind.i64.wrap (i12 + (1 : Int)))))))))))))))) (
     some (Sum.inr ()))
termination_by structural x => x
def f9_l_FnSqueezed : Nat → Nat → List T → Nat → List T → Option (Bool)
  | 0, _, _, _, _ => none
  | n + 1, n1, l2, n3, l4 =>
    bd (f22_l_r8Long n n1 l2 n3 l4) fun r5 =>
    let b6 : Bool := r5
    br b6 (
     some true) (
     bd (f43_s_R8Squeeze n n1 l2) fun r7 =>
     let x8 : Nat := r7.1
     let x9 : Nat := r7.2.1
     let x10 : Nat := r7.2.2.1
     let x11 : Nat := r7.2.2.2.1
     let x12 : Nat := r7.2.2.2.2
     bd (f24_s_R8Plain n n3 l4 (10 : Int)) fun r13 =>
     let n14 : Nat := r13.1
     let l15 : List T := r13.2
     bd (f44_i_RunSqueeze n x8 x9 x10 x11 x12 n14 l15) fun r16 =>
     let n17 : Nat := r16.1
     let l18 : List T := r16.2.1
     let x19 : Nat := r16.2.2.1
     let x20 : Nat := r16.2.2.2.1
     let x21 : Nat := r16.2.2.2.2.1
     let x22 : Nat := r16.2.2.2.2.2.1
     let x23 : Nat := r16.2.2.2.2.2.2.1
     let b24 : Bool := r16.2.2.2.2.2.2.2
     bd (f45_i_DuckSamples n x8 x9 x10 x11 x12 n14 l15 n14 l15) fun r25 =>
     let n26 : Nat := r25.1
     let l27 : List T := r25.2.1
     let x28 : Nat := r25.2.2.1
     let x29 : Nat := r25.2.2.2.1
     let x30 : Nat := r25.2.2.2.2.1
     let x31 : Nat := r25.2.2.2.2.2.1
     let x32 : Nat := r25.2.2.2.2.2.2.1
     let b33 : Bool := r25.2.2.2.2.2.2.2
     bd (f46_i_FollowLevel n x8 x9 x10 n14 l15) fun r34 =>
     let n35 : Nat := r34.1
     let l36 : List T := r34.2.1
     let x37 : Nat := r34.2.2.1
     let x38 : Nat := r34.2.2.2.1
     let x39 : Nat := r34.2.2.2.2.1
     let b40 : Bool := r34.2.2.2.2.2
     br (!b24) (
      some false) (
      br (!b33) (
       some false) (
       br (!b40) (
        some false) (
        br (((n17 : Nat) : Int) != (10 : Int)) (
         some false) (
         br (((n35 : Nat) : Int) != (10 : Int)) (
          some false) (
          bd (f37_l_r8Same n n17 l18 n26 l27) fun r41 =>
          let b42 : Bool := r41
          br (!b42) (
           some false) (
           bd (f32_i_SameNumber n x21 x39) fun r43 =>
           let b44 : Bool := r43
           br (!b44) (
            some false) (
            bd (f32_i_SameNumber n x30 x39) fun r45 =>
            let b46 : Bool := r45
            br (!b46) (
             some false) (
             bd (f9_l_FnSqueezed.l0 n n x8 x9 x10 x11 x12 n14 l15 n17 l18 n35 l36 (0 : Int)) fun r47 =>
             sm r47 (fun u48 =>
              let b49 : Bool := u48
              some b49) (fun u50 =>
              some true))))))))))
def sg_fffffllli : Sig (Nat × Nat × Nat × Nat × Nat × Nat × List T × Nat × List T × Nat × List T × Int) where
  pk := fun v => [.flt v.1, .flt v.2.1, .flt v.2.2.1, .flt v.2.2.2.1, .flt v.2.2.2.2.1, .lst v.2.2.2.2.2.1 v.2.2.2.2.2.2.1, .lst v.2.2.2.2.2.2.2.1 v.2.2.2.2.2.2.2.2.1, .lst v.2.2.2.2.2.2.2.2.2.1 v.2.2.2.2.2.2.2.2.2.2.1, .int v.2.2.2.2.2.2.2.2.2.2.2]
  up := fun ls => match ls with
    | [.flt a0, .flt a1, .flt a2, .flt a3, .flt a4, .lst a5 a6, .lst a7 a8, .lst a9 a10, .int a11] => some (a0, a1, a2, a3, a4, a5, a6, a7, a8, a9, a10, a11)
    | _ => none
  ok := by
    intro ls v h
    split at h
    · cases h; rfl
    · cases h

def f9_l_FnSqueezed.l0.P : AS := ⟨[(5, .box [.leaf, .leaf, .leaf, .leaf, .leaf] [.flt .f32 0, .flt .f32 0, .flt .f32 0, .flt .f32 0, .flt .f32 0] [] 0), (6, .val false [.sl .own [.leaf]] [.lst 0 []] [] 0), (7, .val false [.sl .own [.leaf]] [.lst 0 []] [] 0), (13, .val false [.sl .own [.leaf]] [.lst 0 []] [] 0), (16, .val false [.leaf] [.int .i64 0] [] 0)], 0⟩
def f9_l_FnSqueezed.l0.A : Alt ((Bool) ⊕ (Unit)) := .or (.one .ret ⟨[(4, .val false [.leaf] [.bool false] [] 0)], 0⟩ sg_b) (.one (.exit 0) ⟨[(4, .dead)], 0⟩ sg)
def f9_l_FnSqueezed.l0.F (n m : Nat) (v : Nat × Nat × Nat × Nat × Nat × Nat × List T × Nat × List T × Nat × List T × Int) := f9_l_FnSqueezed.l0 n m v.1 v.2.1 v.2.2.1 v.2.2.2.1 v.2.2.2.2.1 v.2.2.2.2.2.1 v.2.2.2.2.2.2.1 v.2.2.2.2.2.2.2.1 v.2.2.2.2.2.2.2.2.1 v.2.2.2.2.2.2.2.2.2.1 v.2.2.2.2.2.2.2.2.2.2.1 v.2.2.2.2.2.2.2.2.2.2.2
def f9_l_FnSqueezed.l0.W (n : Nat) : LpW := .of 176 f9_l_FnSqueezed.l0.P sg_fffffllli f9_l_FnSqueezed.l0.A (f9_l_FnSqueezed.l0.F n n)
def f9_l_FnSqueezed.P : List Arg := [⟨.val, ⟨false, [.sl .shr [.leaf]], [.lst 0 []]⟩⟩, ⟨.val, ⟨false, [.sl .shr [.leaf]], [.lst 0 []]⟩⟩]
def f9_l_FnSqueezed.A : RAlt (Bool) := .one ⟨[⟨false, [.leaf], [.bool false]⟩], [none, none]⟩ sg_b
def f9_l_FnSqueezed.F (n : Nat) (v : Nat × List T × Nat × List T) := f9_l_FnSqueezed n v.1 v.2.1 v.2.2.1 v.2.2.2
noncomputable def f9_l_FnSqueezed.O (n : Nat) : Orc := orcOf (E := E) [f22_l_r8Long.w, f43_s_R8Squeeze.w, f24_s_R8Plain.w, f47_i_GainFor.w, f45_i_DuckSamples.w, f44_i_RunSqueeze.w, f46_i_FollowLevel.w, f32_i_SameNumber.w, f37_l_r8Same.w] [f9_l_FnSqueezed.l0.W n] n
theorem f9_l_FnSqueezed.l0.ok (n : Nat) : LpOk (f9_l_FnSqueezed.O n) E (evalFn E n) n (keepAt 9) (.loop (loopAt c9 0)) :=
  lp_pure f9_l_FnSqueezed.l0.P sg_fffffllli f9_l_FnSqueezed.l0.A (f9_l_FnSqueezed.l0.F n) (orcOf_cf _ _ n) (lpOk_of (bs := []) (by kernel_rfl) .nil) (fun _ => rfl) (fun _ _ => by kernel_rfl) (fun _ _ _ => by kernel_rfl)
theorem f9_l_FnSqueezed.ok : ∀ n v x, f9_l_FnSqueezed.F n v = some x → evalFn E n 9 (flAs f9_l_FnSqueezed.P (sg_ll.pk v)) = some (f9_l_FnSqueezed.A.enc x) :=
  fn_pure (modes := (fdAt 9).ms) (outs := (fdAt 9).os) (results := (fdAt 9).rs) f9_l_FnSqueezed.O (c := c9) (keep := keepAt 9) (by kernel_rfl) (fun n => orcOf_cf _ _ n) (fun n => lpOk_of (bs := [loopAt c9 0]) (by kernel_rfl) (.cons (f9_l_FnSqueezed.l0.ok n) .nil)) (fun _ => rfl) (fun _ _ => by kernel_rfl)
noncomputable def f9_l_FnSqueezed.w : FnW E := fnW 9 f9_l_FnSqueezed.P sg_ll f9_l_FnSqueezed.A f9_l_FnSqueezed.F f9_l_FnSqueezed.ok
end Go.Proofs.Ythgenpcoelihiaa.D
end
section
/- FnSqueezed, in plain Lean. -/
namespace Go.Proofs.Ythgenpcoelihiaa.D
open Go Go.Desk
set_option linter.unusedVariables false
theorem s_from (n l : Nat) (c : List T) : f71_s_l00From (n + 1) l c = some (l, c, 0, 0) := by rw [f71_s_l00From]
theorem s_next (n : Nat) {bs : List Int} (hb : Bytes bs) {a : Int} (h0 : 0 ≤ a) (h1 : a ≤ 1125899906842624) (sd : Int) :
    ∃ r sd', (0 ≤ r ∧ r ≤ 255) ∧ f111_s_l00Srcnext (n + 1) bs.length (its .u8 bs) a sd = some (r, bs.length, its .u8 bs, a + 1, sd') := by
  rw [f111_s_l00Srcnext]
  rw [show IntKind.i64.wrap (a + 1) = a + 1 by rw [wrap64] <;> omega]
  cases h : decide (a < (bs.length : Int))
  · simp only [br_f]
    cases decide (a + 1 ≤ (bs.length : Int))
    · exact ⟨_, _, and255 _, rfl⟩
    · exact ⟨0, _, by omega, rfl⟩
  · simp only [decide_eq_true_eq] at h
    obtain ⟨i, rfl⟩ := Int.eq_ofNat_of_zero_le h0
    have hi : i < bs.length := by omega
    have hr := hb (bs[i]) (List.getElem_mem _)
    simp only [br_t, in_dec hi, Int.toNat_natCast, okAt_its hi, Bool.and_self, gd_t, iAt_its]
    rw [show bs.getD i 0 = bs[i] by simp [List.getD, hi], show IntKind.i64.wrap bs[i] = bs[i] by rw [wrap64] <;> omega]
    cases decide ((i : Int) + 1 ≤ (bs.length : Int))
    · exact ⟨_, _, and255 _, rfl⟩
    · exact ⟨_, _, hr, rfl⟩
theorem s_pick (n : Nat) {bs : List Int} (hb : Bytes bs) {a : Int} (h0 : 0 ≤ a) (h1 : a ≤ 1125899906842622) (sd k : Int) :
    ∃ r a' sd', (0 ≤ r ∧ (1 < k → r < k) ∧ (k ≤ 1 → r = 0)) ∧ (a ≤ a' ∧ a' ≤ a + 2) ∧ f73_s_l00Srcpick (n + 2) bs.length (its .u8 bs) a sd k = some (r, bs.length, its .u8 bs, a', sd') := by
  rw [f73_s_l00Srcpick]
  by_cases hk : k ≤ 1
  · rw [decide_eq_true hk]; exact ⟨0, a, sd, by omega, by omega, rfl⟩
  rw [decide_eq_false hk]
  obtain ⟨r, s1, hr, e1⟩ := s_next n hb h0 (by omega) sd
  simp only [br_f, e1, bd_s]
  have hk0 : (!decide (k = 0)) = true := by simp; omega
  by_cases hk2 : k > 200
  · rw [decide_eq_true hk2]
    obtain ⟨r', s2, hr', e2⟩ := s_next n hb (a := a + 1) (by omega) (by omega) s1
    simp only [br_t, e2, bd_s, hk0, gd_t]
    rw [show IntKind.i64.wrap (r * 256) = r * 256 by rw [wrap64] <;> omega, show IntKind.i64.wrap (r * 256 + r') = r * 256 + r' by rw [wrap64] <;> omega]
    refine ⟨_, _, _, ?_, ?_, rfl⟩
    · rw [Int.tmod_eq_emod_of_nonneg (by omega)]
      have := Int.emod_nonneg (r * 256 + r') (show k ≠ 0 by omega)
      have := Int.emod_lt_of_pos (r * 256 + r') (show 0 < k by omega)
      omega
    · omega
  · rw [decide_eq_false hk2]
    simp only [br_f, hk0, gd_t]
    refine ⟨_, _, _, ?_, ?_, rfl⟩
    · rw [Int.tmod_eq_emod_of_nonneg (by omega)]
      have := Int.emod_nonneg r (show k ≠ 0 by omega)
      have := Int.emod_lt_of_pos r (show 0 < k by omega)
      omega
    · omega
theorem s_one (n : Nat) {bs : List Int} (hb : Bytes bs) {a : Int} (h0 : 0 ≤ a) (h1 : a ≤ 1125899906842622) (sd k : Int) :
    ∃ r a' sd', (a ≤ a' ∧ a' ≤ a + 2) ∧ f72_s_l00Srcone (n + 3) bs.length (its .u8 bs) a sd k = some (r, bs.length, its .u8 bs, a', sd') := by
  obtain ⟨r, a', s', -, ha, e⟩ := s_pick n hb h0 h1 sd k
  rw [f72_s_l00Srcone, e]
  exact ⟨_, _, _, ha, rfl⟩
theorem s_plain (n : Nat) {bs : List Int} (hb : Bytes bs) {a : Int} (h0 : 0 ≤ a) (h1 : a ≤ 1125899906842620) (sd : Int) :
    ∃ x a' sd', Plain x ∧ (a ≤ a' ∧ a' ≤ a + 4) ∧ f80_s_l01DrawPlain (n + 4) bs.length (its .u8 bs) a sd = some (x, bs.length, its .u8 bs, a', sd') := by
  obtain ⟨r, a1, s1, hr, ha, e⟩ := s_pick (n + 1) hb h0 (by omega) sd 129
  obtain ⟨b, a2, s2, ha2, e2⟩ := s_one n hb (a := a1) (by omega) (by omega) s1 4
  rw [f80_s_l01DrawPlain, e]
  simp only [bd_s, e2]
  rw [show IntKind.i64.wrap (r - 64) = r - 64 by rw [wrap64] <;> omega]
  cases b
  · exact ⟨_, a2, s2, ⟨r - 64, by omega, .inr rfl⟩, by omega, rfl⟩
  · exact ⟨_, a2, s2, ⟨r - 64, by omega, .inl rfl⟩, by omega, rfl⟩
theorem s_r8plain_loop (n : Nat) {bs : List Int} (hb : Bytes bs) (k : Nat) : ∀ (j m : Nat) (a sd : Int) (acc : List Nat), 0 ≤ a → a + 4 * (j : Int) ≤ 1125899906842000 → k = acc.length + j → k ≤ 1000 → j < m → (∀ x ∈ acc, Plain x) →
    ∃ ys, ys.length = k ∧ (∀ x ∈ ys, Plain x) ∧
      (∃ u, f24_s_R8Plain.l0 (n + 4) m (k : Int) bs.length (its .u8 bs) a sd acc.length (fls .f32 acc) (acc.length : Int) = some u ∧ u = (ys.length, fls .f32 ys)) := by
  intro j
  induction j with
  | zero =>
    intro m a sd acc h0 h1 hl hk hm hw
    obtain ⟨m, rfl⟩ : ∃ k, m = k + 1 := ⟨m - 1, by omega⟩
    rw [f24_s_R8Plain.l0, decide_eq_false (show ¬ ((acc.length : Int) < (k : Int)) by omega)]
    exact ⟨acc, by omega, hw, _, rfl, rfl⟩
  | succ j ih =>
    intro m a sd acc h0 h1 hl hk hm hw
    obtain ⟨m, rfl⟩ : ∃ k, m = k + 1 := ⟨m - 1, by omega⟩
    obtain ⟨x, a1, s1, hx, ha, e⟩ := s_plain n hb h0 (by omega) sd
    rw [f24_s_R8Plain.l0, decide_eq_true (show ((acc.length : Int) < (k : Int)) by omega)]
    simp only [br_t, e, bd_s, push_ok (show acc.length < 2147483648 by omega), gd_t, push_fls]
    rw [wrap_len (z := x) (by omega), show acc.length + 1 = (acc ++ [x]).length by simp]
    exact ih m a1 s1 (acc ++ [x]) (by omega) (by omega) (by simp; omega) hk (by omega) (by
        intro y hy; simp only [List.mem_append, List.mem_singleton] at hy; rcases hy with hy | rfl
        · exact hw y hy
        · exact hx)
theorem s_r8plain (n : Nat) {bs : List Int} (hb : Bytes bs) (k : Nat) (hk : k ≤ 1000) (hn : k < n) : ∃ xs, xs.length = k ∧ (∀ x ∈ xs, Plain x) ∧ f24_s_R8Plain (n + 5) bs.length (its .u8 bs) (k : Int) = some (xs.length, fls .f32 xs) := by
  obtain ⟨ys, hy, hw, u, e, rfl⟩ := s_r8plain_loop n hb k k (n + 4) 0 0 [] (by omega) (by omega) (by simp) hk (by omega) (by simp)
  rw [f24_s_R8Plain, s_from]
  have e : f24_s_R8Plain.l0 (n + 4) (n + 4) (k : Int) bs.length (its .u8 bs) 0 0 0 (reps 0 [(T.flt FloatKind.f32 0)]) 0 = some (ys.length, fls .f32 ys) := e
  refine ⟨ys, hy, hw, ?_⟩
  simp only [bd_s, e]

theorem l_long (n : Nat) (bs cs : List Int) : f22_l_r8Long (n + 1) bs.length (its .u8 bs) cs.length (its .u8 cs) = some (decide (48 < bs.length ∨ 48 < cs.length)) := by
  rw [f22_l_r8Long]
  by_cases h : 48 < bs.length
  · rw [decide_eq_true (show (bs.length : Int) > 48 by omega), decide_eq_true (Or.inl h)]; rfl
  · rw [decide_eq_false (show ¬ (bs.length : Int) > 48 by omega), br_f]
    congr 1
    simp [h]; omega
theorem i_same (n : Nat) {x y : Nat} (hx : W32 x) (hy : W32 y) : f32_i_SameNumber (n + 2) x y = some (x == y) := by
  rw [f32_i_SameNumber]
  simp only [fne_nan]
  cases hn : isNaN .f32 x
  · cases hm : isNaN .f32 y
    · simp only [br_f]
      have e1 : ∀ z, isNaN .f32 z = false → xF32bits (n + 1) z = some (z : Int) := fun z hz => by simp [xF32bits, hz]
      simp only [e1 x hn, e1 y hm, bd_s, Option.some.injEq]
      rw [Bool.eq_iff_iff]; simp; constructor <;> omega
    · simp only [br_f, br_t]
      have : x ≠ y := fun e => by rw [e, hm] at hn; cases hn
      simp [this]
  · cases hm : isNaN .f32 y
    · simp only [br_f, br_t]
      have : x ≠ y := fun e => by rw [e, hm] at hn; cases hn
      simp [this]
    · simp only [br_t]
      have : x = y := by rw [← hx.2, ← hy.2, canon_nan hn, canon_nan hm]
      simp [this]
theorem l_same_loop (n : Nat) : ∀ (zs ys p q : List Nat) (m : Nat), ys.length = zs.length → p.length = q.length → (∀ x ∈ zs, W32 x) → (∀ x ∈ ys, W32 x) → p.length + zs.length ≤ 1048576 → zs.length < m →
    f37_l_r8Same.l0 (n + 2) m (p ++ zs).length (fls .f32 (p ++ zs)) (q ++ ys).length (fls .f32 (q ++ ys)) (p.length : Int) = some (if zs = ys then .inr () else .inl false) := by
  intro zs
  induction zs with
  | nil =>
    intro ys p q m hl hpq _ _ _ hm
    obtain ⟨m, rfl⟩ : ∃ k, m = k + 1 := ⟨m - 1, by omega⟩
    obtain rfl : ys = [] := List.length_eq_zero_iff.1 (by simpa using hl)
    rw [f37_l_r8Same.l0, lt_end]
    rfl
  | cons z zs ih =>
    intro ys p q m hl hpq hz hy hb hm
    obtain ⟨m, rfl⟩ : ∃ k, m = k + 1 := ⟨m - 1, by omega⟩
    cases ys with
    | nil => simp at hl
    | cons y ys =>
      rw [f37_l_r8Same.l0, lt_mid, in_mid]
      simp only [hpq, in_mid, toNat_len, okAt_mid]
      rw [← hpq]
      simp only [okAt_mid, fAt_mid, Bool.and_self, gd_t, br_t]
      rw [hpq]
      simp only [fAt_mid]
      rw [i_same n (hz z (by simp)) (hy y (by simp)), ← hpq]
      simp only [bd_s, br_not]
      cases h : z == y
      · simp only [beq_eq_false_iff_ne, ne_eq] at h
        simp [br_f, h]
      · simp only [beq_iff_eq] at h
        subst h
        rw [br_t, wrap_len (z := z) (by simp at hb; omega)]
        have := ih ys (p ++ [z]) (q ++ [z]) m (by simpa using hl) (by simp [hpq]) (fun x hx => hz x (by simp [hx])) (fun x hx => hy x (by simp [hx])) (by simp at hb ⊢; omega) (by simp at hm; omega)
        simpa using this
/-- two lists of numbers -/
theorem l_same (n : Nat) (xs ys : List Nat) (hx : ∀ x ∈ xs, W32 x) (hy : ∀ x ∈ ys, W32 x) (hl : xs.length ≤ 1048576) (hn : xs.length < n) : f37_l_r8Same (n + 3) xs.length (fls .f32 xs) ys.length (fls .f32 ys) = some (decide (xs = ys)) := by
  rw [f37_l_r8Same]
  by_cases h : ys.length = xs.length
  · rw [show (((xs.length : Nat) : Int) != ((ys.length : Nat) : Int)) = false by simp [h], br_f]
    have := l_same_loop n xs ys [] [] (n + 2) h rfl hx hy (by simpa using hl) (by omega)
    simp only [List.nil_append, List.length_nil] at this
    rw [show ((0 : Nat) : Int) = 0 from rfl] at this
    rw [this, bd_s]
    by_cases e : xs = ys
    · rw [if_pos e, decide_eq_true e]; rfl
    · rw [if_neg e, decide_eq_false e]; rfl
  · rw [show (((xs.length : Nat) : Int) != ((ys.length : Nat) : Int)) = true by simp; omega, decide_eq_false (fun e => h (by rw [e]))]
    rfl

theorem i_few (n k : Nat) (l : List T) : f82_i_areSamples (n + 1) k l = some (decide ((k : Int) ≤ 256)) := by rw [f82_i_areSamples]


theorem i_absolute (n : Nat) {x : Nat} (hg : W32 x) : f92_i_absolute (n + 2) x = some (size32 x) := by
  obtain ⟨h1, h2⟩ := abs_size hg.1 hg.2 n
  rw [f92_i_absolute, fltToFlt_wide]
  simp only [bd, h1, h2]



theorem i_sub (n : Nat) {x : Nat} (h : x < 4294967296) : f65_i_IsSubnormal (n + 1) x = some (sub32 x) := by
  rw [f65_i_IsSubnormal, ← sub_key h]
  cases fne .f32 x 0 <;> cases flt .f32 x 8388608 <;> rfl
theorem i_flush (n : Nat) {x : Nat} (h : W32 x) : f63_i_FlushNumber (n + 2) x = some (flushM x) := by
  rw [f63_i_FlushNumber, i_sub n h.1, bd_s, br_not]
  have hx := h.1
  cases hs : sub32 x
  · rw [br_f]
    unfold sub32 at hs
    unfold flushM
    simp at hs
    split
    · congr 1; omega
    · rfl
  · have hs' := hs
    unfold sub32 at hs
    simp at hs
    have hn : isNaN .f32 x = false := by rw [nan32]; simp; omega
    obtain ⟨y, e1, e2⟩ := copy_zero n hx hn
    rw [br_t, fltToFlt_wide]
    simp only [bd_s, e1, e2]
    unfold flushM
    rw [if_pos hs.2]

theorem i_fol (n : Nat) (a r : Nat) {l x : Nat} (hx : W32 x) : f96_i_Followerstep (n + 3) a r l x = some (a, r, levelM a r l x) := by
  rw [f96_i_Followerstep, i_absolute n hx]
  unfold levelM
  simp only [bd_s, i_flush n (w32_fadd _ _)]
  cases fgt .f32 (size32 x) l <;> rfl
theorem i_gain (n l t q : Nat) : f47_i_GainFor (n + 1) l t q = some (gainM l t q) := by
  rw [f47_i_GainFor]
  unfold gainM
  cases fgt .f32 l t <;> rfl
theorem i_follow_loop (n : Nat) (N : Nat) (cs : List T) (a r u1 u2 u3 : Nat) : ∀ (zs p acc : List Nat) (l m : Nat), (∀ x ∈ zs, W32 x) → acc.length + zs.length < 1048576 → p.length + zs.length < 1048576 → zs.length < m →
    f46_i_FollowLevel.l0 (n + 3) m N cs a r l u1 u2 u3 acc.length (fls .f32 acc) (p ++ zs).length (fls .f32 (p ++ zs)) ((p ++ zs).length : Int) (p.length : Int) =
      some (a, r, (scan (followStep a r) l zs).2, u1, u2, u3, (acc ++ (scan (followStep a r) l zs).1).length, fls .f32 (acc ++ (scan (followStep a r) l zs).1)) := by
  intro zs
  induction zs with
  | nil =>
    intro p acc l m _ _ _ hm
    obtain ⟨m, rfl⟩ : ∃ k, m = k + 1 := ⟨m - 1, by omega⟩
    rw [f46_i_FollowLevel.l0, lt_end]; simp [br_f, scan]
  | cons z zs ih =>
    intro p acc l m hz ha hp hm
    obtain ⟨m, rfl⟩ : ∃ k, m = k + 1 := ⟨m - 1, by omega⟩
    have ha' : acc.length < 1048576 := by simp at ha; omega
    rw [f46_i_FollowLevel.l0, lt_mid, in_mid, toNat_len, okAt_mid, fAt_mid]
    simp only [br_t, gd_t, Bool.and_self, i_fol n a r (hz z (by simp)), bd_s, push_ok (show acc.length < 2147483648 by omega), push_fls, wrap_len (z := z) (show p.length < 4611686018427387904 by simp at hp; omega)]
    have := ih (p ++ [z]) (acc ++ [levelM a r l z]) (levelM a r l z) m (fun x hx => hz x (by simp [hx])) (by simp at ha ⊢; omega) (by simp at hp ⊢; omega) (by simp at hm; omega)
    simpa [scan, followStep] using this
theorem i_follow (n : Nat) (a r l : Nat) (xs : List Nat) (hx : ∀ x ∈ xs, W32 x) (hl : xs.length ≤ 256) (hn : xs.length < n) :
    f46_i_FollowLevel (n + 4) a r l xs.length (fls .f32 xs) = some ((scan (followStep a r) l xs).1.length, fls .f32 (scan (followStep a r) l xs).1, a, r, (scan (followStep a r) l xs).2, true) := by
  rw [f46_i_FollowLevel, i_few, decide_eq_true (show (xs.length : Int) ≤ 256 by omega)]
  have e := i_follow_loop n xs.length (fls .f32 xs) a r 0 0 0 xs [] [] l (n + 3) hx (by simp; omega) (by simp; omega) (by omega)
  have e : f46_i_FollowLevel.l0 (n + 3) (n + 3) xs.length (fls .f32 xs) a r l 0 0 0 0 [] xs.length (fls .f32 xs) (xs.length : Int) 0 = _ := e
  simp only [bd_s, br_not, br_t, e]; rfl
theorem i_duck_loop (n : Nat) (a r t q u1 u2 u3 u4 u5 : Nat) (M : Nat) (cs : List T) : ∀ (zs ys p s acc : List Nat) (l m : Nat), ys.length = zs.length → s.length = p.length → (∀ x ∈ ys, W32 x) → acc.length + zs.length < 1048576 → p.length + zs.length < 1048576 → zs.length < m →
    f45_i_DuckSamples.l0 (n + 3) m M cs (s ++ ys).length (fls .f32 (s ++ ys)) a r l t q u1 u2 u3 u4 u5 acc.length (fls .f32 acc) (p ++ zs).length (fls .f32 (p ++ zs)) ((p ++ zs).length : Int) (p.length : Int) =
      some (a, r, (scan (duckStep a r t q) l (zs.zip ys)).2, t, q, u1, u2, u3, u4, u5, (acc ++ (scan (duckStep a r t q) l (zs.zip ys)).1).length, fls .f32 (acc ++ (scan (duckStep a r t q) l (zs.zip ys)).1)) := by
  intro zs
  induction zs with
  | nil =>
    intro ys p s acc l m _ _ _ _ _ hm
    obtain ⟨m, rfl⟩ : ∃ k, m = k + 1 := ⟨m - 1, by omega⟩
    rw [f45_i_DuckSamples.l0, lt_end]; simp [br_f, scan]
  | cons z zs ih =>
    intro ys p s acc l m hl hs hy ha hp hm
    obtain ⟨m, rfl⟩ : ∃ k, m = k + 1 := ⟨m - 1, by omega⟩
    cases ys with
    | nil => simp at hl
    | cons y ys =>
      have e1 : okAt [.flt .f32] (fls .f32 (s ++ y :: ys)) p.length = true := by rw [← hs]; exact okAt_mid
      have e2 : fAt (fls .f32 (s ++ y :: ys)) p.length = y := by rw [← hs]; exact fAt_mid
      have e3 : decide ((0 : Int) ≤ (p.length : Int) ∧ (p.length : Int) < ((s ++ y :: ys).length : Int)) = true := by rw [← hs]; exact in_mid
      have ha' : acc.length < 1048576 := by simp at ha; omega
      rw [f45_i_DuckSamples.l0, lt_mid, in_mid, toNat_len, okAt_mid, fAt_mid, e1, e2, e3]
      simp only [br_t, gd_t, Bool.and_self, i_fol n a r (hy y (by simp)), i_gain (n + 2), bd_s, push_ok (show acc.length < 2147483648 by omega), push_fls, wrap_len (z := z) (show p.length < 4611686018427387904 by simp at hp; omega)]
      have := ih ys (p ++ [z]) (s ++ [y]) (acc ++ [fmul .f32 z (gainM (levelM a r l y) t q)]) (levelM a r l y) m (by simpa using hl) (by simp [hs]) (fun x hx => hy x (by simp [hx])) (by simp at ha ⊢; omega) (by simp at hp ⊢; omega) (by simp at hm; omega)
      simpa [scan, duckStep] using this
theorem i_duck (n : Nat) (a r l t q : Nat) (xs ys : List Nat) (hy : ∀ x ∈ ys, W32 x) (hlen : ys.length = xs.length) (hl : xs.length ≤ 256) (hn : xs.length < n) :
    f45_i_DuckSamples (n + 4) a r l t q xs.length (fls .f32 xs) ys.length (fls .f32 ys) = some ((scan (duckStep a r t q) l (xs.zip ys)).1.length, fls .f32 (scan (duckStep a r t q) l (xs.zip ys)).1, a, r, (scan (duckStep a r t q) l (xs.zip ys)).2, t, q, true) := by
  rw [f45_i_DuckSamples, i_few, decide_eq_true (show (xs.length : Int) ≤ 256 by omega), show (((ys.length : Nat) : Int) != ((xs.length : Nat) : Int)) = false by simp [hlen]]
  have e := i_duck_loop n a r t q 0 0 0 0 0 xs.length (fls .f32 xs) xs ys [] [] [] l (n + 3) hlen rfl hy (by simp; omega) (by simp; omega) (by omega)
  have e : f45_i_DuckSamples.l0 (n + 3) (n + 3) xs.length (fls .f32 xs) ys.length (fls .f32 ys) a r l t q 0 0 0 0 0 0 [] xs.length (fls .f32 xs) (xs.length : Int) 0 = _ := e
  simp only [bd_s, br_not, br_t, br_f, e]; rfl
theorem i_runsqueeze (n : Nat) (a r l t q : Nat) (xs : List Nat) (hx : ∀ x ∈ xs, W32 x) (hl : xs.length ≤ 256) (hn : xs.length < n) :
    f44_i_RunSqueeze (n + 5) a r l t q xs.length (fls .f32 xs) = some ((scan (duckStep a r t q) l (xs.zip xs)).1.length, fls .f32 (scan (duckStep a r t q) l (xs.zip xs)).1, a, r, (scan (duckStep a r t q) l (xs.zip xs)).2, t, q, true) := by
  rw [f44_i_RunSqueeze]
  simp only [i_duck n a r l t q xs xs hx rfl hl hn, bd_s]
theorem s_squeeze (n : Nat) {bs : List Int} (hb : Bytes bs) : ∃ i j k r : Nat, (i ≤ 16 ∧ j ≤ 16 ∧ k ≤ 16 ∧ 1 ≤ r ∧ r ≤ 8) ∧
    f43_s_R8Squeeze (n + 3) bs.length (its .u8 bs) = some (fdiv .f32 (FloatKind.f32.nearest (i : Int)) 1098907648, fdiv .f32 (FloatKind.f32.nearest (j : Int)) 1098907648, 0, fdiv .f32 (FloatKind.f32.nearest (k : Int)) 1098907648, FloatKind.f32.nearest (r : Int)) := by
  obtain ⟨r1, a1, s1, h1, ha1, e1⟩ := s_pick n hb (a := 0) (by omega) (by omega) 0 17
  obtain ⟨r2, a2, s2, h2, ha2, e2⟩ := s_pick n hb (a := a1) (by omega) (by omega) s1 17
  obtain ⟨r3, a3, s3, h3, ha3, e3⟩ := s_pick n hb (a := a2) (by omega) (by omega) s2 17
  obtain ⟨r4, a4, s4, h4, ha4, e4⟩ := s_pick n hb (a := a3) (by omega) (by omega) s3 8
  obtain ⟨i, rfl⟩ := Int.eq_ofNat_of_zero_le h1.1
  obtain ⟨j, rfl⟩ := Int.eq_ofNat_of_zero_le h2.1
  obtain ⟨k, rfl⟩ := Int.eq_ofNat_of_zero_le h3.1
  obtain ⟨r, rfl⟩ := Int.eq_ofNat_of_zero_le h4.1
  refine ⟨i, j, k, 1 + r, by omega, ?_⟩
  rw [f43_s_R8Squeeze, s_from]
  simp only [bd_s, e1, e2, e3, e4]
  rw [show IntKind.i64.wrap (1 + (r : Int)) = ((1 + r : Nat) : Int) by rw [wrap64] <;> omega]

theorem duck_last (a b t q : Nat) : ∀ (xs : List Nat) (l : Nat), (scan (duckStep a b t q) l (xs.zip xs)).2 = (scan (followStep a b) l xs).2 := by
  intro xs
  induction xs with
  | nil => intro l; rfl
  | cons x xs ih => intro l; have := ih (levelM a b l x); simpa [scan, duckStep, followStep] using this
theorem told_loop (n : Nat) {a b t q : Nat} {ca cb : Rat} (L : Nat) (ha : Val .f32 a ca) (hb : Val .f32 b cb) (ha0 : 0 ≤ ca) (ha1 : ca ≤ 1) (hb0 : 0 ≤ cb) (hb1 : cb ≤ 1) {k r : Nat} (ht : t = fdiv .f32 (FloatKind.f32.nearest (k : Int)) 1098907648) (hk : k ≤ 16) (hq : q = FloatKind.f32.nearest (r : Int)) (hr : 1 ≤ r ∧ r ≤ 8) :
    ∀ (zs p ls os : List Nat) (l m : Nat), ls.length = p.length → os.length = p.length → p.length + zs.length = 10 → (∀ x ∈ zs, Plain x) → (∃ v, Val .f32 l v ∧ 0 ≤ v ∧ v ≤ 11) → zs.length < m →
    f9_l_FnSqueezed.l0 (n + 2) m a b L t q (p ++ zs).length (fls .f32 (p ++ zs)) (os ++ (scan (duckStep a b t q) l (zs.zip zs)).1).length (fls .f32 (os ++ (scan (duckStep a b t q) l (zs.zip zs)).1))
      (ls ++ (scan (followStep a b) l zs).1).length (fls .f32 (ls ++ (scan (followStep a b) l zs).1)) (p.length : Int) = some (.inr ()) := by
  intro zs
  induction zs with
  | nil =>
    intro p ls os l m h1 h2 hp hz hv hm
    obtain ⟨m, rfl⟩ : ∃ k, m = k + 1 := ⟨m - 1, by omega⟩
    rw [f9_l_FnSqueezed.l0, decide_eq_false (show ¬ ((p.length : Int) < 10) by simp at hp; omega)]; rfl
  | cons z zs ih =>
    intro p ls os l m h1 h2 hp hz hv hm
    obtain ⟨m, rfl⟩ : ∃ k, m = k + 1 := ⟨m - 1, by omega⟩
    obtain ⟨v, v1, v2, v3⟩ := hv
    obtain ⟨u, u1, u2, u3, u4, -⟩ := (hz z (by simp)).val
    have hp20 : 2 * p2 (-20) ≤ 1 := by
      have h1 := p2_le (show (-20 : Int) ≤ -1 by decide)
      have h2 := p2_add (-1) 1
      rw [p2_one, show (-1 : Int) + 1 = 0 by decide, p2_zero] at h2
      grind
    obtain ⟨w, w1, w2, w3, w4⟩ := level_val ha hb ha0 ha1 hb0 hb1 v1 v2 v3 u1 u3 u4
    have w5 : w ≤ 11 := Rat.le_trans w4 (by grind)
    obtain ⟨g, g1, g2, g3⟩ := gain_val w1 w5 ht hk hq hr
    have htv := sixteenth_val (i := k) (by omega)
    rw [← ht] at htv
    have c1 : fge .f32 (gainM (levelM a b l z) t q) 0 = true := (fge_val g1 (val_zero .f32)).2 g2
    have c2 : fgt .f32 (gainM (levelM a b l z) t q) 1065353216 = false := by
      cases hg : fgt .f32 (gainM (levelM a b l z) t q) 1065353216
      · rfl
      · have := (fgt_val g1 val_one32).1 hg; grind
    have c3 : fle .f32 (levelM a b l z) t = true → fne .f32 (gainM (levelM a b l z) t q) 1065353216 = false := by
      intro h
      have h5 := (fle_val w1 htv).1 h
      have h6 : fgt .f32 (levelM a b l z) t = false := by
        cases hg : fgt .f32 (levelM a b l z) t
        · rfl
        · have := (fgt_val w1 htv).1 hg; grind
      unfold gainM; rw [h6, if_neg (by decide)]; decide
    have hw := wrap_len (p := p) (z := z) (by simp at hp; omega)
    have := ih (p ++ [z]) (ls ++ [levelM a b l z]) (os ++ [fmul .f32 z (gainM (levelM a b l z) t q)]) (levelM a b l z) m (by simp [h1]) (by simp [h2]) (by simp at hp ⊢; omega) (fun x hx => hz x (by simp [hx])) ⟨w, w1, w2, w5⟩ (by simp at hm; omega)
    simp only [List.append_assoc, List.singleton_append] at this
    have d1 : (scan (followStep a b) l (z :: zs)).1 = levelM a b l z :: (scan (followStep a b) (levelM a b l z) zs).1 := rfl
    have d2 : (scan (duckStep a b t q) l ((z :: zs).zip (z :: zs))).1 = fmul .f32 z (gainM (levelM a b l z) t q) :: (scan (duckStep a b t q) (levelM a b l z) (zs.zip zs)).1 := rfl
    rw [d1, d2]
    have e1 : ∀ (s : List Nat) (y : Nat) (ys : List Nat), s.length = p.length → okAt [.flt .f32] (fls .f32 (s ++ y :: ys)) p.length = true := by intro s y ys hs; rw [← hs]; exact okAt_mid
    have e2 : ∀ (s : List Nat) (y : Nat) (ys : List Nat), s.length = p.length → fAt (fls .f32 (s ++ y :: ys)) p.length = y := by intro s y ys hs; rw [← hs]; exact fAt_mid
    have e3 : ∀ (s : List Nat) (y : Nat) (ys : List Nat), s.length = p.length → decide ((0 : Int) ≤ (p.length : Int) ∧ (p.length : Int) < ((s ++ y :: ys).length : Int)) = true := by intro s y ys hs; rw [← hs]; exact in_mid
    rw [f9_l_FnSqueezed.l0, decide_eq_true (show ((p.length : Int) < 10) by simp at hp; omega), toNat_len, e1 ls _ _ h1, e2 ls _ _ h1, e3 ls _ _ h1]
    simp only [br_t, gd_t, i_gain (n + 1), bd_s, c1, br_not, c2, br_f, e1 os _ _ h2, e2 os _ _ h2, e3 os _ _ h2, e1 p _ _ rfl, e2 p _ _ rfl, e3 p _ _ rfl, i_same n (w32_fmul _ _) (w32_fmul _ _), beq_self_eq_true, hw]
    cases h : fle .f32 (levelM a b l z) t
    · rw [br_f]; exact this
    · rw [br_t, c3 h, br_f]; exact this
theorem exact_ (cs : List Int) (hc : ∀ b ∈ cs, GoodI .u8 b) (lc : cs.length ≤ maxLen) (ms : List Int) (hm : ∀ b ∈ ms, GoodI .u8 b) (lm : ms.length ≤ maxLen) : ∃ n, f9_l_FnSqueezed n cs.length (its .u8 cs) ms.length (its .u8 ms) = some true := by
  refine ⟨1000, ?_⟩
  suffices h : ∀ n, f9_l_FnSqueezed (n + 500) cs.length (its .u8 cs) ms.length (its .u8 ms) = some true from h 500
  intro n
  rw [f9_l_FnSqueezed, l_long]
  cases hlong : decide (48 < cs.length ∨ 48 < ms.length)
  case true => rfl
  obtain ⟨i, j, k, r, ⟨hi, hj, hk, hr⟩, e1⟩ := s_squeeze (n + 496) (bytes_of hc)
  obtain ⟨xs, hxl, hxp, e2⟩ := s_r8plain (n + 494) (bytes_of hm) 10 (by omega) (by omega)
  have e2 : f24_s_R8Plain (n + 499) ms.length (its .u8 ms) 10 = some (xs.length, fls .f32 xs) := e2
  have hxw : ∀ x ∈ xs, W32 x := fun x hx => (hxp x hx).w32
  have va := sixteenth_val (i := i) (by omega)
  have vr := sixteenth_val (i := j) (by omega)
  obtain ⟨ia0, ia1⟩ := sixteenth_le hi
  obtain ⟨ir0, ir1⟩ := sixteenth_le hj
  obtain ⟨a, hA⟩ : ∃ a, a = fdiv .f32 (FloatKind.f32.nearest (i : Int)) 1098907648 := ⟨_, rfl⟩
  obtain ⟨b, hB⟩ : ∃ b, b = fdiv .f32 (FloatKind.f32.nearest (j : Int)) 1098907648 := ⟨_, rfl⟩
  obtain ⟨t, hT⟩ : ∃ t, t = fdiv .f32 (FloatKind.f32.nearest (k : Int)) 1098907648 := ⟨_, rfl⟩
  obtain ⟨q, hQ⟩ : ∃ q, q = FloatKind.f32.nearest (r : Int) := ⟨_, rfl⟩
  rw [← hA] at va
  rw [← hB] at vr
  have g1 := i_runsqueeze (n + 494) a b 0 t q xs hxw (by omega) (by omega)
  have g2 := i_duck (n + 495) a b 0 t q xs xs hxw rfl (by omega) (by omega)
  have g3 := i_follow (n + 495) a b 0 xs hxw (by omega) (by omega)
  have hlen := scan_length (followStep a b) 0 xs
  have hlen2 := scan_length (duckStep a b t q) 0 (xs.zip xs)
  rw [List.length_zip, Nat.min_self] at hlen2
  have winv := (scan_inv (f := followStep a b) (P := W32) (Q := fun _ => True) (S := W32) (fun s x _ _ => ⟨w32_level _ _ _ _, w32_level _ _ _ _⟩) xs 0 w32_zero (fun _ _ => trivial))
  have dinv := (scan_inv (f := duckStep a b t q) (P := W32) (Q := fun _ => True) (S := W32) (fun s x _ _ => ⟨w32_fmul _ _, w32_level _ _ _ _⟩) (xs.zip xs) 0 w32_zero (fun _ _ => trivial))
  have hlast := duck_last a b t q xs 0
  have told := told_loop (n + 497) 0 va vr ia0 ia1 ir0 ir1 hT hk hQ hr xs [] [] [] 0 (n + 499) rfl rfl (by simp; omega) hxp ⟨0, val_zero .f32, Rat.le_refl, by decide⟩ (by omega)
  have told : f9_l_FnSqueezed.l0 (n + 499) (n + 499) a b 0 t q xs.length (fls .f32 xs) (scan (duckStep a b t q) 0 (xs.zip xs)).1.length (fls .f32 (scan (duckStep a b t q) 0 (xs.zip xs)).1) (scan (followStep a b) 0 xs).1.length (fls .f32 (scan (followStep a b) 0 xs).1) 0 = some (.inr ()) := told
  have z1 : f37_l_r8Same (n + 499) (scan (duckStep a b t q) 0 (xs.zip xs)).1.length (fls .f32 (scan (duckStep a b t q) 0 (xs.zip xs)).1) (scan (duckStep a b t q) 0 (xs.zip xs)).1.length (fls .f32 (scan (duckStep a b t q) 0 (xs.zip xs)).1) = some true := by
    have := l_same (n + 496) (scan (duckStep a b t q) 0 (xs.zip xs)).1 (scan (duckStep a b t q) 0 (xs.zip xs)).1 dinv.1 dinv.1 (by omega) (by omega)
    simpa using this
  have z2 : f32_i_SameNumber (n + 499) (scan (followStep a b) 0 xs).2 (scan (followStep a b) 0 xs).2 = some true := by
    have := i_same (n + 497) winv.2 winv.2
    simpa using this
  have q8 : ((((scan (duckStep a b t q) 0 (xs.zip xs)).1.length : Nat) : Int) != 10) = false := by simp; omega
  have q9 : ((((scan (followStep a b) 0 xs).1.length : Nat) : Int) != 10) = false := by simp; omega
  simp only [br_f, br_not, bd_s, e1, ← hA, ← hB, ← hT, ← hQ, e2, g1, g2, g3, br_t, q8, q9, z1, hlast, z2, told, sm_r]
theorem law9 : ∀ args, LawArgs E Try.f9.params.toList args → ∃ N os, evalFn E N 9 args = some ⟨[⟨false, [.leaf], [.bool true]⟩], os⟩ := by
  intro args h0
  have hp : Try.f9.params.toList = [22, 22] := by kernel_rfl
  rw [hp] at h0
  obtain ⟨ts0, r0, rfl, hw0, h1⟩ := h0.cons_inv (d := ⟨false, 1, 24, [.sl .own [.leaf]], [.lst 0 []], .slc 5⟩) (by kernel_rfl)
  obtain ⟨n0, cs0, rfl, gl0, hs0⟩ := hw0.slc_inv (e := 5) (d := ⟨false, 1, 24, [.sl .own [.leaf]], [.lst 0 []], .slc 5⟩) (by kernel_rfl) rfl
  obtain ⟨a0, rfl, rfl, g0⟩ := hs0.ints (k := .u8) (d := ⟨false, 1, 1, [.leaf], [.int .u8 0], .int .u8⟩) (by kernel_rfl) rfl
  obtain ⟨ts1, r1, rfl, hw1, h2⟩ := h1.cons_inv (d := ⟨false, 1, 24, [.sl .own [.leaf]], [.lst 0 []], .slc 5⟩) (by kernel_rfl)
  obtain ⟨n1, cs1, rfl, gl1, hs1⟩ := hw1.slc_inv (e := 5) (d := ⟨false, 1, 24, [.sl .own [.leaf]], [.lst 0 []], .slc 5⟩) (by kernel_rfl) rfl
  obtain ⟨a1, rfl, rfl, g1⟩ := hs1.ints (k := .u8) (d := ⟨false, 1, 1, [.leaf], [.int .u8 0], .int .u8⟩) (by kernel_rfl) rfl
  obtain rfl := h2.nil_inv
  obtain ⟨N, hN⟩ := exact_ a0 g0 gl0 a1 g1 gl1
  exact ⟨N, _, f9_l_FnSqueezed.ok N (a0.length, its .u8 a0, a1.length, its .u8 a1) true hN⟩


end Go.Proofs.Ythgenpcoelihiaa.D
end
section
/- FnSqueezed holds: for every input the law returns true, and its arguments read as before. -/
namespace Go.Proofs.Ythgenpcoelihiaa.fnSqueezed
open Go Go.ChangeShapes Go.WideShapes Go.ChangeAt Go.RowKit Go.Desk
set_option linter.unusedVariables false
theorem own : ownKnob Try.prog.godebug = none := by kernel_rfl
theorem laidOut : laidOutB Try.prog = true := by kernel_rfl
set_option maxRecDepth 100000 in
theorem lifted (os : Os) (started : os.Started) (H : Type) (enc : TypeId × Value → H) :
    ReturnsInHanded {} Try.checked os 9 .any (Rows.fnSqueezedSpec.pre6 enc Try.prog Try.f9 Rows.fnSqueezedRow.domain false) (Rows.fnSqueezedSpec.post enc Try.prog Try.f9 false true false false) := by
  refine returnsInHanded_of_change (C := Try.checked) own started (by kernel_rfl) Try.func9
    (ChangeSpec.witness6 (enc := enc) (C := Try.checked) false ⟨#[], #[.slice none 0 0, .slice none 0 0], []⟩ 8 (by kernel_rfl) (by kernel_rfl) (by kernel_rfl) (by kernel_rfl)) ?_
  intro W base args ds gs before hval hW hcnd _
  exact law_contract (c := D.c9) Try.checked.mixed D.tysOk D.fnOk Try.func9 (by kernel_rfl) (by kernel_rfl) (by kernel_rfl) Try.underlying4 rfl
    (fun ds h => by
      rw [show Try.f9.params.toList.length = 2 by kernel_rfl] at h
      match ds, h with
      | [_, _], _ => rfl)
    laidOut (N := 8) (by kernel_rfl) (by kernel_rfl) D.law9 hval hW
theorem over : Rows.fnSqueezedRow.holds Try.pinned (OpenSpec.ofChange Rows.fnSqueezedSpec) :=
  OpenClaim.holds_of_wide 9 Try.f9 rfl rfl rfl rfl rfl rfl rfl ⟨rfl, rfl, rfl, rfl, rfl⟩ rfl rfl rfl rfl rfl (by kernel_rfl) Try.func9 (by kernel_rfl)
    (of_decide_eq_true (by kernel_rfl)) (by unfold Func.isWrapper; first | (rw [if_pos (by decide +kernel)]; kernel_rfl) | (rw [if_neg (by decide +kernel)]; exact ⟨rfl, rfl⟩))
    (fun os started H enc _ => lifted os started H enc)
theorem proved : Rows.FnSqueezedSaid := over
#print axioms proved
end Go.Proofs.Ythgenpcoelihiaa.fnSqueezed
namespace Go.Proofs.Ythgenpcoelihiaa
/-- The row, under a short name, for the claim. -/
theorem fnSqueezed_holds : Rows.FnSqueezedSaid := fnSqueezed.proved
end Go.Proofs.Ythgenpcoelihiaa
end
