/- FnGated holds: for every input the law returns true, and its arguments read as before. -/
import Derived.Test.YthgenpcoelihiaaChecked
import Derived.Test.YthgenpcoelihiaaDeskE
import Derived.KernelRfl
import Derived.Test.YthgenpcoelihiaaRows
import Derived.WalkKit
import Derived.ProofKit
import Derived.OpenShut
import Derived.ShutString
import Derived.ChangeOld
import Derived.Below
import Derived.SizedLaws
set_option linter.all false
section
/- What math.Abs owes: tables of its own, and the reading of its code. -/
namespace Go.Proofs.Ythgenpcoelihiaa.DA
open Go Go.Desk
def bodyOf (f : Func) : Code := match f.body with
  | some c => c
  | none => .skip
def tyTab : List (Nat × TD) := [
  (28, ⟨false, 1, 8, [.leaf], [.flt .f64 0], .flt .f64⟩),
  (103, ⟨false, 1, 8, [.leaf], [.int .u64 0], .int .u64⟩)]
noncomputable def c115 : Code := bodyOf Try.f115
noncomputable def fnTab : List (Nat × FD) := [
  (115, .code c115 [.val] [] [(2, none)] [(0, [0]), (1, [0])]),
  (117, .ext (pF64frombits)),
  (118, .ext (pF64bits))]
noncomputable def E : Env := ⟨fun t => lookT tyTab t, lookF fnTab⟩
noncomputable def fdAt (n : Nat) : FD := match lookF fnTab n with
  | some d => d
  | none => .ext fun _ => none
noncomputable def keepAt (n : Nat) : List (Nat × List Nat) := match lookF fnTab n with
  | some d => d.keep
  | none => []
theorem tysOk : TysOk Try.prog E := tysOk_of (l := tyTab) (fun _ => rfl) (by kernel_rfl)
theorem ft115 : FnTab Try.prog E 115 (fdAt 115) := fnTab_code (c := c115) (modes := (fdAt 115).ms) (outs := (fdAt 115).os) (results := (fdAt 115).rs) (keep := (fdAt 115).keep) Try.func115 (by kernel_rfl) (by kernel_rfl) (by kernel_rfl)
theorem ft117 : FnTab Try.prog E 117 (.ext (pF64frombits)) := ext_pF64frombits Try.func117 (by kernel_rfl) (by kernel_rfl) (by kernel_rfl) (by kernel_rfl)
theorem ft118 : FnTab Try.prog E 118 (.ext (pF64bits)) := ext_pF64bits Try.func118 (by kernel_rfl) (by kernel_rfl) (by kernel_rfl) (by kernel_rfl)
theorem allFns : AllFns Try.prog E fnTab := .cons ft115 (.cons ft117 (.cons ft118 (.nil)))
theorem fnOk : ∀ f fd, E.fn f = some fd → FnTab Try.prog E f fd := fnTab_of (l := fnTab) (fun _ => rfl) allFns
end Go.Proofs.Ythgenpcoelihiaa.DA
section
namespace Go.Proofs.Ythgenpcoelihiaa.DA
open Go Go.Desk
set_option linter.unusedVariables false
noncomputable def x117.w : FnW E := xF64frombits.w 117 (by kernel_rfl)

noncomputable def x118.w : FnW E := xF64bits.w 118 (by kernel_rfl)

def f115_mathAbs : Nat → Nat → Option (Nat)
  | 0, _ => none
  | n + 1, x1 =>
    bd (xF64bits n x1) fun r2 =>
    let i3 : Int := r2
    bd (xF64frombits n (intBits BinOp.andNot IntKind.u64 i3 (9223372036854775808 : Int))) fun r4 =>
    let x5 : Nat := r4
    some x5
def sg_f : Sig (Nat) where
  pk := fun v => [.flt v]
  up := fun ls => match ls with
    | [.flt a0] => some a0
    | _ => none
  ok := by
    intro ls v h
    split at h
    · cases h; rfl
    · cases h

def f115_mathAbs.P : List Arg := [⟨.val, ⟨false, [.leaf], [.flt .f64 0]⟩⟩]
def f115_mathAbs.A : RAlt (Nat) := .one ⟨[⟨false, [.leaf], [.flt .f64 0]⟩], [none]⟩ sg_f
def f115_mathAbs.F (n : Nat) (v : Nat) := f115_mathAbs n v
noncomputable def f115_mathAbs.O (n : Nat) : Orc := orcOf (E := E) [x117.w, x118.w] [] n
theorem f115_mathAbs.ok : ∀ n v x, f115_mathAbs.F n v = some x → evalFn E n 115 (flAs f115_mathAbs.P (sg_f.pk v)) = some (f115_mathAbs.A.enc x) :=
  fn_pure (modes := (fdAt 115).ms) (outs := (fdAt 115).os) (results := (fdAt 115).rs) f115_mathAbs.O (c := c115) (keep := keepAt 115) (by kernel_rfl) (fun n => orcOf_cf _ _ n) (fun n => lpOk_of (bs := []) (by kernel_rfl) .nil) (fun _ => rfl) (fun _ _ => by kernel_rfl)
noncomputable def f115_mathAbs.w : FnW E := fnW 115 f115_mathAbs.P sg_f f115_mathAbs.A f115_mathAbs.F f115_mathAbs.ok
end Go.Proofs.Ythgenpcoelihiaa.DA
end
namespace Go.Proofs.Ythgenpcoelihiaa.DA
open Go Go.Desk
theorem absOk : ExtOk Try.prog 115 pAbs := ext_pAbs_of Try.checked.mixed tysOk fnOk
  (fun x hN hx => ⟨3, f115_mathAbs.ok 3 x _ (abs_plain 1 hN)⟩)
  ⟨5, by kernel_rfl⟩
end Go.Proofs.Ythgenpcoelihiaa.DA
end
section
/- The tables of the reading: types and functions of the translation, with what is kept at each region's beginning (written by a program of this workplace). -/
namespace Go.Proofs.Ythgenpcoelihiaa.D
open Go Go.Desk
def bodyOf (f : Func) : Code := match f.body with
  | some c => c
  | none => .skip
def tyTab : List (Nat × TD) := [
  (2, ⟨false, 1, 8, [.leaf], [.int .i64 0], .int .i64⟩),
  (3, ⟨false, 1, 8, [.leaf], [.int .i64 0], .int .i64⟩),
  (4, ⟨false, 1, 1, [.leaf], [.bool false], .bool⟩),
  (5, ⟨false, 1, 1, [.leaf], [.int .u8 0], .int .u8⟩),
  (22, ⟨false, 1, 24, [.sl .own [.leaf]], [.lst 0 []], .slc 5⟩),
  (24, ⟨false, 1, 4, [.leaf], [.flt .f32 0], .flt .f32⟩),
  (28, ⟨false, 1, 8, [.leaf], [.flt .f64 0], .flt .f64⟩),
  (33, ⟨false, 1, 24, [.sl .own [.leaf]], [.lst 0 []], .slc 24⟩),
  (75, ⟨false, 1, 8, [.leaf], [.nil], .ptr 105⟩),
  (87, ⟨false, 1, 4, [.leaf], [.int .u32 0], .int .u32⟩),
  (96, ⟨false, 1, 24, [.sl .own [.leaf]], [.lst 0 []], .slc 2⟩),
  (103, ⟨false, 1, 8, [.leaf], [.int .u64 0], .int .u64⟩),
  (105, ⟨true, 3, 40, [.sl .own [.leaf], .leaf, .leaf], [.lst 0 [], .int .i64 0, .int .u64 0], .st [(0, 22), (1, 3), (2, 103)]⟩),
  (116, ⟨false, 1, 8, [.leaf], [.int .u64 0], .int .u64⟩)]
noncomputable def c7 : Code := bodyOf Try.f7
noncomputable def c22 : Code := bodyOf Try.f22
noncomputable def c23 : Code := bodyOf Try.f23
noncomputable def c32 : Code := bodyOf Try.f32
noncomputable def c35 : Code := bodyOf Try.f35
noncomputable def c36 : Code := bodyOf Try.f36
noncomputable def c37 : Code := bodyOf Try.f37
noncomputable def c71 : Code := bodyOf Try.f71
noncomputable def c72 : Code := bodyOf Try.f72
noncomputable def c73 : Code := bodyOf Try.f73
noncomputable def c74 : Code := bodyOf Try.f74
noncomputable def c75 : Code := bodyOf Try.f75
noncomputable def c80 : Code := bodyOf Try.f80
noncomputable def c82 : Code := bodyOf Try.f82
noncomputable def c83 : Code := bodyOf Try.f83
noncomputable def c91 : Code := bodyOf Try.f91
noncomputable def c92 : Code := bodyOf Try.f92
noncomputable def c111 : Code := bodyOf Try.f111
noncomputable def c112 : Code := bodyOf Try.f112
noncomputable def fnTab : List (Nat × FD) := [
  (7, .code c7 [.val, .val] [] [(4, none)] [(0, [0, 1]), (1, [0, 1]), (2, []), (3, [0, 1]), (4, [0, 5]), (5, [0, 5, 6]), (6, [0, 5, 6, 7]), (7, [5, 6, 7, 8]), (8, [5, 6, 7, 8, 9, 10, 11]), (9, [5, 6, 7, 8, 9, 10, 11, 12, 13, 14]), (10, [5, 6, 7, 9, 10, 11, 12, 14, 15, 16, 17]), (11, []), (12, [5, 6, 7, 9]), (13, [5, 6, 7, 9, 18]), (14, [5, 6, 7, 9, 18, 19]), (15, [5, 6, 7, 9, 18, 19]), (16, [5, 6, 7, 9, 18, 19]), (17, [5, 6, 7, 9, 19]), (18, [5, 6, 7, 9, 18, 19]), (19, [5, 6, 7, 9, 18, 19]), (20, []), (21, [5, 6, 7, 9, 18, 19]), (22, []), (23, []), (1000014, [4])]),
  (22, .code c22 [.val, .val] [] [(4, none)] [(0, [0, 1]), (1, [0, 1])]),
  (23, .code c23 [.val, .val, .val] [] [(6, none)] [(0, [0, 1, 2]), (1, [0, 1, 2]), (2, []), (3, [0, 1, 2])]),
  (32, .code c32 [.val, .val] [] [(4, none)] [(0, [0, 1]), (1, [0, 1]), (2, [0, 1]), (3, [0, 1])]),
  (35, .code c35 [.val, .val] [] [(4, none)] [(0, [0, 1]), (1, [0, 1]), (2, [1, 5]), (3, [5, 6])]),
  (36, .code c36 [.val, .val, .val, .val] [] [(8, none), (9, none), (10, none)] [(0, [0, 1, 2, 3]), (1, [0, 1, 2, 3]), (2, []), (3, [0, 1, 2, 3]), (4, [0, 1, 2, 3, 11]), (5, [0, 1, 2, 3, 11, 28, 29, 30]), (6, [0, 1, 2, 3, 11, 28, 29, 30]), (7, [0, 1, 2, 3, 11, 28, 29, 30]), (8, [0, 1, 2, 3, 11, 13, 28, 29, 30]), (9, [0, 1, 2, 11, 13, 28, 29, 30]), (10, [0, 1, 2, 3, 11, 13, 28, 29, 30]), (11, [0, 1, 2, 3, 11, 13, 28, 29, 30]), (12, [0, 1, 2, 3, 11, 13, 28, 29, 30]), (13, [0, 1, 2, 3, 11, 28, 29, 30]), (14, [3, 11]), (1000005, [3, 11])]),
  (37, .code c37 [.val, .val] [] [(4, none)] [(0, [0, 1]), (1, [0, 1]), (2, []), (3, [0, 1]), (4, [0, 1, 5]), (5, [0, 1, 5]), (6, [0, 1, 5]), (7, []), (8, []), (1000004, [4])]),
  (71, .code c71 [.val] [] [(2, none)] [(0, [0]), (1, [0])]),
  (72, .code c72 [.iop, .val] [0] [(4, none)] [(0, [0, 1]), (1, [0, 1])]),
  (73, .code c73 [.iop, .val] [0] [(4, none)] [(0, [0, 1]), (1, [0, 1]), (2, [0]), (3, [0, 1]), (4, [0, 1, 5]), (5, [0, 1, 5]), (6, [0, 1, 5])]),
  (74, .code c74 [.val] [] [(2, none)] [(0, [0]), (1, [0])]),
  (75, .code c75 [.iop] [0] [(2, none)] [(0, [0]), (1, [0]), (2, [0]), (3, [0]), (4, [0, 10]), (5, [0]), (6, [0, 10]), (7, [0]), (8, [0, 3]), (9, [0, 10]), (10, [0]), (11, [0])]),
  (80, .code c80 [.iop] [0] [(2, none)] [(0, [0]), (1, [0]), (2, [0, 3]), (3, [0, 3]), (4, [0, 3])]),
  (82, .code c82 [.val] [] [(2, none)] [(0, [0]), (1, [0])]),
  (83, .code c83 [.val, .val, .val] [] [(6, none)] [(0, [0, 1, 2]), (1, [0, 1, 2])]),
  (87, .ext (pF32bits)),
  (91, .code c91 [.iop, .val] [0] [(4, none)] [(0, [0, 1]), (1, [0, 1]), (2, [0, 1, 5]), (3, [0, 1, 5, 6]), (4, [0, 1, 5, 6]), (5, [0, 1, 5, 6]), (6, [0, 1, 5, 6]), (7, [0, 1, 5, 6]), (8, [0, 5]), (1000003, [0, 5])]),
  (92, .code c92 [.val] [] [(2, none)] [(0, [0]), (1, [0])]),
  (93, .ext (pF32frombits)),
  (111, .code c111 [.iop] [0] [(2, none)] [(0, [0]), (1, [0]), (2, [0, 3]), (3, [0]), (4, [0, 3]), (5, [0, 3]), (6, [0, 3]), (7, [0, 3]), (8, [0])]),
  (112, .code c112 [.iop, .io] [0, 1] [(4, none)] [(0, [0, 1]), (1, [0, 1])]),
  (115, .ext (pAbs))]
noncomputable def E : Env := ⟨fun t => lookT tyTab t, lookF fnTab⟩
noncomputable def fdAt (n : Nat) : FD := match lookF fnTab n with
  | some d => d
  | none => .ext fun _ => none
noncomputable def keepAt (n : Nat) : List (Nat × List Nat) := match lookF fnTab n with
  | some d => d.keep
  | none => []
theorem tysOk : TysOk Try.prog E := tysOk_of (l := tyTab) (fun _ => rfl) (by kernel_rfl)
theorem ft7 : FnTab Try.prog E 7 (fdAt 7) := fnTab_code (c := c7) (modes := (fdAt 7).ms) (outs := (fdAt 7).os) (results := (fdAt 7).rs) (keep := (fdAt 7).keep) Try.func7 (by kernel_rfl) (by kernel_rfl) (by kernel_rfl)
theorem ft22 : FnTab Try.prog E 22 (fdAt 22) := fnTab_code (c := c22) (modes := (fdAt 22).ms) (outs := (fdAt 22).os) (results := (fdAt 22).rs) (keep := (fdAt 22).keep) Try.func22 (by kernel_rfl) (by kernel_rfl) (by kernel_rfl)
theorem ft23 : FnTab Try.prog E 23 (fdAt 23) := fnTab_code (c := c23) (modes := (fdAt 23).ms) (outs := (fdAt 23).os) (results := (fdAt 23).rs) (keep := (fdAt 23).keep) Try.func23 (by kernel_rfl) (by kernel_rfl) (by kernel_rfl)
theorem ft32 : FnTab Try.prog E 32 (fdAt 32) := fnTab_code (c := c32) (modes := (fdAt 32).ms) (outs := (fdAt 32).os) (results := (fdAt 32).rs) (keep := (fdAt 32).keep) Try.func32 (by kernel_rfl) (by kernel_rfl) (by kernel_rfl)
theorem ft35 : FnTab Try.prog E 35 (fdAt 35) := fnTab_code (c := c35) (modes := (fdAt 35).ms) (outs := (fdAt 35).os) (results := (fdAt 35).rs) (keep := (fdAt 35).keep) Try.func35 (by kernel_rfl) (by kernel_rfl) (by kernel_rfl)
theorem ft36 : FnTab Try.prog E 36 (fdAt 36) := fnTab_code (c := c36) (modes := (fdAt 36).ms) (outs := (fdAt 36).os) (results := (fdAt 36).rs) (keep := (fdAt 36).keep) Try.func36 (by kernel_rfl) (by kernel_rfl) (by kernel_rfl)
theorem ft37 : FnTab Try.prog E 37 (fdAt 37) := fnTab_code (c := c37) (modes := (fdAt 37).ms) (outs := (fdAt 37).os) (results := (fdAt 37).rs) (keep := (fdAt 37).keep) Try.func37 (by kernel_rfl) (by kernel_rfl) (by kernel_rfl)
theorem ft71 : FnTab Try.prog E 71 (fdAt 71) := fnTab_code (c := c71) (modes := (fdAt 71).ms) (outs := (fdAt 71).os) (results := (fdAt 71).rs) (keep := (fdAt 71).keep) Try.func71 (by kernel_rfl) (by kernel_rfl) (by kernel_rfl)
theorem ft72 : FnTab Try.prog E 72 (fdAt 72) := fnTab_code (c := c72) (modes := (fdAt 72).ms) (outs := (fdAt 72).os) (results := (fdAt 72).rs) (keep := (fdAt 72).keep) Try.func72 (by kernel_rfl) (by kernel_rfl) (by kernel_rfl)
theorem ft73 : FnTab Try.prog E 73 (fdAt 73) := fnTab_code (c := c73) (modes := (fdAt 73).ms) (outs := (fdAt 73).os) (results := (fdAt 73).rs) (keep := (fdAt 73).keep) Try.func73 (by kernel_rfl) (by kernel_rfl) (by kernel_rfl)
theorem ft74 : FnTab Try.prog E 74 (fdAt 74) := fnTab_code (c := c74) (modes := (fdAt 74).ms) (outs := (fdAt 74).os) (results := (fdAt 74).rs) (keep := (fdAt 74).keep) Try.func74 (by kernel_rfl) (by kernel_rfl) (by kernel_rfl)
theorem ft75 : FnTab Try.prog E 75 (fdAt 75) := fnTab_code (c := c75) (modes := (fdAt 75).ms) (outs := (fdAt 75).os) (results := (fdAt 75).rs) (keep := (fdAt 75).keep) Try.func75 (by kernel_rfl) (by kernel_rfl) (by kernel_rfl)
theorem ft80 : FnTab Try.prog E 80 (fdAt 80) := fnTab_code (c := c80) (modes := (fdAt 80).ms) (outs := (fdAt 80).os) (results := (fdAt 80).rs) (keep := (fdAt 80).keep) Try.func80 (by kernel_rfl) (by kernel_rfl) (by kernel_rfl)
theorem ft82 : FnTab Try.prog E 82 (fdAt 82) := fnTab_code (c := c82) (modes := (fdAt 82).ms) (outs := (fdAt 82).os) (results := (fdAt 82).rs) (keep := (fdAt 82).keep) Try.func82 (by kernel_rfl) (by kernel_rfl) (by kernel_rfl)
theorem ft83 : FnTab Try.prog E 83 (fdAt 83) := fnTab_code (c := c83) (modes := (fdAt 83).ms) (outs := (fdAt 83).os) (results := (fdAt 83).rs) (keep := (fdAt 83).keep) Try.func83 (by kernel_rfl) (by kernel_rfl) (by kernel_rfl)
theorem ft87 : FnTab Try.prog E 87 (.ext (pF32bits)) := ext_pF32bits Try.func87 (by kernel_rfl) (by kernel_rfl) (by kernel_rfl) (by kernel_rfl)
theorem ft91 : FnTab Try.prog E 91 (fdAt 91) := fnTab_code (c := c91) (modes := (fdAt 91).ms) (outs := (fdAt 91).os) (results := (fdAt 91).rs) (keep := (fdAt 91).keep) Try.func91 (by kernel_rfl) (by kernel_rfl) (by kernel_rfl)
theorem ft92 : FnTab Try.prog E 92 (fdAt 92) := fnTab_code (c := c92) (modes := (fdAt 92).ms) (outs := (fdAt 92).os) (results := (fdAt 92).rs) (keep := (fdAt 92).keep) Try.func92 (by kernel_rfl) (by kernel_rfl) (by kernel_rfl)
theorem ft93 : FnTab Try.prog E 93 (.ext (pF32frombits)) := ext_pF32frombits Try.func93 (by kernel_rfl) (by kernel_rfl) (by kernel_rfl) (by kernel_rfl)
theorem ft111 : FnTab Try.prog E 111 (fdAt 111) := fnTab_code (c := c111) (modes := (fdAt 111).ms) (outs := (fdAt 111).os) (results := (fdAt 111).rs) (keep := (fdAt 111).keep) Try.func111 (by kernel_rfl) (by kernel_rfl) (by kernel_rfl)
theorem ft112 : FnTab Try.prog E 112 (fdAt 112) := fnTab_code (c := c112) (modes := (fdAt 112).ms) (outs := (fdAt 112).os) (results := (fdAt 112).rs) (keep := (fdAt 112).keep) Try.func112 (by kernel_rfl) (by kernel_rfl) (by kernel_rfl)
theorem ft115 : FnTab Try.prog E 115 (.ext (pAbs)) := DA.absOk
theorem allFns : AllFns Try.prog E fnTab := .cons ft7 (.cons ft22 (.cons ft23 (.cons ft32 (.cons ft35 (.cons ft36 (.cons ft37 (.cons ft71 (.cons ft72 (.cons ft73 (.cons ft74 (.cons ft75 (.cons ft80 (.cons ft82 (.cons ft83 (.cons ft87 (.cons ft91 (.cons ft92 (.cons ft93 (.cons ft111 (.cons ft112 (.cons ft115 (.nil))))))))))))))))))))))
theorem fnOk : ∀ f fd, E.fn f = some fd → FnTab Try.prog E f fd := fnTab_of (l := fnTab) (fun _ => rfl) allFns
end Go.Proofs.Ythgenpcoelihiaa.D
end
section
/- Plain functions for the law's Go functions, each tied to the reading by the kernel (printed by a program of this workplace). -/
namespace Go.Proofs.Ythgenpcoelihiaa.D
open Go Go.Desk
set_option linter.unusedVariables false
noncomputable def x87.w : FnW E := xF32bits.w 87 (by kernel_rfl)

noncomputable def x93.w : FnW E := xF32frombits.w 93 (by kernel_rfl)

noncomputable def x115.w : FnW E := xAbs.w 115 (by kernel_rfl)

def f22_l_r8Long : Nat → Nat → List T → Nat → List T → Option (Bool)
  | 0, _, _, _, _ => none
  | n + 1, n1, l2, n3, l4 =>
    br (decide (((n1 : Nat) : Int) > (48 : Int))) (
     some true) (
     some (decide (((n3 : Nat) : Int) > (48 : Int))))
def sg_ll : Sig (Nat × List T × Nat × List T) where
  pk := fun v => [.lst v.1 v.2.1, .lst v.2.2.1 v.2.2.2]
  up := fun ls => match ls with
    | [.lst a0 a1, .lst a2 a3] => some (a0, a1, a2, a3)
    | _ => none
  ok := by
    intro ls v h
    split at h
    · cases h; rfl
    · cases h

def sg_b : Sig (Bool) where
  pk := fun v => [.bool v]
  up := fun ls => match ls with
    | [.bool a0] => some a0
    | _ => none
  ok := by
    intro ls v h
    split at h
    · cases h; rfl
    · cases h

def f22_l_r8Long.P : List Arg := [⟨.val, ⟨false, [.sl .shr [.leaf]], [.lst 0 []]⟩⟩, ⟨.val, ⟨false, [.sl .shr [.leaf]], [.lst 0 []]⟩⟩]
def f22_l_r8Long.A : RAlt (Bool) := .one ⟨[⟨false, [.leaf], [.bool false]⟩], [none, none]⟩ sg_b
def f22_l_r8Long.F (n : Nat) (v : Nat × List T × Nat × List T) := f22_l_r8Long n v.1 v.2.1 v.2.2.1 v.2.2.2
noncomputable def f22_l_r8Long.O (n : Nat) : Orc := orcOf (E := E) [] [] n
theorem f22_l_r8Long.ok : ∀ n v x, f22_l_r8Long.F n v = some x → evalFn E n 22 (flAs f22_l_r8Long.P (sg_ll.pk v)) = some (f22_l_r8Long.A.enc x) :=
  fn_pure (modes := (fdAt 22).ms) (outs := (fdAt 22).os) (results := (fdAt 22).rs) f22_l_r8Long.O (c := c22) (keep := keepAt 22) (by kernel_rfl) (fun n => orcOf_cf _ _ n) (fun n => lpOk_of (bs := []) (by kernel_rfl) .nil) (fun _ => rfl) (fun _ _ => by kernel_rfl)
noncomputable def f22_l_r8Long.w : FnW E := fnW 22 f22_l_r8Long.P sg_ll f22_l_r8Long.A f22_l_r8Long.F f22_l_r8Long.ok

def f71_s_l00From : Nat → Nat → List T → Option (Nat × List T × Int × Int)
  | 0, _, _ => none
  | n + 1, n1, l2 =>
    some (n1, l2, (0 : Int), (0 : Int))
def sg_l : Sig (Nat × List T) where
  pk := fun v => [.lst v.1 v.2]
  up := fun ls => match ls with
    | [.lst a0 a1] => some (a0, a1)
    | _ => none
  ok := by
    intro ls v h
    split at h
    · cases h; rfl
    · cases h

def sg_lii : Sig (Nat × List T × Int × Int) where
  pk := fun v => [.lst v.1 v.2.1, .int v.2.2.1, .int v.2.2.2]
  up := fun ls => match ls with
    | [.lst a0 a1, .int a2, .int a3] => some (a0, a1, a2, a3)
    | _ => none
  ok := by
    intro ls v h
    split at h
    · cases h; rfl
    · cases h

def f71_s_l00From.P : List Arg := [⟨.val, ⟨false, [.sl .shr [.leaf]], [.lst 0 []]⟩⟩]
def f71_s_l00From.A : RAlt (Nat × List T × Int × Int) := .one ⟨[⟨false, [.rf .own [.sl .shr [.leaf], .leaf, .leaf]], [.ref [.lst 0 [], .int .i64 0, .int .u64 0]]⟩], [none]⟩ sg_lii
def f71_s_l00From.F (n : Nat) (v : Nat × List T) := f71_s_l00From n v.1 v.2
noncomputable def f71_s_l00From.O (n : Nat) : Orc := orcOf (E := E) [] [] n
theorem f71_s_l00From.ok : ∀ n v x, f71_s_l00From.F n v = some x → evalFn E n 71 (flAs f71_s_l00From.P (sg_l.pk v)) = some (f71_s_l00From.A.enc x) :=
  fn_pure (modes := (fdAt 71).ms) (outs := (fdAt 71).os) (results := (fdAt 71).rs) f71_s_l00From.O (c := c71) (keep := keepAt 71) (by kernel_rfl) (fun n => orcOf_cf _ _ n) (fun n => lpOk_of (bs := []) (by kernel_rfl) .nil) (fun _ => rfl) (fun _ _ => by kernel_rfl)
noncomputable def f71_s_l00From.w : FnW E := fnW 71 f71_s_l00From.P sg_l f71_s_l00From.A f71_s_l00From.F f71_s_l00From.ok

def f111_s_l00Srcnext : Nat → Nat → List T → Int → Int → Option (Int × Nat × List T × Int × Int)
  | 0, _, _, _, _ => none
  | n + 1, n1, l2, i3, i4 =>
    br (decide (i3 < ((n1 : Nat) : Int))) (
     gd ((decide (((0 : Int) ≤ i3) ∧ (i3 < ((n1 : Nat) : Int)))) && (okAt [(CK.int IntKind.u8)] l2 (Int.toNat i3))) (
     let i5 : Int := (IntKind.i64.wrap (iAt l2 (Int.toNat i3)))
     let i6 : Int := (IntKind.i64.wrap (i3 + (1 : Int)))
     let i7 : Int := (IntKind.u64.wrap ((IntKind.u64.wrap ((IntKind.u64.wrap (i4 * (6364136223846793005 : Int))) + (IntKind.u64.wrap i5))) + (1442695040888963407 : Int)))
     br (decide (i6 ≤ ((n1 : Nat) : Int))) (
      some (i5, n1, l2, i6, i7)) (
      some ((IntKind.i64.wrap (intBits BinOp.and IntKind.u64 (Int.fdiv i7 (1099511627776 : Int)) (255 : Int))), n1, l2, i6, i7)))) (
     let i8 : Int := (IntKind.i64.wrap (i3 + (1 : Int)))
     let i9 : Int := (IntKind.u64.wrap ((IntKind.u64.wrap ((IntKind.u64.wrap (i4 * (6364136223846793005 : Int))) + (0 : Int))) + (1442695040888963407 : Int)))
     br (decide (i8 ≤ ((n1 : Nat) : Int))) (
      some ((0 : Int), n1, l2, i8, i9)) (
      some ((IntKind.i64.wrap (intBits BinOp.and IntKind.u64 (Int.fdiv i9 (1099511627776 : Int)) (255 : Int))), n1, l2, i8, i9)))
def sg_ilii : Sig (Int × Nat × List T × Int × Int) where
  pk := fun v => [.int v.1, .lst v.2.1 v.2.2.1, .int v.2.2.2.1, .int v.2.2.2.2]
  up := fun ls => match ls with
    | [.int a0, .lst a1 a2, .int a3, .int a4] => some (a0, a1, a2, a3, a4)
    | _ => none
  ok := by
    intro ls v h
    split at h
    · cases h; rfl
    · cases h

def f111_s_l00Srcnext.P : List Arg := [⟨.iop, ⟨false, [.rf .own [.sl .shr [.leaf], .leaf, .leaf]], [.ref [.lst 0 [], .int .i64 0, .int .u64 0]]⟩⟩]
def f111_s_l00Srcnext.A : RAlt (Int × Nat × List T × Int × Int) := .one ⟨[⟨false, [.leaf], [.int .i64 0]⟩], [some ⟨false, [.rf .own [.sl .shr [.leaf], .leaf, .leaf]], [.ref [.lst 0 [], .int .i64 0, .int .u64 0]]⟩]⟩ sg_ilii
def f111_s_l00Srcnext.F (n : Nat) (v : Nat × List T × Int × Int) := f111_s_l00Srcnext n v.1 v.2.1 v.2.2.1 v.2.2.2
noncomputable def f111_s_l00Srcnext.O (n : Nat) : Orc := orcOf (E := E) [] [] n
theorem f111_s_l00Srcnext.ok : ∀ n v x, f111_s_l00Srcnext.F n v = some x → evalFn E n 111 (flAs f111_s_l00Srcnext.P (sg_lii.pk v)) = some (f111_s_l00Srcnext.A.enc x) :=
  fn_pure (modes := (fdAt 111).ms) (outs := (fdAt 111).os) (results := (fdAt 111).rs) f111_s_l00Srcnext.O (c := c111) (keep := keepAt 111) (by kernel_rfl) (fun n => orcOf_cf _ _ n) (fun n => lpOk_of (bs := []) (by kernel_rfl) .nil) (fun _ => rfl) (fun _ _ => by kernel_rfl)
noncomputable def f111_s_l00Srcnext.w : FnW E := fnW 111 f111_s_l00Srcnext.P sg_lii f111_s_l00Srcnext.A f111_s_l00Srcnext.F f111_s_l00Srcnext.ok

def f73_s_l00Srcpick : Nat → Nat → List T → Int → Int → Int → Option (Int × Nat × List T × Int × Int)
  | 0, _, _, _, _, _ => none
  | n + 1, n1, l2, i3, i4, i5 =>
    br (decide (i5 ≤ (1 : Int))) (
     some ((0 : Int), n1, l2, i3, i4)) (
     bd (f111_s_l00Srcnext n n1 l2 i3 i4) fun r6 =>
     let i7 : Int := r6.1
     let n8 : Nat := r6.2.1
     let l9 : List T := r6.2.2.1
     let i10 : Int := r6.2.2.2.1
     let i11 : Int := r6.2.2.2.2
     br (decide (i5 > (200 : Int))) (
      bd (f111_s_l00Srcnext n n8 l9 i10 i11) fun r12 =>
      let i13 : Int := r12.1
      let n14 : Nat := r12.2.1
      let l15 : List T := r12.2.2.1
      let i16 : Int := r12.2.2.2.1
      let i17 : Int := r12.2.2.2.2
      let i18 : Int := (IntKind.i64.wrap ((IntKind.i64.wrap (i7 * (256 : Int))) + i13))
      gd (!(decide (i5 = (0 : Int)))) (
      some ((Int.tmod i18 i5), n14, l15, i16, i17))) (
      gd (!(decide (i5 = (0 : Int)))) (
      some ((Int.tmod i7 i5), n8, l9, i10, i11))))
def sg_liii : Sig (Nat × List T × Int × Int × Int) where
  pk := fun v => [.lst v.1 v.2.1, .int v.2.2.1, .int v.2.2.2.1, .int v.2.2.2.2]
  up := fun ls => match ls with
    | [.lst a0 a1, .int a2, .int a3, .int a4] => some (a0, a1, a2, a3, a4)
    | _ => none
  ok := by
    intro ls v h
    split at h
    · cases h; rfl
    · cases h

def f73_s_l00Srcpick.P : List Arg := [⟨.iop, ⟨false, [.rf .own [.sl .shr [.leaf], .leaf, .leaf]], [.ref [.lst 0 [], .int .i64 0, .int .u64 0]]⟩⟩, ⟨.val, ⟨false, [.leaf], [.int .i64 0]⟩⟩]
def f73_s_l00Srcpick.A : RAlt (Int × Nat × List T × Int × Int) := .one ⟨[⟨false, [.leaf], [.int .i64 0]⟩], [some ⟨false, [.rf .own [.sl .shr [.leaf], .leaf, .leaf]], [.ref [.lst 0 [], .int .i64 0, .int .u64 0]]⟩, none]⟩ sg_ilii
def f73_s_l00Srcpick.F (n : Nat) (v : Nat × List T × Int × Int × Int) := f73_s_l00Srcpick n v.1 v.2.1 v.2.2.1 v.2.2.2.1 v.2.2.2.2
noncomputable def f73_s_l00Srcpick.O (n : Nat) : Orc := orcOf (E := E) [f111_s_l00Srcnext.w] [] n
theorem f73_s_l00Srcpick.ok : ∀ n v x, f73_s_l00Srcpick.F n v = some x → evalFn E n 73 (flAs f73_s_l00Srcpick.P (sg_liii.pk v)) = some (f73_s_l00Srcpick.A.enc x) :=
  fn_pure (modes := (fdAt 73).ms) (outs := (fdAt 73).os) (results := (fdAt 73).rs) f73_s_l00Srcpick.O (c := c73) (keep := keepAt 73) (by kernel_rfl) (fun n => orcOf_cf _ _ n) (fun n => lpOk_of (bs := []) (by kernel_rfl) .nil) (fun _ => rfl) (fun _ _ => by kernel_rfl)
noncomputable def f73_s_l00Srcpick.w : FnW E := fnW 73 f73_s_l00Srcpick.P sg_liii f73_s_l00Srcpick.A f73_s_l00Srcpick.F f73_s_l00Srcpick.ok

def f72_s_l00Srcone : Nat → Nat → List T → Int → Int → Int → Option (Bool × Nat × List T × Int × Int)
  | 0, _, _, _, _, _ => none
  | n + 1, n1, l2, i3, i4, i5 =>
    bd (f73_s_l00Srcpick n n1 l2 i3 i4 i5) fun r6 =>
    let i7 : Int := r6.1
    let n8 : Nat := r6.2.1
    let l9 : List T := r6.2.2.1
    let i10 : Int := r6.2.2.2.1
    let i11 : Int := r6.2.2.2.2
    some ((i7 == (0 : Int)), n8, l9, i10, i11)
def sg_blii : Sig (Bool × Nat × List T × Int × Int) where
  pk := fun v => [.bool v.1, .lst v.2.1 v.2.2.1, .int v.2.2.2.1, .int v.2.2.2.2]
  up := fun ls => match ls with
    | [.bool a0, .lst a1 a2, .int a3, .int a4] => some (a0, a1, a2, a3, a4)
    | _ => none
  ok := by
    intro ls v h
    split at h
    · cases h; rfl
    · cases h

def f72_s_l00Srcone.P : List Arg := [⟨.iop, ⟨false, [.rf .own [.sl .shr [.leaf], .leaf, .leaf]], [.ref [.lst 0 [], .int .i64 0, .int .u64 0]]⟩⟩, ⟨.val, ⟨false, [.leaf], [.int .i64 0]⟩⟩]
def f72_s_l00Srcone.A : RAlt (Bool × Nat × List T × Int × Int) := .one ⟨[⟨false, [.leaf], [.bool false]⟩], [some ⟨false, [.rf .own [.sl .shr [.leaf], .leaf, .leaf]], [.ref [.lst 0 [], .int .i64 0, .int .u64 0]]⟩, none]⟩ sg_blii
def f72_s_l00Srcone.F (n : Nat) (v : Nat × List T × Int × Int × Int) := f72_s_l00Srcone n v.1 v.2.1 v.2.2.1 v.2.2.2.1 v.2.2.2.2
noncomputable def f72_s_l00Srcone.O (n : Nat) : Orc := orcOf (E := E) [f73_s_l00Srcpick.w] [] n
theorem f72_s_l00Srcone.ok : ∀ n v x, f72_s_l00Srcone.F n v = some x → evalFn E n 72 (flAs f72_s_l00Srcone.P (sg_liii.pk v)) = some (f72_s_l00Srcone.A.enc x) :=
  fn_pure (modes := (fdAt 72).ms) (outs := (fdAt 72).os) (results := (fdAt 72).rs) f72_s_l00Srcone.O (c := c72) (keep := keepAt 72) (by kernel_rfl) (fun n => orcOf_cf _ _ n) (fun n => lpOk_of (bs := []) (by kernel_rfl) .nil) (fun _ => rfl) (fun _ _ => by kernel_rfl)
noncomputable def f72_s_l00Srcone.w : FnW E := fnW 72 f72_s_l00Srcone.P sg_liii f72_s_l00Srcone.A f72_s_l00Srcone.F f72_s_l00Srcone.ok

def f80_s_l01DrawPlain : Nat → Nat → List T → Int → Int → Option (Nat × Nat × List T × Int × Int)
  | 0, _, _, _, _ => none
  | n + 1, n1, l2, i3, i4 =>
    bd (f73_s_l00Srcpick n n1 l2 i3 i4 (129 : Int)) fun r5 =>
    let i6 : Int := r5.1
    let n7 : Nat := r5.2.1
    let l8 : List T := r5.2.2.1
    let i9 : Int := r5.2.2.2.1
    let i10 : Int := r5.2.2.2.2
    let i11 : Int := (IntKind.i64.wrap (i6 - (64 : Int)))
    bd (f72_s_l00Srcone n n7 l8 i9 i10 (4 : Int)) fun r12 =>
    let b13 : Bool := r12.1
    let n14 : Nat := r12.2.1
    let l15 : List T := r12.2.2.1
    let i16 : Int := r12.2.2.2.1
    let i17 : Int := r12.2.2.2.2
    br b13 (
     some ((fdiv FloatKind.f32 (FloatKind.nearest FloatKind.f32 i11) 1088421888), n14, l15, i16, i17)) (
     some ((fdiv FloatKind.f32 (FloatKind.nearest FloatKind.f32 i11) 1098907648), n14, l15, i16, i17))
def sg_flii : Sig (Nat × Nat × List T × Int × Int) where
  pk := fun v => [.flt v.1, .lst v.2.1 v.2.2.1, .int v.2.2.2.1, .int v.2.2.2.2]
  up := fun ls => match ls with
    | [.flt a0, .lst a1 a2, .int a3, .int a4] => some (a0, a1, a2, a3, a4)
    | _ => none
  ok := by
    intro ls v h
    split at h
    · cases h; rfl
    · cases h

def f80_s_l01DrawPlain.P : List Arg := [⟨.iop, ⟨false, [.rf .own [.sl .shr [.leaf], .leaf, .leaf]], [.ref [.lst 0 [], .int .i64 0, .int .u64 0]]⟩⟩]
def f80_s_l01DrawPlain.A : RAlt (Nat × Nat × List T × Int × Int) := .one ⟨[⟨false, [.leaf], [.flt .f32 0]⟩], [some ⟨false, [.rf .own [.sl .shr [.leaf], .leaf, .leaf]], [.ref [.lst 0 [], .int .i64 0, .int .u64 0]]⟩]⟩ sg_flii
def f80_s_l01DrawPlain.F (n : Nat) (v : Nat × List T × Int × Int) := f80_s_l01DrawPlain n v.1 v.2.1 v.2.2.1 v.2.2.2
noncomputable def f80_s_l01DrawPlain.O (n : Nat) : Orc := orcOf (E := E) [f73_s_l00Srcpick.w, f72_s_l00Srcone.w] [] n
theorem f80_s_l01DrawPlain.ok : ∀ n v x, f80_s_l01DrawPlain.F n v = some x → evalFn E n 80 (flAs f80_s_l01DrawPlain.P (sg_lii.pk v)) = some (f80_s_l01DrawPlain.A.enc x) :=
  fn_pure (modes := (fdAt 80).ms) (outs := (fdAt 80).os) (results := (fdAt 80).rs) f80_s_l01DrawPlain.O (c := c80) (keep := keepAt 80) (by kernel_rfl) (fun n => orcOf_cf _ _ n) (fun n => lpOk_of (bs := []) (by kernel_rfl) .nil) (fun _ => rfl) (fun _ _ => by kernel_rfl)
noncomputable def f80_s_l01DrawPlain.w : FnW E := fnW 80 f80_s_l01DrawPlain.P sg_lii f80_s_l01DrawPlain.A f80_s_l01DrawPlain.F f80_s_l01DrawPlain.ok

def f112_s_l00Srcamong : Nat → Nat → List T → Int → Int → Nat → List T → Option (Int × Nat × List T × Int × Int × Nat × List T)
  | 0, _, _, _, _, _, _ => none
  | n + 1, n1, l2, i3, i4, n5, l6 =>
    bd (f73_s_l00Srcpick n n1 l2 i3 i4 ((n5 : Nat) : Int)) fun r7 =>
    let i8 : Int := r7.1
    let n9 : Nat := r7.2.1
    let l10 : List T := r7.2.2.1
    let i11 : Int := r7.2.2.2.1
    let i12 : Int := r7.2.2.2.2
    gd (decide (((0 : Int) ≤ i8) ∧ (i8 < ((n5 : Nat) : Int)))) (
    gd (okAt [(CK.int IntKind.i64)] l6 (Int.toNat i8)) (
    some ((iAt l6 (Int.toNat i8)), n9, l10, i11, i12, n5, l6)))
def sg_liil : Sig (Nat × List T × Int × Int × Nat × List T) where
  pk := fun v => [.lst v.1 v.2.1, .int v.2.2.1, .int v.2.2.2.1, .lst v.2.2.2.2.1 v.2.2.2.2.2]
  up := fun ls => match ls with
    | [.lst a0 a1, .int a2, .int a3, .lst a4 a5] => some (a0, a1, a2, a3, a4, a5)
    | _ => none
  ok := by
    intro ls v h
    split at h
    · cases h; rfl
    · cases h

def sg_iliil : Sig (Int × Nat × List T × Int × Int × Nat × List T) where
  pk := fun v => [.int v.1, .lst v.2.1 v.2.2.1, .int v.2.2.2.1, .int v.2.2.2.2.1, .lst v.2.2.2.2.2.1 v.2.2.2.2.2.2]
  up := fun ls => match ls with
    | [.int a0, .lst a1 a2, .int a3, .int a4, .lst a5 a6] => some (a0, a1, a2, a3, a4, a5, a6)
    | _ => none
  ok := by
    intro ls v h
    split at h
    · cases h; rfl
    · cases h

def f112_s_l00Srcamong.P : List Arg := [⟨.iop, ⟨false, [.rf .own [.sl .shr [.leaf], .leaf, .leaf]], [.ref [.lst 0 [], .int .i64 0, .int .u64 0]]⟩⟩, ⟨.io, ⟨false, [.sl .own [.leaf]], [.lst 0 []]⟩⟩]
def f112_s_l00Srcamong.A : RAlt (Int × Nat × List T × Int × Int × Nat × List T) := .one ⟨[⟨false, [.leaf], [.int .i64 0]⟩], [some ⟨false, [.rf .own [.sl .shr [.leaf], .leaf, .leaf]], [.ref [.lst 0 [], .int .i64 0, .int .u64 0]]⟩, some ⟨false, [.sl .own [.leaf]], [.lst 0 []]⟩]⟩ sg_iliil
def f112_s_l00Srcamong.F (n : Nat) (v : Nat × List T × Int × Int × Nat × List T) := f112_s_l00Srcamong n v.1 v.2.1 v.2.2.1 v.2.2.2.1 v.2.2.2.2.1 v.2.2.2.2.2
noncomputable def f112_s_l00Srcamong.O (n : Nat) : Orc := orcOf (E := E) [f73_s_l00Srcpick.w] [] n
theorem f112_s_l00Srcamong.ok : ∀ n v x, f112_s_l00Srcamong.F n v = some x → evalFn E n 112 (flAs f112_s_l00Srcamong.P (sg_liil.pk v)) = some (f112_s_l00Srcamong.A.enc x) :=
  fn_pure (modes := (fdAt 112).ms) (outs := (fdAt 112).os) (results := (fdAt 112).rs) f112_s_l00Srcamong.O (c := c112) (keep := keepAt 112) (by kernel_rfl) (fun n => orcOf_cf _ _ n) (fun n => lpOk_of (bs := []) (by kernel_rfl) .nil) (fun _ => rfl) (fun _ _ => by kernel_rfl)
noncomputable def f112_s_l00Srcamong.w : FnW E := fnW 112 f112_s_l00Srcamong.P sg_liil f112_s_l00Srcamong.A f112_s_l00Srcamong.F f112_s_l00Srcamong.ok

def f74_s_l01From : Nat → Int → Option (Nat)
  | 0, _ => none
  | n + 1, i1 =>
    bd (xF32frombits n (IntKind.u32.wrap i1)) fun r2 =>
    let x3 : Nat := r2
    some x3
def sg_i : Sig (Int) where
  pk := fun v => [.int v]
  up := fun ls => match ls with
    | [.int a0] => some a0
    | _ => none
  ok := by
    intro ls v h
    split at h
    · cases h; rfl
    · cases h

def sg_f : Sig (Nat) where
  pk := fun v => [.flt v]
  up := fun ls => match ls with
    | [.flt a0] => some a0
    | _ => none
  ok := by
    intro ls v h
    split at h
    · cases h; rfl
    · cases h

def f74_s_l01From.P : List Arg := [⟨.val, ⟨false, [.leaf], [.int .i64 0]⟩⟩]
def f74_s_l01From.A : RAlt (Nat) := .one ⟨[⟨false, [.leaf], [.flt .f32 0]⟩], [none]⟩ sg_f
def f74_s_l01From.F (n : Nat) (v : Int) := f74_s_l01From n v
noncomputable def f74_s_l01From.O (n : Nat) : Orc := orcOf (E := E) [x93.w] [] n
theorem f74_s_l01From.ok : ∀ n v x, f74_s_l01From.F n v = some x → evalFn E n 74 (flAs f74_s_l01From.P (sg_i.pk v)) = some (f74_s_l01From.A.enc x) :=
  fn_pure (modes := (fdAt 74).ms) (outs := (fdAt 74).os) (results := (fdAt 74).rs) f74_s_l01From.O (c := c74) (keep := keepAt 74) (by kernel_rfl) (fun n => orcOf_cf _ _ n) (fun n => lpOk_of (bs := []) (by kernel_rfl) .nil) (fun _ => rfl) (fun _ _ => by kernel_rfl)
noncomputable def f74_s_l01From.w : FnW E := fnW 74 f74_s_l01From.P sg_i f74_s_l01From.A f74_s_l01From.F f74_s_l01From.ok

def f75_s_l01DrawFloat : Nat → Nat → List T → Int → Int → Option (Nat × Nat × List T × Int × Int)
  | 0, _, _, _, _ => none
  | n + 1, n1, l2, i3, i4 =>
    bd (f72_s_l00Srcone n n1 l2 i3 i4 (12 : Int)) fun r5 =>
    let b6 : Bool := r5.1
    let n7 : Nat := r5.2.1
    let l8 : List T := r5.2.2.1
    let i9 : Int := r5.2.2.2.1
    let i10 : Int := r5.2.2.2.2
    br (!b6) (
     bd (f80_s_l01DrawPlain n n7 l8 i9 i10) fun r11 =>
     let x12 : Nat := r11.1
     let n13 : Nat := r11.2.1
     let l14 : List T := r11.2.2.1
     let i15 : Int := r11.2.2.2.1
     let i16 : Int := r11.2.2.2.2
     some (x12, n13, l14, i15, i16)) (
     bd (f73_s_l00Srcpick n n7 l8 i9 i10 (4 : Int)) fun r17 =>
     let i18 : Int := r17.1
     let n19 : Nat := r17.2.1
     let l20 : List T := r17.2.2.1
     let i21 : Int := r17.2.2.2.1
     let i22 : Int := r17.2.2.2.2
     br (i18 == (0 : Int)) (
      bd (f112_s_l00Srcamong n n19 l20 i21 i22 10 (setN (setN (setN (setN (setN (setN (setN (setN (setN (setN (reps 10 [(T.int IntKind.i64 (0 : Int))]) 0 [(T.int IntKind.i64 (0 : Int))]) 1 [(T.int IntKind.i64 (2147483648 : Int))]) 2 [(T.int IntKind.i64 (2139095040 : Int))]) 3 [(T.int IntKind.i64 (4286578688 : Int))]) 4 [(T.int IntKind.i64 (2143289344 : Int))]) 5 [(T.int IntKind.i64 (1 : Int))]) 6 [(T.int IntKind.i64 (2139095039 : Int))]) 7 [(T.int IntKind.i64 (8388608 : Int))]) 8 [(T.int IntKind.i64 (8388607 : Int))]) 9 [(T.int IntKind.i64 (2147483649 : Int))])) fun r23 =>
      let i24 : Int := r23.1
      let n25 : Nat := r23.2.1
      let l26 : List T := r23.2.2.1
      let i27 : Int := r23.2.2.2.1
      let i28 : Int := r23.2.2.2.2.1
      let n29 : Nat := r23.2.2.2.2.2.1
      let l30 : List T := r23.2.2.2.2.2.2
      bd (f74_s_l01From n i24) fun r31 =>
      let x32 : Nat := r31
      some (x32, n25, l26, i27, i28)) (
      br (i18 == (1 : Int)) (
       bd (f73_s_l00Srcpick n n19 l20 i21 i22 (65536 : Int)) fun r33 =>
       let i34 : Int := r33.1
       let n35 : Nat := r33.2.1
       let l36 : List T := r33.2.2.1
       let i37 : Int := r33.2.2.2.1
       let i38 : Int := r33.2.2.2.2
       let i39 : Int := (IntKind.i64.wrap (i34 * (65536 : Int)))
       bd (f73_s_l00Srcpick n n35 l36 i37 i38 (65536 : Int)) fun r40 =>
       let i41 : Int := r40.1
       let n42 : Nat := r40.2.1
       let l43 : List T := r40.2.2.1
       let i44 : Int := r40.2.2.2.1
       let i45 : Int := r40.2.2.2.2
       bd (f74_s_l01From n (IntKind.i64.wrap (i39 + i41))) fun r46 =>
       let x47 : Nat := r46
       some (x47, n42, l43, i44, i45)) (
       br (i18 == (2 : Int)) (
        bd (f73_s_l00Srcpick n n19 l20 i21 i22 (65536 : Int)) fun r48 =>
        let i49 : Int := r48.1
        let n50 : Nat := r48.2.1
        let l51 : List T := r48.2.2.1
        let i52 : Int := r48.2.2.2.1
        let i53 : Int := r48.2.2.2.2
        bd (f74_s_l01From n (IntKind.i64.wrap (i49 * (65536 : Int)))) fun r54 =>
        let x55 : Nat := r54
        some (x55, n50, l51, i52, i53)) (
        bd (f80_s_l01DrawPlain n n19 l20 i21 i22) fun r56 =>
        let x57 : Nat := r56.1
        let n58 : Nat := r56.2.1
        let l59 : List T := r56.2.2.1
        let i60 : Int := r56.2.2.2.1
        let i61 : Int := r56.2.2.2.2
        bd (f112_s_l00Srcamong n n58 l59 i60 i61 4 (setN (setN (setN (setN (reps 4 [(T.int IntKind.i64 (0 : Int))]) 0 [(T.int IntKind.i64 (8388608 : Int))]) 1 [(T.int IntKind.i64 (2130706432 : Int))]) 2 [(T.int IntKind.i64 (1610612736 : Int))]) 3 [(T.int IntKind.i64 (536870912 : Int))])) fun r62 =>
        let i63 : Int := r62.1
        let n64 : Nat := r62.2.1
        let l65 : List T := r62.2.2.1
        let i66 : Int := r62.2.2.2.1
        let i67 : Int := r62.2.2.2.2.1
        let n68 : Nat := r62.2.2.2.2.2.1
        let l69 : List T := r62.2.2.2.2.2.2
        bd (f74_s_l01From n i63) fun r70 =>
        let x71 : Nat := r70
        some ((fmul FloatKind.f32 x57 x71), n64, l65, i66, i67)))))
def f75_s_l01DrawFloat.P : List Arg := [⟨.iop, ⟨false, [.rf .own [.sl .shr [.leaf], .leaf, .leaf]], [.ref [.lst 0 [], .int .i64 0, .int .u64 0]]⟩⟩]
def f75_s_l01DrawFloat.A : RAlt (Nat × Nat × List T × Int × Int) := .one ⟨[⟨false, [.leaf], [.flt .f32 0]⟩], [some ⟨false, [.rf .own [.sl .shr [.leaf], .leaf, .leaf]], [.ref [.lst 0 [], .int .i64 0, .int .u64 0]]⟩]⟩ sg_flii
def f75_s_l01DrawFloat.F (n : Nat) (v : Nat × List T × Int × Int) := f75_s_l01DrawFloat n v.1 v.2.1 v.2.2.1 v.2.2.2
noncomputable def f75_s_l01DrawFloat.O (n : Nat) : Orc := orcOf (E := E) [f73_s_l00Srcpick.w, f72_s_l00Srcone.w, f80_s_l01DrawPlain.w, f112_s_l00Srcamong.w, f74_s_l01From.w] [] n
theorem f75_s_l01DrawFloat.ok : ∀ n v x, f75_s_l01DrawFloat.F n v = some x → evalFn E n 75 (flAs f75_s_l01DrawFloat.P (sg_lii.pk v)) = some (f75_s_l01DrawFloat.A.enc x) :=
  fn_pure (modes := (fdAt 75).ms) (outs := (fdAt 75).os) (results := (fdAt 75).rs) f75_s_l01DrawFloat.O (c := c75) (keep := keepAt 75) (by kernel_rfl) (fun n => orcOf_cf _ _ n) (fun n => lpOk_of (bs := []) (by kernel_rfl) .nil) (fun _ => rfl) (fun _ _ => by kernel_rfl)
noncomputable def f75_s_l01DrawFloat.w : FnW E := fnW 75 f75_s_l01DrawFloat.P sg_lii f75_s_l01DrawFloat.A f75_s_l01DrawFloat.F f75_s_l01DrawFloat.ok

def f91_s_l01DrawFloats.l0 (n : Nat) : Nat → Nat → List T → Int → Int → Int → Nat → List T → Bool → Option (Nat × List T × Int × Int × Nat × List T)
  | 0, _, _, _, _, _, _, _, _ => none
  | m + 1, n1, l2, i3, i4, i5, n6, l7, b8 =>
    br (decide (i5 > (0 : Int))) (
     br b8 (
      bd (f75_s_l01DrawFloat n n1 l2 i3 i4) fun r9 =>
      let x10 : Nat := r9.1
      let n11 : Nat := r9.2.1
      let l12 : List T := r9.2.2.1
      let i13 : Int := r9.2.2.2.1
      let i14 : Int := r9.2.2.2.2
      gd (Nat.ble (n6 + 1) 2147483648) (
      let n15 : Nat := (n6 + 1)
      let l16 : List T := (l7 ++ (setN (reps 1 [(T.flt FloatKind.f32 0)]) 0 [(T.flt FloatKind.f32 x10)]))
      f91_s_l01DrawFloats.l0 n m n11 l12 i13 i14 (IntKind.i64.wrap (i5 - (1 : Int))) n15 l16 b8)) (
      bd (f80_s_l01DrawPlain n n1 l2 i3 i4) fun r17 =>
      let x18 : Nat := r17.1
      let n19 : Nat := r17.2.1
      let l20 : List T := r17.2.2.1
      let i21 : Int := r17.2.2.2.1
      let i22 : Int := r17.2.2.2.2
      gd (Nat.ble (n6 + 1) 2147483648) (
      let n23 : Nat := (n6 + 1)
      let l24 : List T := (l7 ++ (setN (reps 1 [(T.flt FloatKind.f32 0)]) 0 [(T.flt FloatKind.f32 x18)]))
      f91_s_l01DrawFloats.l0 n m n19 l20 i21 i22 (IntKind.i64.wrap (i5 - (1 : Int))) n23 l24 b8))) (
     some (n1, l2, i3, i4, n6, l7))
def f91_s_l01DrawFloats : Nat → Nat → List T → Int → Int → Int → Option (Nat × List T × Nat × List T × Int × Int)
  | 0, _, _, _, _, _ => none
  | n + 1, n1, l2, i3, i4, i5 =>
    bd (f72_s_l00Srcone n n1 l2 i3 i4 (4 : Int)) fun r6 =>
    let b7 : Bool := r6.1
    let n8 : Nat := r6.2.1
    let l9 : List T := r6.2.2.1
    let i10 : Int := r6.2.2.2.1
    let i11 : Int := r6.2.2.2.2
    bd (f91_s_l01DrawFloats.l0 n n n8 l9 i10 i11 i5 0 (reps 0 [(T.flt FloatKind.f32 0)]) b7) fun r12 =>
    let n13 : Nat := r12.1
    let l14 : List T := r12.2.1
    let i15 : Int := r12.2.2.1
    let i16 : Int := r12.2.2.2.1
    let n17 : Nat := r12.2.2.2.2.1
    let l18 : List T := r12.2.2.2.2.2
    some (n17, l18, n13, l14, i15, i16)
def sg_llii : Sig (Nat × List T × Nat × List T × Int × Int) where
  pk := fun v => [.lst v.1 v.2.1, .lst v.2.2.1 v.2.2.2.1, .int v.2.2.2.2.1, .int v.2.2.2.2.2]
  up := fun ls => match ls with
    | [.lst a0 a1, .lst a2 a3, .int a4, .int a5] => some (a0, a1, a2, a3, a4, a5)
    | _ => none
  ok := by
    intro ls v h
    split at h
    · cases h; rfl
    · cases h

def sg_liiilb : Sig (Nat × List T × Int × Int × Int × Nat × List T × Bool) where
  pk := fun v => [.lst v.1 v.2.1, .int v.2.2.1, .int v.2.2.2.1, .int v.2.2.2.2.1, .lst v.2.2.2.2.2.1 v.2.2.2.2.2.2.1, .bool v.2.2.2.2.2.2.2]
  up := fun ls => match ls with
    | [.lst a0 a1, .int a2, .int a3, .int a4, .lst a5 a6, .bool a7] => some (a0, a1, a2, a3, a4, a5, a6, a7)
    | _ => none
  ok := by
    intro ls v h
    split at h
    · cases h; rfl
    · cases h

def f91_s_l01DrawFloats.l0.P : AS := ⟨[(0, .box [.sl .shr [.leaf], .leaf, .leaf] [.lst 0 [], .int .i64 0, .int .u64 0] [] 0), (1, .val false [.leaf] [.int .i64 0] [] 0), (5, .val false [.sl .own [.leaf]] [.lst 0 []] [] 0), (6, .val false [.leaf] [.bool false] [] 0)], 0⟩
def f91_s_l01DrawFloats.l0.A : Alt (Nat × List T × Int × Int × Nat × List T) := .one (.exit 0) ⟨[(0, .box [.sl .shr [.leaf], .leaf, .leaf] [.lst 0 [], .int .i64 0, .int .u64 0] [] 0), (5, .val false [.sl .own [.leaf]] [.lst 0 []] [] 0)], 0⟩ sg_liil
def f91_s_l01DrawFloats.l0.F (n m : Nat) (v : Nat × List T × Int × Int × Int × Nat × List T × Bool) := f91_s_l01DrawFloats.l0 n m v.1 v.2.1 v.2.2.1 v.2.2.2.1 v.2.2.2.2.1 v.2.2.2.2.2.1 v.2.2.2.2.2.2.1 v.2.2.2.2.2.2.2
def f91_s_l01DrawFloats.l0.W (n : Nat) : LpW := .of 48 f91_s_l01DrawFloats.l0.P sg_liiilb f91_s_l01DrawFloats.l0.A (f91_s_l01DrawFloats.l0.F n n)
def f91_s_l01DrawFloats.P : List Arg := [⟨.iop, ⟨false, [.rf .own [.sl .shr [.leaf], .leaf, .leaf]], [.ref [.lst 0 [], .int .i64 0, .int .u64 0]]⟩⟩, ⟨.val, ⟨false, [.leaf], [.int .i64 0]⟩⟩]
def f91_s_l01DrawFloats.A : RAlt (Nat × List T × Nat × List T × Int × Int) := .one ⟨[⟨false, [.sl .own [.leaf]], [.lst 0 []]⟩], [some ⟨false, [.rf .own [.sl .shr [.leaf], .leaf, .leaf]], [.ref [.lst 0 [], .int .i64 0, .int .u64 0]]⟩, none]⟩ sg_llii
def f91_s_l01DrawFloats.F (n : Nat) (v : Nat × List T × Int × Int × Int) := f91_s_l01DrawFloats n v.1 v.2.1 v.2.2.1 v.2.2.2.1 v.2.2.2.2
noncomputable def f91_s_l01DrawFloats.O (n : Nat) : Orc := orcOf (E := E) [f72_s_l00Srcone.w, f80_s_l01DrawPlain.w, f75_s_l01DrawFloat.w] [f91_s_l01DrawFloats.l0.W n] n
theorem f91_s_l01DrawFloats.l0.ok (n : Nat) : LpOk (f91_s_l01DrawFloats.O n) E (evalFn E n) n (keepAt 91) (.loop (loopAt c91 0)) :=
  lp_pure f91_s_l01DrawFloats.l0.P sg_liiilb f91_s_l01DrawFloats.l0.A (f91_s_l01DrawFloats.l0.F n) (orcOf_cf _ _ n) (lpOk_of (bs := []) (by kernel_rfl) .nil) (fun _ => rfl) (fun _ _ => by kernel_rfl) (fun _ _ _ => by kernel_rfl)
theorem f91_s_l01DrawFloats.ok : ∀ n v x, f91_s_l01DrawFloats.F n v = some x → evalFn E n 91 (flAs f91_s_l01DrawFloats.P (sg_liii.pk v)) = some (f91_s_l01DrawFloats.A.enc x) :=
  fn_pure (modes := (fdAt 91).ms) (outs := (fdAt 91).os) (results := (fdAt 91).rs) f91_s_l01DrawFloats.O (c := c91) (keep := keepAt 91) (by kernel_rfl) (fun n => orcOf_cf _ _ n) (fun n => lpOk_of (bs := [loopAt c91 0]) (by kernel_rfl) (.cons (f91_s_l01DrawFloats.l0.ok n) .nil)) (fun _ => rfl) (fun _ _ => by kernel_rfl)
noncomputable def f91_s_l01DrawFloats.w : FnW E := fnW 91 f91_s_l01DrawFloats.P sg_liii f91_s_l01DrawFloats.A f91_s_l01DrawFloats.F f91_s_l01DrawFloats.ok

def f35_s_R8Samples : Nat → Nat → List T → Int → Option (Nat × List T)
  | 0, _, _, _ => none
  | n + 1, n1, l2, i3 =>
    bd (f71_s_l00From n n1 l2) fun r4 =>
    let n5 : Nat := r4.1
    let l6 : List T := r4.2.1
    let i7 : Int := r4.2.2.1
    let i8 : Int := r4.2.2.2
    bd (f73_s_l00Srcpick n n5 l6 i7 i8 (IntKind.i64.wrap (i3 + (1 : Int)))) fun r9 =>
    let i10 : Int := r9.1
    let n11 : Nat := r9.2.1
    let l12 : List T := r9.2.2.1
    let i13 : Int := r9.2.2.2.1
    let i14 : Int := r9.2.2.2.2
    bd (f91_s_l01DrawFloats n n11 l12 i13 i14 i10) fun r15 =>
    let n16 : Nat := r15.1
    let l17 : List T := r15.2.1
    let n18 : Nat := r15.2.2.1
    let l19 : List T := r15.2.2.2.1
    let i20 : Int := r15.2.2.2.2.1
    let i21 : Int := r15.2.2.2.2.2
    some (n16, l17)
def sg_li : Sig (Nat × List T × Int) where
  pk := fun v => [.lst v.1 v.2.1, .int v.2.2]
  up := fun ls => match ls with
    | [.lst a0 a1, .int a2] => some (a0, a1, a2)
    | _ => none
  ok := by
    intro ls v h
    split at h
    · cases h; rfl
    · cases h

def f35_s_R8Samples.P : List Arg := [⟨.val, ⟨false, [.sl .shr [.leaf]], [.lst 0 []]⟩⟩, ⟨.val, ⟨false, [.leaf], [.int .i64 0]⟩⟩]
def f35_s_R8Samples.A : RAlt (Nat × List T) := .one ⟨[⟨false, [.sl .own [.leaf]], [.lst 0 []]⟩], [none, none]⟩ sg_l
def f35_s_R8Samples.F (n : Nat) (v : Nat × List T × Int) := f35_s_R8Samples n v.1 v.2.1 v.2.2
noncomputable def f35_s_R8Samples.O (n : Nat) : Orc := orcOf (E := E) [f71_s_l00From.w, f73_s_l00Srcpick.w, f91_s_l01DrawFloats.w] [] n
theorem f35_s_R8Samples.ok : ∀ n v x, f35_s_R8Samples.F n v = some x → evalFn E n 35 (flAs f35_s_R8Samples.P (sg_li.pk v)) = some (f35_s_R8Samples.A.enc x) :=
  fn_pure (modes := (fdAt 35).ms) (outs := (fdAt 35).os) (results := (fdAt 35).rs) f35_s_R8Samples.O (c := c35) (keep := keepAt 35) (by kernel_rfl) (fun n => orcOf_cf _ _ n) (fun n => lpOk_of (bs := []) (by kernel_rfl) .nil) (fun _ => rfl) (fun _ _ => by kernel_rfl)
noncomputable def f35_s_R8Samples.w : FnW E := fnW 35 f35_s_R8Samples.P sg_li f35_s_R8Samples.A f35_s_R8Samples.F f35_s_R8Samples.ok

def f23_l_r8At : Nat → Nat → List T → Int → Int → Option (Int)
  | 0, _, _, _, _ => none
  | n + 1, n1, l2, i3, i4 =>
    br (decide (i4 ≤ (1 : Int))) (
     some (0 : Int)) (
     br (decide (i3 ≥ ((n1 : Nat) : Int))) (
      some (0 : Int)) (
      gd ((decide (((0 : Int) ≤ i3) ∧ (i3 < ((n1 : Nat) : Int)))) && (okAt [(CK.int IntKind.u8)] l2 (Int.toNat i3))) (
      gd (!(decide (i4 = (0 : Int)))) (
      some (Int.tmod (IntKind.i64.wrap (iAt l2 (Int.toNat i3))) i4)))))
def f23_l_r8At.P : List Arg := [⟨.val, ⟨false, [.sl .shr [.leaf]], [.lst 0 []]⟩⟩, ⟨.val, ⟨false, [.leaf], [.int .i64 0]⟩⟩, ⟨.val, ⟨false, [.leaf], [.int .i64 0]⟩⟩]
def f23_l_r8At.A : RAlt (Int) := .one ⟨[⟨false, [.leaf], [.int .i64 0]⟩], [none, none, none]⟩ sg_i
def f23_l_r8At.F (n : Nat) (v : Nat × List T × Int × Int) := f23_l_r8At n v.1 v.2.1 v.2.2.1 v.2.2.2
noncomputable def f23_l_r8At.O (n : Nat) : Orc := orcOf (E := E) [] [] n
theorem f23_l_r8At.ok : ∀ n v x, f23_l_r8At.F n v = some x → evalFn E n 23 (flAs f23_l_r8At.P (sg_lii.pk v)) = some (f23_l_r8At.A.enc x) :=
  fn_pure (modes := (fdAt 23).ms) (outs := (fdAt 23).os) (results := (fdAt 23).rs) f23_l_r8At.O (c := c23) (keep := keepAt 23) (by kernel_rfl) (fun n => orcOf_cf _ _ n) (fun n => lpOk_of (bs := []) (by kernel_rfl) .nil) (fun _ => rfl) (fun _ _ => by kernel_rfl)
noncomputable def f23_l_r8At.w : FnW E := fnW 23 f23_l_r8At.P sg_lii f23_l_r8At.A f23_l_r8At.F f23_l_r8At.ok

def f82_i_areSamples : Nat → Nat → List T → Option (Bool)
  | 0, _, _ => none
  | n + 1, n1, l2 =>
    some (decide (((n1 : Nat) : Int) ≤ (256 : Int)))
def f82_i_areSamples.P : List Arg := [⟨.val, ⟨false, [.sl .shr [.leaf]], [.lst 0 []]⟩⟩]
def f82_i_areSamples.A : RAlt (Bool) := .one ⟨[⟨false, [.leaf], [.bool false]⟩], [none]⟩ sg_b
def f82_i_areSamples.F (n : Nat) (v : Nat × List T) := f82_i_areSamples n v.1 v.2
noncomputable def f82_i_areSamples.O (n : Nat) : Orc := orcOf (E := E) [] [] n
theorem f82_i_areSamples.ok : ∀ n v x, f82_i_areSamples.F n v = some x → evalFn E n 82 (flAs f82_i_areSamples.P (sg_l.pk v)) = some (f82_i_areSamples.A.enc x) :=
  fn_pure (modes := (fdAt 82).ms) (outs := (fdAt 82).os) (results := (fdAt 82).rs) f82_i_areSamples.O (c := c82) (keep := keepAt 82) (by kernel_rfl) (fun n => orcOf_cf _ _ n) (fun n => lpOk_of (bs := []) (by kernel_rfl) .nil) (fun _ => rfl) (fun _ _ => by kernel_rfl)
noncomputable def f82_i_areSamples.w : FnW E := fnW 82 f82_i_areSamples.P sg_l f82_i_areSamples.A f82_i_areSamples.F f82_i_areSamples.ok

def f83_i_within : Nat → Int → Int → Int → Option (Bool)
  | 0, _, _, _ => none
  | n + 1, i1, i2, i3 =>
    br (decide (i2 ≤ i1)) (
     some (decide (i1 ≤ i3))) (
     some false)
def sg_iii : Sig (Int × Int × Int) where
  pk := fun v => [.int v.1, .int v.2.1, .int v.2.2]
  up := fun ls => match ls with
    | [.int a0, .int a1, .int a2] => some (a0, a1, a2)
    | _ => none
  ok := by
    intro ls v h
    split at h
    · cases h; rfl
    · cases h

def f83_i_within.P : List Arg := [⟨.val, ⟨false, [.leaf], [.int .i64 0]⟩⟩, ⟨.val, ⟨false, [.leaf], [.int .i64 0]⟩⟩, ⟨.val, ⟨false, [.leaf], [.int .i64 0]⟩⟩]
def f83_i_within.A : RAlt (Bool) := .one ⟨[⟨false, [.leaf], [.bool false]⟩], [none, none, none]⟩ sg_b
def f83_i_within.F (n : Nat) (v : Int × Int × Int) := f83_i_within n v.1 v.2.1 v.2.2
noncomputable def f83_i_within.O (n : Nat) : Orc := orcOf (E := E) [] [] n
theorem f83_i_within.ok : ∀ n v x, f83_i_within.F n v = some x → evalFn E n 83 (flAs f83_i_within.P (sg_iii.pk v)) = some (f83_i_within.A.enc x) :=
  fn_pure (modes := (fdAt 83).ms) (outs := (fdAt 83).os) (results := (fdAt 83).rs) f83_i_within.O (c := c83) (keep := keepAt 83) (by kernel_rfl) (fun n => orcOf_cf _ _ n) (fun n => lpOk_of (bs := []) (by kernel_rfl) .nil) (fun _ => rfl) (fun _ _ => by kernel_rfl)
noncomputable def f83_i_within.w : FnW E := fnW 83 f83_i_within.P sg_iii f83_i_within.A f83_i_within.F f83_i_within.ok

def f92_i_absolute : Nat → Nat → Option (Nat)
  | 0, _ => none
  | n + 1, x1 =>
    bd ((fltToFlt FloatKind.f32 x1 FloatKind.f64)) fun y2 =>
    bd (xAbs n y2) fun r3 =>
    let x4 : Nat := r3
    bd ((fltToFlt FloatKind.f64 x4 FloatKind.f32)) fun y5 =>
    some y5
def f92_i_absolute.P : List Arg := [⟨.val, ⟨false, [.leaf], [.flt .f32 0]⟩⟩]
def f92_i_absolute.A : RAlt (Nat) := .one ⟨[⟨false, [.leaf], [.flt .f32 0]⟩], [none]⟩ sg_f
def f92_i_absolute.F (n : Nat) (v : Nat) := f92_i_absolute n v
noncomputable def f92_i_absolute.O (n : Nat) : Orc := orcOf (E := E) [x115.w] [] n
theorem f92_i_absolute.ok : ∀ n v x, f92_i_absolute.F n v = some x → evalFn E n 92 (flAs f92_i_absolute.P (sg_f.pk v)) = some (f92_i_absolute.A.enc x) :=
  fn_pure (modes := (fdAt 92).ms) (outs := (fdAt 92).os) (results := (fdAt 92).rs) f92_i_absolute.O (c := c92) (keep := keepAt 92) (by kernel_rfl) (fun n => orcOf_cf _ _ n) (fun n => lpOk_of (bs := []) (by kernel_rfl) .nil) (fun _ => rfl) (fun _ _ => by kernel_rfl)
noncomputable def f92_i_absolute.w : FnW E := fnW 92 f92_i_absolute.P sg_f f92_i_absolute.A f92_i_absolute.F f92_i_absolute.ok

def f36_i_RunGate.l0 (n : Nat) : Nat → Nat → List T → Nat → Int → Int → Nat → List T → Nat → List T → Int → Int → Option (Int × Nat × List T)
  | 0, _, _, _, _, _, _, _, _, _, _, _ => none
  | m + 1, n1, l2, x3, i4, i5, n6, l7, n8, l9, i10, i11 =>
    br (decide (i11 < i10)) (
     gd ((decide (((0 : Int) ≤ i11) ∧ (i11 < ((n8 : Nat) : Int)))) && (okAt [(CK.flt FloatKind.f32)] l9 (Int.toNat i11))) (
     let x12 : Nat := (fAt l9 (Int.toNat i11))
     bd (f92_i_absolute n x12) fun r13 =>
     let x14 : Nat := r13
     br (fge FloatKind.f32 x14 x3) (
      gd (Nat.ble (n6 + 1) 2147483648) (
      let n15 : Nat := (n6 + 1)
      let l16 : List T := (l7 ++ (setN (reps 1 [(T.flt FloatKind.f32 0)]) 0 [(T.flt FloatKind.f32 x12)]))
      f36_i_RunGate.l0 n m n1 l2 x3 i4 i4 n15 l16 n8 l9 i10 (IntKind.i64.wrap (i11 + (1 : Int))))) (
      br (decide (i5 > (0 : Int))) (
       let i17 : Int := (IntKind.i64.wrap (i5 - (1 : Int)))
       gd (Nat.ble (n6 + 1) 2147483648) (
       let n18 : Nat := (n6 + 1)
       let l19 : List T := (l7 ++ (setN (reps 1 [(T.flt FloatKind.f32 0)]) 0 [(T.flt FloatKind.f32 x12)]))
       f36_i_RunGate.l0 n m n1 l2 x3 i4 i17 n18 l19 n8 l9 i10 (IntKind.i64.wrap (i11 + (1 : Int))))) (
       gd (Nat.ble (n6 + 1) 2147483648) (
       let n20 : Nat := (n6 + 1)
       let l21 : List T := (l7 ++ (setN (reps 1 [(T.flt FloatKind.f32 0)]) 0 [(T.flt FloatKind.f32 0)]))
       f36_i_RunGate.l0 n m n1 l2 x3 i4 i5 n20 l21 n8 l9 i10 (IntKind.i64.wrap (i11 + (1 : Int)))))))) (
     some (i5, n6, l7))
def f36_i_RunGate : Nat → Nat → List T → Nat → Int → Int → Option (Nat × List T × Int × Bool)
  | 0, _, _, _, _, _ => none
  | n + 1, n1, l2, x3, i4, i5 =>
    bd (f82_i_areSamples n n1 l2) fun r6 =>
    let b7 : Bool := r6
    br (!b7) (
     some (0, [], (0 : Int), false)) (
     bd (f83_i_within n i4 (0 : Int) (10000 : Int)) fun r8 =>
     let b9 : Bool := r8
     br (!b9) (
      some (0, [], (0 : Int), false)) (
      bd (f83_i_within n i5 (0 : Int) i4) fun r10 =>
      let b11 : Bool := r10
      br (!b11) (
       some (0, [], (0 : Int), false)) (
       bd (f36_i_RunGate.l0 n n n1 l2 x3 i4 i5 0 [] n1 l2 ((n1 : Nat) : Int) (0 : Int)) fun r12 =>
       let i13 : Int := r12.1
       let n14 : Nat := r12.2.1
       let l15 : List T := r12.2.2
       some (n14, l15, i13, true))))
def sg_lfii : Sig (Nat × List T × Nat × Int × Int) where
  pk := fun v => [.lst v.1 v.2.1, .flt v.2.2.1, .int v.2.2.2.1, .int v.2.2.2.2]
  up := fun ls => match ls with
    | [.lst a0 a1, .flt a2, .int a3, .int a4] => some (a0, a1, a2, a3, a4)
    | _ => none
  ok := by
    intro ls v h
    split at h
    · cases h; rfl
    · cases h

def sg_lib : Sig (Nat × List T × Int × Bool) where
  pk := fun v => [.lst v.1 v.2.1, .int v.2.2.1, .bool v.2.2.2]
  up := fun ls => match ls with
    | [.lst a0 a1, .int a2, .bool a3] => some (a0, a1, a2, a3)
    | _ => none
  ok := by
    intro ls v h
    split at h
    · cases h; rfl
    · cases h

def sg_lfiillii : Sig (Nat × List T × Nat × Int × Int × Nat × List T × Nat × List T × Int × Int) where
  pk := fun v => [.lst v.1 v.2.1, .flt v.2.2.1, .int v.2.2.2.1, .int v.2.2.2.2.1, .lst v.2.2.2.2.2.1 v.2.2.2.2.2.2.1, .lst v.2.2.2.2.2.2.2.1 v.2.2.2.2.2.2.2.2.1, .int v.2.2.2.2.2.2.2.2.2.1, .int v.2.2.2.2.2.2.2.2.2.2]
  up := fun ls => match ls with
    | [.lst a0 a1, .flt a2, .int a3, .int a4, .lst a5 a6, .lst a7 a8, .int a9, .int a10] => some (a0, a1, a2, a3, a4, a5, a6, a7, a8, a9, a10)
    | _ => none
  ok := by
    intro ls v h
    split at h
    · cases h; rfl
    · cases h

def sg_il : Sig (Int × Nat × List T) where
  pk := fun v => [.int v.1, .lst v.2.1 v.2.2]
  up := fun ls => match ls with
    | [.int a0, .lst a1 a2] => some (a0, a1, a2)
    | _ => none
  ok := by
    intro ls v h
    split at h
    · cases h; rfl
    · cases h

def f36_i_RunGate.l0.P : AS := ⟨[(0, .val false [.sl .shr [.leaf]] [.lst 0 []] [] 0), (1, .val false [.leaf] [.flt .f32 0] [] 0), (2, .val false [.leaf] [.int .i64 0] [] 0), (3, .val false [.leaf] [.int .i64 0] [] 0), (11, .val false [.sl .own [.leaf]] [.lst 0 []] [] 0), (28, .val false [.sl .shr [.leaf]] [.lst 0 []] [] 0), (29, .val false [.leaf] [.int .i64 0] [] 0), (30, .val false [.leaf] [.int .i64 0] [] 0)], 0⟩
def f36_i_RunGate.l0.A : Alt (Int × Nat × List T) := .one (.exit 0) ⟨[(3, .val false [.leaf] [.int .i64 0] [] 0), (11, .val false [.sl .own [.leaf]] [.lst 0 []] [] 0)], 0⟩ sg_il
def f36_i_RunGate.l0.F (n m : Nat) (v : Nat × List T × Nat × Int × Int × Nat × List T × Nat × List T × Int × Int) := f36_i_RunGate.l0 n m v.1 v.2.1 v.2.2.1 v.2.2.2.1 v.2.2.2.2.1 v.2.2.2.2.2.1 v.2.2.2.2.2.2.1 v.2.2.2.2.2.2.2.1 v.2.2.2.2.2.2.2.2.1 v.2.2.2.2.2.2.2.2.2.1 v.2.2.2.2.2.2.2.2.2.2
def f36_i_RunGate.l0.W (n : Nat) : LpW := .of 80 f36_i_RunGate.l0.P sg_lfiillii f36_i_RunGate.l0.A (f36_i_RunGate.l0.F n n)
def f36_i_RunGate.P : List Arg := [⟨.val, ⟨false, [.sl .shr [.leaf]], [.lst 0 []]⟩⟩, ⟨.val, ⟨false, [.leaf], [.flt .f32 0]⟩⟩, ⟨.val, ⟨false, [.leaf], [.int .i64 0]⟩⟩, ⟨.val, ⟨false, [.leaf], [.int .i64 0]⟩⟩]
def f36_i_RunGate.A : RAlt (Nat × List T × Int × Bool) := .one ⟨[⟨false, [.sl .own [.leaf]], [.lst 0 []]⟩, ⟨false, [.leaf], [.int .i64 0]⟩, ⟨false, [.leaf], [.bool false]⟩], [none, none, none, none]⟩ sg_lib
def f36_i_RunGate.F (n : Nat) (v : Nat × List T × Nat × Int × Int) := f36_i_RunGate n v.1 v.2.1 v.2.2.1 v.2.2.2.1 v.2.2.2.2
noncomputable def f36_i_RunGate.O (n : Nat) : Orc := orcOf (E := E) [f82_i_areSamples.w, f83_i_within.w, f92_i_absolute.w] [f36_i_RunGate.l0.W n] n
theorem f36_i_RunGate.l0.ok (n : Nat) : LpOk (f36_i_RunGate.O n) E (evalFn E n) n (keepAt 36) (.loop (loopAt c36 0)) :=
  lp_pure f36_i_RunGate.l0.P sg_lfiillii f36_i_RunGate.l0.A (f36_i_RunGate.l0.F n) (orcOf_cf _ _ n) (lpOk_of (bs := []) (by kernel_rfl) .nil) (fun _ => rfl) (fun _ _ => by kernel_rfl) (fun _ _ _ => by kernel_rfl)
theorem f36_i_RunGate.ok : ∀ n v x, f36_i_RunGate.F n v = some x → evalFn E n 36 (flAs f36_i_RunGate.P (sg_lfii.pk v)) = some (f36_i_RunGate.A.enc x) :=
  fn_pure (modes := (fdAt 36).ms) (outs := (fdAt 36).os) (results := (fdAt 36).rs) f36_i_RunGate.O (c := c36) (keep := keepAt 36) (by kernel_rfl) (fun n => orcOf_cf _ _ n) (fun n => lpOk_of (bs := [loopAt c36 0]) (by kernel_rfl) (.cons (f36_i_RunGate.l0.ok n) .nil)) (fun _ => rfl) (fun _ _ => by kernel_rfl)
noncomputable def f36_i_RunGate.w : FnW E := fnW 36 f36_i_RunGate.P sg_lfii f36_i_RunGate.A f36_i_RunGate.F f36_i_RunGate.ok

def f32_i_SameNumber : Nat → Nat → Nat → Option (Bool)
  | 0, _, _ => none
  | n + 1, x1, x2 =>
    br (fne FloatKind.f32 x1 x1) (
     br (fne FloatKind.f32 x1 x1) (
      some (fne FloatKind.f32 x2 x2)) (
      some false)) (
     br (fne FloatKind.f32 x2 x2) (
      br (fne FloatKind.f32 x1 x1) (
       some (fne FloatKind.f32 x2 x2)) (
       some false)) (
      bd (xF32bits n x1) fun r3 =>
      let i4 : Int := r3
      bd (xF32bits n x2) fun r5 =>
      let i6 : Int := r5
      some (i4 == i6)))
def sg_ff : Sig (Nat × Nat) where
  pk := fun v => [.flt v.1, .flt v.2]
  up := fun ls => match ls with
    | [.flt a0, .flt a1] => some (a0, a1)
    | _ => none
  ok := by
    intro ls v h
    split at h
    · cases h; rfl
    · cases h

def f32_i_SameNumber.P : List Arg := [⟨.val, ⟨false, [.leaf], [.flt .f32 0]⟩⟩, ⟨.val, ⟨false, [.leaf], [.flt .f32 0]⟩⟩]
def f32_i_SameNumber.A : RAlt (Bool) := .one ⟨[⟨false, [.leaf], [.bool false]⟩], [none, none]⟩ sg_b
def f32_i_SameNumber.F (n : Nat) (v : Nat × Nat) := f32_i_SameNumber n v.1 v.2
noncomputable def f32_i_SameNumber.O (n : Nat) : Orc := orcOf (E := E) [x87.w] [] n
theorem f32_i_SameNumber.ok : ∀ n v x, f32_i_SameNumber.F n v = some x → evalFn E n 32 (flAs f32_i_SameNumber.P (sg_ff.pk v)) = some (f32_i_SameNumber.A.enc x) :=
  fn_pure (modes := (fdAt 32).ms) (outs := (fdAt 32).os) (results := (fdAt 32).rs) f32_i_SameNumber.O (c := c32) (keep := keepAt 32) (by kernel_rfl) (fun n => orcOf_cf _ _ n) (fun n => lpOk_of (bs := []) (by kernel_rfl) .nil) (fun _ => rfl) (fun _ _ => by kernel_rfl)
noncomputable def f32_i_SameNumber.w : FnW E := fnW 32 f32_i_SameNumber.P sg_ff f32_i_SameNumber.A f32_i_SameNumber.F f32_i_SameNumber.ok

def f37_l_r8Same.l0 (n : Nat) : Nat → Nat → List T → Nat → List T → Int → Option ((Bool) ⊕ (Unit))
  | 0, _, _, _, _, _ => none
  | m + 1, n1, l2, n3, l4, i5 =>
    br (decide (i5 < ((n1 : Nat) : Int))) (
     gd ((decide (((0 : Int) ≤ i5) ∧ (i5 < ((n1 : Nat) : Int)))) && (okAt [(CK.flt FloatKind.f32)] l2 (Int.toNat i5))) (
     gd ((decide (((0 : Int) ≤ i5) ∧ (i5 < ((n3 : Nat) : Int)))) && (okAt [(CK.flt FloatKind.f32)] l4 (Int.toNat i5))) (
     bd (f32_i_SameNumber n (fAt l2 (Int.toNat i5)) (fAt l4 (Int.toNat i5))) fun r6 =>
     let b7 : Bool := r6
     br (!b7) (
      some (Sum.inl false)) (
      f37_l_r8Same.l0 n m n1 l2 n3 l4 (IntKind.i64.wrap (i5 + (1 : Int))))))) (
     some (Sum.inr ()))
def f37_l_r8Same : Nat → Nat → List T → Nat → List T → Option (Bool)
  | 0, _, _, _, _ => none
  | n + 1, n1, l2, n3, l4 =>
    br (((n1 : Nat) : Int) != ((n3 : Nat) : Int)) (
     some false) (
     bd (f37_l_r8Same.l0 n n n1 l2 n3 l4 (0 : Int)) fun r5 =>
     sm r5 (fun u6 =>
      let b7 : Bool := u6
      some b7) (fun u8 =>
      some true))
def sg_lli : Sig (Nat × List T × Nat × List T × Int) where
  pk := fun v => [.lst v.1 v.2.1, .lst v.2.2.1 v.2.2.2.1, .int v.2.2.2.2]
  up := fun ls => match ls with
    | [.lst a0 a1, .lst a2 a3, .int a4] => some (a0, a1, a2, a3, a4)
    | _ => none
  ok := by
    intro ls v h
    split at h
    · cases h; rfl
    · cases h

def sg : Sig (Unit) where
  pk := fun v => []
  up := fun ls => match ls with
    | [] => some ()
    | _ => none
  ok := by
    intro ls v h
    split at h
    · cases h; rfl
    · cases h

def f37_l_r8Same.l0.P : AS := ⟨[(0, .val false [.sl .shr [.leaf]] [.lst 0 []] [] 0), (1, .val false [.sl .shr [.leaf]] [.lst 0 []] [] 0), (5, .val false [.leaf] [.int .i64 0] [] 0)], 0⟩
def f37_l_r8Same.l0.A : Alt ((Bool) ⊕ (Unit)) := .or (.one .ret ⟨[(4, .val false [.leaf] [.bool false] [] 0)], 0⟩ sg_b) (.one (.exit 0) ⟨[(4, .dead)], 0⟩ sg)
def f37_l_r8Same.l0.F (n m : Nat) (v : Nat × List T × Nat × List T × Int) := f37_l_r8Same.l0 n m v.1 v.2.1 v.2.2.1 v.2.2.2.1 v.2.2.2.2
def f37_l_r8Same.l0.W (n : Nat) : LpW := .of 64 f37_l_r8Same.l0.P sg_lli f37_l_r8Same.l0.A (f37_l_r8Same.l0.F n n)
def f37_l_r8Same.P : List Arg := [⟨.val, ⟨false, [.sl .shr [.leaf]], [.lst 0 []]⟩⟩, ⟨.val, ⟨false, [.sl .shr [.leaf]], [.lst 0 []]⟩⟩]
def f37_l_r8Same.A : RAlt (Bool) := .one ⟨[⟨false, [.leaf], [.bool false]⟩], [none, none]⟩ sg_b
def f37_l_r8Same.F (n : Nat) (v : Nat × List T × Nat × List T) := f37_l_r8Same n v.1 v.2.1 v.2.2.1 v.2.2.2
noncomputable def f37_l_r8Same.O (n : Nat) : Orc := orcOf (E := E) [f32_i_SameNumber.w] [f37_l_r8Same.l0.W n] n
theorem f37_l_r8Same.l0.ok (n : Nat) : LpOk (f37_l_r8Same.O n) E (evalFn E n) n (keepAt 37) (.loop (loopAt c37 0)) :=
  lp_pure f37_l_r8Same.l0.P sg_lli f37_l_r8Same.l0.A (f37_l_r8Same.l0.F n) (orcOf_cf _ _ n) (lpOk_of (bs := []) (by kernel_rfl) .nil) (fun _ => rfl) (fun _ _ => by kernel_rfl) (fun _ _ _ => by kernel_rfl)
theorem f37_l_r8Same.ok : ∀ n v x, f37_l_r8Same.F n v = some x → evalFn E n 37 (flAs f37_l_r8Same.P (sg_ll.pk v)) = some (f37_l_r8Same.A.enc x) :=
  fn_pure (modes := (fdAt 37).ms) (outs := (fdAt 37).os) (results := (fdAt 37).rs) f37_l_r8Same.O (c := c37) (keep := keepAt 37) (by kernel_rfl) (fun n => orcOf_cf _ _ n) (fun n => lpOk_of (bs := [loopAt c37 0]) (by kernel_rfl) (.cons (f37_l_r8Same.l0.ok n) .nil)) (fun _ => rfl) (fun _ _ => by kernel_rfl)
noncomputable def f37_l_r8Same.w : FnW E := fnW 37 f37_l_r8Same.P sg_ll f37_l_r8Same.A f37_l_r8Same.F f37_l_r8Same.ok

def f7_l_FnGated.l0 (n : Nat) : Nat → Nat → List T → Nat → Int → Nat → List T → Int → Int → Option ((Bool) ⊕ (Unit))
  | 0, _, _, _, _, _, _, _, _ => none
  | m + 1, n1, l2, x3, i4, n5, l6, i7, i8 =>
    br (decide (i8 < ((n1 : Nat) : Int))) (
     gd (decide (((0 : Int) ≤ i8) ∧ (i8 < ((n1 : Nat) : Int)))) (
     gd (okAt [(CK.flt FloatKind.f32)] l2 (Int.toNat i8)) (
     br (fge FloatKind.f32 (fAt l2 (Int.toNat i8)) x3) (
      br (decide (i8 ≥ (0 : Int))) (
       br (decide ((IntKind.i64.wrap (i8 - i8)) ≤ i4)) (
        gd (decide (((0 : Int) ≤ i8) ∧ (i8 < ((n5 : Nat) : Int)))) (
        gd (okAt [(CK.flt FloatKind.f32)] l6 (Int.toNat i8)) (
        gd (decide (((0 : Int) ≤ i8) ∧ (i8 < ((n1 : Nat) : Int)))) (
        gd (okAt [(CK.flt FloatKind.f32)] l2 (Int.toNat i8)) (
        bd (f32_i_SameNumber n (fAt l6 (Int.toNat i8)) (fAt l2 (Int.toNat i8))) fun r9 =>
        let b10 : Bool := r9
        br (!b10) (
         some (Sum.inl false)) (
         f7_l_FnGated.l0 n m n1 l2 x3 i4 n5 l6 i8 (IntKind.i64.wrap (i8 + (1 : Int))))))))) (
        gd (decide (((0 : Int) ≤ i8) ∧ (i8 < ((n5 : Nat) : Int)))) (
        gd (okAt [(CK.flt FloatKind.f32)] l6 (Int.toNat i8)) (
        bd (f32_i_SameNumber n (fAt l6 (Int.toNat i8)) 0) fun r11 =>
        let b12 : Bool := r11
        br (!b12) (
         some (Sum.inl false)) (
         f7_l_FnGated.l0 n m n1 l2 x3 i4 n5 l6 i8 (IntKind.i64.wrap (i8 + (1 : Int)))))))) (
       gd (decide (((0 : Int) ≤ i8) ∧ (i8 < ((n5 : Nat) : Int)))) (
       gd (okAt [(CK.flt FloatKind.f32)] l6 (Int.toNat i8)) (
       bd (f32_i_SameNumber n (fAt l6 (Int.toNat i8)) 0) fun r13 =>
       let b14 : Bool := r13
       br (!b14) (
        some (Sum.inl false)) (
        f7_l_FnGated.l0 n m n1 l2 x3 i4 n5 l6 i8 (IntKind.i64.wrap (i8 + (1 : Int)))))))) (
      gd (decide (((0 : Int) ≤ i8) ∧ (i8 < ((n1 : Nat) : Int)))) (
      gd (okAt [(CK.flt FloatKind.f32)] l2 (Int.toNat i8)) (
      br (fge FloatKind.f32 (negF FloatKind.f32 (fAt l2 (Int.toNat i8))) x3) (
       br (decide (i8 ≥ (0 : Int))) (
        br (decide ((IntKind.i64.wrap (i8 - i8)) ≤ i4)) (
         gd (decide (((0 : Int) ≤ i8) ∧ (i8 < ((n5 : Nat) : Int)))) (
         gd (okAt [(CK.flt FloatKind.f32)] l6 (Int.toNat i8)) (
         gd (decide (((0 : Int) ≤ i8) ∧ (i8 < ((n1 : Nat) : Int)))) (
         gd (okAt [(CK.flt FloatKind.f32)] l2 (Int.toNat i8)) (
         bd (f32_i_SameNumber n (fAt l6 (Int.toNat i8)) (fAt l2 (Int.toNat i8))) fun r15 =>
         let b16 : Bool := r15
         br (!b16) (
          some (Sum.inl false)) (
          f7_l_FnGated.l0 n m n1 l2 x3 i4 n5 l6 i8 (IntKind.i64.wrap (i8 + (1 : Int))))))))) (
         gd (decide (((0 : Int) ≤ i8) ∧ (i8 < ((n5 : Nat) : Int)))) (
         gd (okAt [(CK.flt FloatKind.f32)] l6 (Int.toNat i8)) (
         bd (f32_i_SameNumber n (fAt l6 (Int.toNat i8)) 0) fun r17 =>
         let b18 : Bool := r17
         br (!b18) (
          some (Sum.inl false)) (
          f7_l_FnGated.l0 n m n1 l2 x3 i4 n5 l6 i8 (IntKind.i64.wrap (i8 + (1 : Int)))))))) (
        gd (decide (((0 : Int) ≤ i8) ∧ (i8 < ((n5 : Nat) : Int)))) (
        gd (okAt [(CK.flt FloatKind.f32)] l6 (Int.toNat i8)) (
        bd (f32_i_SameNumber n (fAt l6 (Int.toNat i8)) 0) fun r19 =>
        let b20 : Bool := r19
        br (!b20) (
         some (Sum.inl false)) (
         f7_l_FnGated.l0 n m n1 l2 x3 i4 n5 l6 i8 (IntKind.i64.wrap (i8 + (1 : Int)))))))) (
       br (decide (i7 ≥ (0 : Int))) (
        br (decide ((IntKind.i64.wrap (i8 - i7)) ≤ i4)) (
         gd (decide (((0 : Int) ≤ i8) ∧ (i8 < ((n5 : Nat) : Int)))) (
         gd (okAt [(CK.flt FloatKind.f32)] l6 (Int.toNat i8)) (
         gd (decide (((0 : Int) ≤ i8) ∧ (i8 < ((n1 : Nat) : Int)))) (
         gd (okAt [(CK.flt FloatKind.f32)] l2 (Int.toNat i8)) (
         bd (f32_i_SameNumber n (fAt l6 (Int.toNat i8)) (fAt l2 (Int.toNat i8))) fun r21 =>
         let b22 : Bool := r21
         br (!b22) (
          some (Sum.inl false)) (
          f7_l_FnGated.l0 n m n1 l2 x3 i4 n5 l6 i7 (IntKind.i64.wrap (i8 + (1 : Int))))))))) (
         gd (decide (((0 : Int) ≤ i8) ∧ (i8 < ((n5 : Nat) : Int)))) (
         gd (okAt [(CK.flt FloatKind.f32)] l6 (Int.toNat i8)) (
         bd (f32_i_SameNumber n (fAt l6 (Int.toNat i8)) 0) fun r23 =>
         let b24 : Bool := r23
         br (!b24) (
          some (Sum.inl false)) (
          f7_l_FnGated.l0 n m n1 l2 x3 i4 n5 l6 i7 (IntKind.i64.wrap (i8 + (1 : Int)))))))) (
        gd (decide (((0 : Int) ≤ i8) ∧ (i8 < ((n5 : Nat) : Int)))) (
        gd (okAt [(CK.flt FloatKind.f32)] l6 (Int.toNat i8)) (
        bd (f32_i_SameNumber n (fAt l6 (Int.toNat i8)) 0) fun r25 =>
        let b26 : Bool := r25
        br (!b26) (
         some (Sum.inl false)) (
         f7_l_FnGated.l0 n m n1 l2 x3 i4 n5 l6 i7 (IntKind.i64.wrap (i8 + (1 : Int)))))))))))))) (
     some (Sum.inr ()))
def f7_l_FnGated : Nat → Nat → List T → Nat → List T → Option (Bool)
  | 0, _, _, _, _ => none
  | n + 1, n1, l2, n3, l4 =>
    bd (f22_l_r8Long n n1 l2 n3 l4) fun r5 =>
    let b6 : Bool := r5
    br b6 (
     some true) (
     bd (f35_s_R8Samples n n3 l4 (16 : Int)) fun r7 =>
     let n8 : Nat := r7.1
     let l9 : List T := r7.2
     bd (f23_l_r8At n n1 l2 (0 : Int) (32 : Int)) fun r10 =>
     let i11 : Int := r10
     let x12 : Nat := (fdiv FloatKind.f32 (FloatKind.nearest FloatKind.f32 i11) 1098907648)
     bd (f23_l_r8At n n1 l2 (1 : Int) (5 : Int)) fun r13 =>
     let i14 : Int := r13
     bd (f23_l_r8At n n1 l2 (2 : Int) (IntKind.i64.wrap (((n8 : Nat) : Int) + (1 : Int)))) fun r15 =>
     let i16 : Int := r15
     bd (f36_i_RunGate n n8 l9 x12 i14 (0 : Int)) fun r17 =>
     let n18 : Nat := r17.1
     let l19 : List T := r17.2.1
     let i20 : Int := r17.2.2.1
     let b21 : Bool := r17.2.2.2
     gd (decide (((0 : Int) ≤ (0 : Int)) ∧ (((0 : Int) ≤ i16) ∧ (i16 ≤ ((n8 : Nat) : Int))))) (
     bd (f36_i_RunGate n ((Int.toNat i16) - 0) (List.take ((Int.toNat i16) - 0) (List.drop 0 l9)) x12 i14 (0 : Int)) fun r22 =>
     let n23 : Nat := r22.1
     let l24 : List T := r22.2.1
     let i25 : Int := r22.2.2.1
     let b26 : Bool := r22.2.2.2
     gd (decide (((0 : Int) ≤ i16) ∧ ((i16 ≤ ((n8 : Nat) : Int)) ∧ (((n8 : Nat) : Int) ≤ ((n8 : Nat) : Int))))) (
     bd (f36_i_RunGate n (n8 - (Int.toNat i16)) (List.take (n8 - (Int.toNat i16)) (List.drop (Int.toNat i16) l9)) x12 i14 i25) fun r27 =>
     let n28 : Nat := r27.1
     let l29 : List T := r27.2.1
     let i30 : Int := r27.2.2.1
     let b31 : Bool := r27.2.2.2
     br (!b21) (
      some false) (
      br (!b26) (
       some false) (
       br (!b31) (
        some false) (
        br (((n18 : Nat) : Int) != ((n8 : Nat) : Int)) (
         some false) (
         br (i20 != i30) (
          some false) (
          gd (Nat.ble (0 + n23) 2147483648) (
          gd (Nat.ble ((0 + n23) + n28) 2147483648) (
          bd (f37_l_r8Same n ((0 + n23) + n28) (((reps 0 [(T.flt FloatKind.f32 0)]) ++ l24) ++ l29) n18 l19) fun r32 =>
          let b33 : Bool := r32
          br (!b33) (
           some false) (
           bd (f7_l_FnGated.l0 n n n8 l9 x12 i14 n18 l19 (-1 : Int) (0 : Int)) fun r34 =>
           sm r34 (fun u35 =>
            let b36 : Bool := u35
            some b36) (fun u37 =>
            some true))))))))))))
def sg_lfilii : Sig (Nat × List T × Nat × Int × Nat × List T × Int × Int) where
  pk := fun v => [.lst v.1 v.2.1, .flt v.2.2.1, .int v.2.2.2.1, .lst v.2.2.2.2.1 v.2.2.2.2.2.1, .int v.2.2.2.2.2.2.1, .int v.2.2.2.2.2.2.2]
  up := fun ls => match ls with
    | [.lst a0 a1, .flt a2, .int a3, .lst a4 a5, .int a6, .int a7] => some (a0, a1, a2, a3, a4, a5, a6, a7)
    | _ => none
  ok := by
    intro ls v h
    split at h
    · cases h; rfl
    · cases h

def f7_l_FnGated.l0.P : AS := ⟨[(5, .val false [.sl .own [.leaf]] [.lst 0 []] [] 0), (6, .val false [.leaf] [.flt .f32 0] [] 0), (7, .val false [.leaf] [.int .i64 0] [] 0), (9, .val false [.sl .own [.leaf]] [.lst 0 []] [] 0), (18, .val false [.leaf] [.int .i64 0] [] 0), (19, .val false [.leaf] [.int .i64 0] [] 0)], 0⟩
def f7_l_FnGated.l0.A : Alt ((Bool) ⊕ (Unit)) := .or (.one .ret ⟨[(4, .val false [.leaf] [.bool false] [] 0)], 0⟩ sg_b) (.one (.exit 0) ⟨[(4, .dead)], 0⟩ sg)
def f7_l_FnGated.l0.F (n m : Nat) (v : Nat × List T × Nat × Int × Nat × List T × Int × Int) := f7_l_FnGated.l0 n m v.1 v.2.1 v.2.2.1 v.2.2.2.1 v.2.2.2.2.1 v.2.2.2.2.2.1 v.2.2.2.2.2.2.1 v.2.2.2.2.2.2.2
def f7_l_FnGated.l0.W (n : Nat) : LpW := .of 224 f7_l_FnGated.l0.P sg_lfilii f7_l_FnGated.l0.A (f7_l_FnGated.l0.F n n)
def f7_l_FnGated.P : List Arg := [⟨.val, ⟨false, [.sl .shr [.leaf]], [.lst 0 []]⟩⟩, ⟨.val, ⟨false, [.sl .shr [.leaf]], [.lst 0 []]⟩⟩]
def f7_l_FnGated.A : RAlt (Bool) := .one ⟨[⟨false, [.leaf], [.bool false]⟩], [none, none]⟩ sg_b
def f7_l_FnGated.F (n : Nat) (v : Nat × List T × Nat × List T) := f7_l_FnGated n v.1 v.2.1 v.2.2.1 v.2.2.2
noncomputable def f7_l_FnGated.O (n : Nat) : Orc := orcOf (E := E) [f22_l_r8Long.w, f35_s_R8Samples.w, f23_l_r8At.w, f36_i_RunGate.w, f32_i_SameNumber.w, f37_l_r8Same.w] [f7_l_FnGated.l0.W n] n
theorem f7_l_FnGated.l0.ok (n : Nat) : LpOk (f7_l_FnGated.O n) E (evalFn E n) n (keepAt 7) (.loop (loopAt c7 0)) :=
  lp_pure f7_l_FnGated.l0.P sg_lfilii f7_l_FnGated.l0.A (f7_l_FnGated.l0.F n) (orcOf_cf _ _ n) (lpOk_of (bs := []) (by kernel_rfl) .nil) (fun _ => rfl) (fun _ _ => by kernel_rfl) (fun _ _ _ => by kernel_rfl)
theorem f7_l_FnGated.ok : ∀ n v x, f7_l_FnGated.F n v = some x → evalFn E n 7 (flAs f7_l_FnGated.P (sg_ll.pk v)) = some (f7_l_FnGated.A.enc x) :=
  fn_pure (modes := (fdAt 7).ms) (outs := (fdAt 7).os) (results := (fdAt 7).rs) f7_l_FnGated.O (c := c7) (keep := keepAt 7) (by kernel_rfl) (fun n => orcOf_cf _ _ n) (fun n => lpOk_of (bs := [loopAt c7 0]) (by kernel_rfl) (.cons (f7_l_FnGated.l0.ok n) .nil)) (fun _ => rfl) (fun _ _ => by kernel_rfl)
noncomputable def f7_l_FnGated.w : FnW E := fnW 7 f7_l_FnGated.P sg_ll f7_l_FnGated.A f7_l_FnGated.F f7_l_FnGated.ok
end Go.Proofs.Ythgenpcoelihiaa.D
end
section
/- FnGated, in plain Lean. -/
namespace Go.Proofs.Ythgenpcoelihiaa.D
open Go Go.Desk
set_option linter.unusedVariables false
theorem s_from (n l : Nat) (c : List T) : f71_s_l00From (n + 1) l c = some (l, c, 0, 0) := by rw [f71_s_l00From]
theorem s_next (n : Nat) {bs : List Int} (hb : Bytes bs) {a : Int} (h0 : 0 ≤ a) (h1 : a ≤ 1125899906842624) (sd : Int) :
    ∃ r sd', (0 ≤ r ∧ r ≤ 255) ∧ f111_s_l00Srcnext (n + 1) bs.length (its .u8 bs) a sd = some (r, bs.length, its .u8 bs, a + 1, sd') := by
  rw [f111_s_l00Srcnext]
  rw [show IntKind.i64.wrap (a + 1) = a + 1 by rw [wrap64] <;> omega]
  cases h : decide (a < (bs.length : Int))
  · simp only [br_f]
    cases decide (a + 1 ≤ (bs.length : Int))
    · exact ⟨_, _, and255 _, rfl⟩
    · exact ⟨0, _, by omega, rfl⟩
  · simp only [decide_eq_true_eq] at h
    obtain ⟨i, rfl⟩ := Int.eq_ofNat_of_zero_le h0
    have hi : i < bs.length := by omega
    have hr := hb (bs[i]) (List.getElem_mem _)
    simp only [br_t, in_dec hi, Int.toNat_natCast, okAt_its hi, Bool.and_self, gd_t, iAt_its]
    rw [show bs.getD i 0 = bs[i] by simp [List.getD, hi], show IntKind.i64.wrap bs[i] = bs[i] by rw [wrap64] <;> omega]
    cases decide ((i : Int) + 1 ≤ (bs.length : Int))
    · exact ⟨_, _, and255 _, rfl⟩
    · exact ⟨_, _, hr, rfl⟩
theorem s_pick (n : Nat) {bs : List Int} (hb : Bytes bs) {a : Int} (h0 : 0 ≤ a) (h1 : a ≤ 1125899906842622) (sd k : Int) :
    ∃ r a' sd', (0 ≤ r ∧ (1 < k → r < k) ∧ (k ≤ 1 → r = 0)) ∧ (a ≤ a' ∧ a' ≤ a + 2) ∧ f73_s_l00Srcpick (n + 2) bs.length (its .u8 bs) a sd k = some (r, bs.length, its .u8 bs, a', sd') := by
  rw [f73_s_l00Srcpick]
  by_cases hk : k ≤ 1
  · rw [decide_eq_true hk]; exact ⟨0, a, sd, by omega, by omega, rfl⟩
  rw [decide_eq_false hk]
  obtain ⟨r, s1, hr, e1⟩ := s_next n hb h0 (by omega) sd
  simp only [br_f, e1, bd_s]
  have hk0 : (!decide (k = 0)) = true := by simp; omega
  by_cases hk2 : k > 200
  · rw [decide_eq_true hk2]
    obtain ⟨r', s2, hr', e2⟩ := s_next n hb (a := a + 1) (by omega) (by omega) s1
    simp only [br_t, e2, bd_s, hk0, gd_t]
    rw [show IntKind.i64.wrap (r * 256) = r * 256 by rw [wrap64] <;> omega, show IntKind.i64.wrap (r * 256 + r') = r * 256 + r' by rw [wrap64] <;> omega]
    refine ⟨_, _, _, ?_, ?_, rfl⟩
    · rw [Int.tmod_eq_emod_of_nonneg (by omega)]
      have := Int.emod_nonneg (r * 256 + r') (show k ≠ 0 by omega)
      have := Int.emod_lt_of_pos (r * 256 + r') (show 0 < k by omega)
      omega
    · omega
  · rw [decide_eq_false hk2]
    simp only [br_f, hk0, gd_t]
    refine ⟨_, _, _, ?_, ?_, rfl⟩
    · rw [Int.tmod_eq_emod_of_nonneg (by omega)]
      have := Int.emod_nonneg r (show k ≠ 0 by omega)
      have := Int.emod_lt_of_pos r (show 0 < k by omega)
      omega
    · omega
theorem s_one (n : Nat) {bs : List Int} (hb : Bytes bs) {a : Int} (h0 : 0 ≤ a) (h1 : a ≤ 1125899906842622) (sd k : Int) :
    ∃ r a' sd', (a ≤ a' ∧ a' ≤ a + 2) ∧ f72_s_l00Srcone (n + 3) bs.length (its .u8 bs) a sd k = some (r, bs.length, its .u8 bs, a', sd') := by
  obtain ⟨r, a', s', -, ha, e⟩ := s_pick n hb h0 h1 sd k
  rw [f72_s_l00Srcone, e]
  exact ⟨_, _, _, ha, rfl⟩
theorem s_plain (n : Nat) {bs : List Int} (hb : Bytes bs) {a : Int} (h0 : 0 ≤ a) (h1 : a ≤ 1125899906842620) (sd : Int) :
    ∃ x a' sd', Plain x ∧ (a ≤ a' ∧ a' ≤ a + 4) ∧ f80_s_l01DrawPlain (n + 4) bs.length (its .u8 bs) a sd = some (x, bs.length, its .u8 bs, a', sd') := by
  obtain ⟨r, a1, s1, hr, ha, e⟩ := s_pick (n + 1) hb h0 (by omega) sd 129
  obtain ⟨b, a2, s2, ha2, e2⟩ := s_one n hb (a := a1) (by omega) (by omega) s1 4
  rw [f80_s_l01DrawPlain, e]
  simp only [bd_s, e2]
  rw [show IntKind.i64.wrap (r - 64) = r - 64 by rw [wrap64] <;> omega]
  cases b
  · exact ⟨_, a2, s2, ⟨r - 64, by omega, .inr rfl⟩, by omega, rfl⟩
  · exact ⟨_, a2, s2, ⟨r - 64, by omega, .inl rfl⟩, by omega, rfl⟩
theorem s_among (n : Nat) {bs : List Int} (hb : Bytes bs) {a : Int} (h0 : 0 ≤ a) (h1 : a ≤ 1125899906842622) (sd : Int) (L : List Int) (hL : 0 < L.length) :
    ∃ r a' sd', r ∈ L ∧ (a ≤ a' ∧ a' ≤ a + 2) ∧ f112_s_l00Srcamong (n + 3) bs.length (its .u8 bs) a sd L.length (its .i64 L) = some (r, bs.length, its .u8 bs, a', sd', L.length, its .i64 L) := by
  obtain ⟨r, a1, s1, hr, ha, e⟩ := s_pick n hb h0 h1 sd (L.length : Int)
  rw [f112_s_l00Srcamong, e]
  obtain ⟨i, rfl⟩ := Int.eq_ofNat_of_zero_le hr.1
  have hi : i < L.length := by
    by_cases h : (L.length : Int) ≤ 1
    · have := hr.2.2 h; omega
    · have := hr.2.1 (by omega); omega
  simp only [bd_s, in_dec hi, Int.toNat_natCast, okAt_its hi, Bool.and_self, gd_t, iAt_its]
  refine ⟨_, _, _, ?_, ha, rfl⟩
  rw [show L.getD i 0 = L[i] by simp [List.getD, hi]]
  exact List.getElem_mem _
theorem s_from32 (n : Nat) {i : Int} (h0 : 0 ≤ i) (h1 : i < 4294967296) : ∃ x, W32 x ∧ f74_s_l01From (n + 2) i = some x := by
  rw [f74_s_l01From]
  refine ⟨canon .f32 i.toNat, w32_canon (by omega), ?_⟩
  rw [u32_wrap h0 h1]
  show bd (if 0 ≤ i then some (canon .f32 i.toNat) else none) _ = _
  rw [if_pos h0]; rfl
theorem s_float (n : Nat) {bs : List Int} (hb : Bytes bs) {a : Int} (h0 : 0 ≤ a) (h1 : a ≤ 1125899906842600) (sd : Int) :
    ∃ x a' sd', W32 x ∧ (a ≤ a' ∧ a' ≤ a + 16) ∧ f75_s_l01DrawFloat (n + 5) bs.length (its .u8 bs) a sd = some (x, bs.length, its .u8 bs, a', sd') := by
  obtain ⟨b, a1, s1, ha1, e1⟩ := s_one (n + 1) hb h0 (by omega) sd 12
  rw [f75_s_l01DrawFloat, e1]
  simp only [bd_s, br_not]
  cases b
  · obtain ⟨x, a2, s2, hx, ha2, e2⟩ := s_plain n hb (a := a1) (by omega) (by omega) s1
    simp only [br_f, e2, bd_s]
    exact ⟨_, _, _, hx.w32, by omega, rfl⟩
  obtain ⟨q, a2, s2, -, ha2, e2⟩ := s_pick (n + 2) hb (a := a1) (by omega) (by omega) s1 4
  simp only [br_t, e2, bd_s]
  cases q == 0
  case true =>
    obtain ⟨r, a3, s3, hr, ha3, e3⟩ := s_among (n + 1) hb (a := a2) (by omega) (by omega) s2 [0, 2147483648, 2139095040, 4286578688, 2143289344, 1, 2139095039, 8388608, 8388607, 2147483649] (by decide)
    have hr' : 0 ≤ r ∧ r < 4294967296 := by simp only [List.mem_cons, List.not_mem_nil, or_false] at hr; omega
    obtain ⟨x, hx, e4⟩ := s_from32 (n + 2) hr'.1 hr'.2
    rw [br_t]
    refine ⟨x, a3, s3, hx, by omega, ?_⟩
    refine Eq.trans (congrArg (fun o => bd o _) e3) ?_
    simp only [bd_s, e4]
  cases q == 1
  case true =>
    obtain ⟨r, a3, s3, hr, ha3, e3⟩ := s_pick (n + 2) hb (a := a2) (by omega) (by omega) s2 65536
    obtain ⟨r', a4, s4, hr', ha4, e4⟩ := s_pick (n + 2) hb (a := a3) (by omega) (by omega) s3 65536
    obtain ⟨x, hx, e5⟩ := s_from32 (n + 2) (i := r * 65536 + r') (by omega) (by omega)
    simp only [br_f, br_t, e3, e4, bd_s]
    rw [show IntKind.i64.wrap (r * 65536) = r * 65536 by rw [wrap64] <;> omega, show IntKind.i64.wrap (r * 65536 + r') = r * 65536 + r' by rw [wrap64] <;> omega, e5]
    exact ⟨x, _, _, hx, by omega, rfl⟩
  cases q == 2
  case true =>
    obtain ⟨r, a3, s3, hr, ha3, e3⟩ := s_pick (n + 2) hb (a := a2) (by omega) (by omega) s2 65536
    obtain ⟨x, hx, e5⟩ := s_from32 (n + 2) (i := r * 65536) (by omega) (by omega)
    simp only [br_f, br_t, e3, bd_s]
    rw [show IntKind.i64.wrap (r * 65536) = r * 65536 by rw [wrap64] <;> omega, e5]
    exact ⟨x, _, _, hx, by omega, rfl⟩
  obtain ⟨x, a3, s3, hx, ha3, e3⟩ := s_plain n hb (a := a2) (by omega) (by omega) s2
  obtain ⟨r, a4, s4, hr, ha4, e4⟩ := s_among (n + 1) hb (a := a3) (by omega) (by omega) s3 [8388608, 2130706432, 1610612736, 536870912] (by decide)
  have hr' : 0 ≤ r ∧ r < 4294967296 := by simp only [List.mem_cons, List.not_mem_nil, or_false] at hr; omega
  obtain ⟨y, hy, e5⟩ := s_from32 (n + 2) hr'.1 hr'.2
  simp only [br_f, e3, bd_s]
  refine ⟨_, a4, s4, w32_fmul x y, by omega, ?_⟩
  refine Eq.trans (congrArg (fun o => bd o _) e4) ?_
  simp only [bd_s, e5]
theorem s_floats_loop (n : Nat) {bs : List Int} (hb : Bytes bs) (str : Bool) : ∀ (j m : Nat) (a sd : Int) (acc : List Nat), 0 ≤ a → a + 16 * (j : Int) ≤ 1125899906842000 → acc.length + j ≤ 2147483647 → j < m → (∀ x ∈ acc, W32 x) →
    ∃ ys a' sd', ys.length = acc.length + j ∧ (∀ x ∈ ys, W32 x) ∧ (a ≤ a' ∧ a' ≤ a + 16 * (j : Int)) ∧
      f91_s_l01DrawFloats.l0 (n + 5) m bs.length (its .u8 bs) a sd (j : Int) acc.length (fls .f32 acc) str = some (bs.length, its .u8 bs, a', sd', ys.length, fls .f32 ys) := by
  intro j
  induction j with
  | zero =>
    intro m a sd acc h0 h1 hl hm hw
    obtain ⟨m, rfl⟩ : ∃ k, m = k + 1 := ⟨m - 1, by omega⟩
    rw [f91_s_l01DrawFloats.l0]
    exact ⟨acc, a, sd, by omega, hw, by omega, rfl⟩
  | succ j ih =>
    intro m a sd acc h0 h1 hl hm hw
    obtain ⟨m, rfl⟩ : ∃ k, m = k + 1 := ⟨m - 1, by omega⟩
    rw [f91_s_l01DrawFloats.l0, decide_eq_true (show (((j + 1 : Nat) : Int) > 0) by omega), show IntKind.i64.wrap (((j + 1 : Nat) : Int) - 1) = (j : Int) by rw [wrap64] <;> omega]
    have key : ∀ x a1 s1, W32 x → a ≤ a1 → a1 ≤ a + 16 → ∃ ys a' sd', ys.length = acc.length + (j + 1) ∧ (∀ x ∈ ys, W32 x) ∧ (a ≤ a' ∧ a' ≤ a + 16 * ((j + 1 : Nat) : Int)) ∧
        f91_s_l01DrawFloats.l0 (n + 5) m bs.length (its .u8 bs) a1 s1 (j : Int) (acc ++ [x]).length (fls .f32 (acc ++ [x])) str = some (bs.length, its .u8 bs, a', sd', ys.length, fls .f32 ys) := by
      intro x a1 s1 hx h2 h3
      obtain ⟨ys, a', sd', hy, hyw, ha, e⟩ := ih m a1 s1 (acc ++ [x]) (by omega) (by omega) (by simp; omega) (by omega) (by
        intro y hy; simp only [List.mem_append, List.mem_singleton] at hy; rcases hy with hy | rfl
        · exact hw y hy
        · exact hx)
      exact ⟨ys, a', sd', by simp at hy; omega, hyw, by omega, e⟩
    simp only [br_t]
    cases str
    · obtain ⟨x, a1, s1, hx, ha, e⟩ := s_plain (n + 1) hb h0 (by omega) sd
      simp only [br_f, e, bd_s, push_ok (show acc.length < 2147483648 by omega), gd_t, push_fls]
      rw [show acc.length + 1 = (acc ++ [x]).length by simp]
      exact key x a1 s1 hx.w32 (by omega) (by omega)
    · obtain ⟨x, a1, s1, hx, ha, e⟩ := s_float n hb h0 (by omega) sd
      simp only [br_t, e, bd_s, push_ok (show acc.length < 2147483648 by omega), gd_t, push_fls]
      rw [show acc.length + 1 = (acc ++ [x]).length by simp]
      exact key x a1 s1 hx (by omega) (by omega)
theorem s_floats (n : Nat) {bs : List Int} (hb : Bytes bs) {a : Int} (h0 : 0 ≤ a) (j : Nat) (h1 : a + 16 * (j : Int) ≤ 1125899906841000) (hj : j ≤ 2147483647) (hn : j < n) (sd : Int) :
    ∃ ys a' sd', ys.length = j ∧ (∀ x ∈ ys, W32 x) ∧ (a ≤ a' ∧ a' ≤ a + 2 + 16 * (j : Int)) ∧ f91_s_l01DrawFloats (n + 6) bs.length (its .u8 bs) a sd (j : Int) = some (ys.length, fls .f32 ys, bs.length, its .u8 bs, a', sd') := by
  obtain ⟨b, a1, s1, ha1, e1⟩ := s_one (n + 2) hb h0 (by omega) sd 4
  obtain ⟨ys, a2, s2, hy, hw, ha2, e2⟩ := s_floats_loop n hb b j (n + 5) a1 s1 [] (by omega) (by omega) (by simp; omega) (by omega) (by simp)
  rw [f91_s_l01DrawFloats, e1]
  refine ⟨ys, a2, s2, by simpa using hy, hw, by omega, ?_⟩
  have e2 : f91_s_l01DrawFloats.l0 (n + 5) (n + 5) bs.length (its .u8 bs) a1 s1 (j : Int) 0 (reps 0 [(T.flt FloatKind.f32 0)]) b = some (bs.length, its .u8 bs, a2, s2, ys.length, fls .f32 ys) := e2
  simp only [bd_s, e2]
theorem s_r8samples (n : Nat) {bs : List Int} (hb : Bytes bs) (k : Nat) (hk : k ≤ 1000) (hn : k < n) : ∃ xs, xs.length ≤ k ∧ (∀ x ∈ xs, W32 x) ∧ f35_s_R8Samples (n + 7) bs.length (its .u8 bs) (k : Int) = some (xs.length, fls .f32 xs) := by
  obtain ⟨r, a1, s1, hr, ha1, e1⟩ := s_pick (n + 4) hb (a := 0) (by omega) (by omega) 0 ((k : Int) + 1)
  obtain ⟨j, rfl⟩ := Int.eq_ofNat_of_zero_le hr.1
  have hj : j ≤ k := by omega
  obtain ⟨ys, a2, s2, hy, hw, ha2, e2⟩ := s_floats n hb (a := a1) (by omega) j (by omega) (by omega) (by omega) s1
  rw [f35_s_R8Samples, s_from, show IntKind.i64.wrap ((k : Int) + 1) = (k : Int) + 1 by rw [wrap64] <;> omega]
  simp only [bd_s, e1, e2]
  exact ⟨ys, by omega, hw, rfl⟩

theorem l_long (n : Nat) (bs cs : List Int) : f22_l_r8Long (n + 1) bs.length (its .u8 bs) cs.length (its .u8 cs) = some (decide (48 < bs.length ∨ 48 < cs.length)) := by
  rw [f22_l_r8Long]
  by_cases h : 48 < bs.length
  · rw [decide_eq_true (show (bs.length : Int) > 48 by omega), decide_eq_true (Or.inl h)]; rfl
  · rw [decide_eq_false (show ¬ (bs.length : Int) > 48 by omega), br_f]
    congr 1
    simp [h]; omega
theorem l_at (n : Nat) {bs : List Int} (hb : Bytes bs) {i k : Int} (hi : 0 ≤ i) (hk : 1 ≤ k) : ∃ r, (0 ≤ r ∧ r < k) ∧ f23_l_r8At (n + 1) bs.length (its .u8 bs) i k = some r := by
  rw [f23_l_r8At]
  by_cases h : k ≤ 1
  · rw [decide_eq_true h]; exact ⟨0, by omega, rfl⟩
  rw [decide_eq_false h]
  by_cases h2 : i ≥ (bs.length : Int)
  · rw [decide_eq_true h2]; exact ⟨0, by omega, rfl⟩
  rw [decide_eq_false h2]
  obtain ⟨i, rfl⟩ := Int.eq_ofNat_of_zero_le hi
  have hi : i < bs.length := by omega
  have hr := hb (bs[i]) (List.getElem_mem _)
  have hk0 : (!decide (k = 0)) = true := by simp; omega
  simp only [br_f, in_dec hi, Int.toNat_natCast, okAt_its hi, Bool.and_self, gd_t, iAt_its, hk0]
  rw [show bs.getD i 0 = bs[i] by simp [List.getD, hi], show IntKind.i64.wrap bs[i] = bs[i] by rw [wrap64] <;> omega]
  refine ⟨_, ?_, rfl⟩
  rw [Int.tmod_eq_emod_of_nonneg (by omega)]
  have := Int.emod_nonneg bs[i] (show k ≠ 0 by omega)
  have := Int.emod_lt_of_pos bs[i] (show 0 < k by omega)
  omega
theorem i_same (n : Nat) {x y : Nat} (hx : W32 x) (hy : W32 y) : f32_i_SameNumber (n + 2) x y = some (x == y) := by
  rw [f32_i_SameNumber]
  simp only [fne_nan]
  cases hn : isNaN .f32 x
  · cases hm : isNaN .f32 y
    · simp only [br_f]
      have e1 : ∀ z, isNaN .f32 z = false → xF32bits (n + 1) z = some (z : Int) := fun z hz => by simp [xF32bits, hz]
      simp only [e1 x hn, e1 y hm, bd_s, Option.some.injEq]
      rw [Bool.eq_iff_iff]; simp; constructor <;> omega
    · simp only [br_f, br_t]
      have : x ≠ y := fun e => by rw [e, hm] at hn; cases hn
      simp [this]
  · cases hm : isNaN .f32 y
    · simp only [br_f, br_t]
      have : x ≠ y := fun e => by rw [e, hm] at hn; cases hn
      simp [this]
    · simp only [br_t]
      have : x = y := by rw [← hx.2, ← hy.2, canon_nan hn, canon_nan hm]
      simp [this]
theorem l_same_loop (n : Nat) : ∀ (zs ys p q : List Nat) (m : Nat), ys.length = zs.length → p.length = q.length → (∀ x ∈ zs, W32 x) → (∀ x ∈ ys, W32 x) → p.length + zs.length ≤ 1048576 → zs.length < m →
    f37_l_r8Same.l0 (n + 2) m (p ++ zs).length (fls .f32 (p ++ zs)) (q ++ ys).length (fls .f32 (q ++ ys)) (p.length : Int) = some (if zs = ys then .inr () else .inl false) := by
  intro zs
  induction zs with
  | nil =>
    intro ys p q m hl hpq _ _ _ hm
    obtain ⟨m, rfl⟩ : ∃ k, m = k + 1 := ⟨m - 1, by omega⟩
    obtain rfl : ys = [] := List.length_eq_zero_iff.1 (by simpa using hl)
    rw [f37_l_r8Same.l0, lt_end]
    rfl
  | cons z zs ih =>
    intro ys p q m hl hpq hz hy hb hm
    obtain ⟨m, rfl⟩ : ∃ k, m = k + 1 := ⟨m - 1, by omega⟩
    cases ys with
    | nil => simp at hl
    | cons y ys =>
      rw [f37_l_r8Same.l0, lt_mid, in_mid]
      simp only [hpq, in_mid, toNat_len, okAt_mid]
      rw [← hpq]
      simp only [okAt_mid, fAt_mid, Bool.and_self, gd_t, br_t]
      rw [hpq]
      simp only [fAt_mid]
      rw [i_same n (hz z (by simp)) (hy y (by simp)), ← hpq]
      simp only [bd_s, br_not]
      cases h : z == y
      · simp only [beq_eq_false_iff_ne, ne_eq] at h
        simp [br_f, h]
      · simp only [beq_iff_eq] at h
        subst h
        rw [br_t, wrap_len (z := z) (by simp at hb; omega)]
        have := ih ys (p ++ [z]) (q ++ [z]) m (by simpa using hl) (by simp [hpq]) (fun x hx => hz x (by simp [hx])) (fun x hx => hy x (by simp [hx])) (by simp at hb ⊢; omega) (by simp at hm; omega)
        simpa using this
/-- two lists of numbers -/
theorem l_same (n : Nat) (xs ys : List Nat) (hx : ∀ x ∈ xs, W32 x) (hy : ∀ x ∈ ys, W32 x) (hl : xs.length ≤ 1048576) (hn : xs.length < n) : f37_l_r8Same (n + 3) xs.length (fls .f32 xs) ys.length (fls .f32 ys) = some (decide (xs = ys)) := by
  rw [f37_l_r8Same]
  by_cases h : ys.length = xs.length
  · rw [show (((xs.length : Nat) : Int) != ((ys.length : Nat) : Int)) = false by simp [h], br_f]
    have := l_same_loop n xs ys [] [] (n + 2) h rfl hx hy (by simpa using hl) (by omega)
    simp only [List.nil_append, List.length_nil] at this
    rw [show ((0 : Nat) : Int) = 0 from rfl] at this
    rw [this, bd_s]
    by_cases e : xs = ys
    · rw [if_pos e, decide_eq_true e]; rfl
    · rw [if_neg e, decide_eq_false e]; rfl
  · rw [show (((xs.length : Nat) : Int) != ((ys.length : Nat) : Int)) = true by simp; omega, decide_eq_false (fun e => h (by rw [e]))]
    rfl

theorem i_few (n k : Nat) (l : List T) : f82_i_areSamples (n + 1) k l = some (decide ((k : Int) ≤ 256)) := by rw [f82_i_areSamples]

theorem i_in (n : Nat) (a b c : Int) : f83_i_within (n + 1) a b c = some (decide (b ≤ a ∧ a ≤ c)) := by
  rw [f83_i_within]
  by_cases h : b ≤ a <;> simp [br, h]

theorem i_absolute (n : Nat) {x : Nat} (hg : W32 x) : f92_i_absolute (n + 2) x = some (size32 x) := by
  obtain ⟨h1, h2⟩ := abs_size hg.1 hg.2 n
  rw [f92_i_absolute, fltToFlt_wide]
  simp only [bd, h1, h2]

def gateStep (t : Nat) (hold : Int) (h : Int) (x : Nat) : Nat × Int := if fge .f32 (size32 x) t then (x, hold) else if h > 0 then (x, h - 1) else (0, h)
theorem gate_loop (n : Nat) (N : Nat) (cs : List T) (t : Nat) (hold : Int) (hh0 : 0 ≤ hold) (hh : hold ≤ 10000) : ∀ (zs p acc : List Nat) (h : Int) (m : Nat), (∀ x ∈ zs, W32 x) → 0 ≤ h → h ≤ 10000 → acc.length + zs.length < 1048576 → p.length + zs.length < 1048576 → zs.length < m →
    f36_i_RunGate.l0 (n + 2) m N cs t hold h acc.length (fls .f32 acc) (p ++ zs).length (fls .f32 (p ++ zs)) ((p ++ zs).length : Int) (p.length : Int) =
      some ((scan (gateStep t hold) h zs).2, (acc ++ (scan (gateStep t hold) h zs).1).length, fls .f32 (acc ++ (scan (gateStep t hold) h zs).1)) := by
  intro zs
  induction zs with
  | nil =>
    intro p acc h m _ _ _ _ _ hm
    obtain ⟨m, rfl⟩ : ∃ k, m = k + 1 := ⟨m - 1, by omega⟩
    rw [f36_i_RunGate.l0, lt_end]
    simp [br_f, scan]
  | cons z zs ih =>
    intro p acc h m hz h0 h1 ha hp hm
    obtain ⟨m, rfl⟩ : ∃ k, m = k + 1 := ⟨m - 1, by omega⟩
    have hp' : p.length < 1048576 := by simp at hp; omega
    have ha' : acc.length < 1048576 := by simp at ha; omega
    rw [f36_i_RunGate.l0, lt_mid, in_mid, toNat_len, okAt_mid, fAt_mid]
    simp only [br_t, gd_t, Bool.and_self, i_absolute n (hz z (by simp)), bd_s, push_ok (show acc.length < 2147483648 by omega), push_fls, wrap_len (z := z) (show p.length < 4611686018427387904 by omega)]
    have next : ∀ y h', 0 ≤ h' → h' ≤ 10000 → f36_i_RunGate.l0 (n + 2) m N cs t hold h' (acc.length + 1) (fls .f32 (acc ++ [y])) (p ++ z :: zs).length (fls .f32 (p ++ z :: zs)) ((p ++ z :: zs).length : Int) ((p ++ [z]).length : Int) =
        some ((scan (gateStep t hold) h' zs).2, (acc ++ y :: (scan (gateStep t hold) h' zs).1).length, fls .f32 (acc ++ y :: (scan (gateStep t hold) h' zs).1)) := by
      intro y h' h2 h3
      have := ih (p ++ [z]) (acc ++ [y]) h' m (fun x hx => hz x (by simp [hx])) h2 h3 (by simp at ha ⊢; omega) (by simp at hp ⊢; omega) (by simp at hm; omega)
      simpa using this
    simp only [scan]
    cases h2 : fge .f32 (size32 z) t
    · by_cases h3 : h > 0
      · rw [decide_eq_true h3]
        simp only [br_f, br_t, show IntKind.i64.wrap (h - 1) = h - 1 by rw [wrap64] <;> omega]
        have hs : gateStep t hold h z = (z, h - 1) := by simp [gateStep, h2, h3]
        rw [hs]
        exact next z (h - 1) (by omega) (by omega)
      · rw [decide_eq_false h3]
        simp only [br_f]
        have hs : gateStep t hold h z = (0, h) := by simp [gateStep, h2, h3]
        rw [hs]
        exact next 0 h (by omega) (by omega)
    · simp only [br_t]
      have hs : gateStep t hold h z = (z, hold) := by simp [gateStep, h2]
      rw [hs]
      exact next z hold hh0 hh
theorem gate (n : Nat) (xs : List Nat) (t : Nat) (hold h : Int) (hh0 : 0 ≤ hold) (hh : hold ≤ 10000) (h0 : 0 ≤ h) (h1 : h ≤ hold) (hx : ∀ x ∈ xs, W32 x) (hl : xs.length ≤ 256) (hn : xs.length < n) :
    f36_i_RunGate (n + 3) xs.length (fls .f32 xs) t hold h = some ((scan (gateStep t hold) h xs).1.length, fls .f32 (scan (gateStep t hold) h xs).1, (scan (gateStep t hold) h xs).2, true) := by
  rw [f36_i_RunGate, i_few, i_in, i_in, decide_eq_true (show (xs.length : Int) ≤ 256 by omega), decide_eq_true (show 0 ≤ hold ∧ hold ≤ 10000 by omega), decide_eq_true (show 0 ≤ h ∧ h ≤ hold by omega)]
  have e := gate_loop n xs.length (fls .f32 xs) t hold hh0 hh xs [] [] h (n + 2) hx h0 (by omega) (by simp; omega) (by simp; omega) (by omega)
  have e : f36_i_RunGate.l0 (n + 2) (n + 2) xs.length (fls .f32 xs) t hold h 0 [] xs.length (fls .f32 xs) (xs.length : Int) 0 = some ((scan (gateStep t hold) h xs).2, (scan (gateStep t hold) h xs).1.length, fls .f32 (scan (gateStep t hold) h xs).1) := e
  simp only [bd_s, br_not, br_t, e]
theorem gate_held (t : Nat) (hold : Int) (hh0 : 0 ≤ hold) : ∀ (xs : List Nat) (h : Int), 0 ≤ h → h ≤ hold → 0 ≤ (scan (gateStep t hold) h xs).2 ∧ (scan (gateStep t hold) h xs).2 ≤ hold := by
  intro xs
  induction xs with
  | nil => intro h h0 h1; exact ⟨h0, h1⟩
  | cons x xs ih =>
    intro h h0 h1
    simp only [scan]
    apply ih <;> unfold gateStep <;> split <;> (try split) <;> simp <;> omega
theorem gate_w32 (t : Nat) (hold : Int) : ∀ (xs : List Nat) (h : Int), (∀ x ∈ xs, W32 x) → ∀ y ∈ (scan (gateStep t hold) h xs).1, W32 y := by
  intro xs
  induction xs with
  | nil => intro h _ y hy; simp [scan] at hy
  | cons x xs ih =>
    intro h hx y hy
    simp only [scan, List.mem_cons] at hy
    rcases hy with rfl | hy
    · unfold gateStep; split
      · exact hx x (by simp)
      · split
        · exact hx x (by simp)
        · exact w32_zero
    · exact ih _ (fun z hz => hx z (by simp [hz])) y hy
/-- a size is great enough if the number or its opposite is -/
theorem size_ge {x t : Nat} (hx : W32 x) (ht : 0 ≤ key .f32 t) : fge .f32 (size32 x) t = (fge .f32 x t || fge .f32 (negF .f32 x) t) := by
  cases hn : isNaN .f32 x
  · rw [fge_key, fge_key, fge_key]
    have e1 := key_size32 hx.1 hn
    have e2 := key_negF32 hx.1 hn
    have e3 : isNaN .f32 (size32 x) = false := by rw [nan_size, hn]
    simp only [num2, hn, e3, isNaN_negF32 hx.1 hn, e1, e2, Bool.not_false, Bool.true_and]
    cases isNaN .f32 t
    · simp only [Bool.not_false, Bool.true_and]
      rw [Bool.eq_iff_iff]; simp; omega
    · rfl
  · have e3 : isNaN .f32 (size32 x) = true := by rw [nan_size, hn]
    have e4 : isNaN .f32 (negF .f32 x) = true := by unfold negF; rw [hn, if_pos rfl]; decide
    rw [fge_key, fge_key, fge_key]
    simp [num2, hn, e3, e4]
theorem told_loop (n : Nat) (t : Nat) (ht : 0 ≤ key .f32 t) (hold : Int) (hh0 : 0 ≤ hold) (hh : hold ≤ 10000) : ∀ (zs p q : List Nat) (o h : Int) (m : Nat), (∀ x ∈ zs, W32 x) → q.length = p.length →
    (o = -1 ∧ h = 0 ∨ 0 ≤ o ∧ o < p.length ∧ h = max 0 (hold - (p.length - 1 - o))) → p.length + zs.length < 1048576 → zs.length < m →
    f7_l_FnGated.l0 (n + 2) m (p ++ zs).length (fls .f32 (p ++ zs)) t hold (q ++ (scan (gateStep t hold) h zs).1).length (fls .f32 (q ++ (scan (gateStep t hold) h zs).1)) o (p.length : Int) = some (.inr ()) := by
  intro zs
  induction zs with
  | nil =>
    intro p q o h m _ _ _ _ hm
    obtain ⟨m, rfl⟩ : ∃ k, m = k + 1 := ⟨m - 1, by omega⟩
    rw [f7_l_FnGated.l0, lt_end]; rfl
  | cons z zs ih =>
    intro p q o h m hz hq ho hp hm
    obtain ⟨m, rfl⟩ : ∃ k, m = k + 1 := ⟨m - 1, by omega⟩
    have hp' : p.length < 1048576 := by simp at hp; omega
    rw [f7_l_FnGated.l0, lt_mid, in_mid, toNat_len, okAt_mid, fAt_mid]
    have hw := hz z (by simp)
    have hw2 : W32 (gateStep t hold h z).1 := by
      unfold gateStep; split
      · exact hw
      · split
        · exact hw
        · exact w32_zero
    have next : ∀ o' : Int, (o' = -1 ∧ (gateStep t hold h z).2 = 0 ∨ 0 ≤ o' ∧ o' < p.length + 1 ∧ (gateStep t hold h z).2 = max 0 (hold - (p.length - o'))) →
        f7_l_FnGated.l0 (n + 2) m (p ++ z :: zs).length (fls .f32 (p ++ z :: zs)) t hold (q ++ (scan (gateStep t hold) h (z :: zs)).1).length (fls .f32 (q ++ (scan (gateStep t hold) h (z :: zs)).1)) o' ((p.length + 1 : Nat) : Int) = some (.inr ()) := by
      intro o' ho'
      have := ih (p ++ [z]) (q ++ [(gateStep t hold h z).1]) o' (gateStep t hold h z).2 m (fun x hx => hz x (by simp [hx])) (by simp [hq]) (by simp; omega) (by simp at hp ⊢; omega) (by simp at hm; omega)
      simpa [scan] using this
    have e1 : okAt [.flt .f32] (fls .f32 (q ++ (scan (gateStep t hold) h (z :: zs)).1)) p.length = true := by rw [← hq]; exact okAt_mid
    have e2 : fAt (fls .f32 (q ++ (scan (gateStep t hold) h (z :: zs)).1)) p.length = (gateStep t hold h z).1 := by rw [← hq]; exact fAt_mid
    have e3 : decide ((0 : Int) ≤ (p.length : Int) ∧ (p.length : Int) < ((q ++ (scan (gateStep t hold) h (z :: zs)).1).length : Int)) = true := by rw [← hq]; exact in_mid
    have hsz := size_ge hw ht
    have hs1 : IntKind.i64.wrap ((p.length : Int) - (p.length : Int)) = 0 := by rw [Int.sub_self]; decide
    have hs2 : IntKind.i64.wrap ((p.length : Int) - o) = (p.length : Int) - o := by rw [wrap64] <;> omega
    have hs3 : IntKind.i64.wrap ((p.length : Int) + 1) = ((p.length + 1 : Nat) : Int) := wrap_succ (by omega)
    simp only [br_t, gd_t, e1, e2, e3, hs1, hs2, hs3, i_same n hw2 hw, i_same n hw2 w32_zero, bd_s, br_not]
    have open_ : fge .f32 (size32 z) t = true → gateStep t hold h z = (z, hold) := fun e => by simp [gateStep, e]
    have hge0 : decide ((p.length : Int) ≥ 0) = true := by simp
    have hle0 : decide ((0 : Int) ≤ hold) = true := by simp; omega
    have hit : fge .f32 (size32 z) t = true → (gateStep t hold h z).1 = z ∧ (gateStep t hold h z).2 = max 0 (hold - (p.length - (p.length : Int))) := fun e => by rw [open_ e]; exact ⟨rfl, by simp; omega⟩
    cases c1 : fge .f32 z t
    · cases c2 : fge .f32 (negF .f32 z) t
      · have hN : fge .f32 (size32 z) t = false := by rw [hsz, c1, c2]; rfl
        have hg : gateStep t hold h z = if h > 0 then (z, h - 1) else (0, h) := by simp [gateStep, hN]
        simp only [br_f]
        by_cases h1 : o ≥ 0
        · rw [decide_eq_true h1]
          simp only [br_t]
          by_cases h2 : (p.length : Int) - o ≤ hold
          · have h3 : h > 0 := by omega
            rw [if_pos h3] at hg
            rw [decide_eq_true h2, hg]
            simp only [br_t, beq_self_eq_true]
            exact next o (by rw [hg]; simp; omega)
          · have h3 : ¬ h > 0 := by omega
            rw [if_neg h3] at hg
            rw [decide_eq_false h2, hg]
            simp only [br_f, br_t, beq_self_eq_true]
            exact next o (by rw [hg]; simp; omega)
        · have h3 : ¬ h > 0 := by omega
          rw [if_neg h3] at hg
          rw [decide_eq_false h1, hg]
          simp only [br_f, br_t, beq_self_eq_true]
          exact next o (by rw [hg]; simp; omega)
      · have hN : fge .f32 (size32 z) t = true := by rw [hsz, c1, c2]; rfl
        simp only [br_f, br_t, hge0, hle0, (hit hN).1, beq_self_eq_true]
        exact next (p.length : Int) (.inr ⟨by omega, by omega, (hit hN).2⟩)
    · have hN : fge .f32 (size32 z) t = true := by rw [hsz, c1]; rfl
      simp only [br_t, hge0, hle0, (hit hN).1, beq_self_eq_true]
      exact next (p.length : Int) (.inr ⟨by omega, by omega, (hit hN).2⟩)
theorem sixteenth {i : Int} (h0 : 0 ≤ i) (h1 : i < 32) : 0 ≤ key .f32 (fdiv .f32 (FloatKind.f32.nearest i) 1098907648) := by
  obtain ⟨n, rfl⟩ := Int.eq_ofNat_of_zero_le h0
  have hn : n < 32 := by omega
  clear h0 h1
  revert n
  decide +kernel
theorem exact_ (cs : List Int) (hc : ∀ b ∈ cs, GoodI .u8 b) (lc : cs.length ≤ maxLen) (ms : List Int) (hm : ∀ b ∈ ms, GoodI .u8 b) (lm : ms.length ≤ maxLen) : ∃ n, f7_l_FnGated n cs.length (its .u8 cs) ms.length (its .u8 ms) = some true := by
  refine ⟨1000, ?_⟩
  suffices h : ∀ n, f7_l_FnGated (n + 500) cs.length (its .u8 cs) ms.length (its .u8 ms) = some true from h 500
  intro n
  rw [f7_l_FnGated, l_long]
  cases hlong : decide (48 < cs.length ∨ 48 < ms.length)
  case true => rfl
  obtain ⟨xs, hxl, hxw, e1⟩ := s_r8samples (n + 492) (bytes_of hm) 16 (by omega) (by omega)
  have e1 : f35_s_R8Samples (n + 499) ms.length (its .u8 ms) 16 = some (xs.length, fls .f32 xs) := e1
  obtain ⟨i1, h1, e2⟩ := l_at (n + 498) (bytes_of hc) (i := 0) (k := 32) (by omega) (by omega)
  obtain ⟨hold, h2, e3⟩ := l_at (n + 498) (bytes_of hc) (i := 1) (k := 5) (by omega) (by omega)
  obtain ⟨a, h3, e4⟩ := l_at (n + 498) (bytes_of hc) (i := 2) (k := (xs.length : Int) + 1) (by omega) (by omega)
  obtain ⟨a, rfl⟩ := Int.eq_ofNat_of_zero_le h3.1
  have ht := sixteenth h1.1 h1.2
  obtain ⟨t, hT⟩ : ∃ t, t = fdiv .f32 (FloatKind.f32.nearest i1) 1098907648 := ⟨_, rfl⟩
  rw [← hT] at ht
  have ha : a ≤ xs.length := by omega
  have g1 := gate (n + 496) xs t hold 0 (by omega) (by omega) (by omega) (by omega) hxw (by omega) (by omega)
  have g2 := gate (n + 496) (xs.take a) t hold 0 (by omega) (by omega) (by omega) (by omega) (fun x hx => hxw x (List.mem_of_mem_take hx)) (by rw [List.length_take]; omega) (by rw [List.length_take]; omega)
  obtain ⟨b0, b1⟩ := gate_held t hold (by omega) (xs.take a) 0 (by omega) (by omega)
  have g3 := gate (n + 496) (xs.drop a) t hold _ (by omega) (by omega) b0 b1 (fun x hx => hxw x (List.mem_of_mem_drop hx)) (by rw [List.length_drop]; omega) (by rw [List.length_drop]; omega)
  have hsplit := scan_append (gateStep t hold) 0 (xs.take a) (xs.drop a)
  rw [List.take_append_drop] at hsplit
  have hl2 : (xs.take a).length = a := by rw [List.length_take]; omega
  have hl3 : (xs.drop a).length = xs.length - a := List.length_drop
  have hlen := scan_length (gateStep t hold) 0 xs
  have hlen2 := scan_length (gateStep t hold) 0 (xs.take a)
  have hlen3 := scan_length (gateStep t hold) (scan (gateStep t hold) 0 (xs.take a)).2 (xs.drop a)
  rw [hl2] at g2
  rw [hl3] at g3
  simp only [br_f, br_not, bd_s, e1, e2, e3, show IntKind.i64.wrap ((xs.length : Int) + 1) = (xs.length : Int) + 1 by rw [wrap64] <;> omega, e4, ← hT, g1, Int.toNat_natCast, List.drop_zero, Nat.sub_zero]
  have q1 : decide ((0 : Int) ≤ 0 ∧ (0 : Int) ≤ (a : Int) ∧ (a : Int) ≤ (xs.length : Int)) = true := decide_eq_true (by omega)
  have q2 : decide ((0 : Int) ≤ (a : Int) ∧ (a : Int) ≤ (xs.length : Int) ∧ (xs.length : Int) ≤ (xs.length : Int)) = true := decide_eq_true (by omega)
  have q3 : (fls .f32 xs).take a = fls .f32 (xs.take a) := fls_take _ _ _
  have q4 : ((fls .f32 xs).drop a).take (xs.length - a) = fls .f32 (xs.drop a) := by rw [fls_drop, fls_take, List.take_of_length_le (by omega)]
  simp only [q1, q2, q3, q4, gd_t, bd_s, g2, g3, br_t]
  have told := told_loop (n + 497) t ht hold (by omega) (by omega) xs [] [] (-1) 0 (n + 499) hxw rfl (.inl ⟨rfl, rfl⟩) (by simp; omega) (by omega)
  have told : f7_l_FnGated.l0 (n + 499) (n + 499) xs.length (fls .f32 xs) t hold (scan (gateStep t hold) 0 xs).1.length (fls .f32 (scan (gateStep t hold) 0 xs).1) (-1) 0 = some (.inr ()) := told
  have hw := gate_w32 t hold xs 0 hxw
  rw [told, hlen]
  rw [hsplit] at hw hlen ⊢
  simp only at hw hlen ⊢
  rw [List.length_append] at hlen
  have q5 : reps 0 [T.flt FloatKind.f32 0] ++ fls .f32 (scan (gateStep t hold) 0 (xs.take a)).1 ++ fls .f32 (scan (gateStep t hold) (scan (gateStep t hold) 0 (xs.take a)).2 (xs.drop a)).1 = fls .f32 ((scan (gateStep t hold) 0 (xs.take a)).1 ++ (scan (gateStep t hold) (scan (gateStep t hold) 0 (xs.take a)).2 (xs.drop a)).1) := by
    rw [← fls_append]; rfl
  rw [q5, Nat.zero_add, hlen, le_ble (show xs.length ≤ 2147483648 by omega), le_ble (show (scan (gateStep t hold) 0 (xs.take a)).1.length ≤ 2147483648 by omega)]
  have same := l_same (n + 496) _ _ hw hw (by rw [List.length_append]; omega) (by rw [List.length_append]; omega)
  rw [List.length_append, hlen] at same
  have same : f37_l_r8Same (n + 499) xs.length _ xs.length _ = _ := same
  rw [same]
  simp [br, gd, bd, sm]
theorem law7 : ∀ args, LawArgs E Try.f7.params.toList args → ∃ N os, evalFn E N 7 args = some ⟨[⟨false, [.leaf], [.bool true]⟩], os⟩ := by
  intro args h0
  have hp : Try.f7.params.toList = [22, 22] := by kernel_rfl
  rw [hp] at h0
  obtain ⟨ts0, r0, rfl, hw0, h1⟩ := h0.cons_inv (d := ⟨false, 1, 24, [.sl .own [.leaf]], [.lst 0 []], .slc 5⟩) (by kernel_rfl)
  obtain ⟨n0, cs0, rfl, gl0, hs0⟩ := hw0.slc_inv (e := 5) (d := ⟨false, 1, 24, [.sl .own [.leaf]], [.lst 0 []], .slc 5⟩) (by kernel_rfl) rfl
  obtain ⟨a0, rfl, rfl, g0⟩ := hs0.ints (k := .u8) (d := ⟨false, 1, 1, [.leaf], [.int .u8 0], .int .u8⟩) (by kernel_rfl) rfl
  obtain ⟨ts1, r1, rfl, hw1, h2⟩ := h1.cons_inv (d := ⟨false, 1, 24, [.sl .own [.leaf]], [.lst 0 []], .slc 5⟩) (by kernel_rfl)
  obtain ⟨n1, cs1, rfl, gl1, hs1⟩ := hw1.slc_inv (e := 5) (d := ⟨false, 1, 24, [.sl .own [.leaf]], [.lst 0 []], .slc 5⟩) (by kernel_rfl) rfl
  obtain ⟨a1, rfl, rfl, g1⟩ := hs1.ints (k := .u8) (d := ⟨false, 1, 1, [.leaf], [.int .u8 0], .int .u8⟩) (by kernel_rfl) rfl
  obtain rfl := h2.nil_inv
  obtain ⟨N, hN⟩ := exact_ a0 g0 gl0 a1 g1 gl1
  exact ⟨N, _, f7_l_FnGated.ok N (a0.length, its .u8 a0, a1.length, its .u8 a1) true hN⟩


end Go.Proofs.Ythgenpcoelihiaa.D
end
section
/- FnGated holds: for every input the law returns true, and its arguments read as before. -/
namespace Go.Proofs.Ythgenpcoelihiaa.fnGated
open Go Go.ChangeShapes Go.WideShapes Go.ChangeAt Go.RowKit Go.Desk
set_option linter.unusedVariables false
theorem own : ownKnob Try.prog.godebug = none := by kernel_rfl
theorem laidOut : laidOutB Try.prog = true := by kernel_rfl
set_option maxRecDepth 100000 in
theorem lifted (os : Os) (started : os.Started) (H : Type) (enc : TypeId × Value → H) :
    ReturnsInHanded {} Try.checked os 7 .any (Rows.fnGatedSpec.pre6 enc Try.prog Try.f7 Rows.fnGatedRow.domain false) (Rows.fnGatedSpec.post enc Try.prog Try.f7 false true false false) := by
  refine returnsInHanded_of_change (C := Try.checked) own started (by kernel_rfl) Try.func7
    (ChangeSpec.witness6 (enc := enc) (C := Try.checked) false ⟨#[], #[.slice none 0 0, .slice none 0 0], []⟩ 8 (by kernel_rfl) (by kernel_rfl) (by kernel_rfl) (by kernel_rfl)) ?_
  intro W base args ds gs before hval hW hcnd _
  exact law_contract (c := D.c7) Try.checked.mixed D.tysOk D.fnOk Try.func7 (by kernel_rfl) (by kernel_rfl) (by kernel_rfl) Try.underlying4 rfl
    (fun ds h => by
      rw [show Try.f7.params.toList.length = 2 by kernel_rfl] at h
      match ds, h with
      | [_, _], _ => rfl)
    laidOut (N := 8) (by kernel_rfl) (by kernel_rfl) D.law7 hval hW
theorem over : Rows.fnGatedRow.holds Try.pinned (OpenSpec.ofChange Rows.fnGatedSpec) :=
  OpenClaim.holds_of_wide 7 Try.f7 rfl rfl rfl rfl rfl rfl rfl ⟨rfl, rfl, rfl, rfl, rfl⟩ rfl rfl rfl rfl rfl (by kernel_rfl) Try.func7 (by kernel_rfl)
    (of_decide_eq_true (by kernel_rfl)) (by unfold Func.isWrapper; first | (rw [if_pos (by decide +kernel)]; kernel_rfl) | (rw [if_neg (by decide +kernel)]; exact ⟨rfl, rfl⟩))
    (fun os started H enc _ => lifted os started H enc)
theorem proved : Rows.FnGatedSaid := over
#print axioms proved
end Go.Proofs.Ythgenpcoelihiaa.fnGated
namespace Go.Proofs.Ythgenpcoelihiaa
/-- The row, under a short name, for the claim. -/
theorem fnGated_holds : Rows.FnGatedSaid := fnGated.proved
end Go.Proofs.Ythgenpcoelihiaa
end
