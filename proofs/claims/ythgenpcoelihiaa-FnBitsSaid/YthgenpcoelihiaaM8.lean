/- FnBits holds: for every input the law returns true, and its arguments read as before. -/
import Derived.Test.YthgenpcoelihiaaChecked
import Derived.Test.YthgenpcoelihiaaDeskE
import Derived.KernelRfl
import Derived.Test.YthgenpcoelihiaaRows
import Derived.WalkKit
import Derived.ProofKit
import Derived.OpenShut
import Derived.ShutString
import Derived.ChangeOld
import Derived.Below
import Derived.SizedLaws
set_option linter.all false
section
/- What math.Copysign owes: tables of its own, and the reading of its code. -/
namespace Go.Proofs.Ythgenpcoelihiaa.DC
open Go Go.Desk
def bodyOf (f : Func) : Code := match f.body with
  | some c => c
  | none => .skip
def tyTab : List (Nat × TD) := [
  (28, ⟨false, 1, 8, [.leaf], [.flt .f64 0], .flt .f64⟩),
  (103, ⟨false, 1, 8, [.leaf], [.int .u64 0], .int .u64⟩)]
noncomputable def c106 : Code := bodyOf Try.f106
noncomputable def fnTab : List (Nat × FD) := [
  (106, .code c106 [.val, .val] [] [(4, none)] [(0, [0, 1]), (1, [0, 1])]),
  (117, .ext (pF64frombits)),
  (118, .ext (pF64bits))]
noncomputable def E : Env := ⟨fun t => lookT tyTab t, lookF fnTab⟩
noncomputable def fdAt (n : Nat) : FD := match lookF fnTab n with
  | some d => d
  | none => .ext fun _ => none
noncomputable def keepAt (n : Nat) : List (Nat × List Nat) := match lookF fnTab n with
  | some d => d.keep
  | none => []
theorem tysOk : TysOk Try.prog E := tysOk_of (l := tyTab) (fun _ => rfl) (by kernel_rfl)
theorem ft106 : FnTab Try.prog E 106 (fdAt 106) := fnTab_code (c := c106) (modes := (fdAt 106).ms) (outs := (fdAt 106).os) (results := (fdAt 106).rs) (keep := (fdAt 106).keep) Try.func106 (by kernel_rfl) (by kernel_rfl) (by kernel_rfl)
theorem ft117 : FnTab Try.prog E 117 (.ext (pF64frombits)) := ext_pF64frombits Try.func117 (by kernel_rfl) (by kernel_rfl) (by kernel_rfl) (by kernel_rfl)
theorem ft118 : FnTab Try.prog E 118 (.ext (pF64bits)) := ext_pF64bits Try.func118 (by kernel_rfl) (by kernel_rfl) (by kernel_rfl) (by kernel_rfl)
theorem allFns : AllFns Try.prog E fnTab := .cons ft106 (.cons ft117 (.cons ft118 (.nil)))
theorem fnOk : ∀ f fd, E.fn f = some fd → FnTab Try.prog E f fd := fnTab_of (l := fnTab) (fun _ => rfl) allFns
end Go.Proofs.Ythgenpcoelihiaa.DC
section
namespace Go.Proofs.Ythgenpcoelihiaa.DC
open Go Go.Desk
set_option linter.unusedVariables false
noncomputable def x117.w : FnW E := xF64frombits.w 117 (by kernel_rfl)

noncomputable def x118.w : FnW E := xF64bits.w 118 (by kernel_rfl)

def f106_mathCopysign : Nat → Nat → Nat → Option (Nat)
  | 0, _, _ => none
  | n + 1, x1, x2 =>
    bd (xF64bits n x1) fun r3 =>
    let i4 : Int := r3
    bd (xF64bits n x2) fun r5 =>
    let i6 : Int := r5
    bd (xF64frombits n (intBits BinOp.or IntKind.u64 (intBits BinOp.andNot IntKind.u64 i4 (9223372036854775808 : Int)) (intBits BinOp.and IntKind.u64 i6 (9223372036854775808 : Int)))) fun r7 =>
    let x8 : Nat := r7
    some x8
def sg_ff : Sig (Nat × Nat) where
  pk := fun v => [.flt v.1, .flt v.2]
  up := fun ls => match ls with
    | [.flt a0, .flt a1] => some (a0, a1)
    | _ => none
  ok := by
    intro ls v h
    split at h
    · cases h; rfl
    · cases h

def sg_f : Sig (Nat) where
  pk := fun v => [.flt v]
  up := fun ls => match ls with
    | [.flt a0] => some a0
    | _ => none
  ok := by
    intro ls v h
    split at h
    · cases h; rfl
    · cases h

def f106_mathCopysign.P : List Arg := [⟨.val, ⟨false, [.leaf], [.flt .f64 0]⟩⟩, ⟨.val, ⟨false, [.leaf], [.flt .f64 0]⟩⟩]
def f106_mathCopysign.A : RAlt (Nat) := .one ⟨[⟨false, [.leaf], [.flt .f64 0]⟩], [none, none]⟩ sg_f
def f106_mathCopysign.F (n : Nat) (v : Nat × Nat) := f106_mathCopysign n v.1 v.2
noncomputable def f106_mathCopysign.O (n : Nat) : Orc := orcOf (E := E) [x117.w, x118.w] [] n
theorem f106_mathCopysign.ok : ∀ n v x, f106_mathCopysign.F n v = some x → evalFn E n 106 (flAs f106_mathCopysign.P (sg_ff.pk v)) = some (f106_mathCopysign.A.enc x) :=
  fn_pure (modes := (fdAt 106).ms) (outs := (fdAt 106).os) (results := (fdAt 106).rs) f106_mathCopysign.O (c := c106) (keep := keepAt 106) (by kernel_rfl) (fun n => orcOf_cf _ _ n) (fun n => lpOk_of (bs := []) (by kernel_rfl) .nil) (fun _ => rfl) (fun _ _ => by kernel_rfl)
noncomputable def f106_mathCopysign.w : FnW E := fnW 106 f106_mathCopysign.P sg_ff f106_mathCopysign.A f106_mathCopysign.F f106_mathCopysign.ok
end Go.Proofs.Ythgenpcoelihiaa.DC
end
namespace Go.Proofs.Ythgenpcoelihiaa.DC
open Go Go.Desk
theorem signOk : ExtOk Try.prog 106 pCopysign := ext_pCopysign_of Try.checked.mixed tysOk fnOk
  (fun x s hx hs hx' hs' => ⟨3, f106_mathCopysign.ok 3 (x, s) _ (copysign_plain 1 hx hs hx' hs')⟩)
end Go.Proofs.Ythgenpcoelihiaa.DC
end
section
/- The tables of the reading: types and functions of the translation, with what is kept at each region's beginning (written by a program of this workplace). -/
namespace Go.Proofs.Ythgenpcoelihiaa.D
open Go Go.Desk
def bodyOf (f : Func) : Code := match f.body with
  | some c => c
  | none => .skip
def tyTab : List (Nat × TD) := [
  (2, ⟨false, 1, 8, [.leaf], [.int .i64 0], .int .i64⟩),
  (3, ⟨false, 1, 8, [.leaf], [.int .i64 0], .int .i64⟩),
  (4, ⟨false, 1, 1, [.leaf], [.bool false], .bool⟩),
  (5, ⟨false, 1, 1, [.leaf], [.int .u8 0], .int .u8⟩),
  (22, ⟨false, 1, 24, [.sl .own [.leaf]], [.lst 0 []], .slc 5⟩),
  (24, ⟨false, 1, 4, [.leaf], [.flt .f32 0], .flt .f32⟩),
  (28, ⟨false, 1, 8, [.leaf], [.flt .f64 0], .flt .f64⟩),
  (75, ⟨false, 1, 8, [.leaf], [.nil], .ptr 105⟩),
  (87, ⟨false, 1, 4, [.leaf], [.int .u32 0], .int .u32⟩),
  (96, ⟨false, 1, 24, [.sl .own [.leaf]], [.lst 0 []], .slc 2⟩),
  (103, ⟨false, 1, 8, [.leaf], [.int .u64 0], .int .u64⟩),
  (105, ⟨true, 3, 40, [.sl .own [.leaf], .leaf, .leaf], [.lst 0 [], .int .i64 0, .int .u64 0], .st [(0, 22), (1, 3), (2, 103)]⟩),
  (116, ⟨false, 1, 8, [.leaf], [.int .u64 0], .int .u64⟩)]
noncomputable def c8 : Code := bodyOf Try.f8
noncomputable def c15 : Code := bodyOf Try.f15
noncomputable def c16 : Code := bodyOf Try.f16
noncomputable def c32 : Code := bodyOf Try.f32
noncomputable def c38 : Code := bodyOf Try.f38
noncomputable def c39 : Code := bodyOf Try.f39
noncomputable def c40 : Code := bodyOf Try.f40
noncomputable def c41 : Code := bodyOf Try.f41
noncomputable def c42 : Code := bodyOf Try.f42
noncomputable def c71 : Code := bodyOf Try.f71
noncomputable def c72 : Code := bodyOf Try.f72
noncomputable def c73 : Code := bodyOf Try.f73
noncomputable def c74 : Code := bodyOf Try.f74
noncomputable def c75 : Code := bodyOf Try.f75
noncomputable def c80 : Code := bodyOf Try.f80
noncomputable def c83 : Code := bodyOf Try.f83
noncomputable def c94 : Code := bodyOf Try.f94
noncomputable def c95 : Code := bodyOf Try.f95
noncomputable def c111 : Code := bodyOf Try.f111
noncomputable def c112 : Code := bodyOf Try.f112
noncomputable def c113 : Code := bodyOf Try.f113
noncomputable def c116 : Code := bodyOf Try.f116
noncomputable def fnTab : List (Nat × FD) := [
  (8, .code c8 [.val, .val] [] [(4, none)] [(0, [0, 1]), (1, [0, 1]), (2, []), (3, [0, 1]), (4, [1, 5]), (5, [5, 6]), (6, [5, 6, 7]), (7, [5, 6, 7, 8, 9]), (8, []), (9, [5, 6]), (10, [5, 6, 10]), (11, [5, 6, 10, 11]), (12, [10, 11]), (13, [5, 6, 10, 11]), (14, [5, 10, 11]), (15, [5, 6, 10, 11]), (16, []), (17, [5, 10, 11])]),
  (15, .code c15 [.val, .val] [] [(4, none)] [(0, [0, 1]), (1, [0, 1])]),
  (16, .code c16 [.val] [] [(2, none)] [(0, [0]), (1, [0]), (2, [3]), (3, [3]), (4, [3, 4]), (5, [3])]),
  (32, .code c32 [.val, .val] [] [(4, none)] [(0, [0, 1]), (1, [0, 1]), (2, [0, 1]), (3, [0, 1])]),
  (38, .code c38 [.val] [] [(2, none)] [(0, [0]), (1, [0]), (2, []), (3, [0])]),
  (39, .code c39 [.val] [] [(2, none), (3, none)] [(0, [0]), (1, [0]), (2, []), (3, [0])]),
  (40, .code c40 [.val] [] [(2, none)] [(0, [0]), (1, [0])]),
  (41, .code c41 [.val] [] [(2, none)] [(0, [0]), (1, [0])]),
  (42, .code c42 [.val] [] [(2, none)] [(0, [0]), (1, [0])]),
  (71, .code c71 [.val] [] [(2, none)] [(0, [0]), (1, [0])]),
  (72, .code c72 [.iop, .val] [0] [(4, none)] [(0, [0, 1]), (1, [0, 1])]),
  (73, .code c73 [.iop, .val] [0] [(4, none)] [(0, [0, 1]), (1, [0, 1]), (2, [0]), (3, [0, 1]), (4, [0, 1, 5]), (5, [0, 1, 5]), (6, [0, 1, 5])]),
  (74, .code c74 [.val] [] [(2, none)] [(0, [0]), (1, [0])]),
  (75, .code c75 [.iop] [0] [(2, none)] [(0, [0]), (1, [0]), (2, [0]), (3, [0]), (4, [0, 10]), (5, [0]), (6, [0, 10]), (7, [0]), (8, [0, 3]), (9, [0, 10]), (10, [0]), (11, [0])]),
  (80, .code c80 [.iop] [0] [(2, none)] [(0, [0]), (1, [0]), (2, [0, 3]), (3, [0, 3]), (4, [0, 3])]),
  (83, .code c83 [.val, .val, .val] [] [(6, none)] [(0, [0, 1, 2]), (1, [0, 1, 2])]),
  (87, .ext (pF32bits)),
  (93, .ext (pF32frombits)),
  (94, .code c94 [.val, .val] [] [(4, none)] [(0, [0, 1]), (1, [0]), (2, [0, 1]), (3, []), (4, [0, 1]), (5, [0]), (6, [0, 1]), (7, [1]), (8, [0, 1]), (9, [0])]),
  (95, .code c95 [.val] [] [(2, none)] [(0, [0]), (1, [0]), (2, [0]), (3, []), (4, []), (5, [3])]),
  (106, .ext (pCopysign)),
  (111, .code c111 [.iop] [0] [(2, none)] [(0, [0]), (1, [0]), (2, [0, 3]), (3, [0]), (4, [0, 3]), (5, [0, 3]), (6, [0, 3]), (7, [0, 3]), (8, [0])]),
  (112, .code c112 [.iop, .io] [0, 1] [(4, none)] [(0, [0, 1]), (1, [0, 1])]),
  (113, .code c113 [] [] [(0, none)] [(0, []), (1, [])]),
  (116, .code c116 [.val] [] [(2, none)] [(0, [0]), (1, [0])]),
  (117, .ext (pF64frombits))]
noncomputable def E : Env := ⟨fun t => lookT tyTab t, lookF fnTab⟩
noncomputable def fdAt (n : Nat) : FD := match lookF fnTab n with
  | some d => d
  | none => .ext fun _ => none
noncomputable def keepAt (n : Nat) : List (Nat × List Nat) := match lookF fnTab n with
  | some d => d.keep
  | none => []
theorem tysOk : TysOk Try.prog E := tysOk_of (l := tyTab) (fun _ => rfl) (by kernel_rfl)
theorem ft8 : FnTab Try.prog E 8 (fdAt 8) := fnTab_code (c := c8) (modes := (fdAt 8).ms) (outs := (fdAt 8).os) (results := (fdAt 8).rs) (keep := (fdAt 8).keep) Try.func8 (by kernel_rfl) (by kernel_rfl) (by kernel_rfl)
theorem ft15 : FnTab Try.prog E 15 (fdAt 15) := fnTab_code (c := c15) (modes := (fdAt 15).ms) (outs := (fdAt 15).os) (results := (fdAt 15).rs) (keep := (fdAt 15).keep) Try.func15 (by kernel_rfl) (by kernel_rfl) (by kernel_rfl)
theorem ft16 : FnTab Try.prog E 16 (fdAt 16) := fnTab_code (c := c16) (modes := (fdAt 16).ms) (outs := (fdAt 16).os) (results := (fdAt 16).rs) (keep := (fdAt 16).keep) Try.func16 (by kernel_rfl) (by kernel_rfl) (by kernel_rfl)
theorem ft32 : FnTab Try.prog E 32 (fdAt 32) := fnTab_code (c := c32) (modes := (fdAt 32).ms) (outs := (fdAt 32).os) (results := (fdAt 32).rs) (keep := (fdAt 32).keep) Try.func32 (by kernel_rfl) (by kernel_rfl) (by kernel_rfl)
theorem ft38 : FnTab Try.prog E 38 (fdAt 38) := fnTab_code (c := c38) (modes := (fdAt 38).ms) (outs := (fdAt 38).os) (results := (fdAt 38).rs) (keep := (fdAt 38).keep) Try.func38 (by kernel_rfl) (by kernel_rfl) (by kernel_rfl)
theorem ft39 : FnTab Try.prog E 39 (fdAt 39) := fnTab_code (c := c39) (modes := (fdAt 39).ms) (outs := (fdAt 39).os) (results := (fdAt 39).rs) (keep := (fdAt 39).keep) Try.func39 (by kernel_rfl) (by kernel_rfl) (by kernel_rfl)
theorem ft40 : FnTab Try.prog E 40 (fdAt 40) := fnTab_code (c := c40) (modes := (fdAt 40).ms) (outs := (fdAt 40).os) (results := (fdAt 40).rs) (keep := (fdAt 40).keep) Try.func40 (by kernel_rfl) (by kernel_rfl) (by kernel_rfl)
theorem ft41 : FnTab Try.prog E 41 (fdAt 41) := fnTab_code (c := c41) (modes := (fdAt 41).ms) (outs := (fdAt 41).os) (results := (fdAt 41).rs) (keep := (fdAt 41).keep) Try.func41 (by kernel_rfl) (by kernel_rfl) (by kernel_rfl)
theorem ft42 : FnTab Try.prog E 42 (fdAt 42) := fnTab_code (c := c42) (modes := (fdAt 42).ms) (outs := (fdAt 42).os) (results := (fdAt 42).rs) (keep := (fdAt 42).keep) Try.func42 (by kernel_rfl) (by kernel_rfl) (by kernel_rfl)
theorem ft71 : FnTab Try.prog E 71 (fdAt 71) := fnTab_code (c := c71) (modes := (fdAt 71).ms) (outs := (fdAt 71).os) (results := (fdAt 71).rs) (keep := (fdAt 71).keep) Try.func71 (by kernel_rfl) (by kernel_rfl) (by kernel_rfl)
theorem ft72 : FnTab Try.prog E 72 (fdAt 72) := fnTab_code (c := c72) (modes := (fdAt 72).ms) (outs := (fdAt 72).os) (results := (fdAt 72).rs) (keep := (fdAt 72).keep) Try.func72 (by kernel_rfl) (by kernel_rfl) (by kernel_rfl)
theorem ft73 : FnTab Try.prog E 73 (fdAt 73) := fnTab_code (c := c73) (modes := (fdAt 73).ms) (outs := (fdAt 73).os) (results := (fdAt 73).rs) (keep := (fdAt 73).keep) Try.func73 (by kernel_rfl) (by kernel_rfl) (by kernel_rfl)
theorem ft74 : FnTab Try.prog E 74 (fdAt 74) := fnTab_code (c := c74) (modes := (fdAt 74).ms) (outs := (fdAt 74).os) (results := (fdAt 74).rs) (keep := (fdAt 74).keep) Try.func74 (by kernel_rfl) (by kernel_rfl) (by kernel_rfl)
theorem ft75 : FnTab Try.prog E 75 (fdAt 75) := fnTab_code (c := c75) (modes := (fdAt 75).ms) (outs := (fdAt 75).os) (results := (fdAt 75).rs) (keep := (fdAt 75).keep) Try.func75 (by kernel_rfl) (by kernel_rfl) (by kernel_rfl)
theorem ft80 : FnTab Try.prog E 80 (fdAt 80) := fnTab_code (c := c80) (modes := (fdAt 80).ms) (outs := (fdAt 80).os) (results := (fdAt 80).rs) (keep := (fdAt 80).keep) Try.func80 (by kernel_rfl) (by kernel_rfl) (by kernel_rfl)
theorem ft83 : FnTab Try.prog E 83 (fdAt 83) := fnTab_code (c := c83) (modes := (fdAt 83).ms) (outs := (fdAt 83).os) (results := (fdAt 83).rs) (keep := (fdAt 83).keep) Try.func83 (by kernel_rfl) (by kernel_rfl) (by kernel_rfl)
theorem ft87 : FnTab Try.prog E 87 (.ext (pF32bits)) := ext_pF32bits Try.func87 (by kernel_rfl) (by kernel_rfl) (by kernel_rfl) (by kernel_rfl)
theorem ft93 : FnTab Try.prog E 93 (.ext (pF32frombits)) := ext_pF32frombits Try.func93 (by kernel_rfl) (by kernel_rfl) (by kernel_rfl) (by kernel_rfl)
theorem ft94 : FnTab Try.prog E 94 (fdAt 94) := fnTab_code (c := c94) (modes := (fdAt 94).ms) (outs := (fdAt 94).os) (results := (fdAt 94).rs) (keep := (fdAt 94).keep) Try.func94 (by kernel_rfl) (by kernel_rfl) (by kernel_rfl)
theorem ft95 : FnTab Try.prog E 95 (fdAt 95) := fnTab_code (c := c95) (modes := (fdAt 95).ms) (outs := (fdAt 95).os) (results := (fdAt 95).rs) (keep := (fdAt 95).keep) Try.func95 (by kernel_rfl) (by kernel_rfl) (by kernel_rfl)
theorem ft106 : FnTab Try.prog E 106 (.ext (pCopysign)) := DC.signOk
theorem ft111 : FnTab Try.prog E 111 (fdAt 111) := fnTab_code (c := c111) (modes := (fdAt 111).ms) (outs := (fdAt 111).os) (results := (fdAt 111).rs) (keep := (fdAt 111).keep) Try.func111 (by kernel_rfl) (by kernel_rfl) (by kernel_rfl)
theorem ft112 : FnTab Try.prog E 112 (fdAt 112) := fnTab_code (c := c112) (modes := (fdAt 112).ms) (outs := (fdAt 112).os) (results := (fdAt 112).rs) (keep := (fdAt 112).keep) Try.func112 (by kernel_rfl) (by kernel_rfl) (by kernel_rfl)
theorem ft113 : FnTab Try.prog E 113 (fdAt 113) := fnTab_code (c := c113) (modes := (fdAt 113).ms) (outs := (fdAt 113).os) (results := (fdAt 113).rs) (keep := (fdAt 113).keep) Try.func113 (by kernel_rfl) (by kernel_rfl) (by kernel_rfl)
theorem ft116 : FnTab Try.prog E 116 (fdAt 116) := fnTab_code (c := c116) (modes := (fdAt 116).ms) (outs := (fdAt 116).os) (results := (fdAt 116).rs) (keep := (fdAt 116).keep) Try.func116 (by kernel_rfl) (by kernel_rfl) (by kernel_rfl)
theorem ft117 : FnTab Try.prog E 117 (.ext (pF64frombits)) := ext_pF64frombits Try.func117 (by kernel_rfl) (by kernel_rfl) (by kernel_rfl) (by kernel_rfl)
theorem allFns : AllFns Try.prog E fnTab := .cons ft8 (.cons ft15 (.cons ft16 (.cons ft32 (.cons ft38 (.cons ft39 (.cons ft40 (.cons ft41 (.cons ft42 (.cons ft71 (.cons ft72 (.cons ft73 (.cons ft74 (.cons ft75 (.cons ft80 (.cons ft83 (.cons ft87 (.cons ft93 (.cons ft94 (.cons ft95 (.cons ft106 (.cons ft111 (.cons ft112 (.cons ft113 (.cons ft116 (.cons ft117 (.nil))))))))))))))))))))))))))
theorem fnOk : ∀ f fd, E.fn f = some fd → FnTab Try.prog E f fd := fnTab_of (l := fnTab) (fun _ => rfl) allFns
end Go.Proofs.Ythgenpcoelihiaa.D
end
section
/- Plain functions for the law's Go functions, each tied to the reading by the kernel (printed by a program of this workplace). -/
namespace Go.Proofs.Ythgenpcoelihiaa.D
open Go Go.Desk
set_option linter.unusedVariables false
noncomputable def x93.w : FnW E := xF32frombits.w 93 (by kernel_rfl)

noncomputable def x87.w : FnW E := xF32bits.w 87 (by kernel_rfl)

noncomputable def x106.w : FnW E := xCopysign.w 106 (by kernel_rfl)

noncomputable def x117.w : FnW E := xF64frombits.w 117 (by kernel_rfl)

def f15_l_b10Long : Nat → Nat → List T → Nat → List T → Option (Bool)
  | 0, _, _, _, _ => none
  | n + 1, n1, l2, n3, l4 =>
    br (decide (((n1 : Nat) : Int) > (1048576 : Int))) (
     some true) (
     some (decide (((n3 : Nat) : Int) > (1048576 : Int))))
def sg_ll : Sig (Nat × List T × Nat × List T) where
  pk := fun v => [.lst v.1 v.2.1, .lst v.2.2.1 v.2.2.2]
  up := fun ls => match ls with
    | [.lst a0 a1, .lst a2 a3] => some (a0, a1, a2, a3)
    | _ => none
  ok := by
    intro ls v h
    split at h
    · cases h; rfl
    · cases h

def sg_b : Sig (Bool) where
  pk := fun v => [.bool v]
  up := fun ls => match ls with
    | [.bool a0] => some a0
    | _ => none
  ok := by
    intro ls v h
    split at h
    · cases h; rfl
    · cases h

def f15_l_b10Long.P : List Arg := [⟨.val, ⟨false, [.sl .shr [.leaf]], [.lst 0 []]⟩⟩, ⟨.val, ⟨false, [.sl .shr [.leaf]], [.lst 0 []]⟩⟩]
def f15_l_b10Long.A : RAlt (Bool) := .one ⟨[⟨false, [.leaf], [.bool false]⟩], [none, none]⟩ sg_b
def f15_l_b10Long.F (n : Nat) (v : Nat × List T × Nat × List T) := f15_l_b10Long n v.1 v.2.1 v.2.2.1 v.2.2.2
noncomputable def f15_l_b10Long.O (n : Nat) : Orc := orcOf (E := E) [] [] n
theorem f15_l_b10Long.ok : ∀ n v x, f15_l_b10Long.F n v = some x → evalFn E n 15 (flAs f15_l_b10Long.P (sg_ll.pk v)) = some (f15_l_b10Long.A.enc x) :=
  fn_pure (modes := (fdAt 15).ms) (outs := (fdAt 15).os) (results := (fdAt 15).rs) f15_l_b10Long.O (c := c15) (keep := keepAt 15) (by kernel_rfl) (fun n => orcOf_cf _ _ n) (fun n => lpOk_of (bs := []) (by kernel_rfl) .nil) (fun _ => rfl) (fun _ _ => by kernel_rfl)
noncomputable def f15_l_b10Long.w : FnW E := fnW 15 f15_l_b10Long.P sg_ll f15_l_b10Long.A f15_l_b10Long.F f15_l_b10Long.ok

def f71_s_l00From : Nat → Nat → List T → Option (Nat × List T × Int × Int)
  | 0, _, _ => none
  | n + 1, n1, l2 =>
    some (n1, l2, (0 : Int), (0 : Int))
def sg_l : Sig (Nat × List T) where
  pk := fun v => [.lst v.1 v.2]
  up := fun ls => match ls with
    | [.lst a0 a1] => some (a0, a1)
    | _ => none
  ok := by
    intro ls v h
    split at h
    · cases h; rfl
    · cases h

def sg_lii : Sig (Nat × List T × Int × Int) where
  pk := fun v => [.lst v.1 v.2.1, .int v.2.2.1, .int v.2.2.2]
  up := fun ls => match ls with
    | [.lst a0 a1, .int a2, .int a3] => some (a0, a1, a2, a3)
    | _ => none
  ok := by
    intro ls v h
    split at h
    · cases h; rfl
    · cases h

def f71_s_l00From.P : List Arg := [⟨.val, ⟨false, [.sl .shr [.leaf]], [.lst 0 []]⟩⟩]
def f71_s_l00From.A : RAlt (Nat × List T × Int × Int) := .one ⟨[⟨false, [.rf .own [.sl .shr [.leaf], .leaf, .leaf]], [.ref [.lst 0 [], .int .i64 0, .int .u64 0]]⟩], [none]⟩ sg_lii
def f71_s_l00From.F (n : Nat) (v : Nat × List T) := f71_s_l00From n v.1 v.2
noncomputable def f71_s_l00From.O (n : Nat) : Orc := orcOf (E := E) [] [] n
theorem f71_s_l00From.ok : ∀ n v x, f71_s_l00From.F n v = some x → evalFn E n 71 (flAs f71_s_l00From.P (sg_l.pk v)) = some (f71_s_l00From.A.enc x) :=
  fn_pure (modes := (fdAt 71).ms) (outs := (fdAt 71).os) (results := (fdAt 71).rs) f71_s_l00From.O (c := c71) (keep := keepAt 71) (by kernel_rfl) (fun n => orcOf_cf _ _ n) (fun n => lpOk_of (bs := []) (by kernel_rfl) .nil) (fun _ => rfl) (fun _ _ => by kernel_rfl)
noncomputable def f71_s_l00From.w : FnW E := fnW 71 f71_s_l00From.P sg_l f71_s_l00From.A f71_s_l00From.F f71_s_l00From.ok

def f111_s_l00Srcnext : Nat → Nat → List T → Int → Int → Option (Int × Nat × List T × Int × Int)
  | 0, _, _, _, _ => none
  | n + 1, n1, l2, i3, i4 =>
    br (decide (i3 < ((n1 : Nat) : Int))) (
     gd ((decide (((0 : Int) ≤ i3) ∧ (i3 < ((n1 : Nat) : Int)))) && (okAt [(CK.int IntKind.u8)] l2 (Int.toNat i3))) (
     let i5 : Int := (IntKind.i64.wrap (iAt l2 (Int.toNat i3)))
     let i6 : Int := (IntKind.i64.wrap (i3 + (1 : Int)))
     let i7 : Int := (IntKind.u64.wrap ((IntKind.u64.wrap ((IntKind.u64.wrap (i4 * (6364136223846793005 : Int))) + (IntKind.u64.wrap i5))) + (1442695040888963407 : Int)))
     br (decide (i6 ≤ ((n1 : Nat) : Int))) (
      some (i5, n1, l2, i6, i7)) (
      some ((IntKind.i64.wrap (intBits BinOp.and IntKind.u64 (Int.fdiv i7 (1099511627776 : Int)) (255 : Int))), n1, l2, i6, i7)))) (
     let i8 : Int := (IntKind.i64.wrap (i3 + (1 : Int)))
     let i9 : Int := (IntKind.u64.wrap ((IntKind.u64.wrap ((IntKind.u64.wrap (i4 * (6364136223846793005 : Int))) + (0 : Int))) + (1442695040888963407 : Int)))
     br (decide (i8 ≤ ((n1 : Nat) : Int))) (
      some ((0 : Int), n1, l2, i8, i9)) (
      some ((IntKind.i64.wrap (intBits BinOp.and IntKind.u64 (Int.fdiv i9 (1099511627776 : Int)) (255 : Int))), n1, l2, i8, i9)))
def sg_ilii : Sig (Int × Nat × List T × Int × Int) where
  pk := fun v => [.int v.1, .lst v.2.1 v.2.2.1, .int v.2.2.2.1, .int v.2.2.2.2]
  up := fun ls => match ls with
    | [.int a0, .lst a1 a2, .int a3, .int a4] => some (a0, a1, a2, a3, a4)
    | _ => none
  ok := by
    intro ls v h
    split at h
    · cases h; rfl
    · cases h

def f111_s_l00Srcnext.P : List Arg := [⟨.iop, ⟨false, [.rf .own [.sl .shr [.leaf], .leaf, .leaf]], [.ref [.lst 0 [], .int .i64 0, .int .u64 0]]⟩⟩]
def f111_s_l00Srcnext.A : RAlt (Int × Nat × List T × Int × Int) := .one ⟨[⟨false, [.leaf], [.int .i64 0]⟩], [some ⟨false, [.rf .own [.sl .shr [.leaf], .leaf, .leaf]], [.ref [.lst 0 [], .int .i64 0, .int .u64 0]]⟩]⟩ sg_ilii
def f111_s_l00Srcnext.F (n : Nat) (v : Nat × List T × Int × Int) := f111_s_l00Srcnext n v.1 v.2.1 v.2.2.1 v.2.2.2
noncomputable def f111_s_l00Srcnext.O (n : Nat) : Orc := orcOf (E := E) [] [] n
theorem f111_s_l00Srcnext.ok : ∀ n v x, f111_s_l00Srcnext.F n v = some x → evalFn E n 111 (flAs f111_s_l00Srcnext.P (sg_lii.pk v)) = some (f111_s_l00Srcnext.A.enc x) :=
  fn_pure (modes := (fdAt 111).ms) (outs := (fdAt 111).os) (results := (fdAt 111).rs) f111_s_l00Srcnext.O (c := c111) (keep := keepAt 111) (by kernel_rfl) (fun n => orcOf_cf _ _ n) (fun n => lpOk_of (bs := []) (by kernel_rfl) .nil) (fun _ => rfl) (fun _ _ => by kernel_rfl)
noncomputable def f111_s_l00Srcnext.w : FnW E := fnW 111 f111_s_l00Srcnext.P sg_lii f111_s_l00Srcnext.A f111_s_l00Srcnext.F f111_s_l00Srcnext.ok

def f73_s_l00Srcpick : Nat → Nat → List T → Int → Int → Int → Option (Int × Nat × List T × Int × Int)
  | 0, _, _, _, _, _ => none
  | n + 1, n1, l2, i3, i4, i5 =>
    br (decide (i5 ≤ (1 : Int))) (
     some ((0 : Int), n1, l2, i3, i4)) (
     bd (f111_s_l00Srcnext n n1 l2 i3 i4) fun r6 =>
     let i7 : Int := r6.1
     let n8 : Nat := r6.2.1
     let l9 : List T := r6.2.2.1
     let i10 : Int := r6.2.2.2.1
     let i11 : Int := r6.2.2.2.2
     br (decide (i5 > (200 : Int))) (
      bd (f111_s_l00Srcnext n n8 l9 i10 i11) fun r12 =>
      let i13 : Int := r12.1
      let n14 : Nat := r12.2.1
      let l15 : List T := r12.2.2.1
      let i16 : Int := r12.2.2.2.1
      let i17 : Int := r12.2.2.2.2
      let i18 : Int := (IntKind.i64.wrap ((IntKind.i64.wrap (i7 * (256 : Int))) + i13))
      gd (!(decide (i5 = (0 : Int)))) (
      some ((Int.tmod i18 i5), n14, l15, i16, i17))) (
      gd (!(decide (i5 = (0 : Int)))) (
      some ((Int.tmod i7 i5), n8, l9, i10, i11))))
def sg_liii : Sig (Nat × List T × Int × Int × Int) where
  pk := fun v => [.lst v.1 v.2.1, .int v.2.2.1, .int v.2.2.2.1, .int v.2.2.2.2]
  up := fun ls => match ls with
    | [.lst a0 a1, .int a2, .int a3, .int a4] => some (a0, a1, a2, a3, a4)
    | _ => none
  ok := by
    intro ls v h
    split at h
    · cases h; rfl
    · cases h

def f73_s_l00Srcpick.P : List Arg := [⟨.iop, ⟨false, [.rf .own [.sl .shr [.leaf], .leaf, .leaf]], [.ref [.lst 0 [], .int .i64 0, .int .u64 0]]⟩⟩, ⟨.val, ⟨false, [.leaf], [.int .i64 0]⟩⟩]
def f73_s_l00Srcpick.A : RAlt (Int × Nat × List T × Int × Int) := .one ⟨[⟨false, [.leaf], [.int .i64 0]⟩], [some ⟨false, [.rf .own [.sl .shr [.leaf], .leaf, .leaf]], [.ref [.lst 0 [], .int .i64 0, .int .u64 0]]⟩, none]⟩ sg_ilii
def f73_s_l00Srcpick.F (n : Nat) (v : Nat × List T × Int × Int × Int) := f73_s_l00Srcpick n v.1 v.2.1 v.2.2.1 v.2.2.2.1 v.2.2.2.2
noncomputable def f73_s_l00Srcpick.O (n : Nat) : Orc := orcOf (E := E) [f111_s_l00Srcnext.w] [] n
theorem f73_s_l00Srcpick.ok : ∀ n v x, f73_s_l00Srcpick.F n v = some x → evalFn E n 73 (flAs f73_s_l00Srcpick.P (sg_liii.pk v)) = some (f73_s_l00Srcpick.A.enc x) :=
  fn_pure (modes := (fdAt 73).ms) (outs := (fdAt 73).os) (results := (fdAt 73).rs) f73_s_l00Srcpick.O (c := c73) (keep := keepAt 73) (by kernel_rfl) (fun n => orcOf_cf _ _ n) (fun n => lpOk_of (bs := []) (by kernel_rfl) .nil) (fun _ => rfl) (fun _ _ => by kernel_rfl)
noncomputable def f73_s_l00Srcpick.w : FnW E := fnW 73 f73_s_l00Srcpick.P sg_liii f73_s_l00Srcpick.A f73_s_l00Srcpick.F f73_s_l00Srcpick.ok

def f72_s_l00Srcone : Nat → Nat → List T → Int → Int → Int → Option (Bool × Nat × List T × Int × Int)
  | 0, _, _, _, _, _ => none
  | n + 1, n1, l2, i3, i4, i5 =>
    bd (f73_s_l00Srcpick n n1 l2 i3 i4 i5) fun r6 =>
    let i7 : Int := r6.1
    let n8 : Nat := r6.2.1
    let l9 : List T := r6.2.2.1
    let i10 : Int := r6.2.2.2.1
    let i11 : Int := r6.2.2.2.2
    some ((i7 == (0 : Int)), n8, l9, i10, i11)
def sg_blii : Sig (Bool × Nat × List T × Int × Int) where
  pk := fun v => [.bool v.1, .lst v.2.1 v.2.2.1, .int v.2.2.2.1, .int v.2.2.2.2]
  up := fun ls => match ls with
    | [.bool a0, .lst a1 a2, .int a3, .int a4] => some (a0, a1, a2, a3, a4)
    | _ => none
  ok := by
    intro ls v h
    split at h
    · cases h; rfl
    · cases h

def f72_s_l00Srcone.P : List Arg := [⟨.iop, ⟨false, [.rf .own [.sl .shr [.leaf], .leaf, .leaf]], [.ref [.lst 0 [], .int .i64 0, .int .u64 0]]⟩⟩, ⟨.val, ⟨false, [.leaf], [.int .i64 0]⟩⟩]
def f72_s_l00Srcone.A : RAlt (Bool × Nat × List T × Int × Int) := .one ⟨[⟨false, [.leaf], [.bool false]⟩], [some ⟨false, [.rf .own [.sl .shr [.leaf], .leaf, .leaf]], [.ref [.lst 0 [], .int .i64 0, .int .u64 0]]⟩, none]⟩ sg_blii
def f72_s_l00Srcone.F (n : Nat) (v : Nat × List T × Int × Int × Int) := f72_s_l00Srcone n v.1 v.2.1 v.2.2.1 v.2.2.2.1 v.2.2.2.2
noncomputable def f72_s_l00Srcone.O (n : Nat) : Orc := orcOf (E := E) [f73_s_l00Srcpick.w] [] n
theorem f72_s_l00Srcone.ok : ∀ n v x, f72_s_l00Srcone.F n v = some x → evalFn E n 72 (flAs f72_s_l00Srcone.P (sg_liii.pk v)) = some (f72_s_l00Srcone.A.enc x) :=
  fn_pure (modes := (fdAt 72).ms) (outs := (fdAt 72).os) (results := (fdAt 72).rs) f72_s_l00Srcone.O (c := c72) (keep := keepAt 72) (by kernel_rfl) (fun n => orcOf_cf _ _ n) (fun n => lpOk_of (bs := []) (by kernel_rfl) .nil) (fun _ => rfl) (fun _ _ => by kernel_rfl)
noncomputable def f72_s_l00Srcone.w : FnW E := fnW 72 f72_s_l00Srcone.P sg_liii f72_s_l00Srcone.A f72_s_l00Srcone.F f72_s_l00Srcone.ok

def f74_s_l01From : Nat → Int → Option (Nat)
  | 0, _ => none
  | n + 1, i1 =>
    bd (xF32frombits n (IntKind.u32.wrap i1)) fun r2 =>
    let x3 : Nat := r2
    some x3
def sg_i : Sig (Int) where
  pk := fun v => [.int v]
  up := fun ls => match ls with
    | [.int a0] => some a0
    | _ => none
  ok := by
    intro ls v h
    split at h
    · cases h; rfl
    · cases h

def sg_f : Sig (Nat) where
  pk := fun v => [.flt v]
  up := fun ls => match ls with
    | [.flt a0] => some a0
    | _ => none
  ok := by
    intro ls v h
    split at h
    · cases h; rfl
    · cases h

def f74_s_l01From.P : List Arg := [⟨.val, ⟨false, [.leaf], [.int .i64 0]⟩⟩]
def f74_s_l01From.A : RAlt (Nat) := .one ⟨[⟨false, [.leaf], [.flt .f32 0]⟩], [none]⟩ sg_f
def f74_s_l01From.F (n : Nat) (v : Int) := f74_s_l01From n v
noncomputable def f74_s_l01From.O (n : Nat) : Orc := orcOf (E := E) [x93.w] [] n
theorem f74_s_l01From.ok : ∀ n v x, f74_s_l01From.F n v = some x → evalFn E n 74 (flAs f74_s_l01From.P (sg_i.pk v)) = some (f74_s_l01From.A.enc x) :=
  fn_pure (modes := (fdAt 74).ms) (outs := (fdAt 74).os) (results := (fdAt 74).rs) f74_s_l01From.O (c := c74) (keep := keepAt 74) (by kernel_rfl) (fun n => orcOf_cf _ _ n) (fun n => lpOk_of (bs := []) (by kernel_rfl) .nil) (fun _ => rfl) (fun _ _ => by kernel_rfl)
noncomputable def f74_s_l01From.w : FnW E := fnW 74 f74_s_l01From.P sg_i f74_s_l01From.A f74_s_l01From.F f74_s_l01From.ok

def f80_s_l01DrawPlain : Nat → Nat → List T → Int → Int → Option (Nat × Nat × List T × Int × Int)
  | 0, _, _, _, _ => none
  | n + 1, n1, l2, i3, i4 =>
    bd (f73_s_l00Srcpick n n1 l2 i3 i4 (129 : Int)) fun r5 =>
    let i6 : Int := r5.1
    let n7 : Nat := r5.2.1
    let l8 : List T := r5.2.2.1
    let i9 : Int := r5.2.2.2.1
    let i10 : Int := r5.2.2.2.2
    let i11 : Int := (IntKind.i64.wrap (i6 - (64 : Int)))
    bd (f72_s_l00Srcone n n7 l8 i9 i10 (4 : Int)) fun r12 =>
    let b13 : Bool := r12.1
    let n14 : Nat := r12.2.1
    let l15 : List T := r12.2.2.1
    let i16 : Int := r12.2.2.2.1
    let i17 : Int := r12.2.2.2.2
    br b13 (
     some ((fdiv FloatKind.f32 (FloatKind.nearest FloatKind.f32 i11) 1088421888), n14, l15, i16, i17)) (
     some ((fdiv FloatKind.f32 (FloatKind.nearest FloatKind.f32 i11) 1098907648), n14, l15, i16, i17))
def sg_flii : Sig (Nat × Nat × List T × Int × Int) where
  pk := fun v => [.flt v.1, .lst v.2.1 v.2.2.1, .int v.2.2.2.1, .int v.2.2.2.2]
  up := fun ls => match ls with
    | [.flt a0, .lst a1 a2, .int a3, .int a4] => some (a0, a1, a2, a3, a4)
    | _ => none
  ok := by
    intro ls v h
    split at h
    · cases h; rfl
    · cases h

def f80_s_l01DrawPlain.P : List Arg := [⟨.iop, ⟨false, [.rf .own [.sl .shr [.leaf], .leaf, .leaf]], [.ref [.lst 0 [], .int .i64 0, .int .u64 0]]⟩⟩]
def f80_s_l01DrawPlain.A : RAlt (Nat × Nat × List T × Int × Int) := .one ⟨[⟨false, [.leaf], [.flt .f32 0]⟩], [some ⟨false, [.rf .own [.sl .shr [.leaf], .leaf, .leaf]], [.ref [.lst 0 [], .int .i64 0, .int .u64 0]]⟩]⟩ sg_flii
def f80_s_l01DrawPlain.F (n : Nat) (v : Nat × List T × Int × Int) := f80_s_l01DrawPlain n v.1 v.2.1 v.2.2.1 v.2.2.2
noncomputable def f80_s_l01DrawPlain.O (n : Nat) : Orc := orcOf (E := E) [f73_s_l00Srcpick.w, f72_s_l00Srcone.w] [] n
theorem f80_s_l01DrawPlain.ok : ∀ n v x, f80_s_l01DrawPlain.F n v = some x → evalFn E n 80 (flAs f80_s_l01DrawPlain.P (sg_lii.pk v)) = some (f80_s_l01DrawPlain.A.enc x) :=
  fn_pure (modes := (fdAt 80).ms) (outs := (fdAt 80).os) (results := (fdAt 80).rs) f80_s_l01DrawPlain.O (c := c80) (keep := keepAt 80) (by kernel_rfl) (fun n => orcOf_cf _ _ n) (fun n => lpOk_of (bs := []) (by kernel_rfl) .nil) (fun _ => rfl) (fun _ _ => by kernel_rfl)
noncomputable def f80_s_l01DrawPlain.w : FnW E := fnW 80 f80_s_l01DrawPlain.P sg_lii f80_s_l01DrawPlain.A f80_s_l01DrawPlain.F f80_s_l01DrawPlain.ok

def f112_s_l00Srcamong : Nat → Nat → List T → Int → Int → Nat → List T → Option (Int × Nat × List T × Int × Int × Nat × List T)
  | 0, _, _, _, _, _, _ => none
  | n + 1, n1, l2, i3, i4, n5, l6 =>
    bd (f73_s_l00Srcpick n n1 l2 i3 i4 ((n5 : Nat) : Int)) fun r7 =>
    let i8 : Int := r7.1
    let n9 : Nat := r7.2.1
    let l10 : List T := r7.2.2.1
    let i11 : Int := r7.2.2.2.1
    let i12 : Int := r7.2.2.2.2
    gd (decide (((0 : Int) ≤ i8) ∧ (i8 < ((n5 : Nat) : Int)))) (
    gd (okAt [(CK.int IntKind.i64)] l6 (Int.toNat i8)) (
    some ((iAt l6 (Int.toNat i8)), n9, l10, i11, i12, n5, l6)))
def sg_liil : Sig (Nat × List T × Int × Int × Nat × List T) where
  pk := fun v => [.lst v.1 v.2.1, .int v.2.2.1, .int v.2.2.2.1, .lst v.2.2.2.2.1 v.2.2.2.2.2]
  up := fun ls => match ls with
    | [.lst a0 a1, .int a2, .int a3, .lst a4 a5] => some (a0, a1, a2, a3, a4, a5)
    | _ => none
  ok := by
    intro ls v h
    split at h
    · cases h; rfl
    · cases h

def sg_iliil : Sig (Int × Nat × List T × Int × Int × Nat × List T) where
  pk := fun v => [.int v.1, .lst v.2.1 v.2.2.1, .int v.2.2.2.1, .int v.2.2.2.2.1, .lst v.2.2.2.2.2.1 v.2.2.2.2.2.2]
  up := fun ls => match ls with
    | [.int a0, .lst a1 a2, .int a3, .int a4, .lst a5 a6] => some (a0, a1, a2, a3, a4, a5, a6)
    | _ => none
  ok := by
    intro ls v h
    split at h
    · cases h; rfl
    · cases h

def f112_s_l00Srcamong.P : List Arg := [⟨.iop, ⟨false, [.rf .own [.sl .shr [.leaf], .leaf, .leaf]], [.ref [.lst 0 [], .int .i64 0, .int .u64 0]]⟩⟩, ⟨.io, ⟨false, [.sl .own [.leaf]], [.lst 0 []]⟩⟩]
def f112_s_l00Srcamong.A : RAlt (Int × Nat × List T × Int × Int × Nat × List T) := .one ⟨[⟨false, [.leaf], [.int .i64 0]⟩], [some ⟨false, [.rf .own [.sl .shr [.leaf], .leaf, .leaf]], [.ref [.lst 0 [], .int .i64 0, .int .u64 0]]⟩, some ⟨false, [.sl .own [.leaf]], [.lst 0 []]⟩]⟩ sg_iliil
def f112_s_l00Srcamong.F (n : Nat) (v : Nat × List T × Int × Int × Nat × List T) := f112_s_l00Srcamong n v.1 v.2.1 v.2.2.1 v.2.2.2.1 v.2.2.2.2.1 v.2.2.2.2.2
noncomputable def f112_s_l00Srcamong.O (n : Nat) : Orc := orcOf (E := E) [f73_s_l00Srcpick.w] [] n
theorem f112_s_l00Srcamong.ok : ∀ n v x, f112_s_l00Srcamong.F n v = some x → evalFn E n 112 (flAs f112_s_l00Srcamong.P (sg_liil.pk v)) = some (f112_s_l00Srcamong.A.enc x) :=
  fn_pure (modes := (fdAt 112).ms) (outs := (fdAt 112).os) (results := (fdAt 112).rs) f112_s_l00Srcamong.O (c := c112) (keep := keepAt 112) (by kernel_rfl) (fun n => orcOf_cf _ _ n) (fun n => lpOk_of (bs := []) (by kernel_rfl) .nil) (fun _ => rfl) (fun _ _ => by kernel_rfl)
noncomputable def f112_s_l00Srcamong.w : FnW E := fnW 112 f112_s_l00Srcamong.P sg_liil f112_s_l00Srcamong.A f112_s_l00Srcamong.F f112_s_l00Srcamong.ok

def f75_s_l01DrawFloat : Nat → Nat → List T → Int → Int → Option (Nat × Nat × List T × Int × Int)
  | 0, _, _, _, _ => none
  | n + 1, n1, l2, i3, i4 =>
    bd (f72_s_l00Srcone n n1 l2 i3 i4 (12 : Int)) fun r5 =>
    let b6 : Bool := r5.1
    let n7 : Nat := r5.2.1
    let l8 : List T := r5.2.2.1
    let i9 : Int := r5.2.2.2.1
    let i10 : Int := r5.2.2.2.2
    br (!b6) (
     bd (f80_s_l01DrawPlain n n7 l8 i9 i10) fun r11 =>
     let x12 : Nat := r11.1
     let n13 : Nat := r11.2.1
     let l14 : List T := r11.2.2.1
     let i15 : Int := r11.2.2.2.1
     let i16 : Int := r11.2.2.2.2
     some (x12, n13, l14, i15, i16)) (
     bd (f73_s_l00Srcpick n n7 l8 i9 i10 (4 : Int)) fun r17 =>
     let i18 : Int := r17.1
     let n19 : Nat := r17.2.1
     let l20 : List T := r17.2.2.1
     let i21 : Int := r17.2.2.2.1
     let i22 : Int := r17.2.2.2.2
     br (i18 == (0 : Int)) (
      bd (f112_s_l00Srcamong n n19 l20 i21 i22 10 (setN (setN (setN (setN (setN (setN (setN (setN (setN (setN (reps 10 [(T.int IntKind.i64 (0 : Int))]) 0 [(T.int IntKind.i64 (0 : Int))]) 1 [(T.int IntKind.i64 (2147483648 : Int))]) 2 [(T.int IntKind.i64 (2139095040 : Int))]) 3 [(T.int IntKind.i64 (4286578688 : Int))]) 4 [(T.int IntKind.i64 (2143289344 : Int))]) 5 [(T.int IntKind.i64 (1 : Int))]) 6 [(T.int IntKind.i64 (2139095039 : Int))]) 7 [(T.int IntKind.i64 (8388608 : Int))]) 8 [(T.int IntKind.i64 (8388607 : Int))]) 9 [(T.int IntKind.i64 (2147483649 : Int))])) fun r23 =>
      let i24 : Int := r23.1
      let n25 : Nat := r23.2.1
      let l26 : List T := r23.2.2.1
      let i27 : Int := r23.2.2.2.1
      let i28 : Int := r23.2.2.2.2.1
      let n29 : Nat := r23.2.2.2.2.2.1
      let l30 : List T := r23.2.2.2.2.2.2
      bd (f74_s_l01From n i24) fun r31 =>
      let x32 : Nat := r31
      some (x32, n25, l26, i27, i28)) (
      br (i18 == (1 : Int)) (
       bd (f73_s_l00Srcpick n n19 l20 i21 i22 (65536 : Int)) fun r33 =>
       let i34 : Int := r33.1
       let n35 : Nat := r33.2.1
       let l36 : List T := r33.2.2.1
       let i37 : Int := r33.2.2.2.1
       let i38 : Int := r33.2.2.2.2
       let i39 : Int := (IntKind.i64.wrap (i34 * (65536 : Int)))
       bd (f73_s_l00Srcpick n n35 l36 i37 i38 (65536 : Int)) fun r40 =>
       let i41 : Int := r40.1
       let n42 : Nat := r40.2.1
       let l43 : List T := r40.2.2.1
       let i44 : Int := r40.2.2.2.1
       let i45 : Int := r40.2.2.2.2
       bd (f74_s_l01From n (IntKind.i64.wrap (i39 + i41))) fun r46 =>
       let x47 : Nat := r46
       some (x47, n42, l43, i44, i45)) (
       br (i18 == (2 : Int)) (
        bd (f73_s_l00Srcpick n n19 l20 i21 i22 (65536 : Int)) fun r48 =>
        let i49 : Int := r48.1
        let n50 : Nat := r48.2.1
        let l51 : List T := r48.2.2.1
        let i52 : Int := r48.2.2.2.1
        let i53 : Int := r48.2.2.2.2
        bd (f74_s_l01From n (IntKind.i64.wrap (i49 * (65536 : Int)))) fun r54 =>
        let x55 : Nat := r54
        some (x55, n50, l51, i52, i53)) (
        bd (f80_s_l01DrawPlain n n19 l20 i21 i22) fun r56 =>
        let x57 : Nat := r56.1
        let n58 : Nat := r56.2.1
        let l59 : List T := r56.2.2.1
        let i60 : Int := r56.2.2.2.1
        let i61 : Int := r56.2.2.2.2
        bd (f112_s_l00Srcamong n n58 l59 i60 i61 4 (setN (setN (setN (setN (reps 4 [(T.int IntKind.i64 (0 : Int))]) 0 [(T.int IntKind.i64 (8388608 : Int))]) 1 [(T.int IntKind.i64 (2130706432 : Int))]) 2 [(T.int IntKind.i64 (1610612736 : Int))]) 3 [(T.int IntKind.i64 (536870912 : Int))])) fun r62 =>
        let i63 : Int := r62.1
        let n64 : Nat := r62.2.1
        let l65 : List T := r62.2.2.1
        let i66 : Int := r62.2.2.2.1
        let i67 : Int := r62.2.2.2.2.1
        let n68 : Nat := r62.2.2.2.2.2.1
        let l69 : List T := r62.2.2.2.2.2.2
        bd (f74_s_l01From n i63) fun r70 =>
        let x71 : Nat := r70
        some ((fmul FloatKind.f32 x57 x71), n64, l65, i66, i67)))))
def f75_s_l01DrawFloat.P : List Arg := [⟨.iop, ⟨false, [.rf .own [.sl .shr [.leaf], .leaf, .leaf]], [.ref [.lst 0 [], .int .i64 0, .int .u64 0]]⟩⟩]
def f75_s_l01DrawFloat.A : RAlt (Nat × Nat × List T × Int × Int) := .one ⟨[⟨false, [.leaf], [.flt .f32 0]⟩], [some ⟨false, [.rf .own [.sl .shr [.leaf], .leaf, .leaf]], [.ref [.lst 0 [], .int .i64 0, .int .u64 0]]⟩]⟩ sg_flii
def f75_s_l01DrawFloat.F (n : Nat) (v : Nat × List T × Int × Int) := f75_s_l01DrawFloat n v.1 v.2.1 v.2.2.1 v.2.2.2
noncomputable def f75_s_l01DrawFloat.O (n : Nat) : Orc := orcOf (E := E) [f73_s_l00Srcpick.w, f72_s_l00Srcone.w, f74_s_l01From.w, f80_s_l01DrawPlain.w, f112_s_l00Srcamong.w] [] n
theorem f75_s_l01DrawFloat.ok : ∀ n v x, f75_s_l01DrawFloat.F n v = some x → evalFn E n 75 (flAs f75_s_l01DrawFloat.P (sg_lii.pk v)) = some (f75_s_l01DrawFloat.A.enc x) :=
  fn_pure (modes := (fdAt 75).ms) (outs := (fdAt 75).os) (results := (fdAt 75).rs) f75_s_l01DrawFloat.O (c := c75) (keep := keepAt 75) (by kernel_rfl) (fun n => orcOf_cf _ _ n) (fun n => lpOk_of (bs := []) (by kernel_rfl) .nil) (fun _ => rfl) (fun _ _ => by kernel_rfl)
noncomputable def f75_s_l01DrawFloat.w : FnW E := fnW 75 f75_s_l01DrawFloat.P sg_lii f75_s_l01DrawFloat.A f75_s_l01DrawFloat.F f75_s_l01DrawFloat.ok

def f16_s_B10Number : Nat → Nat → List T → Option (Nat)
  | 0, _, _ => none
  | n + 1, n1, l2 =>
    bd (f71_s_l00From n n1 l2) fun r3 =>
    let n4 : Nat := r3.1
    let l5 : List T := r3.2.1
    let i6 : Int := r3.2.2.1
    let i7 : Int := r3.2.2.2
    bd (f72_s_l00Srcone n n4 l5 i6 i7 (2 : Int)) fun r8 =>
    let b9 : Bool := r8.1
    let n10 : Nat := r8.2.1
    let l11 : List T := r8.2.2.1
    let i12 : Int := r8.2.2.2.1
    let i13 : Int := r8.2.2.2.2
    br b9 (
     bd (f73_s_l00Srcpick n n10 l11 i12 i13 (65536 : Int)) fun r14 =>
     let i15 : Int := r14.1
     let n16 : Nat := r14.2.1
     let l17 : List T := r14.2.2.1
     let i18 : Int := r14.2.2.2.1
     let i19 : Int := r14.2.2.2.2
     let i20 : Int := (IntKind.i64.wrap (i15 * (65536 : Int)))
     bd (f73_s_l00Srcpick n n16 l17 i18 i19 (65536 : Int)) fun r21 =>
     let i22 : Int := r21.1
     let n23 : Nat := r21.2.1
     let l24 : List T := r21.2.2.1
     let i25 : Int := r21.2.2.2.1
     let i26 : Int := r21.2.2.2.2
     bd (f74_s_l01From n (IntKind.i64.wrap (i20 + i22))) fun r27 =>
     let x28 : Nat := r27
     some x28) (
     bd (f75_s_l01DrawFloat n n10 l11 i12 i13) fun r29 =>
     let x30 : Nat := r29.1
     let n31 : Nat := r29.2.1
     let l32 : List T := r29.2.2.1
     let i33 : Int := r29.2.2.2.1
     let i34 : Int := r29.2.2.2.2
     some x30)
def f16_s_B10Number.P : List Arg := [⟨.val, ⟨false, [.sl .shr [.leaf]], [.lst 0 []]⟩⟩]
def f16_s_B10Number.A : RAlt (Nat) := .one ⟨[⟨false, [.leaf], [.flt .f32 0]⟩], [none]⟩ sg_f
def f16_s_B10Number.F (n : Nat) (v : Nat × List T) := f16_s_B10Number n v.1 v.2
noncomputable def f16_s_B10Number.O (n : Nat) : Orc := orcOf (E := E) [f71_s_l00From.w, f73_s_l00Srcpick.w, f72_s_l00Srcone.w, f74_s_l01From.w, f75_s_l01DrawFloat.w] [] n
theorem f16_s_B10Number.ok : ∀ n v x, f16_s_B10Number.F n v = some x → evalFn E n 16 (flAs f16_s_B10Number.P (sg_l.pk v)) = some (f16_s_B10Number.A.enc x) :=
  fn_pure (modes := (fdAt 16).ms) (outs := (fdAt 16).os) (results := (fdAt 16).rs) f16_s_B10Number.O (c := c16) (keep := keepAt 16) (by kernel_rfl) (fun n => orcOf_cf _ _ n) (fun n => lpOk_of (bs := []) (by kernel_rfl) .nil) (fun _ => rfl) (fun _ _ => by kernel_rfl)
noncomputable def f16_s_B10Number.w : FnW E := fnW 16 f16_s_B10Number.P sg_l f16_s_B10Number.A f16_s_B10Number.F f16_s_B10Number.ok

def f38_i_BitsOf : Nat → Nat → Option (Int)
  | 0, _ => none
  | n + 1, x1 =>
    br (fne FloatKind.f32 x1 x1) (
     some (2143289344 : Int)) (
     bd (xF32bits n x1) fun r2 =>
     let i3 : Int := r2
     some (IntKind.i64.wrap i3))
def f38_i_BitsOf.P : List Arg := [⟨.val, ⟨false, [.leaf], [.flt .f32 0]⟩⟩]
def f38_i_BitsOf.A : RAlt (Int) := .one ⟨[⟨false, [.leaf], [.int .i64 0]⟩], [none]⟩ sg_i
def f38_i_BitsOf.F (n : Nat) (v : Nat) := f38_i_BitsOf n v
noncomputable def f38_i_BitsOf.O (n : Nat) : Orc := orcOf (E := E) [x87.w] [] n
theorem f38_i_BitsOf.ok : ∀ n v x, f38_i_BitsOf.F n v = some x → evalFn E n 38 (flAs f38_i_BitsOf.P (sg_f.pk v)) = some (f38_i_BitsOf.A.enc x) :=
  fn_pure (modes := (fdAt 38).ms) (outs := (fdAt 38).os) (results := (fdAt 38).rs) f38_i_BitsOf.O (c := c38) (keep := keepAt 38) (by kernel_rfl) (fun n => orcOf_cf _ _ n) (fun n => lpOk_of (bs := []) (by kernel_rfl) .nil) (fun _ => rfl) (fun _ _ => by kernel_rfl)
noncomputable def f38_i_BitsOf.w : FnW E := fnW 38 f38_i_BitsOf.P sg_f f38_i_BitsOf.A f38_i_BitsOf.F f38_i_BitsOf.ok

def f83_i_within : Nat → Int → Int → Int → Option (Bool)
  | 0, _, _, _ => none
  | n + 1, i1, i2, i3 =>
    br (decide (i2 ≤ i1)) (
     some (decide (i1 ≤ i3))) (
     some false)
def sg_iii : Sig (Int × Int × Int) where
  pk := fun v => [.int v.1, .int v.2.1, .int v.2.2]
  up := fun ls => match ls with
    | [.int a0, .int a1, .int a2] => some (a0, a1, a2)
    | _ => none
  ok := by
    intro ls v h
    split at h
    · cases h; rfl
    · cases h

def f83_i_within.P : List Arg := [⟨.val, ⟨false, [.leaf], [.int .i64 0]⟩⟩, ⟨.val, ⟨false, [.leaf], [.int .i64 0]⟩⟩, ⟨.val, ⟨false, [.leaf], [.int .i64 0]⟩⟩]
def f83_i_within.A : RAlt (Bool) := .one ⟨[⟨false, [.leaf], [.bool false]⟩], [none, none, none]⟩ sg_b
def f83_i_within.F (n : Nat) (v : Int × Int × Int) := f83_i_within n v.1 v.2.1 v.2.2
noncomputable def f83_i_within.O (n : Nat) : Orc := orcOf (E := E) [] [] n
theorem f83_i_within.ok : ∀ n v x, f83_i_within.F n v = some x → evalFn E n 83 (flAs f83_i_within.P (sg_iii.pk v)) = some (f83_i_within.A.enc x) :=
  fn_pure (modes := (fdAt 83).ms) (outs := (fdAt 83).os) (results := (fdAt 83).rs) f83_i_within.O (c := c83) (keep := keepAt 83) (by kernel_rfl) (fun n => orcOf_cf _ _ n) (fun n => lpOk_of (bs := []) (by kernel_rfl) .nil) (fun _ => rfl) (fun _ _ => by kernel_rfl)
noncomputable def f83_i_within.w : FnW E := fnW 83 f83_i_within.P sg_iii f83_i_within.A f83_i_within.F f83_i_within.ok

def f39_i_FromBits : Nat → Int → Option (Nat × Bool)
  | 0, _ => none
  | n + 1, i1 =>
    bd (f83_i_within n i1 (0 : Int) (4294967295 : Int)) fun r2 =>
    let b3 : Bool := r2
    br (!b3) (
     some (0, false)) (
     bd (xF32frombits n (IntKind.u32.wrap i1)) fun r4 =>
     let x5 : Nat := r4
     some (x5, true))
def sg_fb : Sig (Nat × Bool) where
  pk := fun v => [.flt v.1, .bool v.2]
  up := fun ls => match ls with
    | [.flt a0, .bool a1] => some (a0, a1)
    | _ => none
  ok := by
    intro ls v h
    split at h
    · cases h; rfl
    · cases h

def f39_i_FromBits.P : List Arg := [⟨.val, ⟨false, [.leaf], [.int .i64 0]⟩⟩]
def f39_i_FromBits.A : RAlt (Nat × Bool) := .one ⟨[⟨false, [.leaf], [.flt .f32 0]⟩, ⟨false, [.leaf], [.bool false]⟩], [none]⟩ sg_fb
def f39_i_FromBits.F (n : Nat) (v : Int) := f39_i_FromBits n v
noncomputable def f39_i_FromBits.O (n : Nat) : Orc := orcOf (E := E) [x93.w, f83_i_within.w] [] n
theorem f39_i_FromBits.ok : ∀ n v x, f39_i_FromBits.F n v = some x → evalFn E n 39 (flAs f39_i_FromBits.P (sg_i.pk v)) = some (f39_i_FromBits.A.enc x) :=
  fn_pure (modes := (fdAt 39).ms) (outs := (fdAt 39).os) (results := (fdAt 39).rs) f39_i_FromBits.O (c := c39) (keep := keepAt 39) (by kernel_rfl) (fun n => orcOf_cf _ _ n) (fun n => lpOk_of (bs := []) (by kernel_rfl) .nil) (fun _ => rfl) (fun _ _ => by kernel_rfl)
noncomputable def f39_i_FromBits.w : FnW E := fnW 39 f39_i_FromBits.P sg_i f39_i_FromBits.A f39_i_FromBits.F f39_i_FromBits.ok

def f32_i_SameNumber : Nat → Nat → Nat → Option (Bool)
  | 0, _, _ => none
  | n + 1, x1, x2 =>
    br (fne FloatKind.f32 x1 x1) (
     br (fne FloatKind.f32 x1 x1) (
      some (fne FloatKind.f32 x2 x2)) (
      some false)) (
     br (fne FloatKind.f32 x2 x2) (
      br (fne FloatKind.f32 x1 x1) (
       some (fne FloatKind.f32 x2 x2)) (
       some false)) (
      bd (xF32bits n x1) fun r3 =>
      let i4 : Int := r3
      bd (xF32bits n x2) fun r5 =>
      let i6 : Int := r5
      some (i4 == i6)))
def sg_ff : Sig (Nat × Nat) where
  pk := fun v => [.flt v.1, .flt v.2]
  up := fun ls => match ls with
    | [.flt a0, .flt a1] => some (a0, a1)
    | _ => none
  ok := by
    intro ls v h
    split at h
    · cases h; rfl
    · cases h

def f32_i_SameNumber.P : List Arg := [⟨.val, ⟨false, [.leaf], [.flt .f32 0]⟩⟩, ⟨.val, ⟨false, [.leaf], [.flt .f32 0]⟩⟩]
def f32_i_SameNumber.A : RAlt (Bool) := .one ⟨[⟨false, [.leaf], [.bool false]⟩], [none, none]⟩ sg_b
def f32_i_SameNumber.F (n : Nat) (v : Nat × Nat) := f32_i_SameNumber n v.1 v.2
noncomputable def f32_i_SameNumber.O (n : Nat) : Orc := orcOf (E := E) [x87.w] [] n
theorem f32_i_SameNumber.ok : ∀ n v x, f32_i_SameNumber.F n v = some x → evalFn E n 32 (flAs f32_i_SameNumber.P (sg_ff.pk v)) = some (f32_i_SameNumber.A.enc x) :=
  fn_pure (modes := (fdAt 32).ms) (outs := (fdAt 32).os) (results := (fdAt 32).rs) f32_i_SameNumber.O (c := c32) (keep := keepAt 32) (by kernel_rfl) (fun n => orcOf_cf _ _ n) (fun n => lpOk_of (bs := []) (by kernel_rfl) .nil) (fun _ => rfl) (fun _ _ => by kernel_rfl)
noncomputable def f32_i_SameNumber.w : FnW E := fnW 32 f32_i_SameNumber.P sg_ff f32_i_SameNumber.A f32_i_SameNumber.F f32_i_SameNumber.ok

def f40_i_IsFinite : Nat → Nat → Option (Bool)
  | 0, _ => none
  | n + 1, x1 =>
    some (feq FloatKind.f32 (fsub FloatKind.f32 x1 x1) 0)
def f40_i_IsFinite.P : List Arg := [⟨.val, ⟨false, [.leaf], [.flt .f32 0]⟩⟩]
def f40_i_IsFinite.A : RAlt (Bool) := .one ⟨[⟨false, [.leaf], [.bool false]⟩], [none]⟩ sg_b
def f40_i_IsFinite.F (n : Nat) (v : Nat) := f40_i_IsFinite n v
noncomputable def f40_i_IsFinite.O (n : Nat) : Orc := orcOf (E := E) [] [] n
theorem f40_i_IsFinite.ok : ∀ n v x, f40_i_IsFinite.F n v = some x → evalFn E n 40 (flAs f40_i_IsFinite.P (sg_f.pk v)) = some (f40_i_IsFinite.A.enc x) :=
  fn_pure (modes := (fdAt 40).ms) (outs := (fdAt 40).os) (results := (fdAt 40).rs) f40_i_IsFinite.O (c := c40) (keep := keepAt 40) (by kernel_rfl) (fun n => orcOf_cf _ _ n) (fun n => lpOk_of (bs := []) (by kernel_rfl) .nil) (fun _ => rfl) (fun _ _ => by kernel_rfl)
noncomputable def f40_i_IsFinite.w : FnW E := fnW 40 f40_i_IsFinite.P sg_f f40_i_IsFinite.A f40_i_IsFinite.F f40_i_IsFinite.ok

def f95_mathInf : Nat → Int → Option (Nat)
  | 0, _ => none
  | n + 1, i1 =>
    br (decide (i1 ≥ (0 : Int))) (
     bd (xF64frombits n (9218868437227405312 : Int)) fun r2 =>
     let x3 : Nat := r2
     some x3) (
     bd (xF64frombits n (18442240474082181120 : Int)) fun r4 =>
     let x5 : Nat := r4
     some x5)
def f95_mathInf.P : List Arg := [⟨.val, ⟨false, [.leaf], [.int .i64 0]⟩⟩]
def f95_mathInf.A : RAlt (Nat) := .one ⟨[⟨false, [.leaf], [.flt .f64 0]⟩], [none]⟩ sg_f
def f95_mathInf.F (n : Nat) (v : Int) := f95_mathInf n v
noncomputable def f95_mathInf.O (n : Nat) : Orc := orcOf (E := E) [x117.w] [] n
theorem f95_mathInf.ok : ∀ n v x, f95_mathInf.F n v = some x → evalFn E n 95 (flAs f95_mathInf.P (sg_i.pk v)) = some (f95_mathInf.A.enc x) :=
  fn_pure (modes := (fdAt 95).ms) (outs := (fdAt 95).os) (results := (fdAt 95).rs) f95_mathInf.O (c := c95) (keep := keepAt 95) (by kernel_rfl) (fun n => orcOf_cf _ _ n) (fun n => lpOk_of (bs := []) (by kernel_rfl) .nil) (fun _ => rfl) (fun _ _ => by kernel_rfl)
noncomputable def f95_mathInf.w : FnW E := fnW 95 f95_mathInf.P sg_i f95_mathInf.A f95_mathInf.F f95_mathInf.ok

def f116_mathIsNaN : Nat → Nat → Option (Bool)
  | 0, _ => none
  | n + 1, x1 =>
    some (fne FloatKind.f64 x1 x1)
def f116_mathIsNaN.P : List Arg := [⟨.val, ⟨false, [.leaf], [.flt .f64 0]⟩⟩]
def f116_mathIsNaN.A : RAlt (Bool) := .one ⟨[⟨false, [.leaf], [.bool false]⟩], [none]⟩ sg_b
def f116_mathIsNaN.F (n : Nat) (v : Nat) := f116_mathIsNaN n v
noncomputable def f116_mathIsNaN.O (n : Nat) : Orc := orcOf (E := E) [] [] n
theorem f116_mathIsNaN.ok : ∀ n v x, f116_mathIsNaN.F n v = some x → evalFn E n 116 (flAs f116_mathIsNaN.P (sg_f.pk v)) = some (f116_mathIsNaN.A.enc x) :=
  fn_pure (modes := (fdAt 116).ms) (outs := (fdAt 116).os) (results := (fdAt 116).rs) f116_mathIsNaN.O (c := c116) (keep := keepAt 116) (by kernel_rfl) (fun n => orcOf_cf _ _ n) (fun n => lpOk_of (bs := []) (by kernel_rfl) .nil) (fun _ => rfl) (fun _ _ => by kernel_rfl)
noncomputable def f116_mathIsNaN.w : FnW E := fnW 116 f116_mathIsNaN.P sg_f f116_mathIsNaN.A f116_mathIsNaN.F f116_mathIsNaN.ok

def f113_mathNaN : Nat → Option (Nat)
  | 0 => none
  | n + 1 =>
    bd (xF64frombits n (9221120237041090561 : Int)) fun r1 =>
    let x2 : Nat := r1
    some x2
def sg : Sig (Unit) where
  pk := fun v => []
  up := fun ls => match ls with
    | [] => some ()
    | _ => none
  ok := by
    intro ls v h
    split at h
    · cases h; rfl
    · cases h

def f113_mathNaN.P : List Arg := []
def f113_mathNaN.A : RAlt (Nat) := .one ⟨[⟨false, [.leaf], [.flt .f64 0]⟩], []⟩ sg_f
def f113_mathNaN.F (n : Nat) (v : Unit) := f113_mathNaN n
noncomputable def f113_mathNaN.O (n : Nat) : Orc := orcOf (E := E) [x117.w] [] n
theorem f113_mathNaN.ok : ∀ n v x, f113_mathNaN.F n v = some x → evalFn E n 113 (flAs f113_mathNaN.P (sg.pk v)) = some (f113_mathNaN.A.enc x) :=
  fn_pure (modes := (fdAt 113).ms) (outs := (fdAt 113).os) (results := (fdAt 113).rs) f113_mathNaN.O (c := c113) (keep := keepAt 113) (by kernel_rfl) (fun n => orcOf_cf _ _ n) (fun n => lpOk_of (bs := []) (by kernel_rfl) .nil) (fun _ => rfl) (fun _ _ => by kernel_rfl)
noncomputable def f113_mathNaN.w : FnW E := fnW 113 f113_mathNaN.P sg f113_mathNaN.A f113_mathNaN.F f113_mathNaN.ok

def f94_mathNextafter32 : Nat → Nat → Nat → Option (Nat)
  | 0, _, _ => none
  | n + 1, x1, x2 =>
    bd ((fltToFlt FloatKind.f32 x1 FloatKind.f64)) fun y3 =>
    bd (f116_mathIsNaN n y3) fun r4 =>
    let b5 : Bool := r4
    br b5 (
     bd (f113_mathNaN n) fun r6 =>
     let x7 : Nat := r6
     bd ((fltToFlt FloatKind.f64 x7 FloatKind.f32)) fun y8 =>
     some y8) (
     bd ((fltToFlt FloatKind.f32 x2 FloatKind.f64)) fun y9 =>
     bd (f116_mathIsNaN n y9) fun r10 =>
     let b11 : Bool := r10
     br b11 (
      bd (f113_mathNaN n) fun r12 =>
      let x13 : Nat := r12
      bd ((fltToFlt FloatKind.f64 x13 FloatKind.f32)) fun y14 =>
      some y14) (
      br (feq FloatKind.f32 x1 x2) (
       some x1) (
       br (feq FloatKind.f32 x1 0) (
        bd (xF32frombits n (1 : Int)) fun r15 =>
        let x16 : Nat := r15
        bd ((fltToFlt FloatKind.f32 x16 FloatKind.f64)) fun y17 =>
        bd ((fltToFlt FloatKind.f32 x2 FloatKind.f64)) fun y18 =>
        bd (xCopysign n y17 y18) fun r19 =>
        let x20 : Nat := r19
        bd ((fltToFlt FloatKind.f64 x20 FloatKind.f32)) fun y21 =>
        some y21) (
        br ((fgt FloatKind.f32 x2 x1) == (fgt FloatKind.f32 x1 0)) (
         bd (xF32bits n x1) fun r22 =>
         let i23 : Int := r22
         bd (xF32frombits n (IntKind.u32.wrap (i23 + (1 : Int)))) fun r24 =>
         let x25 : Nat := r24
         some x25) (
         bd (xF32bits n x1) fun r26 =>
         let i27 : Int := r26
         bd (xF32frombits n (IntKind.u32.wrap (i27 - (1 : Int)))) fun r28 =>
         let x29 : Nat := r28
         some x29)))))
def f94_mathNextafter32.P : List Arg := [⟨.val, ⟨false, [.leaf], [.flt .f32 0]⟩⟩, ⟨.val, ⟨false, [.leaf], [.flt .f32 0]⟩⟩]
def f94_mathNextafter32.A : RAlt (Nat) := .one ⟨[⟨false, [.leaf], [.flt .f32 0]⟩], [none, none]⟩ sg_f
def f94_mathNextafter32.F (n : Nat) (v : Nat × Nat) := f94_mathNextafter32 n v.1 v.2
noncomputable def f94_mathNextafter32.O (n : Nat) : Orc := orcOf (E := E) [x93.w, x87.w, x106.w, f116_mathIsNaN.w, f113_mathNaN.w] [] n
theorem f94_mathNextafter32.ok : ∀ n v x, f94_mathNextafter32.F n v = some x → evalFn E n 94 (flAs f94_mathNextafter32.P (sg_ff.pk v)) = some (f94_mathNextafter32.A.enc x) :=
  fn_pure (modes := (fdAt 94).ms) (outs := (fdAt 94).os) (results := (fdAt 94).rs) f94_mathNextafter32.O (c := c94) (keep := keepAt 94) (by kernel_rfl) (fun n => orcOf_cf _ _ n) (fun n => lpOk_of (bs := []) (by kernel_rfl) .nil) (fun _ => rfl) (fun _ _ => by kernel_rfl)
noncomputable def f94_mathNextafter32.w : FnW E := fnW 94 f94_mathNextafter32.P sg_ff f94_mathNextafter32.A f94_mathNextafter32.F f94_mathNextafter32.ok

def f41_i_NextUp : Nat → Nat → Option (Nat)
  | 0, _ => none
  | n + 1, x1 =>
    bd (f95_mathInf n (1 : Int)) fun r2 =>
    let x3 : Nat := r2
    bd ((fltToFlt FloatKind.f64 x3 FloatKind.f32)) fun y4 =>
    bd (f94_mathNextafter32 n x1 y4) fun r5 =>
    let x6 : Nat := r5
    some x6
def f41_i_NextUp.P : List Arg := [⟨.val, ⟨false, [.leaf], [.flt .f32 0]⟩⟩]
def f41_i_NextUp.A : RAlt (Nat) := .one ⟨[⟨false, [.leaf], [.flt .f32 0]⟩], [none]⟩ sg_f
def f41_i_NextUp.F (n : Nat) (v : Nat) := f41_i_NextUp n v
noncomputable def f41_i_NextUp.O (n : Nat) : Orc := orcOf (E := E) [f95_mathInf.w, f94_mathNextafter32.w] [] n
theorem f41_i_NextUp.ok : ∀ n v x, f41_i_NextUp.F n v = some x → evalFn E n 41 (flAs f41_i_NextUp.P (sg_f.pk v)) = some (f41_i_NextUp.A.enc x) :=
  fn_pure (modes := (fdAt 41).ms) (outs := (fdAt 41).os) (results := (fdAt 41).rs) f41_i_NextUp.O (c := c41) (keep := keepAt 41) (by kernel_rfl) (fun n => orcOf_cf _ _ n) (fun n => lpOk_of (bs := []) (by kernel_rfl) .nil) (fun _ => rfl) (fun _ _ => by kernel_rfl)
noncomputable def f41_i_NextUp.w : FnW E := fnW 41 f41_i_NextUp.P sg_f f41_i_NextUp.A f41_i_NextUp.F f41_i_NextUp.ok

def f42_i_NextDown : Nat → Nat → Option (Nat)
  | 0, _ => none
  | n + 1, x1 =>
    bd (f41_i_NextUp n (negF FloatKind.f32 x1)) fun r2 =>
    let x3 : Nat := r2
    some (negF FloatKind.f32 x3)
def f42_i_NextDown.P : List Arg := [⟨.val, ⟨false, [.leaf], [.flt .f32 0]⟩⟩]
def f42_i_NextDown.A : RAlt (Nat) := .one ⟨[⟨false, [.leaf], [.flt .f32 0]⟩], [none]⟩ sg_f
def f42_i_NextDown.F (n : Nat) (v : Nat) := f42_i_NextDown n v
noncomputable def f42_i_NextDown.O (n : Nat) : Orc := orcOf (E := E) [f41_i_NextUp.w] [] n
theorem f42_i_NextDown.ok : ∀ n v x, f42_i_NextDown.F n v = some x → evalFn E n 42 (flAs f42_i_NextDown.P (sg_f.pk v)) = some (f42_i_NextDown.A.enc x) :=
  fn_pure (modes := (fdAt 42).ms) (outs := (fdAt 42).os) (results := (fdAt 42).rs) f42_i_NextDown.O (c := c42) (keep := keepAt 42) (by kernel_rfl) (fun n => orcOf_cf _ _ n) (fun n => lpOk_of (bs := []) (by kernel_rfl) .nil) (fun _ => rfl) (fun _ _ => by kernel_rfl)
noncomputable def f42_i_NextDown.w : FnW E := fnW 42 f42_i_NextDown.P sg_f f42_i_NextDown.A f42_i_NextDown.F f42_i_NextDown.ok

def f8_l_FnBits : Nat → Nat → List T → Nat → List T → Option (Bool)
  | 0, _, _, _, _ => none
  | n + 1, n1, l2, n3, l4 =>
    bd (f15_l_b10Long n n1 l2 n3 l4) fun r5 =>
    let b6 : Bool := r5
    br b6 (
     some true) (
     bd (f16_s_B10Number n n1 l2) fun r7 =>
     let x8 : Nat := r7
     bd (f16_s_B10Number n n3 l4) fun r9 =>
     let x10 : Nat := r9
     bd (f38_i_BitsOf n x8) fun r11 =>
     let i12 : Int := r11
     bd (f39_i_FromBits n i12) fun r13 =>
     let x14 : Nat := r13.1
     let b15 : Bool := r13.2
     br (!b15) (
      some false) (
      br (decide (i12 < (0 : Int))) (
       some false) (
       br (decide (i12 > (4294967295 : Int))) (
        some false) (
        bd (f32_i_SameNumber n x14 x8) fun r16 =>
        let b17 : Bool := r16
        br (!b17) (
         some false) (
         bd (f32_i_SameNumber n x8 x10) fun r18 =>
         let b19 : Bool := r18
         bd (f38_i_BitsOf n x10) fun r20 =>
         let i21 : Int := r20
         br (!(b19 == (i12 == i21))) (
          some false) (
          br (!((fne FloatKind.f32 x8 x8) == (i12 == (2143289344 : Int)))) (
           some false) (
           bd (f40_i_IsFinite n x8) fun r22 =>
           let b23 : Bool := r22
           br (!(b23 == ((intBits BinOp.and IntKind.i64 i12 (2139095040 : Int)) != (2139095040 : Int)))) (
            some false) (
            bd (f41_i_NextUp n x8) fun r24 =>
            let x25 : Nat := r24
            bd (f42_i_NextDown n x8) fun r26 =>
            let x27 : Nat := r26
            br (fne FloatKind.f32 x8 x8) (
             br (fne FloatKind.f32 x25 x25) (
              some (fne FloatKind.f32 x27 x27)) (
              some false)) (
             bd (f40_i_IsFinite n x8) fun r28 =>
             let b29 : Bool := r28
             br (!b29) (
              br (fgt FloatKind.f32 x8 0) (
               br (feq FloatKind.f32 x25 x8) (
                br (flt FloatKind.f32 x27 x8) (
                 some true) (
                 br (flt FloatKind.f32 x8 0) (
                  br (fgt FloatKind.f32 x25 x8) (
                   some (feq FloatKind.f32 x27 x8)) (
                   some false)) (
                  some false))) (
                br (flt FloatKind.f32 x8 0) (
                 br (fgt FloatKind.f32 x25 x8) (
                  some (feq FloatKind.f32 x27 x8)) (
                  some false)) (
                 some false))) (
               br (flt FloatKind.f32 x8 0) (
                br (fgt FloatKind.f32 x25 x8) (
                 some (feq FloatKind.f32 x27 x8)) (
                 some false)) (
                some false))) (
              br (!(fgt FloatKind.f32 x25 x8)) (
               some false) (
               br (!(flt FloatKind.f32 x27 x8)) (
                some false) (
                br (fgt FloatKind.f32 x10 x8) (
                 br (flt FloatKind.f32 x10 x25) (
                  some false) (
                  br (flt FloatKind.f32 x10 x8) (
                   br (fgt FloatKind.f32 x10 x27) (
                    some false) (
                    bd (f42_i_NextDown n x25) fun r30 =>
                    let x31 : Nat := r30
                    br (feq FloatKind.f32 x31 x8) (
                     bd (f41_i_NextUp n x27) fun r32 =>
                     let x33 : Nat := r32
                     some (feq FloatKind.f32 x33 x8)) (
                     some false))) (
                   bd (f42_i_NextDown n x25) fun r34 =>
                   let x35 : Nat := r34
                   br (feq FloatKind.f32 x35 x8) (
                    bd (f41_i_NextUp n x27) fun r36 =>
                    let x37 : Nat := r36
                    some (feq FloatKind.f32 x37 x8)) (
                    some false)))) (
                 br (flt FloatKind.f32 x10 x8) (
                  br (fgt FloatKind.f32 x10 x27) (
                   some false) (
                   bd (f42_i_NextDown n x25) fun r38 =>
                   let x39 : Nat := r38
                   br (feq FloatKind.f32 x39 x8) (
                    bd (f41_i_NextUp n x27) fun r40 =>
                    let x41 : Nat := r40
                    some (feq FloatKind.f32 x41 x8)) (
                    some false))) (
                  bd (f42_i_NextDown n x25) fun r42 =>
                  let x43 : Nat := r42
                  br (feq FloatKind.f32 x43 x8) (
                   bd (f41_i_NextUp n x27) fun r44 =>
                   let x45 : Nat := r44
                   some (feq FloatKind.f32 x45 x8)) (
                   some false)))))))))))))))
def f8_l_FnBits.P : List Arg := [⟨.val, ⟨false, [.sl .shr [.leaf]], [.lst 0 []]⟩⟩, ⟨.val, ⟨false, [.sl .shr [.leaf]], [.lst 0 []]⟩⟩]
def f8_l_FnBits.A : RAlt (Bool) := .one ⟨[⟨false, [.leaf], [.bool false]⟩], [none, none]⟩ sg_b
def f8_l_FnBits.F (n : Nat) (v : Nat × List T × Nat × List T) := f8_l_FnBits n v.1 v.2.1 v.2.2.1 v.2.2.2
noncomputable def f8_l_FnBits.O (n : Nat) : Orc := orcOf (E := E) [f15_l_b10Long.w, f16_s_B10Number.w, f38_i_BitsOf.w, f39_i_FromBits.w, f32_i_SameNumber.w, f40_i_IsFinite.w, f41_i_NextUp.w, f42_i_NextDown.w] [] n
theorem f8_l_FnBits.ok : ∀ n v x, f8_l_FnBits.F n v = some x → evalFn E n 8 (flAs f8_l_FnBits.P (sg_ll.pk v)) = some (f8_l_FnBits.A.enc x) :=
  fn_pure (modes := (fdAt 8).ms) (outs := (fdAt 8).os) (results := (fdAt 8).rs) f8_l_FnBits.O (c := c8) (keep := keepAt 8) (by kernel_rfl) (fun n => orcOf_cf _ _ n) (fun n => lpOk_of (bs := []) (by kernel_rfl) .nil) (fun _ => rfl) (fun _ _ => by kernel_rfl)
noncomputable def f8_l_FnBits.w : FnW E := fnW 8 f8_l_FnBits.P sg_ll f8_l_FnBits.A f8_l_FnBits.F f8_l_FnBits.ok
end Go.Proofs.Ythgenpcoelihiaa.D
end
section
/- FnBits, in plain Lean. -/
namespace Go.Proofs.Ythgenpcoelihiaa.D
open Go Go.Desk
set_option linter.unusedVariables false
theorem s_from (n l : Nat) (c : List T) : f71_s_l00From (n + 1) l c = some (l, c, 0, 0) := by rw [f71_s_l00From]
theorem s_next (n : Nat) {bs : List Int} (hb : Bytes bs) {a : Int} (h0 : 0 ≤ a) (h1 : a ≤ 1125899906842624) (sd : Int) :
    ∃ r sd', (0 ≤ r ∧ r ≤ 255) ∧ f111_s_l00Srcnext (n + 1) bs.length (its .u8 bs) a sd = some (r, bs.length, its .u8 bs, a + 1, sd') := by
  rw [f111_s_l00Srcnext]
  rw [show IntKind.i64.wrap (a + 1) = a + 1 by rw [wrap64] <;> omega]
  cases h : decide (a < (bs.length : Int))
  · simp only [br_f]
    cases decide (a + 1 ≤ (bs.length : Int))
    · exact ⟨_, _, and255 _, rfl⟩
    · exact ⟨0, _, by omega, rfl⟩
  · simp only [decide_eq_true_eq] at h
    obtain ⟨i, rfl⟩ := Int.eq_ofNat_of_zero_le h0
    have hi : i < bs.length := by omega
    have hr := hb (bs[i]) (List.getElem_mem _)
    simp only [br_t, in_dec hi, Int.toNat_natCast, okAt_its hi, Bool.and_self, gd_t, iAt_its]
    rw [show bs.getD i 0 = bs[i] by simp [List.getD, hi], show IntKind.i64.wrap bs[i] = bs[i] by rw [wrap64] <;> omega]
    cases decide ((i : Int) + 1 ≤ (bs.length : Int))
    · exact ⟨_, _, and255 _, rfl⟩
    · exact ⟨_, _, hr, rfl⟩
theorem s_pick (n : Nat) {bs : List Int} (hb : Bytes bs) {a : Int} (h0 : 0 ≤ a) (h1 : a ≤ 1125899906842622) (sd k : Int) :
    ∃ r a' sd', (0 ≤ r ∧ (1 < k → r < k) ∧ (k ≤ 1 → r = 0)) ∧ (a ≤ a' ∧ a' ≤ a + 2) ∧ f73_s_l00Srcpick (n + 2) bs.length (its .u8 bs) a sd k = some (r, bs.length, its .u8 bs, a', sd') := by
  rw [f73_s_l00Srcpick]
  by_cases hk : k ≤ 1
  · rw [decide_eq_true hk]; exact ⟨0, a, sd, by omega, by omega, rfl⟩
  rw [decide_eq_false hk]
  obtain ⟨r, s1, hr, e1⟩ := s_next n hb h0 (by omega) sd
  simp only [br_f, e1, bd_s]
  have hk0 : (!decide (k = 0)) = true := by simp; omega
  by_cases hk2 : k > 200
  · rw [decide_eq_true hk2]
    obtain ⟨r', s2, hr', e2⟩ := s_next n hb (a := a + 1) (by omega) (by omega) s1
    simp only [br_t, e2, bd_s, hk0, gd_t]
    rw [show IntKind.i64.wrap (r * 256) = r * 256 by rw [wrap64] <;> omega, show IntKind.i64.wrap (r * 256 + r') = r * 256 + r' by rw [wrap64] <;> omega]
    refine ⟨_, _, _, ?_, ?_, rfl⟩
    · rw [Int.tmod_eq_emod_of_nonneg (by omega)]
      have := Int.emod_nonneg (r * 256 + r') (show k ≠ 0 by omega)
      have := Int.emod_lt_of_pos (r * 256 + r') (show 0 < k by omega)
      omega
    · omega
  · rw [decide_eq_false hk2]
    simp only [br_f, hk0, gd_t]
    refine ⟨_, _, _, ?_, ?_, rfl⟩
    · rw [Int.tmod_eq_emod_of_nonneg (by omega)]
      have := Int.emod_nonneg r (show k ≠ 0 by omega)
      have := Int.emod_lt_of_pos r (show 0 < k by omega)
      omega
    · omega
theorem s_one (n : Nat) {bs : List Int} (hb : Bytes bs) {a : Int} (h0 : 0 ≤ a) (h1 : a ≤ 1125899906842622) (sd k : Int) :
    ∃ r a' sd', (a ≤ a' ∧ a' ≤ a + 2) ∧ f72_s_l00Srcone (n + 3) bs.length (its .u8 bs) a sd k = some (r, bs.length, its .u8 bs, a', sd') := by
  obtain ⟨r, a', s', -, ha, e⟩ := s_pick n hb h0 h1 sd k
  rw [f72_s_l00Srcone, e]
  exact ⟨_, _, _, ha, rfl⟩
theorem s_plain (n : Nat) {bs : List Int} (hb : Bytes bs) {a : Int} (h0 : 0 ≤ a) (h1 : a ≤ 1125899906842620) (sd : Int) :
    ∃ x a' sd', Plain x ∧ (a ≤ a' ∧ a' ≤ a + 4) ∧ f80_s_l01DrawPlain (n + 4) bs.length (its .u8 bs) a sd = some (x, bs.length, its .u8 bs, a', sd') := by
  obtain ⟨r, a1, s1, hr, ha, e⟩ := s_pick (n + 1) hb h0 (by omega) sd 129
  obtain ⟨b, a2, s2, ha2, e2⟩ := s_one n hb (a := a1) (by omega) (by omega) s1 4
  rw [f80_s_l01DrawPlain, e]
  simp only [bd_s, e2]
  rw [show IntKind.i64.wrap (r - 64) = r - 64 by rw [wrap64] <;> omega]
  cases b
  · exact ⟨_, a2, s2, ⟨r - 64, by omega, .inr rfl⟩, by omega, rfl⟩
  · exact ⟨_, a2, s2, ⟨r - 64, by omega, .inl rfl⟩, by omega, rfl⟩
theorem s_among (n : Nat) {bs : List Int} (hb : Bytes bs) {a : Int} (h0 : 0 ≤ a) (h1 : a ≤ 1125899906842622) (sd : Int) (L : List Int) (hL : 0 < L.length) :
    ∃ r a' sd', r ∈ L ∧ (a ≤ a' ∧ a' ≤ a + 2) ∧ f112_s_l00Srcamong (n + 3) bs.length (its .u8 bs) a sd L.length (its .i64 L) = some (r, bs.length, its .u8 bs, a', sd', L.length, its .i64 L) := by
  obtain ⟨r, a1, s1, hr, ha, e⟩ := s_pick n hb h0 h1 sd (L.length : Int)
  rw [f112_s_l00Srcamong, e]
  obtain ⟨i, rfl⟩ := Int.eq_ofNat_of_zero_le hr.1
  have hi : i < L.length := by
    by_cases h : (L.length : Int) ≤ 1
    · have := hr.2.2 h; omega
    · have := hr.2.1 (by omega); omega
  simp only [bd_s, in_dec hi, Int.toNat_natCast, okAt_its hi, Bool.and_self, gd_t, iAt_its]
  refine ⟨_, _, _, ?_, ha, rfl⟩
  rw [show L.getD i 0 = L[i] by simp [List.getD, hi]]
  exact List.getElem_mem _
theorem s_from32 (n : Nat) {i : Int} (h0 : 0 ≤ i) (h1 : i < 4294967296) : ∃ x, W32 x ∧ f74_s_l01From (n + 2) i = some x := by
  rw [f74_s_l01From]
  refine ⟨canon .f32 i.toNat, w32_canon (by omega), ?_⟩
  rw [u32_wrap h0 h1]
  show bd (if 0 ≤ i then some (canon .f32 i.toNat) else none) _ = _
  rw [if_pos h0]; rfl
theorem s_float (n : Nat) {bs : List Int} (hb : Bytes bs) {a : Int} (h0 : 0 ≤ a) (h1 : a ≤ 1125899906842600) (sd : Int) :
    ∃ x a' sd', W32 x ∧ (a ≤ a' ∧ a' ≤ a + 16) ∧ f75_s_l01DrawFloat (n + 5) bs.length (its .u8 bs) a sd = some (x, bs.length, its .u8 bs, a', sd') := by
  obtain ⟨b, a1, s1, ha1, e1⟩ := s_one (n + 1) hb h0 (by omega) sd 12
  rw [f75_s_l01DrawFloat, e1]
  simp only [bd_s, br_not]
  cases b
  · obtain ⟨x, a2, s2, hx, ha2, e2⟩ := s_plain n hb (a := a1) (by omega) (by omega) s1
    simp only [br_f, e2, bd_s]
    exact ⟨_, _, _, hx.w32, by omega, rfl⟩
  obtain ⟨q, a2, s2, -, ha2, e2⟩ := s_pick (n + 2) hb (a := a1) (by omega) (by omega) s1 4
  simp only [br_t, e2, bd_s]
  cases q == 0
  case true =>
    obtain ⟨r, a3, s3, hr, ha3, e3⟩ := s_among (n + 1) hb (a := a2) (by omega) (by omega) s2 [0, 2147483648, 2139095040, 4286578688, 2143289344, 1, 2139095039, 8388608, 8388607, 2147483649] (by decide)
    have hr' : 0 ≤ r ∧ r < 4294967296 := by simp only [List.mem_cons, List.not_mem_nil, or_false] at hr; omega
    obtain ⟨x, hx, e4⟩ := s_from32 (n + 2) hr'.1 hr'.2
    rw [br_t]
    refine ⟨x, a3, s3, hx, by omega, ?_⟩
    refine Eq.trans (congrArg (fun o => bd o _) e3) ?_
    simp only [bd_s, e4]
  cases q == 1
  case true =>
    obtain ⟨r, a3, s3, hr, ha3, e3⟩ := s_pick (n + 2) hb (a := a2) (by omega) (by omega) s2 65536
    obtain ⟨r', a4, s4, hr', ha4, e4⟩ := s_pick (n + 2) hb (a := a3) (by omega) (by omega) s3 65536
    obtain ⟨x, hx, e5⟩ := s_from32 (n + 2) (i := r * 65536 + r') (by omega) (by omega)
    simp only [br_f, br_t, e3, e4, bd_s]
    rw [show IntKind.i64.wrap (r * 65536) = r * 65536 by rw [wrap64] <;> omega, show IntKind.i64.wrap (r * 65536 + r') = r * 65536 + r' by rw [wrap64] <;> omega, e5]
    exact ⟨x, _, _, hx, by omega, rfl⟩
  cases q == 2
  case true =>
    obtain ⟨r, a3, s3, hr, ha3, e3⟩ := s_pick (n + 2) hb (a := a2) (by omega) (by omega) s2 65536
    obtain ⟨x, hx, e5⟩ := s_from32 (n + 2) (i := r * 65536) (by omega) (by omega)
    simp only [br_f, br_t, e3, bd_s]
    rw [show IntKind.i64.wrap (r * 65536) = r * 65536 by rw [wrap64] <;> omega, e5]
    exact ⟨x, _, _, hx, by omega, rfl⟩
  obtain ⟨x, a3, s3, hx, ha3, e3⟩ := s_plain n hb (a := a2) (by omega) (by omega) s2
  obtain ⟨r, a4, s4, hr, ha4, e4⟩ := s_among (n + 1) hb (a := a3) (by omega) (by omega) s3 [8388608, 2130706432, 1610612736, 536870912] (by decide)
  have hr' : 0 ≤ r ∧ r < 4294967296 := by simp only [List.mem_cons, List.not_mem_nil, or_false] at hr; omega
  obtain ⟨y, hy, e5⟩ := s_from32 (n + 2) hr'.1 hr'.2
  simp only [br_f, e3, bd_s]
  refine ⟨_, a4, s4, w32_fmul x y, by omega, ?_⟩
  refine Eq.trans (congrArg (fun o => bd o _) e4) ?_
  simp only [bd_s, e5]

theorem l_long10 (n : Nat) (bs cs : List Int) : f15_l_b10Long (n + 1) bs.length (its .u8 bs) cs.length (its .u8 cs) = some (decide (1048576 < bs.length ∨ 1048576 < cs.length)) := by
  rw [f15_l_b10Long]
  by_cases h : 1048576 < bs.length
  · rw [decide_eq_true (show (bs.length : Int) > 1048576 by omega), decide_eq_true (Or.inl h)]; rfl
  · rw [decide_eq_false (show ¬ (bs.length : Int) > 1048576 by omega), br_f]
    congr 1
    simp [h]; omega

theorem i_same (n : Nat) {x y : Nat} (hx : W32 x) (hy : W32 y) : f32_i_SameNumber (n + 2) x y = some (x == y) := by
  rw [f32_i_SameNumber]
  simp only [fne_nan]
  cases hn : isNaN .f32 x
  · cases hm : isNaN .f32 y
    · simp only [br_f]
      have e1 : ∀ z, isNaN .f32 z = false → xF32bits (n + 1) z = some (z : Int) := fun z hz => by simp [xF32bits, hz]
      simp only [e1 x hn, e1 y hm, bd_s, Option.some.injEq]
      rw [Bool.eq_iff_iff]; simp; constructor <;> omega
    · simp only [br_f, br_t]
      have : x ≠ y := fun e => by rw [e, hm] at hn; cases hn
      simp [this]
  · cases hm : isNaN .f32 y
    · simp only [br_f, br_t]
      have : x ≠ y := fun e => by rw [e, hm] at hn; cases hn
      simp [this]
    · simp only [br_t]
      have : x = y := by rw [← hx.2, ← hy.2, canon_nan hn, canon_nan hm]
      simp [this]

theorem i_in (n : Nat) (a b c : Int) : f83_i_within (n + 1) a b c = some (decide (b ≤ a ∧ a ≤ c)) := by
  rw [f83_i_within]
  by_cases h : b ≤ a <;> simp [br, h]

theorem s_b10number (n : Nat) {bs : List Int} (hb : Bytes bs) : ∃ x, W32 x ∧ f16_s_B10Number (n + 6) bs.length (its .u8 bs) = some x := by
  obtain ⟨b, a1, s1, ha1, e1⟩ := s_one (n + 2) hb (a := 0) (by omega) (by omega) 0 2
  rw [f16_s_B10Number, s_from]
  simp only [bd_s, e1]
  cases b
  · obtain ⟨x, a2, s2, hx, ha2, e2⟩ := s_float n hb (a := a1) (by omega) (by omega) s1
    simp only [br_f, e2, bd_s]
    exact ⟨x, hx, rfl⟩
  · obtain ⟨r, a3, s3, hr, ha3, e3⟩ := s_pick (n + 3) hb (a := a1) (by omega) (by omega) s1 65536
    obtain ⟨r', a4, s4, hr', ha4, e4⟩ := s_pick (n + 3) hb (a := a3) (by omega) (by omega) s3 65536
    obtain ⟨x, hx, e5⟩ := s_from32 (n + 3) (i := r * 65536 + r') (by omega) (by omega)
    simp only [br_t, e3, e4, bd_s]
    rw [show IntKind.i64.wrap (r * 65536) = r * 65536 by rw [wrap64] <;> omega, show IntKind.i64.wrap (r * 65536 + r') = r * 65536 + r' by rw [wrap64] <;> omega, e5]
    exact ⟨x, hx, rfl⟩
theorem i_bits (n : Nat) {x : Nat} (h : W32 x) : f38_i_BitsOf (n + 2) x = some (x : Int) := by
  rw [f38_i_BitsOf, fne_nan]
  cases hn : isNaN .f32 x
  · have : xF32bits (n + 1) x = some (x : Int) := by simp [xF32bits, hn]
    have hx := h.1
    simp only [br_f, this, bd_s]
    rw [wrap64] <;> omega
  · rw [br_t, ← h.2, canon_nan hn]; rfl
theorem i_frombits (n : Nat) {i : Int} (h0 : 0 ≤ i) (h1 : i < 4294967296) : f39_i_FromBits (n + 2) i = some (canon .f32 i.toNat, true) := by
  rw [f39_i_FromBits, i_in, decide_eq_true (show 0 ≤ i ∧ i ≤ 4294967295 by omega), u32_wrap h0 h1]
  have : xF32frombits (n + 1) i = some (canon .f32 i.toNat) := by
    show (if 0 ≤ i then some (canon .f32 i.toNat) else none) = _
    rw [if_pos h0]
  simp only [bd_s, br_not, br_t, this]
theorem i_finite (n : Nat) (x : Nat) : f40_i_IsFinite (n + 1) x = some (fin32 x) := by rw [f40_i_IsFinite, sub_finite]
theorem m_inf (n : Nat) : f95_mathInf (n + 2) 1 = some 9218868437227405312 := by
  rw [f95_mathInf]; rfl
theorem narrow_inf : fltToFlt .f64 9218868437227405312 .f32 = some 2139095040 := by decide
theorem copy_one (n : Nat) : ∃ y, xCopysign (n + 1) (wide 1) (wide 2139095040) = some y ∧ fltToFlt .f64 y .f32 = some 1 := by
  refine ⟨wide 1, ?_, by decide +kernel⟩
  show (if isNaN .f64 (wide 2139095040) then none else if isNaN .f64 (wide 1) then none else if wide 1 < 18446744073709551616 ∧ wide 2139095040 < 18446744073709551616 then some (wide 1 % 9223372036854775808 + wide 2139095040 / 9223372036854775808 * 9223372036854775808) else none) = _
  decide +kernel
theorem m_next (n : Nat) {x : Nat} (h : W32 x) : f94_mathNextafter32 (n + 3) x 2139095040 = some (nextM x) := by
  have hx := h.1
  have c1 : f113_mathNaN (n + 2) = some (qnan .f64) := by rw [f113_mathNaN]; rfl
  have c2 : fltToFlt .f64 (qnan .f64) .f32 = some (qnan .f32) := by decide
  have c3 : ∀ y, f116_mathIsNaN (n + 2) y = some (isNaN .f64 y) := fun y => by rw [f116_mathIsNaN, fne_nan]
  have c4 : isNaN .f64 (wide 2139095040) = false := by rw [wide_nan]; decide
  rw [f94_mathNextafter32, fltToFlt_wide, fltToFlt_wide]
  simp only [bd_s, c3, wide_nan]
  unfold nextM
  cases hn : isNaN .f32 x
  · have h1 := num_mag hn
    have hi : isNaN .f32 2139095040 = false := by decide
    have h0 : isNaN .f32 0 = false := by decide
    have k0 : key .f32 0 = 0 := by decide
    have ki : key .f32 2139095040 = 2139095040 := by decide
    have hk := key32 hx
    simp only [br_f, hi, Bool.false_eq_true, if_false]
    have f1 : feq .f32 x 2139095040 = decide (x = 2139095040) := by
      rw [feq_key]; unfold num2; rw [hn, hi, ki, hk, Bool.eq_iff_iff]; simp; split <;> omega
    have f2 : feq .f32 x 0 = decide (x % 2147483648 = 0) := by
      rw [feq_key]; unfold num2; rw [hn, h0, k0, hk, Bool.eq_iff_iff]; simp; split <;> omega
    rw [f1, f2]
    by_cases e1 : x = 2139095040
    · rw [decide_eq_true e1, if_pos e1]; rfl
    rw [decide_eq_false e1, if_neg e1]
    by_cases e2 : x % 2147483648 = 0
    · rw [decide_eq_true e2, if_pos e2]
      have w1 : xF32frombits (n + 2) 1 = some 1 := by
        show (if (0 : Int) ≤ 1 then some (canon .f32 (Int.toNat 1)) else none) = _
        rw [if_pos (by decide)]; decide
      obtain ⟨y, q1, q2⟩ := copy_one (n + 1)
      simp only [br_f, br_t, w1, bd_s, fltToFlt_wide, q1, q2]
    rw [decide_eq_false e2, if_neg e2]
    have f3 : fgt .f32 2139095040 x = true := by
      rw [fgt_key]; unfold num2; rw [hn, hi, ki, hk]; simp; split <;> omega
    have f4 : fgt .f32 x 0 = decide (x < 2147483648) := by
      rw [fgt_key]; unfold num2; rw [hn, h0, k0, hk, Bool.eq_iff_iff]; simp; split <;> omega
    have w1 : xF32bits (n + 2) x = some (x : Int) := by simp [xF32bits, hn]
    have w2 : ∀ k : Nat, isNaN .f32 k = false → xF32frombits (n + 2) (k : Int) = some k := fun k hk => by
      show (if (0 : Int) ≤ (k : Int) then some (canon .f32 (k : Int).toNat) else none) = _
      rw [if_pos (by omega), Int.toNat_natCast, canon_num hk]
    rw [f3, f4]
    by_cases e3 : x < 2147483648
    · rw [decide_eq_true e3, if_pos e3]
      have w3 : IntKind.u32.wrap ((x : Int) + 1) = ((x + 1 : Nat) : Int) := by rw [u32_wrap] <;> omega
      simp only [br_f, beq_self_eq_true, br_t, w1, bd_s, w3, w2 (x + 1) (by rw [nan32]; simp; omega)]
    · rw [decide_eq_false e3, if_neg e3]
      have w3 : IntKind.u32.wrap ((x : Int) - 1) = ((x - 1 : Nat) : Int) := by rw [u32_wrap] <;> omega
      have w4 : (true == false) = false := rfl
      simp only [br_f, w4, w1, bd_s, w3, w2 (x - 1) (by rw [nan32]; simp; omega)]
  · simp only [br_t, c1, bd_s, c2, if_true]
theorem i_next (n : Nat) {x : Nat} (h : W32 x) : f41_i_NextUp (n + 4) x = some (nextM x) := by
  rw [f41_i_NextUp, m_inf]
  simp only [bd_s, narrow_inf, m_next n h]
theorem i_prev (n : Nat) {x : Nat} (h : W32 x) : f42_i_NextDown (n + 5) x = some (prevM x) := by
  rw [f42_i_NextDown, i_next n (w32_negF h)]; rfl

theorem exact_ (cs : List Int) (hc : ∀ b ∈ cs, GoodI .u8 b) (lc : cs.length ≤ maxLen) (ms : List Int) (hm : ∀ b ∈ ms, GoodI .u8 b) (lm : ms.length ≤ maxLen) : ∃ n, f8_l_FnBits n cs.length (its .u8 cs) ms.length (its .u8 ms) = some true := by
  refine ⟨1000, ?_⟩
  suffices h : ∀ n, f8_l_FnBits (n + 500) cs.length (its .u8 cs) ms.length (its .u8 ms) = some true from h 500
  intro n
  rw [f8_l_FnBits, l_long10]
  cases hlong : decide (1048576 < cs.length ∨ 1048576 < ms.length)
  case true => rfl
  obtain ⟨x, hx, e1⟩ := s_b10number (n + 493) (bytes_of hc)
  obtain ⟨y, hy, e2⟩ := s_b10number (n + 493) (bytes_of hm)
  have hxl := hx.1
  have g1 := i_frombits (n + 497) (i := (x : Int)) (by omega) (by omega)
  rw [Int.toNat_natCast, hx.2] at g1
  have g2 : (fne .f32 x x == ((x : Int) == 2143289344)) = true := by
    rw [fne_nan]
    cases hn : isNaN .f32 x
    · have := num_mag hn
      simp; omega
    · have : x = 2143289344 := by rw [← hx.2, canon_nan hn]; rfl
      rw [this]; rfl
  have g3 : ((x == y) == ((x : Int) == (y : Int))) = true := by
    rw [beq_iff_eq, Bool.eq_iff_iff]; simp; constructor <;> omega
  simp only [br_f, br_not, bd_s, e1, e2, i_bits (n + 497) hx, i_bits (n + 497) hy, g1, br_t, decide_eq_false (show ¬ ((x : Int) < 0) by omega), decide_eq_false (show ¬ ((x : Int) > 4294967295) by omega), i_same (n + 497) hx hx, i_same (n + 497) hx hy, beq_self_eq_true, g2, g3, i_finite, mask_exp x hxl, i_next (n + 495) hx, i_prev (n + 494) hx, i_next (n + 495) (w32_prev hx), i_prev (n + 494) (w32_next hx)]
  cases hn : isNaN .f32 x
  case true =>
    have h1 : isNaN .f32 (nextM x) = true := by unfold nextM; rw [hn, if_pos rfl]; decide
    have h2 : isNaN .f32 (prevM x) = true := by
      have : negF .f32 x = qnan .f32 := by unfold negF; rw [hn]; rfl
      unfold prevM; rw [this]; decide
    simp only [fne_nan, hn, h1, h2, br_t]
  obtain ⟨u1, u2⟩ := next_num hxl hn
  obtain ⟨d1, d2⟩ := prev_num hxl hn
  have z1 : isNaN .f32 0 = false := by decide
  have z2 : key .f32 0 = 0 := by decide
  have kx := key32 hxl
  have hm1 := num_mag hn
  simp only [fne_nan, hn, br_f]
  cases hf : fin32 x
  · -- an infinity
    have hinf : x = 2139095040 ∨ x = 4286578688 := by
      unfold fin32 at hf; simp at hf; omega
    rw [br_f]
    rcases hinf with rfl | rfl <;> decide +kernel
  · have hfx : x % 2147483648 < 2139095040 := by unfold fin32 at hf; simpa using hf
    have ku := key_next hxl hn (by omega)
    have kd := key_prev hxl hn (by omega)
    have k1 : key .f32 (prevM (nextM x)) = key .f32 (nextM x) - 1 := key_prev u2 u1 (by
      intro h; rw [h] at ku
      have : key .f32 4286578688 = -2139095040 := by decide
      rw [this, kx] at ku
      split at ku <;> omega)
    have k2 : key .f32 (nextM (prevM x)) = key .f32 (prevM x) + 1 := key_next d2 d1 (by
      intro h; rw [h] at kd
      have : key .f32 2139095040 = 2139095040 := by decide
      rw [this, kx] at kd
      split at kd <;> omega)
    obtain ⟨pu1, pu2⟩ := prev_num u2 u1
    obtain ⟨pd1, pd2⟩ := next_num d2 d1
    have a1 : fgt .f32 (nextM x) x = true := by rw [fgt_key]; unfold num2; rw [u1, hn]; simp; omega
    have a2 : flt .f32 (prevM x) x = true := by rw [flt_key]; unfold num2; rw [d1, hn]; simp; omega
    have a3 : feq .f32 (prevM (nextM x)) x = true := by rw [feq_key]; unfold num2; rw [pu1, hn]; simp; omega
    have a4 : feq .f32 (nextM (prevM x)) x = true := by rw [feq_key]; unfold num2; rw [pd1, hn]; simp; omega
    simp only [br_t, br_not, a1, a2, a3, a4]
    have b1 : fgt .f32 y x = true → flt .f32 y (nextM x) = false := by
      rw [fgt_key, flt_key]; unfold num2; rw [hn, u1]
      cases isNaN .f32 y <;> simp <;> omega
    have b2 : flt .f32 y x = true → fgt .f32 y (prevM x) = false := by
      rw [fgt_key, flt_key]; unfold num2; rw [hn, d1]
      cases isNaN .f32 y <;> simp <;> omega
    cases c1 : fgt .f32 y x
    · cases c2 : flt .f32 y x
      · simp [br]
      · simp [br, b2 c2]
    · have := b1 c1
      cases c2 : flt .f32 y x
      · simp [br, this]
      · simp [br, this, b2 c2]
theorem law8 : ∀ args, LawArgs E Try.f8.params.toList args → ∃ N os, evalFn E N 8 args = some ⟨[⟨false, [.leaf], [.bool true]⟩], os⟩ := by
  intro args h0
  have hp : Try.f8.params.toList = [22, 22] := by kernel_rfl
  rw [hp] at h0
  obtain ⟨ts0, r0, rfl, hw0, h1⟩ := h0.cons_inv (d := ⟨false, 1, 24, [.sl .own [.leaf]], [.lst 0 []], .slc 5⟩) (by kernel_rfl)
  obtain ⟨n0, cs0, rfl, gl0, hs0⟩ := hw0.slc_inv (e := 5) (d := ⟨false, 1, 24, [.sl .own [.leaf]], [.lst 0 []], .slc 5⟩) (by kernel_rfl) rfl
  obtain ⟨a0, rfl, rfl, g0⟩ := hs0.ints (k := .u8) (d := ⟨false, 1, 1, [.leaf], [.int .u8 0], .int .u8⟩) (by kernel_rfl) rfl
  obtain ⟨ts1, r1, rfl, hw1, h2⟩ := h1.cons_inv (d := ⟨false, 1, 24, [.sl .own [.leaf]], [.lst 0 []], .slc 5⟩) (by kernel_rfl)
  obtain ⟨n1, cs1, rfl, gl1, hs1⟩ := hw1.slc_inv (e := 5) (d := ⟨false, 1, 24, [.sl .own [.leaf]], [.lst 0 []], .slc 5⟩) (by kernel_rfl) rfl
  obtain ⟨a1, rfl, rfl, g1⟩ := hs1.ints (k := .u8) (d := ⟨false, 1, 1, [.leaf], [.int .u8 0], .int .u8⟩) (by kernel_rfl) rfl
  obtain rfl := h2.nil_inv
  obtain ⟨N, hN⟩ := exact_ a0 g0 gl0 a1 g1 gl1
  exact ⟨N, _, f8_l_FnBits.ok N (a0.length, its .u8 a0, a1.length, its .u8 a1) true hN⟩


end Go.Proofs.Ythgenpcoelihiaa.D
end
section
/- FnBits holds: for every input the law returns true, and its arguments read as before. -/
namespace Go.Proofs.Ythgenpcoelihiaa.fnBits
open Go Go.ChangeShapes Go.WideShapes Go.ChangeAt Go.RowKit Go.Desk
set_option linter.unusedVariables false
theorem own : ownKnob Try.prog.godebug = none := by kernel_rfl
theorem laidOut : laidOutB Try.prog = true := by kernel_rfl
set_option maxRecDepth 100000 in
theorem lifted (os : Os) (started : os.Started) (H : Type) (enc : TypeId × Value → H) :
    ReturnsInHanded {} Try.checked os 8 .any (Rows.fnBitsSpec.pre6 enc Try.prog Try.f8 Rows.fnBitsRow.domain false) (Rows.fnBitsSpec.post enc Try.prog Try.f8 false true false false) := by
  refine returnsInHanded_of_change (C := Try.checked) own started (by kernel_rfl) Try.func8
    (ChangeSpec.witness6 (enc := enc) (C := Try.checked) false ⟨#[], #[.slice none 0 0, .slice none 0 0], []⟩ 8 (by kernel_rfl) (by kernel_rfl) (by kernel_rfl) (by kernel_rfl)) ?_
  intro W base args ds gs before hval hW hcnd _
  exact law_contract (c := D.c8) Try.checked.mixed D.tysOk D.fnOk Try.func8 (by kernel_rfl) (by kernel_rfl) (by kernel_rfl) Try.underlying4 rfl
    (fun ds h => by
      rw [show Try.f8.params.toList.length = 2 by kernel_rfl] at h
      match ds, h with
      | [_, _], _ => rfl)
    laidOut (N := 8) (by kernel_rfl) (by kernel_rfl) D.law8 hval hW
theorem over : Rows.fnBitsRow.holds Try.pinned (OpenSpec.ofChange Rows.fnBitsSpec) :=
  OpenClaim.holds_of_wide 8 Try.f8 rfl rfl rfl rfl rfl rfl rfl ⟨rfl, rfl, rfl, rfl, rfl⟩ rfl rfl rfl rfl rfl (by kernel_rfl) Try.func8 (by kernel_rfl)
    (of_decide_eq_true (by kernel_rfl)) (by unfold Func.isWrapper; first | (rw [if_pos (by decide +kernel)]; kernel_rfl) | (rw [if_neg (by decide +kernel)]; exact ⟨rfl, rfl⟩))
    (fun os started H enc _ => lifted os started H enc)
theorem proved : Rows.FnBitsSaid := over
#print axioms proved
end Go.Proofs.Ythgenpcoelihiaa.fnBits
namespace Go.Proofs.Ythgenpcoelihiaa
/-- The row, under a short name, for the claim. -/
theorem fnBits_holds : Rows.FnBitsSaid := fnBits.proved
end Go.Proofs.Ythgenpcoelihiaa
end
