/- FnExactClippedRuns holds: for every input the law returns true, and its arguments read as before. -/
import Derived.Test.YthgenpcoelihiaaChecked
import Derived.Test.YthgenpcoelihiaaDeskE
import Derived.KernelRfl
import Derived.Test.YthgenpcoelihiaaRows
import Derived.WalkKit
import Derived.ProofKit
import Derived.OpenShut
import Derived.ShutString
import Derived.ChangeOld
import Derived.Below
import Derived.SizedLaws
set_option linter.all false
section
/- What math.Abs owes: tables of its own, and the reading of its code. -/
namespace Go.Proofs.Ythgenpcoelihiaa.DA
open Go Go.Desk
def bodyOf (f : Func) : Code := match f.body with
  | some c => c
  | none => .skip
def tyTab : List (Nat × TD) := [
  (28, ⟨false, 1, 8, [.leaf], [.flt .f64 0], .flt .f64⟩),
  (103, ⟨false, 1, 8, [.leaf], [.int .u64 0], .int .u64⟩)]
noncomputable def c115 : Code := bodyOf Try.f115
noncomputable def fnTab : List (Nat × FD) := [
  (115, .code c115 [.val] [] [(2, none)] [(0, [0]), (1, [0])]),
  (117, .ext (pF64frombits)),
  (118, .ext (pF64bits))]
noncomputable def E : Env := ⟨fun t => lookT tyTab t, lookF fnTab⟩
noncomputable def fdAt (n : Nat) : FD := match lookF fnTab n with
  | some d => d
  | none => .ext fun _ => none
noncomputable def keepAt (n : Nat) : List (Nat × List Nat) := match lookF fnTab n with
  | some d => d.keep
  | none => []
theorem tysOk : TysOk Try.prog E := tysOk_of (l := tyTab) (fun _ => rfl) (by kernel_rfl)
theorem ft115 : FnTab Try.prog E 115 (fdAt 115) := fnTab_code (c := c115) (modes := (fdAt 115).ms) (outs := (fdAt 115).os) (results := (fdAt 115).rs) (keep := (fdAt 115).keep) Try.func115 (by kernel_rfl) (by kernel_rfl) (by kernel_rfl)
theorem ft117 : FnTab Try.prog E 117 (.ext (pF64frombits)) := ext_pF64frombits Try.func117 (by kernel_rfl) (by kernel_rfl) (by kernel_rfl) (by kernel_rfl)
theorem ft118 : FnTab Try.prog E 118 (.ext (pF64bits)) := ext_pF64bits Try.func118 (by kernel_rfl) (by kernel_rfl) (by kernel_rfl) (by kernel_rfl)
theorem allFns : AllFns Try.prog E fnTab := .cons ft115 (.cons ft117 (.cons ft118 (.nil)))
theorem fnOk : ∀ f fd, E.fn f = some fd → FnTab Try.prog E f fd := fnTab_of (l := fnTab) (fun _ => rfl) allFns
end Go.Proofs.Ythgenpcoelihiaa.DA
section
namespace Go.Proofs.Ythgenpcoelihiaa.DA
open Go Go.Desk
set_option linter.unusedVariables false
noncomputable def x117.w : FnW E := xF64frombits.w 117 (by kernel_rfl)

noncomputable def x118.w : FnW E := xF64bits.w 118 (by kernel_rfl)

def f115_mathAbs : Nat → Nat → Option (Nat)
  | 0, _ => none
  | n + 1, x1 =>
    bd (xF64bits n x1) fun r2 =>
    let i3 : Int := r2
    bd (xF64frombits n (intBits BinOp.andNot IntKind.u64 i3 (9223372036854775808 : Int))) fun r4 =>
    let x5 : Nat := r4
    some x5
def sg_f : Sig (Nat) where
  pk := fun v => [.flt v]
  up := fun ls => match ls with
    | [.flt a0] => some a0
    | _ => none
  ok := by
    intro ls v h
    split at h
    · cases h; rfl
    · cases h

def f115_mathAbs.P : List Arg := [⟨.val, ⟨false, [.leaf], [.flt .f64 0]⟩⟩]
def f115_mathAbs.A : RAlt (Nat) := .one ⟨[⟨false, [.leaf], [.flt .f64 0]⟩], [none]⟩ sg_f
def f115_mathAbs.F (n : Nat) (v : Nat) := f115_mathAbs n v
noncomputable def f115_mathAbs.O (n : Nat) : Orc := orcOf (E := E) [x117.w, x118.w] [] n
theorem f115_mathAbs.ok : ∀ n v x, f115_mathAbs.F n v = some x → evalFn E n 115 (flAs f115_mathAbs.P (sg_f.pk v)) = some (f115_mathAbs.A.enc x) :=
  fn_pure (modes := (fdAt 115).ms) (outs := (fdAt 115).os) (results := (fdAt 115).rs) f115_mathAbs.O (c := c115) (keep := keepAt 115) (by kernel_rfl) (fun n => orcOf_cf _ _ n) (fun n => lpOk_of (bs := []) (by kernel_rfl) .nil) (fun _ => rfl) (fun _ _ => by kernel_rfl)
noncomputable def f115_mathAbs.w : FnW E := fnW 115 f115_mathAbs.P sg_f f115_mathAbs.A f115_mathAbs.F f115_mathAbs.ok
end Go.Proofs.Ythgenpcoelihiaa.DA
end
namespace Go.Proofs.Ythgenpcoelihiaa.DA
open Go Go.Desk
theorem absOk : ExtOk Try.prog 115 pAbs := ext_pAbs_of Try.checked.mixed tysOk fnOk
  (fun x hN hx => ⟨3, f115_mathAbs.ok 3 x _ (abs_plain 1 hN)⟩)
  ⟨5, by kernel_rfl⟩
end Go.Proofs.Ythgenpcoelihiaa.DA
end
section
/- The tables of the reading: types and functions of the translation, with what is kept at each region's beginning (written by a program of this workplace). -/
namespace Go.Proofs.Ythgenpcoelihiaa.D
open Go Go.Desk
def bodyOf (f : Func) : Code := match f.body with
  | some c => c
  | none => .skip
def tyTab : List (Nat × TD) := [
  (2, ⟨false, 1, 8, [.leaf], [.int .i64 0], .int .i64⟩),
  (3, ⟨false, 1, 8, [.leaf], [.int .i64 0], .int .i64⟩),
  (4, ⟨false, 1, 1, [.leaf], [.bool false], .bool⟩),
  (24, ⟨false, 1, 4, [.leaf], [.flt .f32 0], .flt .f32⟩),
  (28, ⟨false, 1, 8, [.leaf], [.flt .f64 0], .flt .f64⟩),
  (33, ⟨false, 1, 24, [.sl .own [.leaf]], [.lst 0 []], .slc 24⟩),
  (63, ⟨false, 1, 24, [.sl .own [.sl .own [.leaf]]], [.lst 0 []], .slc 96⟩),
  (87, ⟨false, 1, 4, [.leaf], [.int .u32 0], .int .u32⟩),
  (96, ⟨false, 1, 24, [.sl .own [.leaf]], [.lst 0 []], .slc 2⟩)]
noncomputable def c11 : Code := bodyOf Try.f11
noncomputable def c49 : Code := bodyOf Try.f49
noncomputable def c50 : Code := bodyOf Try.f50
noncomputable def c51 : Code := bodyOf Try.f51
noncomputable def c52 : Code := bodyOf Try.f52
noncomputable def c53 : Code := bodyOf Try.f53
noncomputable def c54 : Code := bodyOf Try.f54
noncomputable def c55 : Code := bodyOf Try.f55
noncomputable def c56 : Code := bodyOf Try.f56
noncomputable def c70 : Code := bodyOf Try.f70
noncomputable def c79 : Code := bodyOf Try.f79
noncomputable def c81 : Code := bodyOf Try.f81
noncomputable def c82 : Code := bodyOf Try.f82
noncomputable def c83 : Code := bodyOf Try.f83
noncomputable def c92 : Code := bodyOf Try.f92
noncomputable def c98 : Code := bodyOf Try.f98
noncomputable def c99 : Code := bodyOf Try.f99
noncomputable def c100 : Code := bodyOf Try.f100
noncomputable def c101 : Code := bodyOf Try.f101
noncomputable def c102 : Code := bodyOf Try.f102
noncomputable def c103 : Code := bodyOf Try.f103
noncomputable def fnTab : List (Nat × FD) := [
  (11, .code c11 [.val, .val, .val] [] [(6, none)] [(0, [0, 1, 2]), (1, [0, 1, 2]), (2, []), (3, [0, 1, 2]), (4, [0, 1, 2, 7, 8]), (5, [0, 1, 2, 7, 8, 9]), (6, [0, 1, 2, 7, 8, 9, 10, 11]), (7, []), (8, [0, 1, 2, 7, 8, 9, 10, 11]), (9, []), (10, [0, 1, 2, 7, 8, 9, 10, 11]), (11, [0, 1, 2, 7, 8, 9, 10, 11, 12]), (12, [0, 1, 2, 7, 8, 10, 11, 12]), (13, []), (14, [0, 1, 2, 7, 8, 10]), (15, [0, 1, 2, 7, 8, 10, 13]), (16, [0, 1, 2, 7, 8, 10, 13]), (17, [0, 1, 2, 7, 8, 10, 13, 14]), (18, [0, 1, 2, 7, 8, 10, 13, 14]), (19, []), (20, [0, 1, 2, 7, 8, 10, 13, 14]), (21, []), (22, [0, 1, 2, 7, 8, 10, 13]), (23, [7, 8, 10, 13, 15, 16]), (24, []), (25, [10, 13]), (26, [10, 13, 14]), (27, [13, 14]), (28, []), (29, [13, 14]), (30, []), (31, [])]),
  (49, .code c49 [.val, .val, .val] [] [(6, none), (7, none)] [(0, [0, 1, 2]), (1, [0, 1, 2]), (2, []), (3, [0, 1, 2]), (4, [0, 1, 2, 8]), (5, [0, 1, 2, 8, 9]), (6, [0, 1, 2, 8, 9]), (7, [0, 1, 2, 8, 9]), (8, [0, 1, 2, 8, 9, 10]), (9, [0, 1, 2, 8, 9, 10]), (10, [0, 1, 2, 8, 9, 10]), (11, [0, 1, 2, 8, 9, 10]), (12, [8]), (1000005, [8]), (1000008, [0, 1, 2, 8, 9, 10])]),
  (50, .code c50 [.val] [] [(2, none)] [(0, [0]), (1, [0]), (2, [0, 3]), (3, [0, 3, 4]), (4, [0, 3, 4]), (5, [0, 3, 4]), (6, [3]), (1000003, [3])]),
  (51, .code c51 [.val, .val, .val] [] [(6, none), (7, none)] [(0, [0, 1, 2]), (1, [0, 1, 2]), (2, []), (3, [0, 1, 2]), (4, [0, 1, 2, 8]), (5, [0, 1, 2, 8, 9]), (6, [0, 1, 2, 8, 9]), (7, [0, 1, 2, 8, 9]), (8, [0, 1, 2, 8, 9, 10]), (9, [0, 1, 2, 8, 9, 10]), (10, [0, 1, 2, 8, 9, 10]), (11, [0, 1, 2, 8, 9, 10, 11]), (12, [0, 1, 2, 8, 9, 10, 11]), (13, [0, 1, 2, 8, 9, 10]), (14, [8]), (1000005, [8]), (1000008, [0, 1, 2, 8, 9, 10])]),
  (52, .code c52 [.val, .val] [] [(4, none)] [(0, [0, 1]), (1, [0, 1]), (2, []), (3, [0, 1]), (4, [0, 1, 5]), (5, [0, 1, 5]), (6, [0, 1, 5]), (7, []), (8, []), (1000004, [4])]),
  (53, .code c53 [.val, .val] [] [(4, none)] [(0, [0, 1]), (1, [0, 1]), (2, []), (3, [0, 1]), (4, [0, 1, 5]), (5, [0, 1, 5]), (6, [0, 1, 5]), (7, []), (8, []), (1000004, [4])]),
  (54, .code c54 [.io, .val] [0] [(4, none)] [(0, [0, 1]), (1, [0, 1]), (2, [0, 1, 5]), (3, [0, 1, 5]), (4, [0, 1, 5]), (5, [0, 1, 5]), (6, [0, 1]), (1000002, [0, 1])]),
  (55, .code c55 [.io, .val] [0] [(4, none)] [(0, [0, 1]), (1, [0, 1]), (2, [0, 1, 5]), (3, [0, 1, 5]), (4, [0, 1, 5]), (5, [0, 1]), (1000002, [0, 1])]),
  (56, .code c56 [.val, .val] [] [(4, none)] [(0, [0, 1]), (1, [0, 1]), (2, [0, 1, 5]), (3, [0, 1, 5]), (4, [0, 1, 5]), (5, [0, 1, 5]), (6, []), (7, [1]), (1000002, [1, 4])]),
  (70, .code c70 [.val, .val] [] [(4, none)] [(0, [0, 1]), (1, [0, 1]), (2, [0, 1]), (3, [0, 1]), (4, [0, 1]), (5, [0, 1])]),
  (79, .code c79 [.val] [] [(2, none)] [(0, [0]), (1, [0]), (2, []), (3, [0])]),
  (81, .code c81 [.val] [] [(2, none)] [(0, [0]), (1, [0])]),
  (82, .code c82 [.val] [] [(2, none)] [(0, [0]), (1, [0])]),
  (83, .code c83 [.val, .val, .val] [] [(6, none)] [(0, [0, 1, 2]), (1, [0, 1, 2])]),
  (87, .ext (pF32bits)),
  (92, .code c92 [.val] [] [(2, none)] [(0, [0]), (1, [0])]),
  (98, .code c98 [.val] [] [(2, none)] [(0, [0]), (1, [0])]),
  (99, .code c99 [.val, .val, .val] [] [(6, none)] [(0, [0, 1, 2]), (1, [0, 1, 2])]),
  (100, .code c100 [.val] [] [(2, none)] [(0, [0]), (1, [0]), (2, [0]), (3, [0])]),
  (101, .code c101 [.val, .val] [] [(4, none)] [(0, [0, 1]), (1, [0, 1]), (2, []), (3, [0, 1]), (4, [0, 1, 5]), (5, [0, 1, 5]), (6, [0, 1, 5]), (7, []), (8, []), (1000004, [4])]),
  (102, .code c102 [.io, .val] [0] [(4, none)] [(0, [0, 1]), (1, [0, 1]), (2, [0, 1, 5]), (3, [0, 1, 5]), (4, [0, 1, 5]), (5, [0, 1, 5]), (6, [0, 1]), (1000002, [0, 1])]),
  (103, .code c103 [.val, .val] [] [(4, none)] [(0, [0, 1]), (1, [0, 1]), (2, [0, 1, 5]), (3, [0, 1, 5]), (4, [0, 1, 5]), (5, []), (6, [0, 1, 5]), (7, [1]), (1000002, [1, 4])]),
  (115, .ext (pAbs))]
noncomputable def E : Env := ⟨fun t => lookT tyTab t, lookF fnTab⟩
noncomputable def fdAt (n : Nat) : FD := match lookF fnTab n with
  | some d => d
  | none => .ext fun _ => none
noncomputable def keepAt (n : Nat) : List (Nat × List Nat) := match lookF fnTab n with
  | some d => d.keep
  | none => []
theorem tysOk : TysOk Try.prog E := tysOk_of (l := tyTab) (fun _ => rfl) (by kernel_rfl)
theorem ft11 : FnTab Try.prog E 11 (fdAt 11) := fnTab_code (c := c11) (modes := (fdAt 11).ms) (outs := (fdAt 11).os) (results := (fdAt 11).rs) (keep := (fdAt 11).keep) Try.func11 (by kernel_rfl) (by kernel_rfl) (by kernel_rfl)
theorem ft49 : FnTab Try.prog E 49 (fdAt 49) := fnTab_code (c := c49) (modes := (fdAt 49).ms) (outs := (fdAt 49).os) (results := (fdAt 49).rs) (keep := (fdAt 49).keep) Try.func49 (by kernel_rfl) (by kernel_rfl) (by kernel_rfl)
theorem ft50 : FnTab Try.prog E 50 (fdAt 50) := fnTab_code (c := c50) (modes := (fdAt 50).ms) (outs := (fdAt 50).os) (results := (fdAt 50).rs) (keep := (fdAt 50).keep) Try.func50 (by kernel_rfl) (by kernel_rfl) (by kernel_rfl)
theorem ft51 : FnTab Try.prog E 51 (fdAt 51) := fnTab_code (c := c51) (modes := (fdAt 51).ms) (outs := (fdAt 51).os) (results := (fdAt 51).rs) (keep := (fdAt 51).keep) Try.func51 (by kernel_rfl) (by kernel_rfl) (by kernel_rfl)
theorem ft52 : FnTab Try.prog E 52 (fdAt 52) := fnTab_code (c := c52) (modes := (fdAt 52).ms) (outs := (fdAt 52).os) (results := (fdAt 52).rs) (keep := (fdAt 52).keep) Try.func52 (by kernel_rfl) (by kernel_rfl) (by kernel_rfl)
theorem ft53 : FnTab Try.prog E 53 (fdAt 53) := fnTab_code (c := c53) (modes := (fdAt 53).ms) (outs := (fdAt 53).os) (results := (fdAt 53).rs) (keep := (fdAt 53).keep) Try.func53 (by kernel_rfl) (by kernel_rfl) (by kernel_rfl)
theorem ft54 : FnTab Try.prog E 54 (fdAt 54) := fnTab_code (c := c54) (modes := (fdAt 54).ms) (outs := (fdAt 54).os) (results := (fdAt 54).rs) (keep := (fdAt 54).keep) Try.func54 (by kernel_rfl) (by kernel_rfl) (by kernel_rfl)
theorem ft55 : FnTab Try.prog E 55 (fdAt 55) := fnTab_code (c := c55) (modes := (fdAt 55).ms) (outs := (fdAt 55).os) (results := (fdAt 55).rs) (keep := (fdAt 55).keep) Try.func55 (by kernel_rfl) (by kernel_rfl) (by kernel_rfl)
theorem ft56 : FnTab Try.prog E 56 (fdAt 56) := fnTab_code (c := c56) (modes := (fdAt 56).ms) (outs := (fdAt 56).os) (results := (fdAt 56).rs) (keep := (fdAt 56).keep) Try.func56 (by kernel_rfl) (by kernel_rfl) (by kernel_rfl)
theorem ft70 : FnTab Try.prog E 70 (fdAt 70) := fnTab_code (c := c70) (modes := (fdAt 70).ms) (outs := (fdAt 70).os) (results := (fdAt 70).rs) (keep := (fdAt 70).keep) Try.func70 (by kernel_rfl) (by kernel_rfl) (by kernel_rfl)
theorem ft79 : FnTab Try.prog E 79 (fdAt 79) := fnTab_code (c := c79) (modes := (fdAt 79).ms) (outs := (fdAt 79).os) (results := (fdAt 79).rs) (keep := (fdAt 79).keep) Try.func79 (by kernel_rfl) (by kernel_rfl) (by kernel_rfl)
theorem ft81 : FnTab Try.prog E 81 (fdAt 81) := fnTab_code (c := c81) (modes := (fdAt 81).ms) (outs := (fdAt 81).os) (results := (fdAt 81).rs) (keep := (fdAt 81).keep) Try.func81 (by kernel_rfl) (by kernel_rfl) (by kernel_rfl)
theorem ft82 : FnTab Try.prog E 82 (fdAt 82) := fnTab_code (c := c82) (modes := (fdAt 82).ms) (outs := (fdAt 82).os) (results := (fdAt 82).rs) (keep := (fdAt 82).keep) Try.func82 (by kernel_rfl) (by kernel_rfl) (by kernel_rfl)
theorem ft83 : FnTab Try.prog E 83 (fdAt 83) := fnTab_code (c := c83) (modes := (fdAt 83).ms) (outs := (fdAt 83).os) (results := (fdAt 83).rs) (keep := (fdAt 83).keep) Try.func83 (by kernel_rfl) (by kernel_rfl) (by kernel_rfl)
theorem ft87 : FnTab Try.prog E 87 (.ext (pF32bits)) := ext_pF32bits Try.func87 (by kernel_rfl) (by kernel_rfl) (by kernel_rfl) (by kernel_rfl)
theorem ft92 : FnTab Try.prog E 92 (fdAt 92) := fnTab_code (c := c92) (modes := (fdAt 92).ms) (outs := (fdAt 92).os) (results := (fdAt 92).rs) (keep := (fdAt 92).keep) Try.func92 (by kernel_rfl) (by kernel_rfl) (by kernel_rfl)
theorem ft98 : FnTab Try.prog E 98 (fdAt 98) := fnTab_code (c := c98) (modes := (fdAt 98).ms) (outs := (fdAt 98).os) (results := (fdAt 98).rs) (keep := (fdAt 98).keep) Try.func98 (by kernel_rfl) (by kernel_rfl) (by kernel_rfl)
theorem ft99 : FnTab Try.prog E 99 (fdAt 99) := fnTab_code (c := c99) (modes := (fdAt 99).ms) (outs := (fdAt 99).os) (results := (fdAt 99).rs) (keep := (fdAt 99).keep) Try.func99 (by kernel_rfl) (by kernel_rfl) (by kernel_rfl)
theorem ft100 : FnTab Try.prog E 100 (fdAt 100) := fnTab_code (c := c100) (modes := (fdAt 100).ms) (outs := (fdAt 100).os) (results := (fdAt 100).rs) (keep := (fdAt 100).keep) Try.func100 (by kernel_rfl) (by kernel_rfl) (by kernel_rfl)
theorem ft101 : FnTab Try.prog E 101 (fdAt 101) := fnTab_code (c := c101) (modes := (fdAt 101).ms) (outs := (fdAt 101).os) (results := (fdAt 101).rs) (keep := (fdAt 101).keep) Try.func101 (by kernel_rfl) (by kernel_rfl) (by kernel_rfl)
theorem ft102 : FnTab Try.prog E 102 (fdAt 102) := fnTab_code (c := c102) (modes := (fdAt 102).ms) (outs := (fdAt 102).os) (results := (fdAt 102).rs) (keep := (fdAt 102).keep) Try.func102 (by kernel_rfl) (by kernel_rfl) (by kernel_rfl)
theorem ft103 : FnTab Try.prog E 103 (fdAt 103) := fnTab_code (c := c103) (modes := (fdAt 103).ms) (outs := (fdAt 103).os) (results := (fdAt 103).rs) (keep := (fdAt 103).keep) Try.func103 (by kernel_rfl) (by kernel_rfl) (by kernel_rfl)
theorem ft115 : FnTab Try.prog E 115 (.ext (pAbs)) := DA.absOk
theorem allFns : AllFns Try.prog E fnTab := .cons ft11 (.cons ft49 (.cons ft50 (.cons ft51 (.cons ft52 (.cons ft53 (.cons ft54 (.cons ft55 (.cons ft56 (.cons ft70 (.cons ft79 (.cons ft81 (.cons ft82 (.cons ft83 (.cons ft87 (.cons ft92 (.cons ft98 (.cons ft99 (.cons ft100 (.cons ft101 (.cons ft102 (.cons ft103 (.cons ft115 (.nil)))))))))))))))))))))))
theorem fnOk : ∀ f fd, E.fn f = some fd → FnTab Try.prog E f fd := fnTab_of (l := fnTab) (fun _ => rfl) allFns
end Go.Proofs.Ythgenpcoelihiaa.D
end
section
/- Plain functions for the law's Go functions, each tied to the reading by the kernel (printed by a program of this workplace). -/
namespace Go.Proofs.Ythgenpcoelihiaa.D
open Go Go.Desk
set_option linter.unusedVariables false
noncomputable def x87.w : FnW E := xF32bits.w 87 (by kernel_rfl)

noncomputable def x115.w : FnW E := xAbs.w 115 (by kernel_rfl)

def f50_l_toFloat32S.l0 (n : Nat) : Nat → Nat → List T → Nat → List T → Int → Option (Nat × List T)
  | 0, _, _, _, _, _ => none
  | m + 1, n1, l2, n3, l4, i5 =>
    br (decide (i5 < ((n1 : Nat) : Int))) (
     gd ((decide (((0 : Int) ≤ i5) ∧ (i5 < ((n1 : Nat) : Int)))) && (okAt [(CK.flt FloatKind.f32)] l2 (Int.toNat i5))) (
     gd (decide (((0 : Int) ≤ i5) ∧ (i5 < ((n3 : Nat) : Int)))) (
     gd (Nat.ble ((Int.toNat i5) + 1) (List.length l4)) (
     let l6 : List T := (setN l4 (Int.toNat i5) [(T.flt FloatKind.f32 (fAt l2 (Int.toNat i5)))])
     f50_l_toFloat32S.l0 n m n1 l2 n3 l6 (IntKind.i64.wrap (i5 + (1 : Int))))))) (
     some (n3, l4))
def f50_l_toFloat32S : Nat → Nat → List T → Option (Nat × List T)
  | 0, _, _ => none
  | n + 1, n1, l2 =>
    gd (decide (((0 : Int) ≤ ((n1 : Nat) : Int)) ∧ (((n1 : Nat) : Int) ≤ (2147483648 : Int)))) (
    let l3 : List T := (reps n1 [(T.flt FloatKind.f32 0)])
    bd (f50_l_toFloat32S.l0 n n n1 l2 n1 l3 (0 : Int)) fun r4 =>
    let n5 : Nat := r4.1
    let l6 : List T := r4.2
    some (n5, l6))
def sg_l : Sig (Nat × List T) where
  pk := fun v => [.lst v.1 v.2]
  up := fun ls => match ls with
    | [.lst a0 a1] => some (a0, a1)
    | _ => none
  ok := by
    intro ls v h
    split at h
    · cases h; rfl
    · cases h

def sg_lli : Sig (Nat × List T × Nat × List T × Int) where
  pk := fun v => [.lst v.1 v.2.1, .lst v.2.2.1 v.2.2.2.1, .int v.2.2.2.2]
  up := fun ls => match ls with
    | [.lst a0 a1, .lst a2 a3, .int a4] => some (a0, a1, a2, a3, a4)
    | _ => none
  ok := by
    intro ls v h
    split at h
    · cases h; rfl
    · cases h

def f50_l_toFloat32S.l0.P : AS := ⟨[(0, .val false [.sl .shr [.leaf]] [.lst 0 []] [] 0), (3, .val false [.sl .own [.leaf]] [.lst 0 []] [] 0), (4, .val false [.leaf] [.int .i64 0] [] 0)], 0⟩
def f50_l_toFloat32S.l0.A : Alt (Nat × List T) := .one (.exit 0) ⟨[(3, .val false [.sl .own [.leaf]] [.lst 0 []] [] 0)], 0⟩ sg_l
def f50_l_toFloat32S.l0.F (n m : Nat) (v : Nat × List T × Nat × List T × Int) := f50_l_toFloat32S.l0 n m v.1 v.2.1 v.2.2.1 v.2.2.2.1 v.2.2.2.2
def f50_l_toFloat32S.l0.W (n : Nat) : LpW := .of 48 f50_l_toFloat32S.l0.P sg_lli f50_l_toFloat32S.l0.A (f50_l_toFloat32S.l0.F n n)
def f50_l_toFloat32S.P : List Arg := [⟨.val, ⟨false, [.sl .shr [.leaf]], [.lst 0 []]⟩⟩]
def f50_l_toFloat32S.A : RAlt (Nat × List T) := .one ⟨[⟨false, [.sl .own [.leaf]], [.lst 0 []]⟩], [none]⟩ sg_l
def f50_l_toFloat32S.F (n : Nat) (v : Nat × List T) := f50_l_toFloat32S n v.1 v.2
noncomputable def f50_l_toFloat32S.O (n : Nat) : Orc := orcOf (E := E) [] [f50_l_toFloat32S.l0.W n] n
theorem f50_l_toFloat32S.l0.ok (n : Nat) : LpOk (f50_l_toFloat32S.O n) E (evalFn E n) n (keepAt 50) (.loop (loopAt c50 0)) :=
  lp_pure f50_l_toFloat32S.l0.P sg_lli f50_l_toFloat32S.l0.A (f50_l_toFloat32S.l0.F n) (orcOf_cf _ _ n) (lpOk_of (bs := []) (by kernel_rfl) .nil) (fun _ => rfl) (fun _ _ => by kernel_rfl) (fun _ _ _ => by kernel_rfl)
theorem f50_l_toFloat32S.ok : ∀ n v x, f50_l_toFloat32S.F n v = some x → evalFn E n 50 (flAs f50_l_toFloat32S.P (sg_l.pk v)) = some (f50_l_toFloat32S.A.enc x) :=
  fn_pure (modes := (fdAt 50).ms) (outs := (fdAt 50).os) (results := (fdAt 50).rs) f50_l_toFloat32S.O (c := c50) (keep := keepAt 50) (by kernel_rfl) (fun n => orcOf_cf _ _ n) (fun n => lpOk_of (bs := [loopAt c50 0]) (by kernel_rfl) (.cons (f50_l_toFloat32S.l0.ok n) .nil)) (fun _ => rfl) (fun _ _ => by kernel_rfl)
noncomputable def f50_l_toFloat32S.w : FnW E := fnW 50 f50_l_toFloat32S.P sg_l f50_l_toFloat32S.A f50_l_toFloat32S.F f50_l_toFloat32S.ok

def f98_s_l01Few : Nat → Nat → List T → Option (Bool)
  | 0, _, _ => none
  | n + 1, n1, l2 =>
    some (decide (((n1 : Nat) : Int) ≤ (256 : Int)))
def sg_b : Sig (Bool) where
  pk := fun v => [.bool v]
  up := fun ls => match ls with
    | [.bool a0] => some a0
    | _ => none
  ok := by
    intro ls v h
    split at h
    · cases h; rfl
    · cases h

def f98_s_l01Few.P : List Arg := [⟨.val, ⟨false, [.sl .shr [.leaf]], [.lst 0 []]⟩⟩]
def f98_s_l01Few.A : RAlt (Bool) := .one ⟨[⟨false, [.leaf], [.bool false]⟩], [none]⟩ sg_b
def f98_s_l01Few.F (n : Nat) (v : Nat × List T) := f98_s_l01Few n v.1 v.2
noncomputable def f98_s_l01Few.O (n : Nat) : Orc := orcOf (E := E) [] [] n
theorem f98_s_l01Few.ok : ∀ n v x, f98_s_l01Few.F n v = some x → evalFn E n 98 (flAs f98_s_l01Few.P (sg_l.pk v)) = some (f98_s_l01Few.A.enc x) :=
  fn_pure (modes := (fdAt 98).ms) (outs := (fdAt 98).os) (results := (fdAt 98).rs) f98_s_l01Few.O (c := c98) (keep := keepAt 98) (by kernel_rfl) (fun n => orcOf_cf _ _ n) (fun n => lpOk_of (bs := []) (by kernel_rfl) .nil) (fun _ => rfl) (fun _ _ => by kernel_rfl)
noncomputable def f98_s_l01Few.w : FnW E := fnW 98 f98_s_l01Few.P sg_l f98_s_l01Few.A f98_s_l01Few.F f98_s_l01Few.ok

def f99_s_l00In : Nat → Int → Int → Int → Option (Bool)
  | 0, _, _, _ => none
  | n + 1, i1, i2, i3 =>
    br (decide (i1 ≥ i2)) (
     some (decide (i1 ≤ i3))) (
     some false)
def sg_iii : Sig (Int × Int × Int) where
  pk := fun v => [.int v.1, .int v.2.1, .int v.2.2]
  up := fun ls => match ls with
    | [.int a0, .int a1, .int a2] => some (a0, a1, a2)
    | _ => none
  ok := by
    intro ls v h
    split at h
    · cases h; rfl
    · cases h

def f99_s_l00In.P : List Arg := [⟨.val, ⟨false, [.leaf], [.int .i64 0]⟩⟩, ⟨.val, ⟨false, [.leaf], [.int .i64 0]⟩⟩, ⟨.val, ⟨false, [.leaf], [.int .i64 0]⟩⟩]
def f99_s_l00In.A : RAlt (Bool) := .one ⟨[⟨false, [.leaf], [.bool false]⟩], [none, none, none]⟩ sg_b
def f99_s_l00In.F (n : Nat) (v : Int × Int × Int) := f99_s_l00In n v.1 v.2.1 v.2.2
noncomputable def f99_s_l00In.O (n : Nat) : Orc := orcOf (E := E) [] [] n
theorem f99_s_l00In.ok : ∀ n v x, f99_s_l00In.F n v = some x → evalFn E n 99 (flAs f99_s_l00In.P (sg_iii.pk v)) = some (f99_s_l00In.A.enc x) :=
  fn_pure (modes := (fdAt 99).ms) (outs := (fdAt 99).os) (results := (fdAt 99).rs) f99_s_l00In.O (c := c99) (keep := keepAt 99) (by kernel_rfl) (fun n => orcOf_cf _ _ n) (fun n => lpOk_of (bs := []) (by kernel_rfl) .nil) (fun _ => rfl) (fun _ _ => by kernel_rfl)
noncomputable def f99_s_l00In.w : FnW E := fnW 99 f99_s_l00In.P sg_iii f99_s_l00In.A f99_s_l00In.F f99_s_l00In.ok

def f79_s_l01Bits : Nat → Nat → Option (Int)
  | 0, _ => none
  | n + 1, x1 =>
    br (fne FloatKind.f32 x1 x1) (
     some (2143289344 : Int)) (
     bd (xF32bits n x1) fun r2 =>
     let i3 : Int := r2
     some (IntKind.i64.wrap i3))
def sg_f : Sig (Nat) where
  pk := fun v => [.flt v]
  up := fun ls => match ls with
    | [.flt a0] => some a0
    | _ => none
  ok := by
    intro ls v h
    split at h
    · cases h; rfl
    · cases h

def sg_i : Sig (Int) where
  pk := fun v => [.int v]
  up := fun ls => match ls with
    | [.int a0] => some a0
    | _ => none
  ok := by
    intro ls v h
    split at h
    · cases h; rfl
    · cases h

def f79_s_l01Bits.P : List Arg := [⟨.val, ⟨false, [.leaf], [.flt .f32 0]⟩⟩]
def f79_s_l01Bits.A : RAlt (Int) := .one ⟨[⟨false, [.leaf], [.int .i64 0]⟩], [none]⟩ sg_i
def f79_s_l01Bits.F (n : Nat) (v : Nat) := f79_s_l01Bits n v
noncomputable def f79_s_l01Bits.O (n : Nat) : Orc := orcOf (E := E) [x87.w] [] n
theorem f79_s_l01Bits.ok : ∀ n v x, f79_s_l01Bits.F n v = some x → evalFn E n 79 (flAs f79_s_l01Bits.P (sg_f.pk v)) = some (f79_s_l01Bits.A.enc x) :=
  fn_pure (modes := (fdAt 79).ms) (outs := (fdAt 79).os) (results := (fdAt 79).rs) f79_s_l01Bits.O (c := c79) (keep := keepAt 79) (by kernel_rfl) (fun n => orcOf_cf _ _ n) (fun n => lpOk_of (bs := []) (by kernel_rfl) .nil) (fun _ => rfl) (fun _ _ => by kernel_rfl)
noncomputable def f79_s_l01Bits.w : FnW E := fnW 79 f79_s_l01Bits.P sg_f f79_s_l01Bits.A f79_s_l01Bits.F f79_s_l01Bits.ok

def f100_s_l04Size : Nat → Nat → Option (Nat)
  | 0, _ => none
  | n + 1, x1 =>
    br (flt FloatKind.f32 x1 0) (
     some (negF FloatKind.f32 x1)) (
     bd (f79_s_l01Bits n x1) fun r2 =>
     let i3 : Int := r2
     br (i3 == (2147483648 : Int)) (
      some (negF FloatKind.f32 x1)) (
      some x1))
def f100_s_l04Size.P : List Arg := [⟨.val, ⟨false, [.leaf], [.flt .f32 0]⟩⟩]
def f100_s_l04Size.A : RAlt (Nat) := .one ⟨[⟨false, [.leaf], [.flt .f32 0]⟩], [none]⟩ sg_f
def f100_s_l04Size.F (n : Nat) (v : Nat) := f100_s_l04Size n v
noncomputable def f100_s_l04Size.O (n : Nat) : Orc := orcOf (E := E) [f79_s_l01Bits.w] [] n
theorem f100_s_l04Size.ok : ∀ n v x, f100_s_l04Size.F n v = some x → evalFn E n 100 (flAs f100_s_l04Size.P (sg_f.pk v)) = some (f100_s_l04Size.A.enc x) :=
  fn_pure (modes := (fdAt 100).ms) (outs := (fdAt 100).os) (results := (fdAt 100).rs) f100_s_l04Size.O (c := c100) (keep := keepAt 100) (by kernel_rfl) (fun n => orcOf_cf _ _ n) (fun n => lpOk_of (bs := []) (by kernel_rfl) .nil) (fun _ => rfl) (fun _ _ => by kernel_rfl)
noncomputable def f100_s_l04Size.w : FnW E := fnW 100 f100_s_l04Size.P sg_f f100_s_l04Size.A f100_s_l04Size.F f100_s_l04Size.ok

def f49_s_ClippedRuns.l1 (n : Nat) : Nat → Nat → List T → Nat → Int → Nat → List T → Int → Int → Option (Nat × List T × Nat × Int × Nat × List T × Int × Int)
  | 0, _, _, _, _, _, _, _, _ => none
  | m + 1, n1, l2, x3, i4, n5, l6, i7, i8 =>
    br (decide (i7 < ((n1 : Nat) : Int))) (
     gd ((decide (((0 : Int) ≤ i7) ∧ (i7 < ((n1 : Nat) : Int)))) && (okAt [(CK.flt FloatKind.f32)] l2 (Int.toNat i7))) (
     bd (f100_s_l04Size n (fAt l2 (Int.toNat i7))) fun r9 =>
     let x10 : Nat := r9
     br (fge FloatKind.f32 x10 x3) (
      f49_s_ClippedRuns.l1 n m n1 l2 x3 i4 n5 l6 (IntKind.i64.wrap (i7 + (1 : Int))) i8) (
      some (n1, l2, x3, i4, n5, l6, i7, i8)))) (
     some (n1, l2, x3, i4, n5, l6, i7, i8))
def f49_s_ClippedRuns.l0 (n : Nat) : Nat → Nat → List T → Nat → Int → Nat → List T → Int → Option (Nat × List T)
  | 0, _, _, _, _, _, _, _ => none
  | m + 1, n1, l2, x3, i4, n5, l6, i7 =>
    br (decide (i7 < ((n1 : Nat) : Int))) (
     bd (f49_s_ClippedRuns.l1 n n n1 l2 x3 i4 n5 l6 i7 i7) fun r8 =>
     let n9 : Nat := r8.1
     let l10 : List T := r8.2.1
     let x11 : Nat := r8.2.2.1
     let i12 : Int := r8.2.2.2.1
     let n13 : Nat := r8.2.2.2.2.1
     let l14 : List T := r8.2.2.2.2.2.1
     let i15 : Int := r8.2.2.2.2.2.2.1
     let i16 : Int := r8.2.2.2.2.2.2.2
     br (decide ((IntKind.i64.wrap (i15 - i16)) ≥ i12)) (
      gd (Nat.ble (n13 + 1) 2147483648) (
      let n17 : Nat := (n13 + 1)
      let l18 : List T := (l14 ++ (setN (reps 1 [(T.lst 0 [])]) 0 [(T.lst 2 (setN (setN (reps 2 [(T.int IntKind.i64 (0 : Int))]) 0 [(T.int IntKind.i64 i16)]) 1 [(T.int IntKind.i64 (IntKind.i64.wrap (i15 - i16)))]))]))
      f49_s_ClippedRuns.l0 n m n9 l10 x11 i12 n17 l18 (IntKind.i64.wrap (i15 + (1 : Int))))) (
      f49_s_ClippedRuns.l0 n m n9 l10 x11 i12 n13 l14 (IntKind.i64.wrap (i15 + (1 : Int))))) (
     some (n5, l6))
def f49_s_ClippedRuns : Nat → Nat → List T → Nat → Int → Option (Nat × List T × Bool)
  | 0, _, _, _, _ => none
  | n + 1, n1, l2, x3, i4 =>
    bd (f98_s_l01Few n n1 l2) fun r5 =>
    let b6 : Bool := r5
    br (!b6) (
     some (0, [], false)) (
     bd (f99_s_l00In n i4 (1 : Int) (256 : Int)) fun r7 =>
     let b8 : Bool := r7
     br (!b8) (
      some (0, [], false)) (
      bd (f49_s_ClippedRuns.l0 n n n1 l2 x3 i4 0 (reps 0 [(T.lst 0 [])]) (0 : Int)) fun r9 =>
      let n10 : Nat := r9.1
      let l11 : List T := r9.2
      some (n10, l11, true)))
def sg_lfi : Sig (Nat × List T × Nat × Int) where
  pk := fun v => [.lst v.1 v.2.1, .flt v.2.2.1, .int v.2.2.2]
  up := fun ls => match ls with
    | [.lst a0 a1, .flt a2, .int a3] => some (a0, a1, a2, a3)
    | _ => none
  ok := by
    intro ls v h
    split at h
    · cases h; rfl
    · cases h

def sg_lb : Sig (Nat × List T × Bool) where
  pk := fun v => [.lst v.1 v.2.1, .bool v.2.2]
  up := fun ls => match ls with
    | [.lst a0 a1, .bool a2] => some (a0, a1, a2)
    | _ => none
  ok := by
    intro ls v h
    split at h
    · cases h; rfl
    · cases h

def sg_lfilii : Sig (Nat × List T × Nat × Int × Nat × List T × Int × Int) where
  pk := fun v => [.lst v.1 v.2.1, .flt v.2.2.1, .int v.2.2.2.1, .lst v.2.2.2.2.1 v.2.2.2.2.2.1, .int v.2.2.2.2.2.2.1, .int v.2.2.2.2.2.2.2]
  up := fun ls => match ls with
    | [.lst a0 a1, .flt a2, .int a3, .lst a4 a5, .int a6, .int a7] => some (a0, a1, a2, a3, a4, a5, a6, a7)
    | _ => none
  ok := by
    intro ls v h
    split at h
    · cases h; rfl
    · cases h

def sg_lfili : Sig (Nat × List T × Nat × Int × Nat × List T × Int) where
  pk := fun v => [.lst v.1 v.2.1, .flt v.2.2.1, .int v.2.2.2.1, .lst v.2.2.2.2.1 v.2.2.2.2.2.1, .int v.2.2.2.2.2.2]
  up := fun ls => match ls with
    | [.lst a0 a1, .flt a2, .int a3, .lst a4 a5, .int a6] => some (a0, a1, a2, a3, a4, a5, a6)
    | _ => none
  ok := by
    intro ls v h
    split at h
    · cases h; rfl
    · cases h

def f49_s_ClippedRuns.l1.P : AS := ⟨[(0, .val false [.sl .shr [.leaf]] [.lst 0 []] [] 0), (1, .val false [.leaf] [.flt .f32 0] [] 0), (2, .val false [.leaf] [.int .i64 0] [] 0), (8, .val false [.sl .own [.sl .own [.leaf]]] [.lst 0 []] [] 0), (9, .val false [.leaf] [.int .i64 0] [] 0), (10, .val false [.leaf] [.int .i64 0] [] 0)], 0⟩
def f49_s_ClippedRuns.l1.A : Alt (Nat × List T × Nat × Int × Nat × List T × Int × Int) := .one (.exit 2) ⟨[(0, .val false [.sl .shr [.leaf]] [.lst 0 []] [] 0), (1, .val false [.leaf] [.flt .f32 0] [] 0), (2, .val false [.leaf] [.int .i64 0] [] 0), (8, .val false [.sl .own [.sl .own [.leaf]]] [.lst 0 []] [] 0), (9, .val false [.leaf] [.int .i64 0] [] 0), (10, .val false [.leaf] [.int .i64 0] [] 0)], 0⟩ sg_lfilii
def f49_s_ClippedRuns.l1.F (n m : Nat) (v : Nat × List T × Nat × Int × Nat × List T × Int × Int) := f49_s_ClippedRuns.l1 n m v.1 v.2.1 v.2.2.1 v.2.2.2.1 v.2.2.2.2.1 v.2.2.2.2.2.1 v.2.2.2.2.2.2.1 v.2.2.2.2.2.2.2
def f49_s_ClippedRuns.l1.W (n : Nat) : LpW := .of 128 f49_s_ClippedRuns.l1.P sg_lfilii f49_s_ClippedRuns.l1.A (f49_s_ClippedRuns.l1.F n n)
def f49_s_ClippedRuns.l0.P : AS := ⟨[(0, .val false [.sl .shr [.leaf]] [.lst 0 []] [] 0), (1, .val false [.leaf] [.flt .f32 0] [] 0), (2, .val false [.leaf] [.int .i64 0] [] 0), (8, .val false [.sl .own [.sl .own [.leaf]]] [.lst 0 []] [] 0), (9, .val false [.leaf] [.int .i64 0] [] 0)], 0⟩
def f49_s_ClippedRuns.l0.A : Alt (Nat × List T) := .one (.exit 0) ⟨[(8, .val false [.sl .own [.sl .own [.leaf]]] [.lst 0 []] [] 0)], 0⟩ sg_l
def f49_s_ClippedRuns.l0.F (n m : Nat) (v : Nat × List T × Nat × Int × Nat × List T × Int) := f49_s_ClippedRuns.l0 n m v.1 v.2.1 v.2.2.1 v.2.2.2.1 v.2.2.2.2.1 v.2.2.2.2.2.1 v.2.2.2.2.2.2
def f49_s_ClippedRuns.l0.W (n : Nat) : LpW := .of 80 f49_s_ClippedRuns.l0.P sg_lfili f49_s_ClippedRuns.l0.A (f49_s_ClippedRuns.l0.F n n)
def f49_s_ClippedRuns.P : List Arg := [⟨.val, ⟨false, [.sl .shr [.leaf]], [.lst 0 []]⟩⟩, ⟨.val, ⟨false, [.leaf], [.flt .f32 0]⟩⟩, ⟨.val, ⟨false, [.leaf], [.int .i64 0]⟩⟩]
def f49_s_ClippedRuns.A : RAlt (Nat × List T × Bool) := .one ⟨[⟨false, [.sl .own [.sl .own [.leaf]]], [.lst 0 []]⟩, ⟨false, [.leaf], [.bool false]⟩], [none, none, none]⟩ sg_lb
def f49_s_ClippedRuns.F (n : Nat) (v : Nat × List T × Nat × Int) := f49_s_ClippedRuns n v.1 v.2.1 v.2.2.1 v.2.2.2
noncomputable def f49_s_ClippedRuns.O (n : Nat) : Orc := orcOf (E := E) [f98_s_l01Few.w, f99_s_l00In.w, f100_s_l04Size.w] [f49_s_ClippedRuns.l1.W n, f49_s_ClippedRuns.l0.W n] n
theorem f49_s_ClippedRuns.l1.ok (n : Nat) : LpOk (f49_s_ClippedRuns.O n) E (evalFn E n) n (keepAt 49) (.loop (loopAt c49 1)) :=
  lp_pure f49_s_ClippedRuns.l1.P sg_lfilii f49_s_ClippedRuns.l1.A (f49_s_ClippedRuns.l1.F n) (orcOf_cf _ _ n) (lpOk_of (bs := []) (by kernel_rfl) .nil) (fun _ => rfl) (fun _ _ => by kernel_rfl) (fun _ _ _ => by kernel_rfl)
theorem f49_s_ClippedRuns.l0.ok (n : Nat) : LpOk (f49_s_ClippedRuns.O n) E (evalFn E n) n (keepAt 49) (.loop (loopAt c49 0)) :=
  lp_pure f49_s_ClippedRuns.l0.P sg_lfili f49_s_ClippedRuns.l0.A (f49_s_ClippedRuns.l0.F n) (orcOf_cf _ _ n) (lpOk_of (bs := [loopAt c49 1]) (by kernel_rfl) (.cons (f49_s_ClippedRuns.l1.ok n) .nil)) (fun _ => rfl) (fun _ _ => by kernel_rfl) (fun _ _ _ => by kernel_rfl)
theorem f49_s_ClippedRuns.ok : ∀ n v x, f49_s_ClippedRuns.F n v = some x → evalFn E n 49 (flAs f49_s_ClippedRuns.P (sg_lfi.pk v)) = some (f49_s_ClippedRuns.A.enc x) :=
  fn_pure (modes := (fdAt 49).ms) (outs := (fdAt 49).os) (results := (fdAt 49).rs) f49_s_ClippedRuns.O (c := c49) (keep := keepAt 49) (by kernel_rfl) (fun n => orcOf_cf _ _ n) (fun n => lpOk_of (bs := [loopAt c49 0]) (by kernel_rfl) (.cons (f49_s_ClippedRuns.l0.ok n) .nil)) (fun _ => rfl) (fun _ _ => by kernel_rfl)
noncomputable def f49_s_ClippedRuns.w : FnW E := fnW 49 f49_s_ClippedRuns.P sg_lfi f49_s_ClippedRuns.A f49_s_ClippedRuns.F f49_s_ClippedRuns.ok

def f82_i_areSamples : Nat → Nat → List T → Option (Bool)
  | 0, _, _ => none
  | n + 1, n1, l2 =>
    some (decide (((n1 : Nat) : Int) ≤ (256 : Int)))
def f82_i_areSamples.P : List Arg := [⟨.val, ⟨false, [.sl .shr [.leaf]], [.lst 0 []]⟩⟩]
def f82_i_areSamples.A : RAlt (Bool) := .one ⟨[⟨false, [.leaf], [.bool false]⟩], [none]⟩ sg_b
def f82_i_areSamples.F (n : Nat) (v : Nat × List T) := f82_i_areSamples n v.1 v.2
noncomputable def f82_i_areSamples.O (n : Nat) : Orc := orcOf (E := E) [] [] n
theorem f82_i_areSamples.ok : ∀ n v x, f82_i_areSamples.F n v = some x → evalFn E n 82 (flAs f82_i_areSamples.P (sg_l.pk v)) = some (f82_i_areSamples.A.enc x) :=
  fn_pure (modes := (fdAt 82).ms) (outs := (fdAt 82).os) (results := (fdAt 82).rs) f82_i_areSamples.O (c := c82) (keep := keepAt 82) (by kernel_rfl) (fun n => orcOf_cf _ _ n) (fun n => lpOk_of (bs := []) (by kernel_rfl) .nil) (fun _ => rfl) (fun _ _ => by kernel_rfl)
noncomputable def f82_i_areSamples.w : FnW E := fnW 82 f82_i_areSamples.P sg_l f82_i_areSamples.A f82_i_areSamples.F f82_i_areSamples.ok

def f83_i_within : Nat → Int → Int → Int → Option (Bool)
  | 0, _, _, _ => none
  | n + 1, i1, i2, i3 =>
    br (decide (i2 ≤ i1)) (
     some (decide (i1 ≤ i3))) (
     some false)
def f83_i_within.P : List Arg := [⟨.val, ⟨false, [.leaf], [.int .i64 0]⟩⟩, ⟨.val, ⟨false, [.leaf], [.int .i64 0]⟩⟩, ⟨.val, ⟨false, [.leaf], [.int .i64 0]⟩⟩]
def f83_i_within.A : RAlt (Bool) := .one ⟨[⟨false, [.leaf], [.bool false]⟩], [none, none, none]⟩ sg_b
def f83_i_within.F (n : Nat) (v : Int × Int × Int) := f83_i_within n v.1 v.2.1 v.2.2
noncomputable def f83_i_within.O (n : Nat) : Orc := orcOf (E := E) [] [] n
theorem f83_i_within.ok : ∀ n v x, f83_i_within.F n v = some x → evalFn E n 83 (flAs f83_i_within.P (sg_iii.pk v)) = some (f83_i_within.A.enc x) :=
  fn_pure (modes := (fdAt 83).ms) (outs := (fdAt 83).os) (results := (fdAt 83).rs) f83_i_within.O (c := c83) (keep := keepAt 83) (by kernel_rfl) (fun n => orcOf_cf _ _ n) (fun n => lpOk_of (bs := []) (by kernel_rfl) .nil) (fun _ => rfl) (fun _ _ => by kernel_rfl)
noncomputable def f83_i_within.w : FnW E := fnW 83 f83_i_within.P sg_iii f83_i_within.A f83_i_within.F f83_i_within.ok

def f92_i_absolute : Nat → Nat → Option (Nat)
  | 0, _ => none
  | n + 1, x1 =>
    bd ((fltToFlt FloatKind.f32 x1 FloatKind.f64)) fun y2 =>
    bd (xAbs n y2) fun r3 =>
    let x4 : Nat := r3
    bd ((fltToFlt FloatKind.f64 x4 FloatKind.f32)) fun y5 =>
    some y5
def f92_i_absolute.P : List Arg := [⟨.val, ⟨false, [.leaf], [.flt .f32 0]⟩⟩]
def f92_i_absolute.A : RAlt (Nat) := .one ⟨[⟨false, [.leaf], [.flt .f32 0]⟩], [none]⟩ sg_f
def f92_i_absolute.F (n : Nat) (v : Nat) := f92_i_absolute n v
noncomputable def f92_i_absolute.O (n : Nat) : Orc := orcOf (E := E) [x115.w] [] n
theorem f92_i_absolute.ok : ∀ n v x, f92_i_absolute.F n v = some x → evalFn E n 92 (flAs f92_i_absolute.P (sg_f.pk v)) = some (f92_i_absolute.A.enc x) :=
  fn_pure (modes := (fdAt 92).ms) (outs := (fdAt 92).os) (results := (fdAt 92).rs) f92_i_absolute.O (c := c92) (keep := keepAt 92) (by kernel_rfl) (fun n => orcOf_cf _ _ n) (fun n => lpOk_of (bs := []) (by kernel_rfl) .nil) (fun _ => rfl) (fun _ _ => by kernel_rfl)
noncomputable def f92_i_absolute.w : FnW E := fnW 92 f92_i_absolute.P sg_f f92_i_absolute.A f92_i_absolute.F f92_i_absolute.ok

def f51_i_ClippedRuns.l1 (n : Nat) : Nat → Nat → List T → Nat → Int → Nat → List T → Int → Int → Option (Nat × List T × Nat × Int × Nat × List T × Int × Int)
  | 0, _, _, _, _, _, _, _, _ => none
  | m + 1, n1, l2, x3, i4, n5, l6, i7, i8 =>
    br (decide (i8 < ((n1 : Nat) : Int))) (
     gd ((decide (((0 : Int) ≤ i8) ∧ (i8 < ((n1 : Nat) : Int)))) && (okAt [(CK.flt FloatKind.f32)] l2 (Int.toNat i8))) (
     bd (f92_i_absolute n (fAt l2 (Int.toNat i8))) fun r9 =>
     let x10 : Nat := r9
     br (fge FloatKind.f32 x10 x3) (
      f51_i_ClippedRuns.l1 n m n1 l2 x3 i4 n5 l6 i7 (IntKind.i64.wrap (i8 + (1 : Int)))) (
      some (n1, l2, x3, i4, n5, l6, i7, i8)))) (
     some (n1, l2, x3, i4, n5, l6, i7, i8))
def f81_i_size : Nat → Int → Option (Int)
  | 0, _ => none
  | n + 1, i1 =>
    some i1
def f81_i_size.P : List Arg := [⟨.val, ⟨false, [.leaf], [.int .i64 0]⟩⟩]
def f81_i_size.A : RAlt (Int) := .one ⟨[⟨false, [.leaf], [.int .i64 0]⟩], [none]⟩ sg_i
def f81_i_size.F (n : Nat) (v : Int) := f81_i_size n v
noncomputable def f81_i_size.O (n : Nat) : Orc := orcOf (E := E) [] [] n
theorem f81_i_size.ok : ∀ n v x, f81_i_size.F n v = some x → evalFn E n 81 (flAs f81_i_size.P (sg_i.pk v)) = some (f81_i_size.A.enc x) :=
  fn_pure (modes := (fdAt 81).ms) (outs := (fdAt 81).os) (results := (fdAt 81).rs) f81_i_size.O (c := c81) (keep := keepAt 81) (by kernel_rfl) (fun n => orcOf_cf _ _ n) (fun n => lpOk_of (bs := []) (by kernel_rfl) .nil) (fun _ => rfl) (fun _ _ => by kernel_rfl)
noncomputable def f81_i_size.w : FnW E := fnW 81 f81_i_size.P sg_i f81_i_size.A f81_i_size.F f81_i_size.ok

def f51_i_ClippedRuns.l0 (n : Nat) : Nat → Nat → List T → Nat → Int → Nat → List T → Int → Option (Nat × List T)
  | 0, _, _, _, _, _, _, _ => none
  | m + 1, n1, l2, x3, i4, n5, l6, i7 =>
    br (decide (i7 < ((n1 : Nat) : Int))) (
     bd (f51_i_ClippedRuns.l1 n n n1 l2 x3 i4 n5 l6 i7 i7) fun r8 =>
     let n9 : Nat := r8.1
     let l10 : List T := r8.2.1
     let x11 : Nat := r8.2.2.1
     let i12 : Int := r8.2.2.2.1
     let n13 : Nat := r8.2.2.2.2.1
     let l14 : List T := r8.2.2.2.2.2.1
     let i15 : Int := r8.2.2.2.2.2.2.1
     let i16 : Int := r8.2.2.2.2.2.2.2
     bd (f81_i_size n (IntKind.i64.wrap (i16 - i15))) fun r17 =>
     let i18 : Int := r17
     br (decide (i18 ≥ i12)) (
      gd (Nat.ble (n13 + 1) 2147483648) (
      let n19 : Nat := (n13 + 1)
      let l20 : List T := (l14 ++ (setN (reps 1 [(T.lst 0 [])]) 0 [(T.lst 2 (setN (setN (reps 2 [(T.int IntKind.i64 (0 : Int))]) 0 [(T.int IntKind.i64 i15)]) 1 [(T.int IntKind.i64 i18)]))]))
      let i21 : Int := (if ((IntKind.i64.wrap (i16 - (1 : Int))) > i15) then (IntKind.i64.wrap (i16 - (1 : Int))) else i15)
      f51_i_ClippedRuns.l0 n m n9 l10 x11 i12 n19 l20 (IntKind.i64.wrap (i21 + (1 : Int))))) (
      let i22 : Int := (if ((IntKind.i64.wrap (i16 - (1 : Int))) > i15) then (IntKind.i64.wrap (i16 - (1 : Int))) else i15)
      f51_i_ClippedRuns.l0 n m n9 l10 x11 i12 n13 l14 (IntKind.i64.wrap (i22 + (1 : Int))))) (
     some (n5, l6))
def f51_i_ClippedRuns : Nat → Nat → List T → Nat → Int → Option (Nat × List T × Bool)
  | 0, _, _, _, _ => none
  | n + 1, n1, l2, x3, i4 =>
    bd (f82_i_areSamples n n1 l2) fun r5 =>
    let b6 : Bool := r5
    br (!b6) (
     some (0, [], false)) (
     bd (f83_i_within n i4 (1 : Int) (256 : Int)) fun r7 =>
     let b8 : Bool := r7
     br (!b8) (
      some (0, [], false)) (
      bd (f51_i_ClippedRuns.l0 n n n1 l2 x3 i4 0 [] (0 : Int)) fun r9 =>
      let n10 : Nat := r9.1
      let l11 : List T := r9.2
      some (n10, l11, true)))
def f51_i_ClippedRuns.l1.P : AS := ⟨[(0, .val false [.sl .shr [.leaf]] [.lst 0 []] [] 0), (1, .val false [.leaf] [.flt .f32 0] [] 0), (2, .val false [.leaf] [.int .i64 0] [] 0), (8, .val false [.sl .own [.sl .own [.leaf]]] [.lst 0 []] [] 0), (9, .val false [.leaf] [.int .i64 0] [] 0), (10, .val false [.leaf] [.int .i64 0] [] 0)], 0⟩
def f51_i_ClippedRuns.l1.A : Alt (Nat × List T × Nat × Int × Nat × List T × Int × Int) := .one (.exit 2) ⟨[(0, .val false [.sl .shr [.leaf]] [.lst 0 []] [] 0), (1, .val false [.leaf] [.flt .f32 0] [] 0), (2, .val false [.leaf] [.int .i64 0] [] 0), (8, .val false [.sl .own [.sl .own [.leaf]]] [.lst 0 []] [] 0), (9, .val false [.leaf] [.int .i64 0] [] 0), (10, .val false [.leaf] [.int .i64 0] [] 0)], 0⟩ sg_lfilii
def f51_i_ClippedRuns.l1.F (n m : Nat) (v : Nat × List T × Nat × Int × Nat × List T × Int × Int) := f51_i_ClippedRuns.l1 n m v.1 v.2.1 v.2.2.1 v.2.2.2.1 v.2.2.2.2.1 v.2.2.2.2.2.1 v.2.2.2.2.2.2.1 v.2.2.2.2.2.2.2
def f51_i_ClippedRuns.l1.W (n : Nat) : LpW := .of 128 f51_i_ClippedRuns.l1.P sg_lfilii f51_i_ClippedRuns.l1.A (f51_i_ClippedRuns.l1.F n n)
def f51_i_ClippedRuns.l0.P : AS := ⟨[(0, .val false [.sl .shr [.leaf]] [.lst 0 []] [] 0), (1, .val false [.leaf] [.flt .f32 0] [] 0), (2, .val false [.leaf] [.int .i64 0] [] 0), (8, .val false [.sl .own [.sl .own [.leaf]]] [.lst 0 []] [] 0), (9, .val false [.leaf] [.int .i64 0] [] 0)], 0⟩
def f51_i_ClippedRuns.l0.A : Alt (Nat × List T) := .one (.exit 0) ⟨[(8, .val false [.sl .own [.sl .own [.leaf]]] [.lst 0 []] [] 0)], 0⟩ sg_l
def f51_i_ClippedRuns.l0.F (n m : Nat) (v : Nat × List T × Nat × Int × Nat × List T × Int) := f51_i_ClippedRuns.l0 n m v.1 v.2.1 v.2.2.1 v.2.2.2.1 v.2.2.2.2.1 v.2.2.2.2.2.1 v.2.2.2.2.2.2
def f51_i_ClippedRuns.l0.W (n : Nat) : LpW := .of 80 f51_i_ClippedRuns.l0.P sg_lfili f51_i_ClippedRuns.l0.A (f51_i_ClippedRuns.l0.F n n)
def f51_i_ClippedRuns.P : List Arg := [⟨.val, ⟨false, [.sl .shr [.leaf]], [.lst 0 []]⟩⟩, ⟨.val, ⟨false, [.leaf], [.flt .f32 0]⟩⟩, ⟨.val, ⟨false, [.leaf], [.int .i64 0]⟩⟩]
def f51_i_ClippedRuns.A : RAlt (Nat × List T × Bool) := .one ⟨[⟨false, [.sl .own [.sl .own [.leaf]]], [.lst 0 []]⟩, ⟨false, [.leaf], [.bool false]⟩], [none, none, none]⟩ sg_lb
def f51_i_ClippedRuns.F (n : Nat) (v : Nat × List T × Nat × Int) := f51_i_ClippedRuns n v.1 v.2.1 v.2.2.1 v.2.2.2
noncomputable def f51_i_ClippedRuns.O (n : Nat) : Orc := orcOf (E := E) [f82_i_areSamples.w, f83_i_within.w, f92_i_absolute.w, f81_i_size.w] [f51_i_ClippedRuns.l1.W n, f51_i_ClippedRuns.l0.W n] n
theorem f51_i_ClippedRuns.l1.ok (n : Nat) : LpOk (f51_i_ClippedRuns.O n) E (evalFn E n) n (keepAt 51) (.loop (loopAt c51 1)) :=
  lp_pure f51_i_ClippedRuns.l1.P sg_lfilii f51_i_ClippedRuns.l1.A (f51_i_ClippedRuns.l1.F n) (orcOf_cf _ _ n) (lpOk_of (bs := []) (by kernel_rfl) .nil) (fun _ => rfl) (fun _ _ => by kernel_rfl) (fun _ _ _ => by kernel_rfl)
theorem f51_i_ClippedRuns.l0.ok (n : Nat) : LpOk (f51_i_ClippedRuns.O n) E (evalFn E n) n (keepAt 51) (.loop (loopAt c51 0)) :=
  lp_pure f51_i_ClippedRuns.l0.P sg_lfili f51_i_ClippedRuns.l0.A (f51_i_ClippedRuns.l0.F n) (orcOf_cf _ _ n) (lpOk_of (bs := [loopAt c51 1]) (by kernel_rfl) (.cons (f51_i_ClippedRuns.l1.ok n) .nil)) (fun _ => rfl) (fun _ _ => by kernel_rfl) (fun _ _ _ => by kernel_rfl)
theorem f51_i_ClippedRuns.ok : ∀ n v x, f51_i_ClippedRuns.F n v = some x → evalFn E n 51 (flAs f51_i_ClippedRuns.P (sg_lfi.pk v)) = some (f51_i_ClippedRuns.A.enc x) :=
  fn_pure (modes := (fdAt 51).ms) (outs := (fdAt 51).os) (results := (fdAt 51).rs) f51_i_ClippedRuns.O (c := c51) (keep := keepAt 51) (by kernel_rfl) (fun n => orcOf_cf _ _ n) (fun n => lpOk_of (bs := [loopAt c51 0]) (by kernel_rfl) (.cons (f51_i_ClippedRuns.l0.ok n) .nil)) (fun _ => rfl) (fun _ _ => by kernel_rfl)
noncomputable def f51_i_ClippedRuns.w : FnW E := fnW 51 f51_i_ClippedRuns.P sg_lfi f51_i_ClippedRuns.A f51_i_ClippedRuns.F f51_i_ClippedRuns.ok

def f101_l_eqInt64S.l0 (n : Nat) : Nat → Nat → List T → Nat → List T → Int → Option ((Bool) ⊕ (Unit))
  | 0, _, _, _, _, _ => none
  | m + 1, n1, l2, n3, l4, i5 =>
    br (decide (i5 < ((n1 : Nat) : Int))) (
     gd ((decide (((0 : Int) ≤ i5) ∧ (i5 < ((n1 : Nat) : Int)))) && (okAt [(CK.int IntKind.i64)] l2 (Int.toNat i5))) (
     gd ((decide (((0 : Int) ≤ i5) ∧ (i5 < ((n3 : Nat) : Int)))) && (okAt [(CK.int IntKind.i64)] l4 (Int.toNat i5))) (
     br ((iAt l2 (Int.toNat i5)) != (iAt l4 (Int.toNat i5))) (
      some (Sum.inl false)) (
      f101_l_eqInt64S.l0 n m n1 l2 n3 l4 (IntKind.i64.wrap (i5 + (1 : Int))))))) (
     some (Sum.inr ()))
def f101_l_eqInt64S : Nat → Nat → List T → Nat → List T → Option (Bool)
  | 0, _, _, _, _ => none
  | n + 1, n1, l2, n3, l4 =>
    br (((n1 : Nat) : Int) != ((n3 : Nat) : Int)) (
     some false) (
     bd (f101_l_eqInt64S.l0 n n n1 l2 n3 l4 (0 : Int)) fun r5 =>
     sm r5 (fun u6 =>
      let b7 : Bool := u6
      some b7) (fun u8 =>
      some true))
def sg_ll : Sig (Nat × List T × Nat × List T) where
  pk := fun v => [.lst v.1 v.2.1, .lst v.2.2.1 v.2.2.2]
  up := fun ls => match ls with
    | [.lst a0 a1, .lst a2 a3] => some (a0, a1, a2, a3)
    | _ => none
  ok := by
    intro ls v h
    split at h
    · cases h; rfl
    · cases h

def sg : Sig (Unit) where
  pk := fun v => []
  up := fun ls => match ls with
    | [] => some ()
    | _ => none
  ok := by
    intro ls v h
    split at h
    · cases h; rfl
    · cases h

def f101_l_eqInt64S.l0.P : AS := ⟨[(0, .val false [.sl .shr [.leaf]] [.lst 0 []] [] 0), (1, .val false [.sl .shr [.leaf]] [.lst 0 []] [] 0), (5, .val false [.leaf] [.int .i64 0] [] 0)], 0⟩
def f101_l_eqInt64S.l0.A : Alt ((Bool) ⊕ (Unit)) := .or (.one .ret ⟨[(4, .val false [.leaf] [.bool false] [] 0)], 0⟩ sg_b) (.one (.exit 0) ⟨[(4, .dead)], 0⟩ sg)
def f101_l_eqInt64S.l0.F (n m : Nat) (v : Nat × List T × Nat × List T × Int) := f101_l_eqInt64S.l0 n m v.1 v.2.1 v.2.2.1 v.2.2.2.1 v.2.2.2.2
def f101_l_eqInt64S.l0.W (n : Nat) : LpW := .of 64 f101_l_eqInt64S.l0.P sg_lli f101_l_eqInt64S.l0.A (f101_l_eqInt64S.l0.F n n)
def f101_l_eqInt64S.P : List Arg := [⟨.val, ⟨false, [.sl .shr [.leaf]], [.lst 0 []]⟩⟩, ⟨.val, ⟨false, [.sl .shr [.leaf]], [.lst 0 []]⟩⟩]
def f101_l_eqInt64S.A : RAlt (Bool) := .one ⟨[⟨false, [.leaf], [.bool false]⟩], [none, none]⟩ sg_b
def f101_l_eqInt64S.F (n : Nat) (v : Nat × List T × Nat × List T) := f101_l_eqInt64S n v.1 v.2.1 v.2.2.1 v.2.2.2
noncomputable def f101_l_eqInt64S.O (n : Nat) : Orc := orcOf (E := E) [] [f101_l_eqInt64S.l0.W n] n
theorem f101_l_eqInt64S.l0.ok (n : Nat) : LpOk (f101_l_eqInt64S.O n) E (evalFn E n) n (keepAt 101) (.loop (loopAt c101 0)) :=
  lp_pure f101_l_eqInt64S.l0.P sg_lli f101_l_eqInt64S.l0.A (f101_l_eqInt64S.l0.F n) (orcOf_cf _ _ n) (lpOk_of (bs := []) (by kernel_rfl) .nil) (fun _ => rfl) (fun _ _ => by kernel_rfl) (fun _ _ _ => by kernel_rfl)
theorem f101_l_eqInt64S.ok : ∀ n v x, f101_l_eqInt64S.F n v = some x → evalFn E n 101 (flAs f101_l_eqInt64S.P (sg_ll.pk v)) = some (f101_l_eqInt64S.A.enc x) :=
  fn_pure (modes := (fdAt 101).ms) (outs := (fdAt 101).os) (results := (fdAt 101).rs) f101_l_eqInt64S.O (c := c101) (keep := keepAt 101) (by kernel_rfl) (fun n => orcOf_cf _ _ n) (fun n => lpOk_of (bs := [loopAt c101 0]) (by kernel_rfl) (.cons (f101_l_eqInt64S.l0.ok n) .nil)) (fun _ => rfl) (fun _ _ => by kernel_rfl)
noncomputable def f101_l_eqInt64S.w : FnW E := fnW 101 f101_l_eqInt64S.P sg_ll f101_l_eqInt64S.A f101_l_eqInt64S.F f101_l_eqInt64S.ok

def f52_l_eqInt64SS.l0 (n : Nat) : Nat → Nat → List T → Nat → List T → Int → Option ((Bool) ⊕ (Unit))
  | 0, _, _, _, _, _ => none
  | m + 1, n1, l2, n3, l4, i5 =>
    br (decide (i5 < ((n1 : Nat) : Int))) (
     gd ((decide (((0 : Int) ≤ i5) ∧ (i5 < ((n1 : Nat) : Int)))) && (okAt [CK.lst] l2 (Int.toNat i5))) (
     gd ((decide (((0 : Int) ≤ i5) ∧ (i5 < ((n3 : Nat) : Int)))) && (okAt [CK.lst] l4 (Int.toNat i5))) (
     bd (f101_l_eqInt64S n (nAt l2 (Int.toNat i5)) (lAt l2 (Int.toNat i5)) (nAt l4 (Int.toNat i5)) (lAt l4 (Int.toNat i5))) fun r6 =>
     let b7 : Bool := r6
     br (!b7) (
      some (Sum.inl false)) (
      f52_l_eqInt64SS.l0 n m n1 l2 n3 l4 (IntKind.i64.wrap (i5 + (1 : Int))))))) (
     some (Sum.inr ()))
def f52_l_eqInt64SS : Nat → Nat → List T → Nat → List T → Option (Bool)
  | 0, _, _, _, _ => none
  | n + 1, n1, l2, n3, l4 =>
    br (((n1 : Nat) : Int) != ((n3 : Nat) : Int)) (
     some false) (
     bd (f52_l_eqInt64SS.l0 n n n1 l2 n3 l4 (0 : Int)) fun r5 =>
     sm r5 (fun u6 =>
      let b7 : Bool := u6
      some b7) (fun u8 =>
      some true))
def f52_l_eqInt64SS.l0.P : AS := ⟨[(0, .val false [.sl .shr [.sl .shr [.leaf]]] [.lst 0 []] [] 0), (1, .val false [.sl .shr [.sl .shr [.leaf]]] [.lst 0 []] [] 0), (5, .val false [.leaf] [.int .i64 0] [] 0)], 0⟩
def f52_l_eqInt64SS.l0.A : Alt ((Bool) ⊕ (Unit)) := .or (.one .ret ⟨[(4, .val false [.leaf] [.bool false] [] 0)], 0⟩ sg_b) (.one (.exit 0) ⟨[(4, .dead)], 0⟩ sg)
def f52_l_eqInt64SS.l0.F (n m : Nat) (v : Nat × List T × Nat × List T × Int) := f52_l_eqInt64SS.l0 n m v.1 v.2.1 v.2.2.1 v.2.2.2.1 v.2.2.2.2
def f52_l_eqInt64SS.l0.W (n : Nat) : LpW := .of 64 f52_l_eqInt64SS.l0.P sg_lli f52_l_eqInt64SS.l0.A (f52_l_eqInt64SS.l0.F n n)
def f52_l_eqInt64SS.P : List Arg := [⟨.val, ⟨false, [.sl .shr [.sl .shr [.leaf]]], [.lst 0 []]⟩⟩, ⟨.val, ⟨false, [.sl .shr [.sl .shr [.leaf]]], [.lst 0 []]⟩⟩]
def f52_l_eqInt64SS.A : RAlt (Bool) := .one ⟨[⟨false, [.leaf], [.bool false]⟩], [none, none]⟩ sg_b
def f52_l_eqInt64SS.F (n : Nat) (v : Nat × List T × Nat × List T) := f52_l_eqInt64SS n v.1 v.2.1 v.2.2.1 v.2.2.2
noncomputable def f52_l_eqInt64SS.O (n : Nat) : Orc := orcOf (E := E) [f101_l_eqInt64S.w] [f52_l_eqInt64SS.l0.W n] n
theorem f52_l_eqInt64SS.l0.ok (n : Nat) : LpOk (f52_l_eqInt64SS.O n) E (evalFn E n) n (keepAt 52) (.loop (loopAt c52 0)) :=
  lp_pure f52_l_eqInt64SS.l0.P sg_lli f52_l_eqInt64SS.l0.A (f52_l_eqInt64SS.l0.F n) (orcOf_cf _ _ n) (lpOk_of (bs := []) (by kernel_rfl) .nil) (fun _ => rfl) (fun _ _ => by kernel_rfl) (fun _ _ _ => by kernel_rfl)
theorem f52_l_eqInt64SS.ok : ∀ n v x, f52_l_eqInt64SS.F n v = some x → evalFn E n 52 (flAs f52_l_eqInt64SS.P (sg_ll.pk v)) = some (f52_l_eqInt64SS.A.enc x) :=
  fn_pure (modes := (fdAt 52).ms) (outs := (fdAt 52).os) (results := (fdAt 52).rs) f52_l_eqInt64SS.O (c := c52) (keep := keepAt 52) (by kernel_rfl) (fun n => orcOf_cf _ _ n) (fun n => lpOk_of (bs := [loopAt c52 0]) (by kernel_rfl) (.cons (f52_l_eqInt64SS.l0.ok n) .nil)) (fun _ => rfl) (fun _ _ => by kernel_rfl)
noncomputable def f52_l_eqInt64SS.w : FnW E := fnW 52 f52_l_eqInt64SS.P sg_ll f52_l_eqInt64SS.A f52_l_eqInt64SS.F f52_l_eqInt64SS.ok

def f70_l_sameFloat : Nat → Nat → Nat → Option (Bool)
  | 0, _, _ => none
  | n + 1, x1, x2 =>
    br (fne FloatKind.f64 x1 x1) (
     br (fne FloatKind.f64 x1 x1) (
      some (fne FloatKind.f64 x2 x2)) (
      some false)) (
     br (fne FloatKind.f64 x2 x2) (
      br (fne FloatKind.f64 x1 x1) (
       some (fne FloatKind.f64 x2 x2)) (
       some false)) (
      br (feq FloatKind.f64 x1 0) (
       br (feq FloatKind.f64 x2 0) (
        some ((fgt FloatKind.f64 (fdiv FloatKind.f64 4607182418800017408 x1) 0) == (fgt FloatKind.f64 (fdiv FloatKind.f64 4607182418800017408 x2) 0))) (
        some (feq FloatKind.f64 x1 x2))) (
       some (feq FloatKind.f64 x1 x2))))
def sg_ff : Sig (Nat × Nat) where
  pk := fun v => [.flt v.1, .flt v.2]
  up := fun ls => match ls with
    | [.flt a0, .flt a1] => some (a0, a1)
    | _ => none
  ok := by
    intro ls v h
    split at h
    · cases h; rfl
    · cases h

def f70_l_sameFloat.P : List Arg := [⟨.val, ⟨false, [.leaf], [.flt .f64 0]⟩⟩, ⟨.val, ⟨false, [.leaf], [.flt .f64 0]⟩⟩]
def f70_l_sameFloat.A : RAlt (Bool) := .one ⟨[⟨false, [.leaf], [.bool false]⟩], [none, none]⟩ sg_b
def f70_l_sameFloat.F (n : Nat) (v : Nat × Nat) := f70_l_sameFloat n v.1 v.2
noncomputable def f70_l_sameFloat.O (n : Nat) : Orc := orcOf (E := E) [] [] n
theorem f70_l_sameFloat.ok : ∀ n v x, f70_l_sameFloat.F n v = some x → evalFn E n 70 (flAs f70_l_sameFloat.P (sg_ff.pk v)) = some (f70_l_sameFloat.A.enc x) :=
  fn_pure (modes := (fdAt 70).ms) (outs := (fdAt 70).os) (results := (fdAt 70).rs) f70_l_sameFloat.O (c := c70) (keep := keepAt 70) (by kernel_rfl) (fun n => orcOf_cf _ _ n) (fun n => lpOk_of (bs := []) (by kernel_rfl) .nil) (fun _ => rfl) (fun _ _ => by kernel_rfl)
noncomputable def f70_l_sameFloat.w : FnW E := fnW 70 f70_l_sameFloat.P sg_ff f70_l_sameFloat.A f70_l_sameFloat.F f70_l_sameFloat.ok

def f53_l_eqFloat32S.l0 (n : Nat) : Nat → Nat → List T → Nat → List T → Int → Option ((Bool) ⊕ (Unit))
  | 0, _, _, _, _, _ => none
  | m + 1, n1, l2, n3, l4, i5 =>
    br (decide (i5 < ((n1 : Nat) : Int))) (
     gd ((decide (((0 : Int) ≤ i5) ∧ (i5 < ((n1 : Nat) : Int)))) && (okAt [(CK.flt FloatKind.f32)] l2 (Int.toNat i5))) (
     bd ((fltToFlt FloatKind.f32 (fAt l2 (Int.toNat i5)) FloatKind.f64)) fun y6 =>
     gd ((decide (((0 : Int) ≤ i5) ∧ (i5 < ((n3 : Nat) : Int)))) && (okAt [(CK.flt FloatKind.f32)] l4 (Int.toNat i5))) (
     bd ((fltToFlt FloatKind.f32 (fAt l4 (Int.toNat i5)) FloatKind.f64)) fun y7 =>
     bd (f70_l_sameFloat n y6 y7) fun r8 =>
     let b9 : Bool := r8
     br (!b9) (
      some (Sum.inl false)) (
      f53_l_eqFloat32S.l0 n m n1 l2 n3 l4 (IntKind.i64.wrap (i5 + (1 : Int))))))) (
     some (Sum.inr ()))
def f53_l_eqFloat32S : Nat → Nat → List T → Nat → List T → Option (Bool)
  | 0, _, _, _, _ => none
  | n + 1, n1, l2, n3, l4 =>
    br (((n1 : Nat) : Int) != ((n3 : Nat) : Int)) (
     some false) (
     bd (f53_l_eqFloat32S.l0 n n n1 l2 n3 l4 (0 : Int)) fun r5 =>
     sm r5 (fun u6 =>
      let b7 : Bool := u6
      some b7) (fun u8 =>
      some true))
def f53_l_eqFloat32S.l0.P : AS := ⟨[(0, .val false [.sl .shr [.leaf]] [.lst 0 []] [] 0), (1, .val false [.sl .shr [.leaf]] [.lst 0 []] [] 0), (5, .val false [.leaf] [.int .i64 0] [] 0)], 0⟩
def f53_l_eqFloat32S.l0.A : Alt ((Bool) ⊕ (Unit)) := .or (.one .ret ⟨[(4, .val false [.leaf] [.bool false] [] 0)], 0⟩ sg_b) (.one (.exit 0) ⟨[(4, .dead)], 0⟩ sg)
def f53_l_eqFloat32S.l0.F (n m : Nat) (v : Nat × List T × Nat × List T × Int) := f53_l_eqFloat32S.l0 n m v.1 v.2.1 v.2.2.1 v.2.2.2.1 v.2.2.2.2
def f53_l_eqFloat32S.l0.W (n : Nat) : LpW := .of 64 f53_l_eqFloat32S.l0.P sg_lli f53_l_eqFloat32S.l0.A (f53_l_eqFloat32S.l0.F n n)
def f53_l_eqFloat32S.P : List Arg := [⟨.val, ⟨false, [.sl .shr [.leaf]], [.lst 0 []]⟩⟩, ⟨.val, ⟨false, [.sl .shr [.leaf]], [.lst 0 []]⟩⟩]
def f53_l_eqFloat32S.A : RAlt (Bool) := .one ⟨[⟨false, [.leaf], [.bool false]⟩], [none, none]⟩ sg_b
def f53_l_eqFloat32S.F (n : Nat) (v : Nat × List T × Nat × List T) := f53_l_eqFloat32S n v.1 v.2.1 v.2.2.1 v.2.2.2
noncomputable def f53_l_eqFloat32S.O (n : Nat) : Orc := orcOf (E := E) [f70_l_sameFloat.w] [f53_l_eqFloat32S.l0.W n] n
theorem f53_l_eqFloat32S.l0.ok (n : Nat) : LpOk (f53_l_eqFloat32S.O n) E (evalFn E n) n (keepAt 53) (.loop (loopAt c53 0)) :=
  lp_pure f53_l_eqFloat32S.l0.P sg_lli f53_l_eqFloat32S.l0.A (f53_l_eqFloat32S.l0.F n) (orcOf_cf _ _ n) (lpOk_of (bs := []) (by kernel_rfl) .nil) (fun _ => rfl) (fun _ _ => by kernel_rfl) (fun _ _ _ => by kernel_rfl)
theorem f53_l_eqFloat32S.ok : ∀ n v x, f53_l_eqFloat32S.F n v = some x → evalFn E n 53 (flAs f53_l_eqFloat32S.P (sg_ll.pk v)) = some (f53_l_eqFloat32S.A.enc x) :=
  fn_pure (modes := (fdAt 53).ms) (outs := (fdAt 53).os) (results := (fdAt 53).rs) f53_l_eqFloat32S.O (c := c53) (keep := keepAt 53) (by kernel_rfl) (fun n => orcOf_cf _ _ n) (fun n => lpOk_of (bs := [loopAt c53 0]) (by kernel_rfl) (.cons (f53_l_eqFloat32S.l0.ok n) .nil)) (fun _ => rfl) (fun _ _ => by kernel_rfl)
noncomputable def f53_l_eqFloat32S.w : FnW E := fnW 53 f53_l_eqFloat32S.P sg_ll f53_l_eqFloat32S.A f53_l_eqFloat32S.F f53_l_eqFloat32S.ok

def f54_l_markFloat32S.l0 (n : Nat) : Nat → Nat → List T → Int → Int → Option (Nat × List T × Int)
  | 0, _, _, _, _ => none
  | m + 1, n1, l2, i3, i4 =>
    br (decide (i4 < ((n1 : Nat) : Int))) (
     gd (decide (((0 : Int) ≤ i4) ∧ (i4 < ((n1 : Nat) : Int)))) (
     gd (Nat.ble ((Int.toNat i4) + 1) (List.length l2)) (
     let l5 : List T := (setN l2 (Int.toNat i4) [(T.flt FloatKind.f32 (FloatKind.nearest FloatKind.f32 i3))])
     let i6 : Int := (IntKind.i64.wrap (i3 + (1 : Int)))
     f54_l_markFloat32S.l0 n m n1 l5 i6 (IntKind.i64.wrap (i4 + (1 : Int)))))) (
     some (n1, l2, i3))
def f54_l_markFloat32S : Nat → Nat → List T → Int → Option (Int × Nat × List T)
  | 0, _, _, _ => none
  | n + 1, n1, l2, i3 =>
    bd (f54_l_markFloat32S.l0 n n n1 l2 i3 (0 : Int)) fun r4 =>
    let n5 : Nat := r4.1
    let l6 : List T := r4.2.1
    let i7 : Int := r4.2.2
    some (i7, n5, l6)
def sg_li : Sig (Nat × List T × Int) where
  pk := fun v => [.lst v.1 v.2.1, .int v.2.2]
  up := fun ls => match ls with
    | [.lst a0 a1, .int a2] => some (a0, a1, a2)
    | _ => none
  ok := by
    intro ls v h
    split at h
    · cases h; rfl
    · cases h

def sg_il : Sig (Int × Nat × List T) where
  pk := fun v => [.int v.1, .lst v.2.1 v.2.2]
  up := fun ls => match ls with
    | [.int a0, .lst a1 a2] => some (a0, a1, a2)
    | _ => none
  ok := by
    intro ls v h
    split at h
    · cases h; rfl
    · cases h

def sg_lii : Sig (Nat × List T × Int × Int) where
  pk := fun v => [.lst v.1 v.2.1, .int v.2.2.1, .int v.2.2.2]
  up := fun ls => match ls with
    | [.lst a0 a1, .int a2, .int a3] => some (a0, a1, a2, a3)
    | _ => none
  ok := by
    intro ls v h
    split at h
    · cases h; rfl
    · cases h

def f54_l_markFloat32S.l0.P : AS := ⟨[(0, .val false [.sl .own [.leaf]] [.lst 0 []] [] 1), (1, .val false [.leaf] [.int .i64 0] [] 0), (5, .val false [.leaf] [.int .i64 0] [] 0)], 0⟩
def f54_l_markFloat32S.l0.A : Alt (Nat × List T × Int) := .one (.exit 0) ⟨[(0, .val false [.sl .own [.leaf]] [.lst 0 []] [] 1), (1, .val false [.leaf] [.int .i64 0] [] 0)], 0⟩ sg_li
def f54_l_markFloat32S.l0.F (n m : Nat) (v : Nat × List T × Int × Int) := f54_l_markFloat32S.l0 n m v.1 v.2.1 v.2.2.1 v.2.2.2
def f54_l_markFloat32S.l0.W (n : Nat) : LpW := .of 32 f54_l_markFloat32S.l0.P sg_lii f54_l_markFloat32S.l0.A (f54_l_markFloat32S.l0.F n n)
def f54_l_markFloat32S.P : List Arg := [⟨.io, ⟨false, [.sl .own [.leaf]], [.lst 0 []]⟩⟩, ⟨.val, ⟨false, [.leaf], [.int .i64 0]⟩⟩]
def f54_l_markFloat32S.A : RAlt (Int × Nat × List T) := .one ⟨[⟨false, [.leaf], [.int .i64 0]⟩], [some ⟨false, [.sl .own [.leaf]], [.lst 0 []]⟩, none]⟩ sg_il
def f54_l_markFloat32S.F (n : Nat) (v : Nat × List T × Int) := f54_l_markFloat32S n v.1 v.2.1 v.2.2
noncomputable def f54_l_markFloat32S.O (n : Nat) : Orc := orcOf (E := E) [] [f54_l_markFloat32S.l0.W n] n
theorem f54_l_markFloat32S.l0.ok (n : Nat) : LpOk (f54_l_markFloat32S.O n) E (evalFn E n) n (keepAt 54) (.loop (loopAt c54 0)) :=
  lp_pure f54_l_markFloat32S.l0.P sg_lii f54_l_markFloat32S.l0.A (f54_l_markFloat32S.l0.F n) (orcOf_cf _ _ n) (lpOk_of (bs := []) (by kernel_rfl) .nil) (fun _ => rfl) (fun _ _ => by kernel_rfl) (fun _ _ _ => by kernel_rfl)
theorem f54_l_markFloat32S.ok : ∀ n v x, f54_l_markFloat32S.F n v = some x → evalFn E n 54 (flAs f54_l_markFloat32S.P (sg_li.pk v)) = some (f54_l_markFloat32S.A.enc x) :=
  fn_pure (modes := (fdAt 54).ms) (outs := (fdAt 54).os) (results := (fdAt 54).rs) f54_l_markFloat32S.O (c := c54) (keep := keepAt 54) (by kernel_rfl) (fun n => orcOf_cf _ _ n) (fun n => lpOk_of (bs := [loopAt c54 0]) (by kernel_rfl) (.cons (f54_l_markFloat32S.l0.ok n) .nil)) (fun _ => rfl) (fun _ _ => by kernel_rfl)
noncomputable def f54_l_markFloat32S.w : FnW E := fnW 54 f54_l_markFloat32S.P sg_li f54_l_markFloat32S.A f54_l_markFloat32S.F f54_l_markFloat32S.ok

def f102_l_markInt64S.l0 (n : Nat) : Nat → Nat → List T → Int → Int → Option (Nat × List T × Int)
  | 0, _, _, _, _ => none
  | m + 1, n1, l2, i3, i4 =>
    br (decide (i4 < ((n1 : Nat) : Int))) (
     gd (decide (((0 : Int) ≤ i4) ∧ (i4 < ((n1 : Nat) : Int)))) (
     gd (Nat.ble ((Int.toNat i4) + 1) (List.length l2)) (
     let l5 : List T := (setN l2 (Int.toNat i4) [(T.int IntKind.i64 i3)])
     let i6 : Int := (IntKind.i64.wrap (i3 + (1 : Int)))
     f102_l_markInt64S.l0 n m n1 l5 i6 (IntKind.i64.wrap (i4 + (1 : Int)))))) (
     some (n1, l2, i3))
def f102_l_markInt64S : Nat → Nat → List T → Int → Option (Int × Nat × List T)
  | 0, _, _, _ => none
  | n + 1, n1, l2, i3 =>
    bd (f102_l_markInt64S.l0 n n n1 l2 i3 (0 : Int)) fun r4 =>
    let n5 : Nat := r4.1
    let l6 : List T := r4.2.1
    let i7 : Int := r4.2.2
    some (i7, n5, l6)
def f102_l_markInt64S.l0.P : AS := ⟨[(0, .val false [.sl .own [.leaf]] [.lst 0 []] [] 1), (1, .val false [.leaf] [.int .i64 0] [] 0), (5, .val false [.leaf] [.int .i64 0] [] 0)], 0⟩
def f102_l_markInt64S.l0.A : Alt (Nat × List T × Int) := .one (.exit 0) ⟨[(0, .val false [.sl .own [.leaf]] [.lst 0 []] [] 1), (1, .val false [.leaf] [.int .i64 0] [] 0)], 0⟩ sg_li
def f102_l_markInt64S.l0.F (n m : Nat) (v : Nat × List T × Int × Int) := f102_l_markInt64S.l0 n m v.1 v.2.1 v.2.2.1 v.2.2.2
def f102_l_markInt64S.l0.W (n : Nat) : LpW := .of 32 f102_l_markInt64S.l0.P sg_lii f102_l_markInt64S.l0.A (f102_l_markInt64S.l0.F n n)
def f102_l_markInt64S.P : List Arg := [⟨.io, ⟨false, [.sl .own [.leaf]], [.lst 0 []]⟩⟩, ⟨.val, ⟨false, [.leaf], [.int .i64 0]⟩⟩]
def f102_l_markInt64S.A : RAlt (Int × Nat × List T) := .one ⟨[⟨false, [.leaf], [.int .i64 0]⟩], [some ⟨false, [.sl .own [.leaf]], [.lst 0 []]⟩, none]⟩ sg_il
def f102_l_markInt64S.F (n : Nat) (v : Nat × List T × Int) := f102_l_markInt64S n v.1 v.2.1 v.2.2
noncomputable def f102_l_markInt64S.O (n : Nat) : Orc := orcOf (E := E) [] [f102_l_markInt64S.l0.W n] n
theorem f102_l_markInt64S.l0.ok (n : Nat) : LpOk (f102_l_markInt64S.O n) E (evalFn E n) n (keepAt 102) (.loop (loopAt c102 0)) :=
  lp_pure f102_l_markInt64S.l0.P sg_lii f102_l_markInt64S.l0.A (f102_l_markInt64S.l0.F n) (orcOf_cf _ _ n) (lpOk_of (bs := []) (by kernel_rfl) .nil) (fun _ => rfl) (fun _ _ => by kernel_rfl) (fun _ _ _ => by kernel_rfl)
theorem f102_l_markInt64S.ok : ∀ n v x, f102_l_markInt64S.F n v = some x → evalFn E n 102 (flAs f102_l_markInt64S.P (sg_li.pk v)) = some (f102_l_markInt64S.A.enc x) :=
  fn_pure (modes := (fdAt 102).ms) (outs := (fdAt 102).os) (results := (fdAt 102).rs) f102_l_markInt64S.O (c := c102) (keep := keepAt 102) (by kernel_rfl) (fun n => orcOf_cf _ _ n) (fun n => lpOk_of (bs := [loopAt c102 0]) (by kernel_rfl) (.cons (f102_l_markInt64S.l0.ok n) .nil)) (fun _ => rfl) (fun _ _ => by kernel_rfl)
noncomputable def f102_l_markInt64S.w : FnW E := fnW 102 f102_l_markInt64S.P sg_li f102_l_markInt64S.A f102_l_markInt64S.F f102_l_markInt64S.ok

def f55_l_markInt64SS.l0 (n : Nat) : Nat → Nat → List T → Int → Int → Option (Nat × List T × Int)
  | 0, _, _, _, _ => none
  | m + 1, n1, l2, i3, i4 =>
    br (decide (i4 < ((n1 : Nat) : Int))) (
     gd (decide (((0 : Int) ≤ i4) ∧ (i4 < ((n1 : Nat) : Int)))) (
     gd (okAt [CK.lst] l2 (Int.toNat i4)) (
     gd ((okAt [CK.lst] l2 (Int.toNat i4)) && true) (
     gd ((okAt [CK.lst] l2 (Int.toNat i4)) && true) (
     bd (f102_l_markInt64S n (nAt l2 (Int.toNat i4)) (lAt l2 (Int.toNat i4)) i3) fun r5 =>
     let i6 : Int := r5.1
     let n7 : Nat := r5.2.1
     let l8 : List T := r5.2.2
     let l9 : List T := (setN l2 (Int.toNat i4) [(T.lst n7 l8)])
     f55_l_markInt64SS.l0 n m n1 l9 i6 (IntKind.i64.wrap (i4 + (1 : Int)))))))) (
     some (n1, l2, i3))
def f55_l_markInt64SS : Nat → Nat → List T → Int → Option (Int × Nat × List T)
  | 0, _, _, _ => none
  | n + 1, n1, l2, i3 =>
    bd (f55_l_markInt64SS.l0 n n n1 l2 i3 (0 : Int)) fun r4 =>
    let n5 : Nat := r4.1
    let l6 : List T := r4.2.1
    let i7 : Int := r4.2.2
    some (i7, n5, l6)
def f55_l_markInt64SS.l0.P : AS := ⟨[(0, .val false [.sl .own [.sl .own [.leaf]]] [.lst 0 []] [] 1), (1, .val false [.leaf] [.int .i64 0] [] 0), (5, .val false [.leaf] [.int .i64 0] [] 0)], 0⟩
def f55_l_markInt64SS.l0.A : Alt (Nat × List T × Int) := .one (.exit 0) ⟨[(0, .val false [.sl .own [.sl .own [.leaf]]] [.lst 0 []] [] 1), (1, .val false [.leaf] [.int .i64 0] [] 0)], 0⟩ sg_li
def f55_l_markInt64SS.l0.F (n m : Nat) (v : Nat × List T × Int × Int) := f55_l_markInt64SS.l0 n m v.1 v.2.1 v.2.2.1 v.2.2.2
def f55_l_markInt64SS.l0.W (n : Nat) : LpW := .of 32 f55_l_markInt64SS.l0.P sg_lii f55_l_markInt64SS.l0.A (f55_l_markInt64SS.l0.F n n)
def f55_l_markInt64SS.P : List Arg := [⟨.io, ⟨false, [.sl .own [.sl .own [.leaf]]], [.lst 0 []]⟩⟩, ⟨.val, ⟨false, [.leaf], [.int .i64 0]⟩⟩]
def f55_l_markInt64SS.A : RAlt (Int × Nat × List T) := .one ⟨[⟨false, [.leaf], [.int .i64 0]⟩], [some ⟨false, [.sl .own [.sl .own [.leaf]]], [.lst 0 []]⟩, none]⟩ sg_il
def f55_l_markInt64SS.F (n : Nat) (v : Nat × List T × Int) := f55_l_markInt64SS n v.1 v.2.1 v.2.2
noncomputable def f55_l_markInt64SS.O (n : Nat) : Orc := orcOf (E := E) [f102_l_markInt64S.w] [f55_l_markInt64SS.l0.W n] n
theorem f55_l_markInt64SS.l0.ok (n : Nat) : LpOk (f55_l_markInt64SS.O n) E (evalFn E n) n (keepAt 55) (.loop (loopAt c55 0)) :=
  lp_pure f55_l_markInt64SS.l0.P sg_lii f55_l_markInt64SS.l0.A (f55_l_markInt64SS.l0.F n) (orcOf_cf _ _ n) (lpOk_of (bs := []) (by kernel_rfl) .nil) (fun _ => rfl) (fun _ _ => by kernel_rfl) (fun _ _ _ => by kernel_rfl)
theorem f55_l_markInt64SS.ok : ∀ n v x, f55_l_markInt64SS.F n v = some x → evalFn E n 55 (flAs f55_l_markInt64SS.P (sg_li.pk v)) = some (f55_l_markInt64SS.A.enc x) :=
  fn_pure (modes := (fdAt 55).ms) (outs := (fdAt 55).os) (results := (fdAt 55).rs) f55_l_markInt64SS.O (c := c55) (keep := keepAt 55) (by kernel_rfl) (fun n => orcOf_cf _ _ n) (fun n => lpOk_of (bs := [loopAt c55 0]) (by kernel_rfl) (.cons (f55_l_markInt64SS.l0.ok n) .nil)) (fun _ => rfl) (fun _ _ => by kernel_rfl)
noncomputable def f55_l_markInt64SS.w : FnW E := fnW 55 f55_l_markInt64SS.P sg_li f55_l_markInt64SS.A f55_l_markInt64SS.F f55_l_markInt64SS.ok

def f103_l_heldInt64S.l0 (n : Nat) : Nat → Nat → List T → Int → Int → Option ((Int) ⊕ (Int))
  | 0, _, _, _, _ => none
  | m + 1, n1, l2, i3, i4 =>
    br (decide (i4 < ((n1 : Nat) : Int))) (
     gd ((decide (((0 : Int) ≤ i4) ∧ (i4 < ((n1 : Nat) : Int)))) && (okAt [(CK.int IntKind.i64)] l2 (Int.toNat i4))) (
     br ((iAt l2 (Int.toNat i4)) != i3) (
      some (Sum.inl (-1 : Int))) (
      let i5 : Int := (IntKind.i64.wrap (i3 + (1 : Int)))
      f103_l_heldInt64S.l0 n m n1 l2 i5 (IntKind.i64.wrap (i4 + (1 : Int)))))) (
     some (Sum.inr i3))
def f103_l_heldInt64S : Nat → Nat → List T → Int → Option (Int)
  | 0, _, _, _ => none
  | n + 1, n1, l2, i3 =>
    bd (f103_l_heldInt64S.l0 n n n1 l2 i3 (0 : Int)) fun r4 =>
    sm r4 (fun u5 =>
     let i6 : Int := u5
     some i6) (fun u7 =>
     let i8 : Int := u7
     some i8)
def f103_l_heldInt64S.l0.P : AS := ⟨[(0, .val false [.sl .shr [.leaf]] [.lst 0 []] [] 0), (1, .val false [.leaf] [.int .i64 0] [] 0), (5, .val false [.leaf] [.int .i64 0] [] 0)], 0⟩
def f103_l_heldInt64S.l0.A : Alt ((Int) ⊕ (Int)) := .or (.one .ret ⟨[(1, .dead), (4, .val false [.leaf] [.int .i64 0] [] 0)], 0⟩ sg_i) (.one (.exit 0) ⟨[(1, .val false [.leaf] [.int .i64 0] [] 0), (4, .dead)], 0⟩ sg_i)
def f103_l_heldInt64S.l0.F (n m : Nat) (v : Nat × List T × Int × Int) := f103_l_heldInt64S.l0 n m v.1 v.2.1 v.2.2.1 v.2.2.2
def f103_l_heldInt64S.l0.W (n : Nat) : LpW := .of 32 f103_l_heldInt64S.l0.P sg_lii f103_l_heldInt64S.l0.A (f103_l_heldInt64S.l0.F n n)
def f103_l_heldInt64S.P : List Arg := [⟨.val, ⟨false, [.sl .shr [.leaf]], [.lst 0 []]⟩⟩, ⟨.val, ⟨false, [.leaf], [.int .i64 0]⟩⟩]
def f103_l_heldInt64S.A : RAlt (Int) := .one ⟨[⟨false, [.leaf], [.int .i64 0]⟩], [none, none]⟩ sg_i
def f103_l_heldInt64S.F (n : Nat) (v : Nat × List T × Int) := f103_l_heldInt64S n v.1 v.2.1 v.2.2
noncomputable def f103_l_heldInt64S.O (n : Nat) : Orc := orcOf (E := E) [] [f103_l_heldInt64S.l0.W n] n
theorem f103_l_heldInt64S.l0.ok (n : Nat) : LpOk (f103_l_heldInt64S.O n) E (evalFn E n) n (keepAt 103) (.loop (loopAt c103 0)) :=
  lp_pure f103_l_heldInt64S.l0.P sg_lii f103_l_heldInt64S.l0.A (f103_l_heldInt64S.l0.F n) (orcOf_cf _ _ n) (lpOk_of (bs := []) (by kernel_rfl) .nil) (fun _ => rfl) (fun _ _ => by kernel_rfl) (fun _ _ _ => by kernel_rfl)
theorem f103_l_heldInt64S.ok : ∀ n v x, f103_l_heldInt64S.F n v = some x → evalFn E n 103 (flAs f103_l_heldInt64S.P (sg_li.pk v)) = some (f103_l_heldInt64S.A.enc x) :=
  fn_pure (modes := (fdAt 103).ms) (outs := (fdAt 103).os) (results := (fdAt 103).rs) f103_l_heldInt64S.O (c := c103) (keep := keepAt 103) (by kernel_rfl) (fun n => orcOf_cf _ _ n) (fun n => lpOk_of (bs := [loopAt c103 0]) (by kernel_rfl) (.cons (f103_l_heldInt64S.l0.ok n) .nil)) (fun _ => rfl) (fun _ _ => by kernel_rfl)
noncomputable def f103_l_heldInt64S.w : FnW E := fnW 103 f103_l_heldInt64S.P sg_li f103_l_heldInt64S.A f103_l_heldInt64S.F f103_l_heldInt64S.ok

def f56_l_heldInt64SS.l0 (n : Nat) : Nat → Nat → List T → Int → Int → Option ((Int) ⊕ (Int))
  | 0, _, _, _, _ => none
  | m + 1, n1, l2, i3, i4 =>
    br (decide (i4 < ((n1 : Nat) : Int))) (
     gd ((decide (((0 : Int) ≤ i4) ∧ (i4 < ((n1 : Nat) : Int)))) && (okAt [CK.lst] l2 (Int.toNat i4))) (
     bd (f103_l_heldInt64S n (nAt l2 (Int.toNat i4)) (lAt l2 (Int.toNat i4)) i3) fun r5 =>
     let i6 : Int := r5
     br (decide (i6 < (0 : Int))) (
      some (Sum.inl (-1 : Int))) (
      f56_l_heldInt64SS.l0 n m n1 l2 i6 (IntKind.i64.wrap (i4 + (1 : Int)))))) (
     some (Sum.inr i3))
def f56_l_heldInt64SS : Nat → Nat → List T → Int → Option (Int)
  | 0, _, _, _ => none
  | n + 1, n1, l2, i3 =>
    bd (f56_l_heldInt64SS.l0 n n n1 l2 i3 (0 : Int)) fun r4 =>
    sm r4 (fun u5 =>
     let i6 : Int := u5
     some i6) (fun u7 =>
     let i8 : Int := u7
     some i8)
def f56_l_heldInt64SS.l0.P : AS := ⟨[(0, .val false [.sl .shr [.sl .shr [.leaf]]] [.lst 0 []] [] 0), (1, .val false [.leaf] [.int .i64 0] [] 0), (5, .val false [.leaf] [.int .i64 0] [] 0)], 0⟩
def f56_l_heldInt64SS.l0.A : Alt ((Int) ⊕ (Int)) := .or (.one .ret ⟨[(1, .dead), (4, .val false [.leaf] [.int .i64 0] [] 0)], 0⟩ sg_i) (.one (.exit 0) ⟨[(1, .val false [.leaf] [.int .i64 0] [] 0), (4, .dead)], 0⟩ sg_i)
def f56_l_heldInt64SS.l0.F (n m : Nat) (v : Nat × List T × Int × Int) := f56_l_heldInt64SS.l0 n m v.1 v.2.1 v.2.2.1 v.2.2.2
def f56_l_heldInt64SS.l0.W (n : Nat) : LpW := .of 32 f56_l_heldInt64SS.l0.P sg_lii f56_l_heldInt64SS.l0.A (f56_l_heldInt64SS.l0.F n n)
def f56_l_heldInt64SS.P : List Arg := [⟨.val, ⟨false, [.sl .shr [.sl .shr [.leaf]]], [.lst 0 []]⟩⟩, ⟨.val, ⟨false, [.leaf], [.int .i64 0]⟩⟩]
def f56_l_heldInt64SS.A : RAlt (Int) := .one ⟨[⟨false, [.leaf], [.int .i64 0]⟩], [none, none]⟩ sg_i
def f56_l_heldInt64SS.F (n : Nat) (v : Nat × List T × Int) := f56_l_heldInt64SS n v.1 v.2.1 v.2.2
noncomputable def f56_l_heldInt64SS.O (n : Nat) : Orc := orcOf (E := E) [f103_l_heldInt64S.w] [f56_l_heldInt64SS.l0.W n] n
theorem f56_l_heldInt64SS.l0.ok (n : Nat) : LpOk (f56_l_heldInt64SS.O n) E (evalFn E n) n (keepAt 56) (.loop (loopAt c56 0)) :=
  lp_pure f56_l_heldInt64SS.l0.P sg_lii f56_l_heldInt64SS.l0.A (f56_l_heldInt64SS.l0.F n) (orcOf_cf _ _ n) (lpOk_of (bs := []) (by kernel_rfl) .nil) (fun _ => rfl) (fun _ _ => by kernel_rfl) (fun _ _ _ => by kernel_rfl)
theorem f56_l_heldInt64SS.ok : ∀ n v x, f56_l_heldInt64SS.F n v = some x → evalFn E n 56 (flAs f56_l_heldInt64SS.P (sg_li.pk v)) = some (f56_l_heldInt64SS.A.enc x) :=
  fn_pure (modes := (fdAt 56).ms) (outs := (fdAt 56).os) (results := (fdAt 56).rs) f56_l_heldInt64SS.O (c := c56) (keep := keepAt 56) (by kernel_rfl) (fun n => orcOf_cf _ _ n) (fun n => lpOk_of (bs := [loopAt c56 0]) (by kernel_rfl) (.cons (f56_l_heldInt64SS.l0.ok n) .nil)) (fun _ => rfl) (fun _ _ => by kernel_rfl)
noncomputable def f56_l_heldInt64SS.w : FnW E := fnW 56 f56_l_heldInt64SS.P sg_li f56_l_heldInt64SS.A f56_l_heldInt64SS.F f56_l_heldInt64SS.ok

def f11_l_FnExactClippedRuns : Nat → Nat → List T → Nat → Int → Option (Bool)
  | 0, _, _, _, _ => none
  | n + 1, n1, l2, x3, i4 =>
    br (decide (((n1 : Nat) : Int) > (1048576 : Int))) (
     some true) (
     bd (f50_l_toFloat32S n n1 l2) fun r5 =>
     let n6 : Nat := r5.1
     let l7 : List T := r5.2
     bd (f49_s_ClippedRuns n n6 l7 x3 i4) fun r8 =>
     let n9 : Nat := r8.1
     let l10 : List T := r8.2.1
     let b11 : Bool := r8.2.2
     bd (f50_l_toFloat32S n n1 l2) fun r12 =>
     let n13 : Nat := r12.1
     let l14 : List T := r12.2
     bd (f51_i_ClippedRuns n n13 l14 x3 i4) fun r15 =>
     let n16 : Nat := r15.1
     let l17 : List T := r15.2.1
     let b18 : Bool := r15.2.2
     bd (f52_l_eqInt64SS n n16 l17 n9 l10) fun r19 =>
     let b20 : Bool := r19
     br (!b20) (
      some false) (
      br (!(b18 == b11)) (
       some false) (
       bd (f50_l_toFloat32S n n1 l2) fun r21 =>
       let n22 : Nat := r21.1
       let l23 : List T := r21.2
       bd (f53_l_eqFloat32S n n13 l14 n22 l23) fun r24 =>
       let b25 : Bool := r24
       br (!b25) (
        some false) (
        bd (f54_l_markFloat32S n n13 l14 (1 : Int)) fun r26 =>
        let i27 : Int := r26.1
        let n28 : Nat := r26.2.1
        let l29 : List T := r26.2.2
        br (decide (i27 < (0 : Int))) (
         some false) (
         bd (f52_l_eqInt64SS n n16 l17 n9 l10) fun r30 =>
         let b31 : Bool := r30
         br (!b31) (
          some false) (
          br (!(b18 == b11)) (
           some false) (
           bd (f55_l_markInt64SS n n16 l17 (1 : Int)) fun r32 =>
           let i33 : Int := r32.1
           let n34 : Nat := r32.2.1
           let l35 : List T := r32.2.2
           bd (f56_l_heldInt64SS n n34 l35 (1 : Int)) fun r36 =>
           let i37 : Int := r36
           br (decide (i37 < (0 : Int))) (
            some false) (
            br (i37 != i33) (
             some false) (
             bd (f50_l_toFloat32S n n1 l2) fun r38 =>
             let n39 : Nat := r38.1
             let l40 : List T := r38.2
             bd (f51_i_ClippedRuns n n39 l40 x3 i4) fun r41 =>
             let n42 : Nat := r41.1
             let l43 : List T := r41.2.1
             let b44 : Bool := r41.2.2
             bd (f52_l_eqInt64SS n n42 l43 n9 l10) fun r45 =>
             let b46 : Bool := r45
             br (!b46) (
              some false) (
              br (!(b44 == b11)) (
               some false) (
               bd (f56_l_heldInt64SS n n34 l35 (1 : Int)) fun r47 =>
               let i48 : Int := r47
               br (decide (i48 < (0 : Int))) (
                some false) (
                br (i48 != i33) (
                 some false) (
                 some true)))))))))))))
def f11_l_FnExactClippedRuns.P : List Arg := [⟨.val, ⟨false, [.sl .shr [.leaf]], [.lst 0 []]⟩⟩, ⟨.val, ⟨false, [.leaf], [.flt .f32 0]⟩⟩, ⟨.val, ⟨false, [.leaf], [.int .i64 0]⟩⟩]
def f11_l_FnExactClippedRuns.A : RAlt (Bool) := .one ⟨[⟨false, [.leaf], [.bool false]⟩], [none, none, none]⟩ sg_b
def f11_l_FnExactClippedRuns.F (n : Nat) (v : Nat × List T × Nat × Int) := f11_l_FnExactClippedRuns n v.1 v.2.1 v.2.2.1 v.2.2.2
noncomputable def f11_l_FnExactClippedRuns.O (n : Nat) : Orc := orcOf (E := E) [f50_l_toFloat32S.w, f49_s_ClippedRuns.w, f51_i_ClippedRuns.w, f52_l_eqInt64SS.w, f53_l_eqFloat32S.w, f54_l_markFloat32S.w, f55_l_markInt64SS.w, f56_l_heldInt64SS.w] [] n
theorem f11_l_FnExactClippedRuns.ok : ∀ n v x, f11_l_FnExactClippedRuns.F n v = some x → evalFn E n 11 (flAs f11_l_FnExactClippedRuns.P (sg_lfi.pk v)) = some (f11_l_FnExactClippedRuns.A.enc x) :=
  fn_pure (modes := (fdAt 11).ms) (outs := (fdAt 11).os) (results := (fdAt 11).rs) f11_l_FnExactClippedRuns.O (c := c11) (keep := keepAt 11) (by kernel_rfl) (fun n => orcOf_cf _ _ n) (fun n => lpOk_of (bs := []) (by kernel_rfl) .nil) (fun _ => rfl) (fun _ _ => by kernel_rfl)
noncomputable def f11_l_FnExactClippedRuns.w : FnW E := fnW 11 f11_l_FnExactClippedRuns.P sg_lfi f11_l_FnExactClippedRuns.A f11_l_FnExactClippedRuns.F f11_l_FnExactClippedRuns.ok
end Go.Proofs.Ythgenpcoelihiaa.D
end
section
/- FnExactClippedRuns, in plain Lean. -/
namespace Go.Proofs.Ythgenpcoelihiaa.D
open Go Go.Desk
set_option linter.unusedVariables false
/-- a copy in single precision -/
theorem copy_loop (n : Nat) (xs : List Nat) (hx : xs.length ≤ 1048576) : ∀ (j i m : Nat) (ys : List Nat), ys.length = xs.length → i + j = xs.length → j < m →
    f50_l_toFloat32S.l0 n m xs.length (fls .f32 xs) xs.length (fls .f32 (xs.take i ++ ys.drop i)) (i : Int) = some (xs.length, fls .f32 xs) := by
  intro j
  induction j with
  | zero =>
    intro i m ys hl hi hm
    obtain ⟨m, rfl⟩ : ∃ k, m = k + 1 := ⟨m - 1, by omega⟩
    rw [f50_l_toFloat32S.l0, nlt_dec (by omega)]
    simp only [br]
    rw [List.take_of_length_le (by omega), List.drop_eq_nil_of_le (by omega), List.append_nil]
  | succ j ih =>
    intro i m ys hl hi hm
    obtain ⟨m, rfl⟩ : ∃ k, m = k + 1 := ⟨m - 1, by omega⟩
    have hlt : i < xs.length := by omega
    rw [f50_l_toFloat32S.l0, lt_dec hlt, in_dec hlt, Int.toNat_natCast, okAt_fls hlt, wrap_succ (by omega)]
    have hlen : Nat.ble (i + 1) (fls .f32 (xs.take i ++ ys.drop i)).length = true := by
      rw [Nat.ble_eq, fls_length]; simp; omega
    rw [hlen]
    simp only [br, gd, Bool.and_self]
    rw [setN_one, fAt_fls, set_fls]
    have : xs.getD i 0 = xs[i] := by simp [List.getD, hlt]
    rw [this, take_set_drop hlt hl]
    exact ih (i + 1) m ys hl (by omega) (by omega)

theorem copied (n : Nat) (xs : List Nat) (hx : xs.length ≤ 1048576) (hn : xs.length < n) : f50_l_toFloat32S (n + 1) xs.length (fls .f32 xs) = some (xs.length, fls .f32 xs) := by
  rw [f50_l_toFloat32S]
  have h := copy_loop n xs hx xs.length 0 n (List.replicate xs.length 0) (by simp) (by omega) hn
  rw [List.take_zero, List.drop_zero, List.nil_append] at h
  have e : decide ((0 : Int) ≤ ((xs.length : Nat) : Int) ∧ ((xs.length : Nat) : Int) ≤ (2147483648 : Int)) = true := by simp; omega
  rw [reps_fls, e]
  simp only [gd]
  rw [show ((0 : Nat) : Int) = 0 from rfl] at h
  rw [h]; rfl

theorem same_self (n y : Nat) : f70_l_sameFloat (n + 1) y y = some true := by
  unfold f70_l_sameFloat
  simp only [fne_feq]
  cases h : feq FloatKind.f64 y y
  · simp [br]
  · cases h0 : feq FloatKind.f64 y 0 <;> simp [br]

/-- equal to itself -/
theorem eq_loop (n : Nat) (xs : List Nat) (hx : xs.length ≤ 2147483648) : ∀ (j i m : Nat), i + j = xs.length → j < m →
    f53_l_eqFloat32S.l0 (n + 1) m xs.length (fls .f32 xs) xs.length (fls .f32 xs) (i : Int) = some (Sum.inr ()) := by
  intro j
  induction j with
  | zero =>
    intro i m hi hm
    obtain ⟨m, rfl⟩ : ∃ k, m = k + 1 := ⟨m - 1, by omega⟩
    rw [f53_l_eqFloat32S.l0, nlt_dec (by omega)]
    rfl
  | succ j ih =>
    intro i m hi hm
    obtain ⟨m, rfl⟩ : ∃ k, m = k + 1 := ⟨m - 1, by omega⟩
    have hlt : i < xs.length := by omega
    rw [f53_l_eqFloat32S.l0, lt_dec hlt, in_dec hlt, Int.toNat_natCast, okAt_fls hlt, wrap_succ (by omega), fltToFlt_wide]
    simp only [br, gd, bd, Bool.and_self, same_self, Bool.not_true]
    exact ih (i + 1) m (by omega) (by omega)

theorem eq_self (n : Nat) (xs : List Nat) (hx : xs.length ≤ 2147483648) (hn : xs.length < n + 1) : f53_l_eqFloat32S (n + 2) xs.length (fls .f32 xs) xs.length (fls .f32 xs) = some true := by
  rw [f53_l_eqFloat32S]
  have h := eq_loop n xs hx xs.length 0 (n + 1) (by omega) hn
  rw [show ((0 : Nat) : Int) = 0 from rfl] at h
  rw [h, show (((xs.length : Nat) : Int) != ((xs.length : Nat) : Int)) = false by simp]
  rfl

theorem s_few (n k : Nat) (l : List T) : f98_s_l01Few (n + 1) k l = some (decide ((k : Int) ≤ 256)) := by rw [f98_s_l01Few]
theorem i_few (n k : Nat) (l : List T) : f82_i_areSamples (n + 1) k l = some (decide ((k : Int) ≤ 256)) := by rw [f82_i_areSamples]

theorem s_in (n : Nat) (a b c : Int) : f99_s_l00In (n + 1) a b c = some (decide (b ≤ a ∧ a ≤ c)) := by
  rw [f99_s_l00In]
  by_cases h : b ≤ a <;> simp [br, h]
theorem i_in (n : Nat) (a b c : Int) : f83_i_within (n + 1) a b c = some (decide (b ≤ a ∧ a ≤ c)) := by
  rw [f83_i_within]
  by_cases h : b ≤ a <;> simp [br, h]

/-- numbers are counted into a slice -/
theorem mark32_loop (n : Nat) (xs : List Nat) (hx : xs.length ≤ 2147483648) (s : Int) (hs : 0 ≤ s) (hs' : s ≤ 1099511627776) : ∀ (j i m : Nat), i + j = xs.length → j < m →
    f54_l_markFloat32S.l0 n m xs.length (fls .f32 ((marksF .f32 s xs.length).take i ++ xs.drop i)) (s + (i : Int)) (i : Int) = some (xs.length, fls .f32 (marksF .f32 s xs.length), s + (xs.length : Int)) := by
  intro j
  induction j with
  | zero =>
    intro i m hi hm
    obtain ⟨m, rfl⟩ : ∃ k, m = k + 1 := ⟨m - 1, by omega⟩
    have hi : i = xs.length := by omega
    subst hi
    rw [f54_l_markFloat32S.l0, nlt_dec (by omega)]
    simp only [br]
    rw [List.take_of_length_le (by rw [marksF_length]; omega), List.drop_eq_nil_of_le (by omega), List.append_nil]
  | succ j ih =>
    intro i m hi hm
    obtain ⟨m, rfl⟩ : ∃ k, m = k + 1 := ⟨m - 1, by omega⟩
    have hlt : i < xs.length := by omega
    have hlt' : i < (marksF .f32 s xs.length).length := by rw [marksF_length]; exact hlt
    have hlen : Nat.ble (i + 1) (fls .f32 ((marksF .f32 s xs.length).take i ++ xs.drop i)).length = true := by
      apply le_ble
      rw [fls_length, List.length_append, List.length_take, List.length_drop, marksF_length]; omega
    rw [f54_l_markFloat32S.l0, lt_dec hlt, in_dec hlt, Int.toNat_natCast, wrap_succ (by omega), hlen]
    simp only [br, gd]
    rw [setN_one, set_fls, show IntKind.i64.wrap (s + (i : Int) + 1) = s + ((i + 1 : Nat) : Int) by rw [wrap64] <;> omega, ← marksF_at hlt', take_set_drop hlt' (by rw [marksF_length])]
    exact ih (i + 1) m (by omega) (by omega)
theorem mark32 (n : Nat) (xs : List Nat) (hx : xs.length ≤ 2147483648) (s : Int) (hs : 0 ≤ s) (hs' : s ≤ 1099511627776) (hn : xs.length < n) :
    f54_l_markFloat32S (n + 1) xs.length (fls .f32 xs) s = some (s + (xs.length : Int), xs.length, fls .f32 (marksF .f32 s xs.length)) := by
  rw [f54_l_markFloat32S]
  have h := mark32_loop n xs hx s hs hs' xs.length 0 n (by omega) hn
  rw [List.take_zero, List.drop_zero, List.nil_append, show ((0 : Nat) : Int) = 0 from rfl, Int.add_zero] at h
  rw [h]; rfl

/-- whole numbers equal to themselves -/
theorem eqi_loop (n : Nat) (xs : List Int) (hx : xs.length ≤ 2147483648) : ∀ (j i m : Nat), i + j = xs.length → j < m →
    f101_l_eqInt64S.l0 n m xs.length (its .i64 xs) xs.length (its .i64 xs) (i : Int) = some (Sum.inr ()) := by
  intro j
  induction j with
  | zero =>
    intro i m hi hm
    obtain ⟨m, rfl⟩ : ∃ k, m = k + 1 := ⟨m - 1, by omega⟩
    rw [f101_l_eqInt64S.l0, nlt_dec (by omega)]
    rfl
  | succ j ih =>
    intro i m hi hm
    obtain ⟨m, rfl⟩ : ∃ k, m = k + 1 := ⟨m - 1, by omega⟩
    have hlt : i < xs.length := by omega
    rw [f101_l_eqInt64S.l0, lt_dec hlt, in_dec hlt, Int.toNat_natCast, okAt_its hlt, wrap_succ (by omega)]
    simp only [br, gd, Bool.and_self, bne_self_eq_false]
    exact ih (i + 1) m (by omega) (by omega)
theorem eqi_self (n : Nat) (xs : List Int) (hx : xs.length ≤ 2147483648) (hn : xs.length < n) : f101_l_eqInt64S (n + 1) xs.length (its .i64 xs) xs.length (its .i64 xs) = some true := by
  rw [f101_l_eqInt64S]
  have h := eqi_loop n xs hx xs.length 0 n (by omega) hn
  rw [show ((0 : Nat) : Int) = 0 from rfl] at h
  rw [h, show (((xs.length : Nat) : Int) != ((xs.length : Nat) : Int)) = false by simp]
  rfl

/-- numbers are counted into a slice -/
theorem mark64_loop (n : Nat) (xs : List Int) (hx : xs.length ≤ 2147483648) (s : Int) (hs : 0 ≤ s) (hs' : s ≤ 1099511627776) : ∀ (j i m : Nat), i + j = xs.length → j < m →
    f102_l_markInt64S.l0 n m xs.length (its .i64 ((marksI s xs.length).take i ++ xs.drop i)) (s + (i : Int)) (i : Int) = some (xs.length, its .i64 (marksI s xs.length), s + (xs.length : Int)) := by
  intro j
  induction j with
  | zero =>
    intro i m hi hm
    obtain ⟨m, rfl⟩ : ∃ k, m = k + 1 := ⟨m - 1, by omega⟩
    have hi : i = xs.length := by omega
    subst hi
    rw [f102_l_markInt64S.l0, nlt_dec (by omega)]
    simp only [br]
    rw [List.take_of_length_le (by rw [marksI_length]; omega), List.drop_eq_nil_of_le (by omega), List.append_nil]
  | succ j ih =>
    intro i m hi hm
    obtain ⟨m, rfl⟩ : ∃ k, m = k + 1 := ⟨m - 1, by omega⟩
    have hlt : i < xs.length := by omega
    have hlt' : i < (marksI s xs.length).length := by rw [marksI_length]; exact hlt
    have hlen : Nat.ble (i + 1) (its .i64 ((marksI s xs.length).take i ++ xs.drop i)).length = true := by
      apply le_ble
      rw [its_length, List.length_append, List.length_take, List.length_drop, marksI_length]; omega
    rw [f102_l_markInt64S.l0, lt_dec hlt, in_dec hlt, Int.toNat_natCast, wrap_succ (by omega), hlen]
    simp only [br, gd]
    rw [setN_one, set_its, show IntKind.i64.wrap (s + (i : Int) + 1) = s + ((i + 1 : Nat) : Int) by rw [wrap64] <;> omega, ← marksI_at hlt', take_set_drop hlt' (by rw [marksI_length])]
    exact ih (i + 1) m (by omega) (by omega)
theorem mark64 (n : Nat) (xs : List Int) (hx : xs.length ≤ 2147483648) (s : Int) (hs : 0 ≤ s) (hs' : s ≤ 1099511627776) (hn : xs.length < n) :
    f102_l_markInt64S (n + 1) xs.length (its .i64 xs) s = some (s + (xs.length : Int), xs.length, its .i64 (marksI s xs.length)) := by
  rw [f102_l_markInt64S]
  have h := mark64_loop n xs hx s hs hs' xs.length 0 n (by omega) hn
  rw [List.take_zero, List.drop_zero, List.nil_append, show ((0 : Nat) : Int) = 0 from rfl, Int.add_zero] at h
  rw [h]; rfl

/-- counted numbers are held -/
theorem held64_loop (n l : Nat) (hx : l ≤ 2147483648) (s : Int) (hs : 0 ≤ s) (hs' : s ≤ 1099511627776) : ∀ (j i m : Nat), i + j = l → j < m →
    f103_l_heldInt64S.l0 n m l (its .i64 (marksI s l)) (s + (i : Int)) (i : Int) = some (Sum.inr (s + (l : Int))) := by
  intro j
  induction j with
  | zero =>
    intro i m hi hm
    obtain ⟨m, rfl⟩ : ∃ k, m = k + 1 := ⟨m - 1, by omega⟩
    have hi : i = l := by omega
    subst hi
    rw [f103_l_heldInt64S.l0, nlt_dec (by omega)]
    rfl
  | succ j ih =>
    intro i m hi hm
    obtain ⟨m, rfl⟩ : ∃ k, m = k + 1 := ⟨m - 1, by omega⟩
    have hlt : i < l := by omega
    rw [f103_l_heldInt64S.l0, lt_dec hlt, in_dec hlt, Int.toNat_natCast, wrap_succ (by omega), okAt_its (by rw [marksI_length]; exact hlt), iAt_its, marksI_get hlt, bne_self_eq_false,
      show IntKind.i64.wrap (s + (i : Int) + 1) = s + ((i + 1 : Nat) : Int) by rw [wrap64] <;> omega]
    simp only [br, gd, Bool.and_self]
    exact ih (i + 1) m (by omega) (by omega)
theorem held64 (n l : Nat) (hx : l ≤ 2147483648) (s : Int) (hs : 0 ≤ s) (hs' : s ≤ 1099511627776) (hn : l < n) :
    f103_l_heldInt64S (n + 1) l (its .i64 (marksI s l)) s = some (s + (l : Int)) := by
  rw [f103_l_heldInt64S]
  have h := held64_loop n l hx s hs hs' l 0 n (by omega) hn
  rw [show ((0 : Nat) : Int) = 0 from rfl, Int.add_zero] at h
  rw [h]; rfl

theorem eqr_loop (n : Nat) : ∀ (zs p : List (List Int)) (m : Nat), (∀ z ∈ zs, z.length ≤ n ∧ z.length ≤ 1048576) → p.length + zs.length ≤ 1048576 → zs.length < m →
    f52_l_eqInt64SS.l0 (n + 2) m (p ++ zs).length ((p ++ zs).map rwI) (p ++ zs).length ((p ++ zs).map rwI) (p.length : Int) = some (.inr ()) := by
  intro zs
  induction zs with
  | nil =>
    intro p m _ _ hm
    obtain ⟨m, rfl⟩ : ∃ k, m = k + 1 := ⟨m - 1, by omega⟩
    rw [f52_l_eqInt64SS.l0, lt_end]; rfl
  | cons z zs ih =>
    intro p m hz hp hm
    obtain ⟨m, rfl⟩ : ∃ k, m = k + 1 := ⟨m - 1, by omega⟩
    obtain ⟨h1, h2⟩ := hz z (by simp)
    rw [f52_l_eqInt64SS.l0, lt_mid, in_mid, toNat_len, okAt_midR, nAt_midR, lAt_midR, eqi_self (n + 1) z (by omega) (by omega), wrap_len (z := z) (by simp at hp; omega)]
    have := ih (p ++ [z]) m (fun x hx => hz x (by simp [hx])) (by simp at hp ⊢; omega) (by simp at hm; omega)
    simpa [br, gd, bd] using this
theorem eqr_self (n : Nat) (xs : List (List Int)) (hx : xs.length ≤ 1048576) (hz : ∀ z ∈ xs, z.length ≤ n ∧ z.length ≤ 1048576) (hn : xs.length < n + 2) : f52_l_eqInt64SS (n + 3) xs.length (xs.map rwI) xs.length (xs.map rwI) = some true := by
  rw [f52_l_eqInt64SS]
  have h := eqr_loop n xs [] (n + 2) hz (by simpa using hx) hn
  have h : f52_l_eqInt64SS.l0 (n + 2) (n + 2) xs.length (xs.map rwI) xs.length (xs.map rwI) 0 = some (.inr ()) := h
  rw [h]; simp [br, bd, sm]
theorem markr_loop (n : Nat) (s0 : Int) : ∀ (zs p : List (List Int)) (s : Int) (m : Nat), 0 ≤ s → s + sizeR zs ≤ 1099511627776 → (∀ z ∈ zs, z.length ≤ n ∧ z.length ≤ 1048576) → p.length + zs.length ≤ 1048576 → zs.length < m →
    f55_l_markInt64SS.l0 (n + 2) m (p ++ zs).length ((p ++ zs).map rwI) s (p.length : Int) = some ((p ++ marksR s zs).length, (p ++ marksR s zs).map rwI, s + sizeR zs) := by
  intro zs
  induction zs with
  | nil =>
    intro p s m _ _ _ _ hm
    obtain ⟨m, rfl⟩ : ∃ k, m = k + 1 := ⟨m - 1, by omega⟩
    rw [f55_l_markInt64SS.l0, lt_end]; simp [br, marksR, sizeR]
  | cons z zs ih =>
    intro p s m h0 hs hz hp hm
    obtain ⟨m, rfl⟩ : ∃ k, m = k + 1 := ⟨m - 1, by omega⟩
    obtain ⟨h1, h2⟩ := hz z (by simp)
    have hs' : s + z.length + sizeR zs ≤ 1099511627776 := by simp [sizeR] at hs; omega
    rw [f55_l_markInt64SS.l0, lt_mid, in_mid, toNat_len, okAt_midR, nAt_midR, lAt_midR, mark64 (n + 1) z (by omega) s h0 (by omega) (by omega), wrap_len (z := z) (by simp at hp; omega)]
    have e : setN ((p ++ z :: zs).map rwI) p.length [T.lst z.length (its .i64 (marksI s z.length))] = (p ++ marksI s z.length :: zs).map rwI := by
      rw [setN_one]
      have : p.length = (p.map rwI).length := by simp
      rw [List.map_append, List.map_cons, this, set_mid, List.map_append, List.map_cons]
      simp [rwI, marksI_length]
    have := ih (p ++ [marksI s z.length]) (s + z.length) m (by omega) (by omega) (fun x hx => hz x (by simp [hx])) (by simp at hp ⊢; omega) (by simp at hm; omega)
    simp only [br_t, gd_t, bd_s, Bool.and_self, e]
    simpa [marksR, sizeR, Int.add_assoc] using this
theorem markr (n : Nat) (xs : List (List Int)) (s : Int) (h0 : 0 ≤ s) (hs : s + sizeR xs ≤ 1099511627776) (hx : xs.length ≤ 1048576) (hz : ∀ z ∈ xs, z.length ≤ n ∧ z.length ≤ 1048576) (hn : xs.length < n + 2) :
    f55_l_markInt64SS (n + 3) xs.length (xs.map rwI) s = some (s + sizeR xs, (marksR s xs).length, (marksR s xs).map rwI) := by
  rw [f55_l_markInt64SS]
  have h := markr_loop n s xs [] s (n + 2) h0 hs hz (by simpa using hx) hn
  have h : f55_l_markInt64SS.l0 (n + 2) (n + 2) xs.length (xs.map rwI) s 0 = some ((marksR s xs).length, (marksR s xs).map rwI, s + sizeR xs) := h
  rw [h]; rfl
theorem heldr_loop (n : Nat) : ∀ (zs p : List (List Int)) (s : Int) (m : Nat), 0 ≤ s → s + sizeR zs ≤ 1099511627776 → (∀ z ∈ zs, z.length ≤ n ∧ z.length ≤ 1048576) → p.length + zs.length ≤ 1048576 → zs.length < m →
    f56_l_heldInt64SS.l0 (n + 2) m (p ++ marksR s zs).length ((p ++ marksR s zs).map rwI) s (p.length : Int) = some (.inr (s + sizeR zs)) := by
  intro zs
  induction zs with
  | nil =>
    intro p s m _ _ _ _ hm
    obtain ⟨m, rfl⟩ : ∃ k, m = k + 1 := ⟨m - 1, by omega⟩
    rw [f56_l_heldInt64SS.l0, marksR, lt_end]; simp [br, sizeR]
  | cons z zs ih =>
    intro p s m h0 hs hz hp hm
    obtain ⟨m, rfl⟩ : ∃ k, m = k + 1 := ⟨m - 1, by omega⟩
    obtain ⟨h1, h2⟩ := hz z (by simp)
    have hs' : s + z.length + sizeR zs ≤ 1099511627776 := by simp [sizeR] at hs; omega
    rw [f56_l_heldInt64SS.l0, marksR, lt_mid, in_mid, toNat_len, okAt_midR, nAt_midR, lAt_midR, marksI_length, held64 (n + 1) z.length (by omega) s h0 (by omega) (by omega), wrap_len (z := marksI s z.length) (by simp at hp; omega)]
    have := ih (p ++ [marksI s z.length]) (s + z.length) m (by omega) (by omega) (fun x hx => hz x (by simp [hx])) (by simp at hp ⊢; omega) (by simp at hm; omega)
    simp only [br_t, gd_t, bd_s, Bool.and_self, decide_eq_false (show ¬ (s + (z.length : Int) < 0) by omega), br_f]
    simpa [marksR, sizeR, Int.add_assoc] using this
theorem heldr (n : Nat) (xs : List (List Int)) (s : Int) (h0 : 0 ≤ s) (hs : s + sizeR xs ≤ 1099511627776) (hx : xs.length ≤ 1048576) (hz : ∀ z ∈ xs, z.length ≤ n ∧ z.length ≤ 1048576) (hn : xs.length < n + 2) :
    f56_l_heldInt64SS (n + 3) (marksR s xs).length ((marksR s xs).map rwI) s = some (s + sizeR xs) := by
  rw [f56_l_heldInt64SS]
  have h := heldr_loop n xs [] s (n + 2) h0 hs hz (by simpa using hx) hn
  have h : f56_l_heldInt64SS.l0 (n + 2) (n + 2) (marksR s xs).length ((marksR s xs).map rwI) s 0 = some (.inr (s + sizeR xs)) := h
  rw [h]; rfl

theorem i_absolute (n : Nat) {x : Nat} (hg : W32 x) : f92_i_absolute (n + 2) x = some (size32 x) := by
  obtain ⟨h1, h2⟩ := abs_size hg.1 hg.2 n
  rw [f92_i_absolute, fltToFlt_wide]
  simp only [bd, h1, h2]

theorem s_size (n : Nat) {x : Nat} (hg : GoodF .f32 x) : f100_s_l04Size (n + 3) x = some (size32 x) := by
  have hx := hg.lt32
  rw [f100_s_l04Size]
  cases hn : isNaN .f32 x
  · obtain ⟨c1, c2, c3⟩ := neg_size hx hn
    cases hf : flt .f32 x 0
    · have hb : f79_s_l01Bits (n + 2) x = some (x : Int) := by
        rw [f79_s_l01Bits, fne_nan, hn]
        show bd (if isNaN .f32 x then none else some (x : Int)) _ = _
        rw [hn]
        show some (IntKind.i64.wrap (x : Int)) = _
        rw [wrap64] <;> omega
      rw [hb]
      simp only [br, bd]
      by_cases h : x = 2147483648
      · subst h
        rw [c3]; rfl
      · rw [show (((x : Nat) : Int) == 2147483648) = false by simp; omega]
        rcases c2 hf with h' | h'
        · exact absurd h' h
        · simp only; rw [← h']
    · simp only [br]; rw [c1 hf]
  · have hq : x = qnan .f32 := by rw [← hg.1, canon_nan hn]
    rw [flt_nan 0 hn, size_nan hn]
    have hb : f79_s_l01Bits (n + 2) x = some 2143289344 := by rw [f79_s_l01Bits, fne_nan, hn]; rfl
    rw [hb, hq]; rfl
theorem i_size32 (n : Nat) {x : Nat} (hg : GoodF .f32 x) : f92_i_absolute (n + 2) x = some (size32 x) := by
  obtain ⟨h1, h2⟩ := abs_size hg.lt32 hg.1 n
  rw [f92_i_absolute, fltToFlt_wide]
  simp only [bd, h1, h2]
theorem nan_size {x : Nat} : isNaN .f32 (size32 x) = isNaN .f32 x := by
  unfold size32
  cases h : isNaN .f32 x
  · simp only [Bool.false_eq_true, if_false]
    rw [isNaN_f32] at h ⊢
    rw [Nat.mod_mod]; exact h
  · simp only [if_true]; exact isNaN_qnan _

/-- how many samples from here on are great enough -/
def runOf (t : Nat) : List Nat → Nat
  | [] => 0
  | x :: xs => if fge .f32 (size32 x) t then runOf t xs + 1 else 0
theorem runOf_le (t : Nat) : ∀ xs, runOf t xs ≤ xs.length
  | [] => Nat.le_refl _
  | x :: xs => by
    have := runOf_le t xs
    simp only [runOf]; split <;> simp <;> omega
theorem s_run (n : Nat) (xs : List Nat) (t : Nat) (least : Int) (N : Nat) (cs : List T) (i0 : Int) (hg : ∀ x ∈ xs, GoodF .f32 x) : ∀ (zs p : List Nat) (m : Nat), xs = p ++ zs → xs.length ≤ 1048576 → zs.length < m →
    f49_s_ClippedRuns.l1 (n + 3) m xs.length (fls .f32 xs) t least N cs (p.length : Int) i0 = some (xs.length, fls .f32 xs, t, least, N, cs, ((p.length + runOf t zs : Nat) : Int), i0) := by
  intro zs
  induction zs with
  | nil =>
    intro p m h hl hm
    obtain ⟨m, rfl⟩ : ∃ k, m = k + 1 := ⟨m - 1, by omega⟩
    subst h
    rw [f49_s_ClippedRuns.l1, lt_end]; rfl
  | cons z zs ih =>
    intro p m h hl hm
    obtain ⟨m, rfl⟩ : ∃ k, m = k + 1 := ⟨m - 1, by omega⟩
    have hgz : GoodF .f32 z := hg z (by rw [h]; simp)
    have ih' := ih (p ++ [z]) m (by simp [h]) hl (by simp at hm; omega)
    have hp : p.length < 1048576 := by rw [h] at hl; simp at hl; omega
    subst h
    rw [f49_s_ClippedRuns.l1, lt_mid, in_mid, toNat_len, okAt_mid, fAt_mid, s_size n hgz, wrap_len (z := z) (by omega)]
    simp only [br_t, gd_t, bd_s, Bool.and_self, runOf]
    cases fge .f32 (size32 z) t
    · rfl
    · rw [br_t, ih', if_pos rfl, show (p ++ [z]).length + runOf t zs = p.length + (runOf t zs + 1) by simp; omega]
theorem i_run (n : Nat) (xs : List Nat) (t : Nat) (least : Int) (N : Nat) (cs : List T) (i0 : Int) (hg : ∀ x ∈ xs, GoodF .f32 x) : ∀ (zs p : List Nat) (m : Nat), xs = p ++ zs → xs.length ≤ 1048576 → zs.length < m →
    f51_i_ClippedRuns.l1 (n + 2) m xs.length (fls .f32 xs) t least N cs i0 (p.length : Int) = some (xs.length, fls .f32 xs, t, least, N, cs, i0, ((p.length + runOf t zs : Nat) : Int)) := by
  intro zs
  induction zs with
  | nil =>
    intro p m h hl hm
    obtain ⟨m, rfl⟩ : ∃ k, m = k + 1 := ⟨m - 1, by omega⟩
    subst h
    rw [f51_i_ClippedRuns.l1, lt_end]; rfl
  | cons z zs ih =>
    intro p m h hl hm
    obtain ⟨m, rfl⟩ : ∃ k, m = k + 1 := ⟨m - 1, by omega⟩
    have hgz : GoodF .f32 z := hg z (by rw [h]; simp)
    have ih' := ih (p ++ [z]) m (by simp [h]) hl (by simp at hm; omega)
    have hp : p.length < 1048576 := by rw [h] at hl; simp at hl; omega
    subst h
    rw [f51_i_ClippedRuns.l1, lt_mid, in_mid, toNat_len, okAt_mid, fAt_mid, i_absolute n hgz.w32, wrap_len (z := z) (by omega)]
    simp only [br_t, gd_t, bd_s, Bool.and_self, runOf]
    cases fge .f32 (size32 z) t
    · rfl
    · rw [br_t, ih', if_pos rfl, show (p ++ [z]).length + runOf t zs = p.length + (runOf t zs + 1) by simp; omega]
theorem i_sizeOf (n : Nat) (x : Int) : f81_i_size (n + 1) x = some x := by rw [f81_i_size]
theorem push_row (acc : List (List Int)) (a b : Int) : acc.map rwI ++ setN (reps 1 [T.lst 0 []]) 0 [T.lst 2 (setN (setN (reps 2 [T.int .i64 0]) 0 [T.int .i64 a]) 1 [T.int .i64 b])] = (acc ++ [[a, b]]).map rwI := by
  simp [rwI, its, setN, reps]
/-- both find the same runs -/
theorem runs_loop (n n' : Nat) (xs : List Nat) (t : Nat) (least : Int) (hl1 : 1 ≤ least) (hg : ∀ x ∈ xs, GoodF .f32 x) (hx : xs.length ≤ 1048576) (hn : xs.length < n) (hn' : xs.length < n') : ∀ (j i : Nat), xs.length ≤ i + j → i ≤ xs.length + 1 → ∀ (m m' : Nat) (acc : List (List Int)), acc.length ≤ i → (∀ z ∈ acc, z.length = 2) → j < m → j + 1 < m' →
    ∃ ys : List (List Int), ys.length ≤ xs.length + 1 ∧ (∀ z ∈ ys, z.length = 2) ∧ f49_s_ClippedRuns.l0 (n + 3) m xs.length (fls .f32 xs) t least acc.length (acc.map rwI) (i : Int) = some (ys.length, ys.map rwI) ∧
      f51_i_ClippedRuns.l0 (n' + 2) m' xs.length (fls .f32 xs) t least acc.length (acc.map rwI) (i : Int) = some (ys.length, ys.map rwI) := by
  intro j
  induction j using Nat.strongRecOn with
  | ind j ih =>
  intro i hj hi m m' acc ha hz hm hm'
  obtain ⟨m, rfl⟩ : ∃ k, m = k + 1 := ⟨m - 1, by omega⟩
  obtain ⟨m', rfl⟩ : ∃ k, m' = k + 1 := ⟨m' - 1, by omega⟩
  rw [f49_s_ClippedRuns.l0, f51_i_ClippedRuns.l0]
  rcases Nat.lt_or_ge i xs.length with hlt | hge
  case inr => rw [nlt_dec hge]; exact ⟨acc, by omega, hz, rfl, rfl⟩
  rw [lt_dec hlt]
  have hpl : (xs.take i).length = i := by rw [List.length_take]; omega
  have e1 := s_run n xs t least acc.length (acc.map rwI) i hg (xs.drop i) (xs.take i) (n + 3) (by simp) hx (by simp; omega)
  have e2 := i_run n' xs t least acc.length (acc.map rwI) i hg (xs.drop i) (xs.take i) (n' + 2) (by simp) hx (by simp; omega)
  rw [hpl] at e1 e2
  have hr := runOf_le t (xs.drop i)
  rw [List.length_drop] at hr
  generalize hrr : runOf t (xs.drop i) = r at *
  have w1 : IntKind.i64.wrap (((i + r : Nat) : Int) - (i : Int)) = (r : Int) := by rw [wrap64] <;> omega
  have w2 : IntKind.i64.wrap (((i + r : Nat) : Int) - 1) = ((i + r : Nat) : Int) - 1 := by rw [wrap64] <;> omega
  have w3 : IntKind.i64.wrap (((i + r : Nat) : Int) + 1) = ((i + r + 1 : Nat) : Int) := wrap_succ (by omega)
  simp only [br_t, e1, e2, bd_s, w1, w2, w3, i_sizeOf, push_row, push_ok (show acc.length < 2147483648 by omega), gd_t]
  have w4 : IntKind.i64.wrap ((if ((i + r : Nat) : Int) - 1 > (i : Int) then ((i + r : Nat) : Int) - 1 else (i : Int)) + 1) = ((max (i + 1) (i + r) : Nat) : Int) := by
    rw [wrap64] <;> split <;> omega
  rw [w4]
  rcases Nat.eq_zero_or_pos r with h0 | h0
  · subst h0
    have e : ¬ (((0 : Nat) : Int) ≥ least) := by omega
    rw [decide_eq_false e, show max (i + 1) (i + 0) = i + 1 by omega, show i + 0 + 1 = i + 1 by omega]
    exact ih (j - 1) (by omega) (i + 1) (by omega) (by omega) m m' acc (by omega) hz (by omega) (by omega)
  · -- behind a run there is a sample that is not great enough, or the end
    rw [show max (i + 1) (i + r) = i + r by omega]
    have hstep : ∀ (acc' : List (List Int)), acc'.length ≤ i + r → (∀ z ∈ acc', z.length = 2) → ∃ ys : List (List Int), ys.length ≤ xs.length + 1 ∧ (∀ z ∈ ys, z.length = 2) ∧ f49_s_ClippedRuns.l0 (n + 3) m xs.length (fls .f32 xs) t least acc'.length (acc'.map rwI) ((i + r + 1 : Nat) : Int) = some (ys.length, ys.map rwI) ∧
      f51_i_ClippedRuns.l0 (n' + 2) m' xs.length (fls .f32 xs) t least acc'.length (acc'.map rwI) ((i + r : Nat) : Int) = some (ys.length, ys.map rwI) := by
      intro acc' ha' hz'
      obtain ⟨m', rfl⟩ : ∃ k, m' = k + 1 := ⟨m' - 1, by omega⟩
      obtain ⟨m, rfl⟩ : ∃ k, m = k + 1 := ⟨m - 1, by omega⟩
      rcases Nat.lt_or_ge (i + r) xs.length with hlt2 | hge2
      · obtain ⟨ys, q1, q2, q3, q4⟩ := ih (j - r - 1) (by omega) (i + r + 1) (by omega) (by omega) (m + 1) m' acc' (by omega) hz' (by omega) (by omega)
        refine ⟨ys, q1, q2, q3, ?_⟩
        rw [f51_i_ClippedRuns.l0, lt_dec hlt2]
        have hpl2 : (xs.take (i + r)).length = i + r := by rw [List.length_take]; omega
        have e2 := i_run n' xs t least acc'.length (acc'.map rwI) ((i + r : Nat) : Int) hg (xs.drop (i + r)) (xs.take (i + r)) (n' + 2) (by simp) hx (by simp; omega)
        have h00 : runOf t (xs.drop (i + r)) = 0 := by
          have key : ∀ (zs : List Nat), runOf t (zs.drop (runOf t zs)) = 0 := by
            intro zs
            induction zs with
            | nil => rfl
            | cons z zs ih =>
              simp only [runOf]
              split
              · rw [List.drop_succ_cons]; exact ih
              · rename_i h; simp [runOf, h]
          have := key (xs.drop i)
          rwa [hrr, List.drop_drop] at this
        simp only [hpl2, h00, Nat.add_zero] at e2
        have w5 : IntKind.i64.wrap (((i + r : Nat) : Int) - ((i + r : Nat) : Int)) = 0 := by rw [Int.sub_self]; decide
        simp only [br_t, e2, bd_s, w5, i_sizeOf, decide_eq_false (show ¬ ((0 : Int) ≥ least) by omega), br_f, w2]
        rw [if_neg (by omega), w3]
        exact q4
      · refine ⟨acc', by omega, hz', ?_, ?_⟩
        · rw [f49_s_ClippedRuns.l0, nlt_dec (by omega)]; rfl
        · rw [f51_i_ClippedRuns.l0, nlt_dec (by omega)]; rfl
    by_cases hle : (r : Int) ≥ least
    · rw [decide_eq_true hle]
      simp only [br_t]
      rw [push_len (z := [(i : Int), (r : Int)])]
      exact hstep _ (by simp; omega) (by
        intro z hz'; simp only [List.mem_append, List.mem_singleton] at hz'
        rcases hz' with h | rfl
        · exact hz z h
        · rfl)
    · rw [decide_eq_false hle]
      simp only [br_f]
      exact hstep _ (by omega) hz
theorem both (n n' : Nat) (xs : List Nat) (hg : ∀ x ∈ xs, GoodF .f32 x) (t : Nat) (least : Int) (hn : xs.length + 5 < n) (hn' : xs.length + 5 < n') (hx : xs.length ≤ 1048576) :
    ∃ (ys : List (List Int)) (c : Bool), ys.length ≤ xs.length + 1 ∧ (∀ z ∈ ys, z.length = 2) ∧ f49_s_ClippedRuns (n + 4) xs.length (fls .f32 xs) t least = some (ys.length, ys.map rwI, c) ∧ f51_i_ClippedRuns (n' + 3) xs.length (fls .f32 xs) t least = some (ys.length, ys.map rwI, c) := by
  rw [f49_s_ClippedRuns, f51_i_ClippedRuns]
  simp only [s_few, i_few, s_in, i_in, bd_s, br_not]
  by_cases h0 : (xs.length : Int) ≤ 256
  case neg => rw [decide_eq_false h0]; exact ⟨[], false, by simp, by simp, rfl, rfl⟩
  rw [decide_eq_true h0]
  by_cases h1 : 1 ≤ least ∧ least ≤ 256
  case neg => rw [decide_eq_false h1]; exact ⟨[], false, by simp, by simp, rfl, rfl⟩
  rw [decide_eq_true h1]
  obtain ⟨ys, q1, q2, q3, q4⟩ := runs_loop n n' xs t least h1.1 hg hx (by omega) (by omega) xs.length 0 (by omega) (by omega) (n + 3) (n' + 2) [] (by simp) (by simp) (by omega) (by omega)
  refine ⟨ys, true, q1, q2, ?_, ?_⟩
  · have q3 : f49_s_ClippedRuns.l0 (n + 3) (n + 3) xs.length (fls .f32 xs) t least 0 (reps 0 [(T.lst 0 [])]) 0 = some (ys.length, ys.map rwI) := q3
    simp only [br_t, q3, bd_s]
  · have q4 : f51_i_ClippedRuns.l0 (n' + 2) (n' + 2) xs.length (fls .f32 xs) t least 0 [] 0 = some (ys.length, ys.map rwI) := q4
    simp only [br_t, q4, bd_s]
theorem size_two : ∀ (ys : List (List Int)), (∀ z ∈ ys, z.length = 2) → sizeR ys = 2 * ys.length
  | [], _ => rfl
  | y :: ys, h => by
    have h1 := h y (by simp)
    have h2 := size_two ys (fun z hz => h z (by simp [hz]))
    simp only [sizeR, List.length_cons]; omega
theorem exact_ (xs : List Nat) (hg : ∀ x ∈ xs, GoodF .f32 x) (hl : xs.length ≤ maxLen) (t : Nat) (gt : GoodF .f32 t) (a : Int) (ha : GoodI .i64 a) : ∃ n, f11_l_FnExactClippedRuns n xs.length (fls .f32 xs) t a = some true := by
  refine ⟨xs.length + 600, ?_⟩
  rw [f11_l_FnExactClippedRuns]
  cases h : decide (((xs.length : Nat) : Int) > (1048576 : Int))
  · have hx : xs.length ≤ 1048576 := by simp at h; omega
    obtain ⟨ys, c, hy, h2, e1, e2⟩ := both (xs.length + 595) (xs.length + 596) xs hg t a (by omega) (by omega) hx
    have hyl : ys.length ≤ 1048577 := by omega
    have hz2 : ∀ z ∈ ys, z.length ≤ xs.length + 590 ∧ z.length ≤ 1048576 := fun z hz => by have := h2 z hz; omega
    have hsz := size_two ys h2
    rcases Nat.lt_or_ge ys.length 1048577 with hy' | hy'
    case inr =>
      exfalso
      have h256 : 256 < xs.length := by omega
      rw [f49_s_ClippedRuns, s_few, decide_eq_false (show ¬ ((xs.length : Int) ≤ 256) by omega)] at e1
      have e1 : some (0, [], false) = some (ys.length, ys.map rwI, c) := e1
      simp only [Option.some.injEq, Prod.mk.injEq] at e1
      omega
    simp only [br, copied (xs.length + 598) xs hx (by omega), bd, e1, e2, beq_self_eq_true, Bool.not_true, eq_self (xs.length + 597) xs (by omega) (by omega), eqr_self (xs.length + 596) ys (by omega) (fun z hz => by have := h2 z hz; omega) (by omega),
      mark32 (xs.length + 598) xs (by omega) 1 (by omega) (by omega) (by omega), markr (xs.length + 596) ys 1 (by omega) (by omega) (by omega) (fun z hz => by have := h2 z hz; omega) (by omega), heldr (xs.length + 596) ys 1 (by omega) (by omega) (by omega) (fun z hz => by have := h2 z hz; omega) (by omega),
      bne_self_eq_false, decide_eq_false (show ¬ ((1 : Int) + (xs.length : Int) < 0) by omega), decide_eq_false (show ¬ ((1 : Int) + ((sizeR ys : Nat) : Int) < 0) by omega)]
  · rfl
theorem law11 : ∀ args, LawArgs E Try.f11.params.toList args → ∃ N os, evalFn E N 11 args = some ⟨[⟨false, [.leaf], [.bool true]⟩], os⟩ := by
  intro args h0
  have hp : Try.f11.params.toList = [33, 24, 2] := by kernel_rfl
  rw [hp] at h0
  obtain ⟨ts0, r0, rfl, hw0, h1⟩ := h0.cons_inv (d := ⟨false, 1, 24, [.sl .own [.leaf]], [.lst 0 []], .slc 24⟩) (by kernel_rfl)
  obtain ⟨n0, cs0, rfl, gl0, hs0⟩ := hw0.slc_inv (e := 24) (d := ⟨false, 1, 24, [.sl .own [.leaf]], [.lst 0 []], .slc 24⟩) (by kernel_rfl) rfl
  obtain ⟨a0, rfl, rfl, g0⟩ := hs0.flts (k := .f32) (d := ⟨false, 1, 4, [.leaf], [.flt .f32 0], .flt .f32⟩) (by kernel_rfl) rfl
  obtain ⟨ts1, r1, rfl, hw1, h2⟩ := h1.cons_inv (d := ⟨false, 1, 4, [.leaf], [.flt .f32 0], .flt .f32⟩) (by kernel_rfl)
  obtain ⟨a1, rfl, g1⟩ := hw1.flt_inv (k := .f32) (d := ⟨false, 1, 4, [.leaf], [.flt .f32 0], .flt .f32⟩) (by kernel_rfl) rfl
  obtain ⟨ts2, r2, rfl, hw2, h3⟩ := h2.cons_inv (d := ⟨false, 1, 8, [.leaf], [.int .i64 0], .int .i64⟩) (by kernel_rfl)
  obtain ⟨a2, rfl, g2⟩ := hw2.int_inv (k := .i64) (d := ⟨false, 1, 8, [.leaf], [.int .i64 0], .int .i64⟩) (by kernel_rfl) rfl
  obtain rfl := h3.nil_inv
  obtain ⟨N, hN⟩ := exact_ a0 g0 gl0 a1 g1 a2 g2
  exact ⟨N, _, f11_l_FnExactClippedRuns.ok N (a0.length, fls .f32 a0, a1, a2) true hN⟩


end Go.Proofs.Ythgenpcoelihiaa.D
end
section
/- FnExactClippedRuns holds: for every input the law returns true, and its arguments read as before. -/
namespace Go.Proofs.Ythgenpcoelihiaa.fnExactClippedRuns
open Go Go.ChangeShapes Go.WideShapes Go.ChangeAt Go.RowKit Go.Desk
set_option linter.unusedVariables false
theorem own : ownKnob Try.prog.godebug = none := by kernel_rfl
theorem laidOut : laidOutB Try.prog = true := by kernel_rfl
set_option maxRecDepth 100000 in
theorem lifted (os : Os) (started : os.Started) (H : Type) (enc : TypeId × Value → H) :
    ReturnsInHanded {} Try.checked os 11 .any (Rows.fnExactClippedRunsSpec.pre6 enc Try.prog Try.f11 Rows.fnExactClippedRunsRow.domain false) (Rows.fnExactClippedRunsSpec.post enc Try.prog Try.f11 false true false false) := by
  refine returnsInHanded_of_change (C := Try.checked) own started (by kernel_rfl) Try.func11
    (ChangeSpec.witness6 (enc := enc) (C := Try.checked) false ⟨#[], #[.slice none 0 0, .float .f32 0, .int .i64 0], []⟩ 8 (by kernel_rfl) (by kernel_rfl) (by kernel_rfl) (by kernel_rfl)) ?_
  intro W base args ds gs before hval hW hcnd _
  exact law_contract (c := D.c11) Try.checked.mixed D.tysOk D.fnOk Try.func11 (by kernel_rfl) (by kernel_rfl) (by kernel_rfl) Try.underlying4 rfl
    (fun ds h => by
      rw [show Try.f11.params.toList.length = 3 by kernel_rfl] at h
      match ds, h with
      | [_, _, _], _ => rfl)
    laidOut (N := 8) (by kernel_rfl) (by kernel_rfl) D.law11 hval hW
theorem over : Rows.fnExactClippedRunsRow.holds Try.pinned (OpenSpec.ofChange Rows.fnExactClippedRunsSpec) :=
  OpenClaim.holds_of_wide 11 Try.f11 rfl rfl rfl rfl rfl rfl rfl ⟨rfl, rfl, rfl, rfl, rfl⟩ rfl rfl rfl rfl rfl (by kernel_rfl) Try.func11 (by kernel_rfl)
    (of_decide_eq_true (by kernel_rfl)) (by unfold Func.isWrapper; first | (rw [if_pos (by decide +kernel)]; kernel_rfl) | (rw [if_neg (by decide +kernel)]; exact ⟨rfl, rfl⟩))
    (fun os started H enc _ => lifted os started H enc)
theorem proved : Rows.FnExactClippedRunsSaid := over
#print axioms proved
end Go.Proofs.Ythgenpcoelihiaa.fnExactClippedRuns
namespace Go.Proofs.Ythgenpcoelihiaa
/-- The row, under a short name, for the claim. -/
theorem fnExactClippedRuns_holds : Rows.FnExactClippedRunsSaid := fnExactClippedRuns.proved
end Go.Proofs.Ythgenpcoelihiaa
end
