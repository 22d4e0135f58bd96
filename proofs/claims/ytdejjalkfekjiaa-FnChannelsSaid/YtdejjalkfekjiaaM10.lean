/- FnChannels holds: for every input the law returns true, and its arguments read as before. -/
import Derived.Test.YtdejjalkfekjiaaChecked
import Derived.Test.YtdejjalkfekjiaaDeskE
import Derived.KernelRfl
import Derived.Test.YtdejjalkfekjiaaRows
import Derived.WalkKit
import Derived.ProofKit
import Derived.OpenShut
import Derived.ShutString
import Derived.ChangeOld
import Derived.Below
import Derived.SizedLaws
set_option linter.all false
section
/- What math.Abs owes: tables of its own, and the reading of its code. -/
namespace Go.Proofs.Ytdejjalkfekjiaa.DA
open Go Go.Desk
def bodyOf (f : Func) : Code := match f.body with
  | some c => c
  | none => .skip
def tyTab : List (Nat × TD) := [
  (39, ⟨false, 1, 8, [.leaf], [.flt .f64 0], .flt .f64⟩),
  (151, ⟨false, 1, 8, [.leaf], [.int .u64 0], .int .u64⟩)]
noncomputable def c139 : Code := bodyOf Try.f139
noncomputable def fnTab : List (Nat × FD) := [
  (139, .code c139 [.val] [] [(2, none)] [(0, [0]), (1, [0])]),
  (141, .ext (pF64frombits)),
  (146, .ext (pF64bits))]
noncomputable def E : Env := ⟨fun t => lookT tyTab t, lookF fnTab⟩
noncomputable def fdAt (n : Nat) : FD := match lookF fnTab n with
  | some d => d
  | none => .ext fun _ => none
noncomputable def keepAt (n : Nat) : List (Nat × List Nat) := match lookF fnTab n with
  | some d => d.keep
  | none => []
theorem tysOk : TysOk Try.prog E := tysOk_of (l := tyTab) (fun _ => rfl) (by kernel_rfl)
theorem ft139 : FnTab Try.prog E 139 (fdAt 139) := fnTab_code (c := c139) (modes := (fdAt 139).ms) (outs := (fdAt 139).os) (results := (fdAt 139).rs) (keep := (fdAt 139).keep) Try.func139 (by kernel_rfl) (by kernel_rfl) (by kernel_rfl)
theorem ft141 : FnTab Try.prog E 141 (.ext (pF64frombits)) := ext_pF64frombits Try.func141 (by kernel_rfl) (by kernel_rfl) (by kernel_rfl) (by kernel_rfl)
theorem ft146 : FnTab Try.prog E 146 (.ext (pF64bits)) := ext_pF64bits Try.func146 (by kernel_rfl) (by kernel_rfl) (by kernel_rfl) (by kernel_rfl)
theorem allFns : AllFns Try.prog E fnTab := .cons ft139 (.cons ft141 (.cons ft146 (.nil)))
theorem fnOk : ∀ f fd, E.fn f = some fd → FnTab Try.prog E f fd := fnTab_of (l := fnTab) (fun _ => rfl) allFns
end Go.Proofs.Ytdejjalkfekjiaa.DA
section
namespace Go.Proofs.Ytdejjalkfekjiaa.DA
open Go Go.Desk
set_option linter.unusedVariables false
noncomputable def x141.w : FnW E := xF64frombits.w 141 (by kernel_rfl)

noncomputable def x146.w : FnW E := xF64bits.w 146 (by kernel_rfl)

def f139_mathAbs : Nat → Nat → Option (Nat)
  | 0, _ => none
  | n + 1, x1 =>
    bd (xF64bits n x1) fun r2 =>
    let i3 : Int := r2
    bd (xF64frombits n (intBits BinOp.andNot IntKind.u64 i3 (9223372036854775808 : Int))) fun r4 =>
    let x5 : Nat := r4
    some x5
def sg_f : Sig (Nat) where
  pk := fun v => [.flt v]
  up := fun ls => match ls with
    | [.flt a0] => some a0
    | _ => none
  ok := by
    intro ls v h
    split at h
    · cases h; rfl
    · cases h

def f139_mathAbs.P : List Arg := [⟨.val, ⟨false, [.leaf], [.flt .f64 0]⟩⟩]
def f139_mathAbs.A : RAlt (Nat) := .one ⟨[⟨false, [.leaf], [.flt .f64 0]⟩], [none]⟩ sg_f
def f139_mathAbs.F (n : Nat) (v : Nat) := f139_mathAbs n v
noncomputable def f139_mathAbs.O (n : Nat) : Orc := orcOf (E := E) [x141.w, x146.w] [] n
theorem f139_mathAbs.ok : ∀ n v x, f139_mathAbs.F n v = some x → evalFn E n 139 (flAs f139_mathAbs.P (sg_f.pk v)) = some (f139_mathAbs.A.enc x) :=
  fn_pure (modes := (fdAt 139).ms) (outs := (fdAt 139).os) (results := (fdAt 139).rs) f139_mathAbs.O (c := c139) (keep := keepAt 139) (by kernel_rfl) (fun n => orcOf_cf _ _ n) (fun n => lpOk_of (bs := []) (by kernel_rfl) .nil) (fun _ => rfl) (fun _ _ => by kernel_rfl)
noncomputable def f139_mathAbs.w : FnW E := fnW 139 f139_mathAbs.P sg_f f139_mathAbs.A f139_mathAbs.F f139_mathAbs.ok
end Go.Proofs.Ytdejjalkfekjiaa.DA
end
namespace Go.Proofs.Ytdejjalkfekjiaa.DA
open Go Go.Desk
theorem absOk : ExtOk Try.prog 139 pAbs := ext_pAbs_of Try.checked.mixed tysOk fnOk
  (fun x hN hx => ⟨3, f139_mathAbs.ok 3 x _ (abs_plain 1 hN)⟩)
  ⟨5, by kernel_rfl⟩
end Go.Proofs.Ytdejjalkfekjiaa.DA
end
section
/- The tables of the reading: types and functions of the translation, with what is kept at each region's beginning (written by a program of this workplace). -/
namespace Go.Proofs.Ytdejjalkfekjiaa.D
open Go Go.Desk
def bodyOf (f : Func) : Code := match f.body with
  | some c => c
  | none => .skip
def tyTab : List (Nat × TD) := [
  (2, ⟨false, 1, 8, [.leaf], [.int .i64 0], .int .i64⟩),
  (3, ⟨false, 1, 8, [.leaf], [.int .i64 0], .int .i64⟩),
  (4, ⟨false, 1, 1, [.leaf], [.bool false], .bool⟩),
  (5, ⟨false, 1, 1, [.leaf], [.int .u8 0], .int .u8⟩),
  (22, ⟨false, 1, 24, [.sl .own [.leaf]], [.lst 0 []], .slc 5⟩),
  (27, ⟨false, 1, 24, [.sl .own [.leaf]], [.lst 0 []], .slc 33⟩),
  (33, ⟨false, 1, 4, [.leaf], [.flt .f32 0], .flt .f32⟩),
  (39, ⟨false, 1, 8, [.leaf], [.flt .f64 0], .flt .f64⟩),
  (63, ⟨false, 1, 8, [.leaf], [.int .u64 0], .int .u64⟩),
  (108, ⟨false, 1, 8, [.leaf], [.nil], .ptr 153⟩),
  (127, ⟨false, 1, 4, [.leaf], [.int .u32 0], .int .u32⟩),
  (151, ⟨false, 1, 8, [.leaf], [.int .u64 0], .int .u64⟩),
  (153, ⟨true, 3, 40, [.sl .own [.leaf], .leaf, .leaf], [.lst 0 [], .int .i64 0, .int .u64 0], .st [(0, 22), (1, 3), (2, 151)]⟩)]
noncomputable def c10 : Code := bodyOf Try.f10
noncomputable def c27 : Code := bodyOf Try.f27
noncomputable def c28 : Code := bodyOf Try.f28
noncomputable def c33 : Code := bodyOf Try.f33
noncomputable def c44 : Code := bodyOf Try.f44
noncomputable def c54 : Code := bodyOf Try.f54
noncomputable def c55 : Code := bodyOf Try.f55
noncomputable def c56 : Code := bodyOf Try.f56
noncomputable def c75 : Code := bodyOf Try.f75
noncomputable def c76 : Code := bodyOf Try.f76
noncomputable def c77 : Code := bodyOf Try.f77
noncomputable def c94 : Code := bodyOf Try.f94
noncomputable def c96 : Code := bodyOf Try.f96
noncomputable def c108 : Code := bodyOf Try.f108
noncomputable def c114 : Code := bodyOf Try.f114
noncomputable def c115 : Code := bodyOf Try.f115
noncomputable def c116 : Code := bodyOf Try.f116
noncomputable def c127 : Code := bodyOf Try.f127
noncomputable def c128 : Code := bodyOf Try.f128
noncomputable def c129 : Code := bodyOf Try.f129
noncomputable def c134 : Code := bodyOf Try.f134
noncomputable def fnTab : List (Nat × FD) := [
  (10, .code c10 [.val, .val] [] [(4, none)] [(0, [0, 1]), (1, [0, 1]), (2, []), (3, [0, 1]), (4, [0, 1, 5]), (5, [1, 5, 6]), (6, [6, 7]), (7, [6, 7, 8, 9]), (8, [6, 7, 8, 9, 10, 11]), (9, [6, 7, 8, 9, 10, 11, 12, 13]), (10, [6, 7, 8, 9, 10, 11, 12, 13, 14, 15]), (11, [6, 8, 9, 10, 11, 12, 13, 14, 15, 16, 17]), (12, [6, 8, 9, 10, 11, 12, 13, 14, 15, 16, 17, 18, 19]), (13, [8, 9, 10, 11, 12, 13, 14, 15, 16, 17, 18, 19, 20, 21]), (14, []), (15, [12, 20])]),
  (27, .code c27 [.val, .val] [] [(4, none)] [(0, [0, 1]), (1, [0, 1])]),
  (28, .code c28 [.val, .val, .val] [] [(6, none)] [(0, [0, 1, 2]), (1, [0, 1, 2]), (2, []), (3, [0, 1, 2])]),
  (33, .code c33 [.val, .val] [] [(4, none)] [(0, [0, 1]), (1, [0, 1]), (2, [0, 1]), (3, [0, 1])]),
  (44, .code c44 [.val, .val] [] [(4, none)] [(0, [0, 1]), (1, [0, 1]), (2, [1, 5]), (3, [1, 5, 6]), (4, [1, 5, 6, 7]), (5, [1, 5, 6, 7]), (6, [1, 5, 6, 7]), (7, [6]), (1000004, [6])]),
  (54, .code c54 [.val, .val] [] [(4, none), (5, none)] [(0, [0, 1]), (1, [0, 1]), (2, []), (3, [0, 1])]),
  (55, .code c55 [.val, .val] [] [(4, none), (5, none)] [(0, [0, 1]), (1, [0, 1]), (2, []), (3, [0, 1]), (4, [1, 6]), (5, [6, 8]), (6, []), (7, [6, 8])]),
  (56, .code c56 [.val] [] [(2, none), (3, none)] [(0, [0]), (1, [0]), (2, []), (3, [0])]),
  (75, .code c75 [.val] [] [(2, none)] [(0, [0]), (1, [0])]),
  (76, .code c76 [.iop, .val] [0] [(4, none)] [(0, [0, 1]), (1, [0, 1]), (2, [0]), (3, [0, 1]), (4, [0, 1, 5]), (5, [0, 1, 5]), (6, [0, 1, 5])]),
  (77, .code c77 [.iop] [0] [(2, none)] [(0, [0]), (1, [0]), (2, [0, 3]), (3, [0, 3]), (4, [0, 3])]),
  (94, .code c94 [.val] [] [(2, none)] [(0, [0]), (1, [0])]),
  (96, .code c96 [.val] [] [(2, none)] [(0, [0]), (1, [0]), (2, [0, 3]), (3, [0, 3, 7, 8, 9]), (4, [0, 3, 7, 8, 9]), (5, [0, 3, 5, 7, 8, 9]), (6, [0, 3, 6, 7, 8, 9]), (7, [0, 6, 7, 8, 9]), (8, [0, 3, 7, 8, 9]), (9, [3]), (1000003, [3])]),
  (98, .ext (pF32bits)),
  (108, .code c108 [.val, .val] [] [(4, none)] [(0, [0, 1]), (1, [0, 1]), (2, [0, 1, 5]), (3, [0, 1, 5, 8, 9]), (4, [0, 1, 5, 8, 9]), (5, [0, 1, 5, 6, 8, 9]), (6, [0, 1, 5, 8, 9]), (7, [5]), (1000003, [5])]),
  (114, .code c114 [.val, .val] [] [(4, none)] [(0, [0, 1]), (1, [0, 1])]),
  (115, .code c115 [.val] [] [(2, none)] [(0, [0]), (1, [0])]),
  (116, .code c116 [.val] [] [(2, none), (3, none)] [(0, [0]), (1, [0]), (2, []), (3, [0])]),
  (127, .code c127 [.val] [] [(2, none)] [(0, [0]), (1, [0])]),
  (128, .code c128 [.iop] [0] [(2, none)] [(0, [0]), (1, [0]), (2, [0, 3]), (3, [0]), (4, [0, 3]), (5, [0, 3]), (6, [0, 3]), (7, [0, 3]), (8, [0])]),
  (129, .code c129 [.iop, .val] [0] [(4, none)] [(0, [0, 1]), (1, [0, 1])]),
  (134, .code c134 [.val] [] [(2, none)] [(0, [0]), (1, [0])]),
  (139, .ext (pAbs)),
  (142, .ext (pSqrt))]
noncomputable def E : Env := ⟨fun t => lookT tyTab t, lookF fnTab⟩
noncomputable def fdAt (n : Nat) : FD := match lookF fnTab n with
  | some d => d
  | none => .ext fun _ => none
noncomputable def keepAt (n : Nat) : List (Nat × List Nat) := match lookF fnTab n with
  | some d => d.keep
  | none => []
theorem tysOk : TysOk Try.prog E := tysOk_of (l := tyTab) (fun _ => rfl) (by kernel_rfl)
theorem ft10 : FnTab Try.prog E 10 (fdAt 10) := fnTab_code (c := c10) (modes := (fdAt 10).ms) (outs := (fdAt 10).os) (results := (fdAt 10).rs) (keep := (fdAt 10).keep) Try.func10 (by kernel_rfl) (by kernel_rfl) (by kernel_rfl)
theorem ft27 : FnTab Try.prog E 27 (fdAt 27) := fnTab_code (c := c27) (modes := (fdAt 27).ms) (outs := (fdAt 27).os) (results := (fdAt 27).rs) (keep := (fdAt 27).keep) Try.func27 (by kernel_rfl) (by kernel_rfl) (by kernel_rfl)
theorem ft28 : FnTab Try.prog E 28 (fdAt 28) := fnTab_code (c := c28) (modes := (fdAt 28).ms) (outs := (fdAt 28).os) (results := (fdAt 28).rs) (keep := (fdAt 28).keep) Try.func28 (by kernel_rfl) (by kernel_rfl) (by kernel_rfl)
theorem ft33 : FnTab Try.prog E 33 (fdAt 33) := fnTab_code (c := c33) (modes := (fdAt 33).ms) (outs := (fdAt 33).os) (results := (fdAt 33).rs) (keep := (fdAt 33).keep) Try.func33 (by kernel_rfl) (by kernel_rfl) (by kernel_rfl)
theorem ft44 : FnTab Try.prog E 44 (fdAt 44) := fnTab_code (c := c44) (modes := (fdAt 44).ms) (outs := (fdAt 44).os) (results := (fdAt 44).rs) (keep := (fdAt 44).keep) Try.func44 (by kernel_rfl) (by kernel_rfl) (by kernel_rfl)
theorem ft54 : FnTab Try.prog E 54 (fdAt 54) := fnTab_code (c := c54) (modes := (fdAt 54).ms) (outs := (fdAt 54).os) (results := (fdAt 54).rs) (keep := (fdAt 54).keep) Try.func54 (by kernel_rfl) (by kernel_rfl) (by kernel_rfl)
theorem ft55 : FnTab Try.prog E 55 (fdAt 55) := fnTab_code (c := c55) (modes := (fdAt 55).ms) (outs := (fdAt 55).os) (results := (fdAt 55).rs) (keep := (fdAt 55).keep) Try.func55 (by kernel_rfl) (by kernel_rfl) (by kernel_rfl)
theorem ft56 : FnTab Try.prog E 56 (fdAt 56) := fnTab_code (c := c56) (modes := (fdAt 56).ms) (outs := (fdAt 56).os) (results := (fdAt 56).rs) (keep := (fdAt 56).keep) Try.func56 (by kernel_rfl) (by kernel_rfl) (by kernel_rfl)
theorem ft75 : FnTab Try.prog E 75 (fdAt 75) := fnTab_code (c := c75) (modes := (fdAt 75).ms) (outs := (fdAt 75).os) (results := (fdAt 75).rs) (keep := (fdAt 75).keep) Try.func75 (by kernel_rfl) (by kernel_rfl) (by kernel_rfl)
theorem ft76 : FnTab Try.prog E 76 (fdAt 76) := fnTab_code (c := c76) (modes := (fdAt 76).ms) (outs := (fdAt 76).os) (results := (fdAt 76).rs) (keep := (fdAt 76).keep) Try.func76 (by kernel_rfl) (by kernel_rfl) (by kernel_rfl)
theorem ft77 : FnTab Try.prog E 77 (fdAt 77) := fnTab_code (c := c77) (modes := (fdAt 77).ms) (outs := (fdAt 77).os) (results := (fdAt 77).rs) (keep := (fdAt 77).keep) Try.func77 (by kernel_rfl) (by kernel_rfl) (by kernel_rfl)
theorem ft94 : FnTab Try.prog E 94 (fdAt 94) := fnTab_code (c := c94) (modes := (fdAt 94).ms) (outs := (fdAt 94).os) (results := (fdAt 94).rs) (keep := (fdAt 94).keep) Try.func94 (by kernel_rfl) (by kernel_rfl) (by kernel_rfl)
theorem ft96 : FnTab Try.prog E 96 (fdAt 96) := fnTab_code (c := c96) (modes := (fdAt 96).ms) (outs := (fdAt 96).os) (results := (fdAt 96).rs) (keep := (fdAt 96).keep) Try.func96 (by kernel_rfl) (by kernel_rfl) (by kernel_rfl)
theorem ft98 : FnTab Try.prog E 98 (.ext (pF32bits)) := ext_pF32bits Try.func98 (by kernel_rfl) (by kernel_rfl) (by kernel_rfl) (by kernel_rfl)
theorem ft108 : FnTab Try.prog E 108 (fdAt 108) := fnTab_code (c := c108) (modes := (fdAt 108).ms) (outs := (fdAt 108).os) (results := (fdAt 108).rs) (keep := (fdAt 108).keep) Try.func108 (by kernel_rfl) (by kernel_rfl) (by kernel_rfl)
theorem ft114 : FnTab Try.prog E 114 (fdAt 114) := fnTab_code (c := c114) (modes := (fdAt 114).ms) (outs := (fdAt 114).os) (results := (fdAt 114).rs) (keep := (fdAt 114).keep) Try.func114 (by kernel_rfl) (by kernel_rfl) (by kernel_rfl)
theorem ft115 : FnTab Try.prog E 115 (fdAt 115) := fnTab_code (c := c115) (modes := (fdAt 115).ms) (outs := (fdAt 115).os) (results := (fdAt 115).rs) (keep := (fdAt 115).keep) Try.func115 (by kernel_rfl) (by kernel_rfl) (by kernel_rfl)
theorem ft116 : FnTab Try.prog E 116 (fdAt 116) := fnTab_code (c := c116) (modes := (fdAt 116).ms) (outs := (fdAt 116).os) (results := (fdAt 116).rs) (keep := (fdAt 116).keep) Try.func116 (by kernel_rfl) (by kernel_rfl) (by kernel_rfl)
theorem ft127 : FnTab Try.prog E 127 (fdAt 127) := fnTab_code (c := c127) (modes := (fdAt 127).ms) (outs := (fdAt 127).os) (results := (fdAt 127).rs) (keep := (fdAt 127).keep) Try.func127 (by kernel_rfl) (by kernel_rfl) (by kernel_rfl)
theorem ft128 : FnTab Try.prog E 128 (fdAt 128) := fnTab_code (c := c128) (modes := (fdAt 128).ms) (outs := (fdAt 128).os) (results := (fdAt 128).rs) (keep := (fdAt 128).keep) Try.func128 (by kernel_rfl) (by kernel_rfl) (by kernel_rfl)
theorem ft129 : FnTab Try.prog E 129 (fdAt 129) := fnTab_code (c := c129) (modes := (fdAt 129).ms) (outs := (fdAt 129).os) (results := (fdAt 129).rs) (keep := (fdAt 129).keep) Try.func129 (by kernel_rfl) (by kernel_rfl) (by kernel_rfl)
theorem ft134 : FnTab Try.prog E 134 (fdAt 134) := fnTab_code (c := c134) (modes := (fdAt 134).ms) (outs := (fdAt 134).os) (results := (fdAt 134).rs) (keep := (fdAt 134).keep) Try.func134 (by kernel_rfl) (by kernel_rfl) (by kernel_rfl)
theorem ft139 : FnTab Try.prog E 139 (.ext (pAbs)) := DA.absOk
theorem ft142 : FnTab Try.prog E 142 (.ext (pSqrt)) := ext_pSqrt Try.func142 (by kernel_rfl) (by kernel_rfl) (by kernel_rfl) (by kernel_rfl)
theorem allFns : AllFns Try.prog E fnTab := .cons ft10 (.cons ft27 (.cons ft28 (.cons ft33 (.cons ft44 (.cons ft54 (.cons ft55 (.cons ft56 (.cons ft75 (.cons ft76 (.cons ft77 (.cons ft94 (.cons ft96 (.cons ft98 (.cons ft108 (.cons ft114 (.cons ft115 (.cons ft116 (.cons ft127 (.cons ft128 (.cons ft129 (.cons ft134 (.cons ft139 (.cons ft142 (.nil))))))))))))))))))))))))
theorem fnOk : ∀ f fd, E.fn f = some fd → FnTab Try.prog E f fd := fnTab_of (l := fnTab) (fun _ => rfl) allFns
end Go.Proofs.Ytdejjalkfekjiaa.D
end
section
/- Plain functions for the law's Go functions, each tied to the reading by the kernel (printed by a program of this workplace). -/
namespace Go.Proofs.Ytdejjalkfekjiaa.D
open Go Go.Desk
set_option linter.unusedVariables false
noncomputable def x98.w : FnW E := xF32bits.w 98 (by kernel_rfl)

noncomputable def x142.w : FnW E := xSqrt.w 142 (by kernel_rfl)

noncomputable def x139.w : FnW E := xAbs.w 139 (by kernel_rfl)

def f27_l_r8Long : Nat → Nat → List T → Nat → List T → Option (Bool)
  | 0, _, _, _, _ => none
  | n + 1, n1, l2, n3, l4 =>
    br (decide (((n1 : Nat) : Int) > (48 : Int))) (
     some true) (
     some (decide (((n3 : Nat) : Int) > (48 : Int))))
def sg_ll : Sig (Nat × List T × Nat × List T) where
  pk := fun v => [.lst v.1 v.2.1, .lst v.2.2.1 v.2.2.2]
  up := fun ls => match ls with
    | [.lst a0 a1, .lst a2 a3] => some (a0, a1, a2, a3)
    | _ => none
  ok := by
    intro ls v h
    split at h
    · cases h; rfl
    · cases h

def sg_b : Sig (Bool) where
  pk := fun v => [.bool v]
  up := fun ls => match ls with
    | [.bool a0] => some a0
    | _ => none
  ok := by
    intro ls v h
    split at h
    · cases h; rfl
    · cases h

def f27_l_r8Long.P : List Arg := [⟨.val, ⟨false, [.sl .shr [.leaf]], [.lst 0 []]⟩⟩, ⟨.val, ⟨false, [.sl .shr [.leaf]], [.lst 0 []]⟩⟩]
def f27_l_r8Long.A : RAlt (Bool) := .one ⟨[⟨false, [.leaf], [.bool false]⟩], [none, none]⟩ sg_b
def f27_l_r8Long.F (n : Nat) (v : Nat × List T × Nat × List T) := f27_l_r8Long n v.1 v.2.1 v.2.2.1 v.2.2.2
noncomputable def f27_l_r8Long.O (n : Nat) : Orc := orcOf (E := E) [] [] n
theorem f27_l_r8Long.ok : ∀ n v x, f27_l_r8Long.F n v = some x → evalFn E n 27 (flAs f27_l_r8Long.P (sg_ll.pk v)) = some (f27_l_r8Long.A.enc x) :=
  fn_pure (modes := (fdAt 27).ms) (outs := (fdAt 27).os) (results := (fdAt 27).rs) f27_l_r8Long.O (c := c27) (keep := keepAt 27) (by kernel_rfl) (fun n => orcOf_cf _ _ n) (fun n => lpOk_of (bs := []) (by kernel_rfl) .nil) (fun _ => rfl) (fun _ _ => by kernel_rfl)
noncomputable def f27_l_r8Long.w : FnW E := fnW 27 f27_l_r8Long.P sg_ll f27_l_r8Long.A f27_l_r8Long.F f27_l_r8Long.ok

def f28_l_r8At : Nat → Nat → List T → Int → Int → Option (Int)
  | 0, _, _, _, _ => none
  | n + 1, n1, l2, i3, i4 =>
    br (decide (i4 ≤ (1 : Int))) (
     some (0 : Int)) (
     br (decide (i3 ≥ ((n1 : Nat) : Int))) (
      some (0 : Int)) (
      gd ((decide (((0 : Int) ≤ i3) ∧ (i3 < ((n1 : Nat) : Int)))) && (okAt [(CK.int IntKind.u8)] l2 (Int.toNat i3))) (
      gd (!(decide (i4 = (0 : Int)))) (
      some (Int.tmod (IntKind.i64.wrap (iAt l2 (Int.toNat i3))) i4)))))
def sg_lii : Sig (Nat × List T × Int × Int) where
  pk := fun v => [.lst v.1 v.2.1, .int v.2.2.1, .int v.2.2.2]
  up := fun ls => match ls with
    | [.lst a0 a1, .int a2, .int a3] => some (a0, a1, a2, a3)
    | _ => none
  ok := by
    intro ls v h
    split at h
    · cases h; rfl
    · cases h

def sg_i : Sig (Int) where
  pk := fun v => [.int v]
  up := fun ls => match ls with
    | [.int a0] => some a0
    | _ => none
  ok := by
    intro ls v h
    split at h
    · cases h; rfl
    · cases h

def f28_l_r8At.P : List Arg := [⟨.val, ⟨false, [.sl .shr [.leaf]], [.lst 0 []]⟩⟩, ⟨.val, ⟨false, [.leaf], [.int .i64 0]⟩⟩, ⟨.val, ⟨false, [.leaf], [.int .i64 0]⟩⟩]
def f28_l_r8At.A : RAlt (Int) := .one ⟨[⟨false, [.leaf], [.int .i64 0]⟩], [none, none, none]⟩ sg_i
def f28_l_r8At.F (n : Nat) (v : Nat × List T × Int × Int) := f28_l_r8At n v.1 v.2.1 v.2.2.1 v.2.2.2
noncomputable def f28_l_r8At.O (n : Nat) : Orc := orcOf (E := E) [] [] n
theorem f28_l_r8At.ok : ∀ n v x, f28_l_r8At.F n v = some x → evalFn E n 28 (flAs f28_l_r8At.P (sg_lii.pk v)) = some (f28_l_r8At.A.enc x) :=
  fn_pure (modes := (fdAt 28).ms) (outs := (fdAt 28).os) (results := (fdAt 28).rs) f28_l_r8At.O (c := c28) (keep := keepAt 28) (by kernel_rfl) (fun n => orcOf_cf _ _ n) (fun n => lpOk_of (bs := []) (by kernel_rfl) .nil) (fun _ => rfl) (fun _ _ => by kernel_rfl)
noncomputable def f28_l_r8At.w : FnW E := fnW 28 f28_l_r8At.P sg_lii f28_l_r8At.A f28_l_r8At.F f28_l_r8At.ok

def f75_s_l00From : Nat → Nat → List T → Option (Nat × List T × Int × Int)
  | 0, _, _ => none
  | n + 1, n1, l2 =>
    some (n1, l2, (0 : Int), (0 : Int))
def sg_l : Sig (Nat × List T) where
  pk := fun v => [.lst v.1 v.2]
  up := fun ls => match ls with
    | [.lst a0 a1] => some (a0, a1)
    | _ => none
  ok := by
    intro ls v h
    split at h
    · cases h; rfl
    · cases h

def f75_s_l00From.P : List Arg := [⟨.val, ⟨false, [.sl .shr [.leaf]], [.lst 0 []]⟩⟩]
def f75_s_l00From.A : RAlt (Nat × List T × Int × Int) := .one ⟨[⟨false, [.rf .own [.sl .shr [.leaf], .leaf, .leaf]], [.ref [.lst 0 [], .int .i64 0, .int .u64 0]]⟩], [none]⟩ sg_lii
def f75_s_l00From.F (n : Nat) (v : Nat × List T) := f75_s_l00From n v.1 v.2
noncomputable def f75_s_l00From.O (n : Nat) : Orc := orcOf (E := E) [] [] n
theorem f75_s_l00From.ok : ∀ n v x, f75_s_l00From.F n v = some x → evalFn E n 75 (flAs f75_s_l00From.P (sg_l.pk v)) = some (f75_s_l00From.A.enc x) :=
  fn_pure (modes := (fdAt 75).ms) (outs := (fdAt 75).os) (results := (fdAt 75).rs) f75_s_l00From.O (c := c75) (keep := keepAt 75) (by kernel_rfl) (fun n => orcOf_cf _ _ n) (fun n => lpOk_of (bs := []) (by kernel_rfl) .nil) (fun _ => rfl) (fun _ _ => by kernel_rfl)
noncomputable def f75_s_l00From.w : FnW E := fnW 75 f75_s_l00From.P sg_l f75_s_l00From.A f75_s_l00From.F f75_s_l00From.ok

def f128_s_l00Srcnext : Nat → Nat → List T → Int → Int → Option (Int × Nat × List T × Int × Int)
  | 0, _, _, _, _ => none
  | n + 1, n1, l2, i3, i4 =>
    br (decide (i3 < ((n1 : Nat) : Int))) (
     gd ((decide (((0 : Int) ≤ i3) ∧ (i3 < ((n1 : Nat) : Int)))) && (okAt [(CK.int IntKind.u8)] l2 (Int.toNat i3))) (
     let i5 : Int := (IntKind.i64.wrap (iAt l2 (Int.toNat i3)))
     let i6 : Int := (IntKind.i64.wrap (i3 + (1 : Int)))
     let i7 : Int := (IntKind.u64.wrap ((IntKind.u64.wrap ((IntKind.u64.wrap (i4 * (6364136223846793005 : Int))) + (IntKind.u64.wrap i5))) + (1442695040888963407 : Int)))
     br (decide (i6 ≤ ((n1 : Nat) : Int))) (
      some (i5, n1, l2, i6, i7)) (
      some ((IntKind.i64.wrap (intBits BinOp.and IntKind.u64 (Int.fdiv i7 (1099511627776 : Int)) (255 : Int))), n1, l2, i6, i7)))) (
     let i8 : Int := (IntKind.i64.wrap (i3 + (1 : Int)))
     let i9 : Int := (IntKind.u64.wrap ((IntKind.u64.wrap ((IntKind.u64.wrap (i4 * (6364136223846793005 : Int))) + (0 : Int))) + (1442695040888963407 : Int)))
     br (decide (i8 ≤ ((n1 : Nat) : Int))) (
      some ((0 : Int), n1, l2, i8, i9)) (
      some ((IntKind.i64.wrap (intBits BinOp.and IntKind.u64 (Int.fdiv i9 (1099511627776 : Int)) (255 : Int))), n1, l2, i8, i9)))
def sg_ilii : Sig (Int × Nat × List T × Int × Int) where
  pk := fun v => [.int v.1, .lst v.2.1 v.2.2.1, .int v.2.2.2.1, .int v.2.2.2.2]
  up := fun ls => match ls with
    | [.int a0, .lst a1 a2, .int a3, .int a4] => some (a0, a1, a2, a3, a4)
    | _ => none
  ok := by
    intro ls v h
    split at h
    · cases h; rfl
    · cases h

def f128_s_l00Srcnext.P : List Arg := [⟨.iop, ⟨false, [.rf .own [.sl .shr [.leaf], .leaf, .leaf]], [.ref [.lst 0 [], .int .i64 0, .int .u64 0]]⟩⟩]
def f128_s_l00Srcnext.A : RAlt (Int × Nat × List T × Int × Int) := .one ⟨[⟨false, [.leaf], [.int .i64 0]⟩], [some ⟨false, [.rf .own [.sl .shr [.leaf], .leaf, .leaf]], [.ref [.lst 0 [], .int .i64 0, .int .u64 0]]⟩]⟩ sg_ilii
def f128_s_l00Srcnext.F (n : Nat) (v : Nat × List T × Int × Int) := f128_s_l00Srcnext n v.1 v.2.1 v.2.2.1 v.2.2.2
noncomputable def f128_s_l00Srcnext.O (n : Nat) : Orc := orcOf (E := E) [] [] n
theorem f128_s_l00Srcnext.ok : ∀ n v x, f128_s_l00Srcnext.F n v = some x → evalFn E n 128 (flAs f128_s_l00Srcnext.P (sg_lii.pk v)) = some (f128_s_l00Srcnext.A.enc x) :=
  fn_pure (modes := (fdAt 128).ms) (outs := (fdAt 128).os) (results := (fdAt 128).rs) f128_s_l00Srcnext.O (c := c128) (keep := keepAt 128) (by kernel_rfl) (fun n => orcOf_cf _ _ n) (fun n => lpOk_of (bs := []) (by kernel_rfl) .nil) (fun _ => rfl) (fun _ _ => by kernel_rfl)
noncomputable def f128_s_l00Srcnext.w : FnW E := fnW 128 f128_s_l00Srcnext.P sg_lii f128_s_l00Srcnext.A f128_s_l00Srcnext.F f128_s_l00Srcnext.ok

def f76_s_l00Srcpick : Nat → Nat → List T → Int → Int → Int → Option (Int × Nat × List T × Int × Int)
  | 0, _, _, _, _, _ => none
  | n + 1, n1, l2, i3, i4, i5 =>
    br (decide (i5 ≤ (1 : Int))) (
     some ((0 : Int), n1, l2, i3, i4)) (
     bd (f128_s_l00Srcnext n n1 l2 i3 i4) fun r6 =>
     let i7 : Int := r6.1
     let n8 : Nat := r6.2.1
     let l9 : List T := r6.2.2.1
     let i10 : Int := r6.2.2.2.1
     let i11 : Int := r6.2.2.2.2
     br (decide (i5 > (200 : Int))) (
      bd (f128_s_l00Srcnext n n8 l9 i10 i11) fun r12 =>
      let i13 : Int := r12.1
      let n14 : Nat := r12.2.1
      let l15 : List T := r12.2.2.1
      let i16 : Int := r12.2.2.2.1
      let i17 : Int := r12.2.2.2.2
      let i18 : Int := (IntKind.i64.wrap ((IntKind.i64.wrap (i7 * (256 : Int))) + i13))
      gd (!(decide (i5 = (0 : Int)))) (
      some ((Int.tmod i18 i5), n14, l15, i16, i17))) (
      gd (!(decide (i5 = (0 : Int)))) (
      some ((Int.tmod i7 i5), n8, l9, i10, i11))))
def sg_liii : Sig (Nat × List T × Int × Int × Int) where
  pk := fun v => [.lst v.1 v.2.1, .int v.2.2.1, .int v.2.2.2.1, .int v.2.2.2.2]
  up := fun ls => match ls with
    | [.lst a0 a1, .int a2, .int a3, .int a4] => some (a0, a1, a2, a3, a4)
    | _ => none
  ok := by
    intro ls v h
    split at h
    · cases h; rfl
    · cases h

def f76_s_l00Srcpick.P : List Arg := [⟨.iop, ⟨false, [.rf .own [.sl .shr [.leaf], .leaf, .leaf]], [.ref [.lst 0 [], .int .i64 0, .int .u64 0]]⟩⟩, ⟨.val, ⟨false, [.leaf], [.int .i64 0]⟩⟩]
def f76_s_l00Srcpick.A : RAlt (Int × Nat × List T × Int × Int) := .one ⟨[⟨false, [.leaf], [.int .i64 0]⟩], [some ⟨false, [.rf .own [.sl .shr [.leaf], .leaf, .leaf]], [.ref [.lst 0 [], .int .i64 0, .int .u64 0]]⟩, none]⟩ sg_ilii
def f76_s_l00Srcpick.F (n : Nat) (v : Nat × List T × Int × Int × Int) := f76_s_l00Srcpick n v.1 v.2.1 v.2.2.1 v.2.2.2.1 v.2.2.2.2
noncomputable def f76_s_l00Srcpick.O (n : Nat) : Orc := orcOf (E := E) [f128_s_l00Srcnext.w] [] n
theorem f76_s_l00Srcpick.ok : ∀ n v x, f76_s_l00Srcpick.F n v = some x → evalFn E n 76 (flAs f76_s_l00Srcpick.P (sg_liii.pk v)) = some (f76_s_l00Srcpick.A.enc x) :=
  fn_pure (modes := (fdAt 76).ms) (outs := (fdAt 76).os) (results := (fdAt 76).rs) f76_s_l00Srcpick.O (c := c76) (keep := keepAt 76) (by kernel_rfl) (fun n => orcOf_cf _ _ n) (fun n => lpOk_of (bs := []) (by kernel_rfl) .nil) (fun _ => rfl) (fun _ _ => by kernel_rfl)
noncomputable def f76_s_l00Srcpick.w : FnW E := fnW 76 f76_s_l00Srcpick.P sg_liii f76_s_l00Srcpick.A f76_s_l00Srcpick.F f76_s_l00Srcpick.ok

def f129_s_l00Srcone : Nat → Nat → List T → Int → Int → Int → Option (Bool × Nat × List T × Int × Int)
  | 0, _, _, _, _, _ => none
  | n + 1, n1, l2, i3, i4, i5 =>
    bd (f76_s_l00Srcpick n n1 l2 i3 i4 i5) fun r6 =>
    let i7 : Int := r6.1
    let n8 : Nat := r6.2.1
    let l9 : List T := r6.2.2.1
    let i10 : Int := r6.2.2.2.1
    let i11 : Int := r6.2.2.2.2
    some ((i7 == (0 : Int)), n8, l9, i10, i11)
def sg_blii : Sig (Bool × Nat × List T × Int × Int) where
  pk := fun v => [.bool v.1, .lst v.2.1 v.2.2.1, .int v.2.2.2.1, .int v.2.2.2.2]
  up := fun ls => match ls with
    | [.bool a0, .lst a1 a2, .int a3, .int a4] => some (a0, a1, a2, a3, a4)
    | _ => none
  ok := by
    intro ls v h
    split at h
    · cases h; rfl
    · cases h

def f129_s_l00Srcone.P : List Arg := [⟨.iop, ⟨false, [.rf .own [.sl .shr [.leaf], .leaf, .leaf]], [.ref [.lst 0 [], .int .i64 0, .int .u64 0]]⟩⟩, ⟨.val, ⟨false, [.leaf], [.int .i64 0]⟩⟩]
def f129_s_l00Srcone.A : RAlt (Bool × Nat × List T × Int × Int) := .one ⟨[⟨false, [.leaf], [.bool false]⟩], [some ⟨false, [.rf .own [.sl .shr [.leaf], .leaf, .leaf]], [.ref [.lst 0 [], .int .i64 0, .int .u64 0]]⟩, none]⟩ sg_blii
def f129_s_l00Srcone.F (n : Nat) (v : Nat × List T × Int × Int × Int) := f129_s_l00Srcone n v.1 v.2.1 v.2.2.1 v.2.2.2.1 v.2.2.2.2
noncomputable def f129_s_l00Srcone.O (n : Nat) : Orc := orcOf (E := E) [f76_s_l00Srcpick.w] [] n
theorem f129_s_l00Srcone.ok : ∀ n v x, f129_s_l00Srcone.F n v = some x → evalFn E n 129 (flAs f129_s_l00Srcone.P (sg_liii.pk v)) = some (f129_s_l00Srcone.A.enc x) :=
  fn_pure (modes := (fdAt 129).ms) (outs := (fdAt 129).os) (results := (fdAt 129).rs) f129_s_l00Srcone.O (c := c129) (keep := keepAt 129) (by kernel_rfl) (fun n => orcOf_cf _ _ n) (fun n => lpOk_of (bs := []) (by kernel_rfl) .nil) (fun _ => rfl) (fun _ _ => by kernel_rfl)
noncomputable def f129_s_l00Srcone.w : FnW E := fnW 129 f129_s_l00Srcone.P sg_liii f129_s_l00Srcone.A f129_s_l00Srcone.F f129_s_l00Srcone.ok

def f77_s_l01DrawPlain : Nat → Nat → List T → Int → Int → Option (Nat × Nat × List T × Int × Int)
  | 0, _, _, _, _ => none
  | n + 1, n1, l2, i3, i4 =>
    bd (f76_s_l00Srcpick n n1 l2 i3 i4 (129 : Int)) fun r5 =>
    let i6 : Int := r5.1
    let n7 : Nat := r5.2.1
    let l8 : List T := r5.2.2.1
    let i9 : Int := r5.2.2.2.1
    let i10 : Int := r5.2.2.2.2
    let i11 : Int := (IntKind.i64.wrap (i6 - (64 : Int)))
    bd (f129_s_l00Srcone n n7 l8 i9 i10 (4 : Int)) fun r12 =>
    let b13 : Bool := r12.1
    let n14 : Nat := r12.2.1
    let l15 : List T := r12.2.2.1
    let i16 : Int := r12.2.2.2.1
    let i17 : Int := r12.2.2.2.2
    br b13 (
     some ((fdiv FloatKind.f32 (FloatKind.nearest FloatKind.f32 i11) 1088421888), n14, l15, i16, i17)) (
     some ((fdiv FloatKind.f32 (FloatKind.nearest FloatKind.f32 i11) 1098907648), n14, l15, i16, i17))
def sg_flii : Sig (Nat × Nat × List T × Int × Int) where
  pk := fun v => [.flt v.1, .lst v.2.1 v.2.2.1, .int v.2.2.2.1, .int v.2.2.2.2]
  up := fun ls => match ls with
    | [.flt a0, .lst a1 a2, .int a3, .int a4] => some (a0, a1, a2, a3, a4)
    | _ => none
  ok := by
    intro ls v h
    split at h
    · cases h; rfl
    · cases h

def f77_s_l01DrawPlain.P : List Arg := [⟨.iop, ⟨false, [.rf .own [.sl .shr [.leaf], .leaf, .leaf]], [.ref [.lst 0 [], .int .i64 0, .int .u64 0]]⟩⟩]
def f77_s_l01DrawPlain.A : RAlt (Nat × Nat × List T × Int × Int) := .one ⟨[⟨false, [.leaf], [.flt .f32 0]⟩], [some ⟨false, [.rf .own [.sl .shr [.leaf], .leaf, .leaf]], [.ref [.lst 0 [], .int .i64 0, .int .u64 0]]⟩]⟩ sg_flii
def f77_s_l01DrawPlain.F (n : Nat) (v : Nat × List T × Int × Int) := f77_s_l01DrawPlain n v.1 v.2.1 v.2.2.1 v.2.2.2
noncomputable def f77_s_l01DrawPlain.O (n : Nat) : Orc := orcOf (E := E) [f76_s_l00Srcpick.w, f129_s_l00Srcone.w] [] n
theorem f77_s_l01DrawPlain.ok : ∀ n v x, f77_s_l01DrawPlain.F n v = some x → evalFn E n 77 (flAs f77_s_l01DrawPlain.P (sg_lii.pk v)) = some (f77_s_l01DrawPlain.A.enc x) :=
  fn_pure (modes := (fdAt 77).ms) (outs := (fdAt 77).os) (results := (fdAt 77).rs) f77_s_l01DrawPlain.O (c := c77) (keep := keepAt 77) (by kernel_rfl) (fun n => orcOf_cf _ _ n) (fun n => lpOk_of (bs := []) (by kernel_rfl) .nil) (fun _ => rfl) (fun _ _ => by kernel_rfl)
noncomputable def f77_s_l01DrawPlain.w : FnW E := fnW 77 f77_s_l01DrawPlain.P sg_lii f77_s_l01DrawPlain.A f77_s_l01DrawPlain.F f77_s_l01DrawPlain.ok

def f44_s_R8Plain.l0 (n : Nat) : Nat → Int → Nat → List T → Int → Int → Nat → List T → Int → Option (Nat × List T)
  | 0, _, _, _, _, _, _, _, _ => none
  | m + 1, i1, n2, l3, i4, i5, n6, l7, i8 =>
    br (decide (i8 < i1)) (
     bd (f77_s_l01DrawPlain n n2 l3 i4 i5) fun r9 =>
     let x10 : Nat := r9.1
     let n11 : Nat := r9.2.1
     let l12 : List T := r9.2.2.1
     let i13 : Int := r9.2.2.2.1
     let i14 : Int := r9.2.2.2.2
     gd (Nat.ble (n6 + 1) 2147483648) (
     let n15 : Nat := (n6 + 1)
     let l16 : List T := (l7 ++ (setN (reps 1 [(T.flt FloatKind.f32 0)]) 0 [(T.flt FloatKind.f32 x10)]))
     f44_s_R8Plain.l0 n m i1 n11 l12 i13 i14 n15 l16 (IntKind.i64.wrap (i8 + (1 : Int))))) (
     some (n6, l7))
def f44_s_R8Plain : Nat → Nat → List T → Int → Option (Nat × List T)
  | 0, _, _, _ => none
  | n + 1, n1, l2, i3 =>
    bd (f75_s_l00From n n1 l2) fun r4 =>
    let n5 : Nat := r4.1
    let l6 : List T := r4.2.1
    let i7 : Int := r4.2.2.1
    let i8 : Int := r4.2.2.2
    bd (f44_s_R8Plain.l0 n n i3 n5 l6 i7 i8 0 (reps 0 [(T.flt FloatKind.f32 0)]) (0 : Int)) fun r9 =>
    let n10 : Nat := r9.1
    let l11 : List T := r9.2
    some (n10, l11)
def sg_li : Sig (Nat × List T × Int) where
  pk := fun v => [.lst v.1 v.2.1, .int v.2.2]
  up := fun ls => match ls with
    | [.lst a0 a1, .int a2] => some (a0, a1, a2)
    | _ => none
  ok := by
    intro ls v h
    split at h
    · cases h; rfl
    · cases h

def sg_iliili : Sig (Int × Nat × List T × Int × Int × Nat × List T × Int) where
  pk := fun v => [.int v.1, .lst v.2.1 v.2.2.1, .int v.2.2.2.1, .int v.2.2.2.2.1, .lst v.2.2.2.2.2.1 v.2.2.2.2.2.2.1, .int v.2.2.2.2.2.2.2]
  up := fun ls => match ls with
    | [.int a0, .lst a1 a2, .int a3, .int a4, .lst a5 a6, .int a7] => some (a0, a1, a2, a3, a4, a5, a6, a7)
    | _ => none
  ok := by
    intro ls v h
    split at h
    · cases h; rfl
    · cases h

def f44_s_R8Plain.l0.P : AS := ⟨[(1, .val false [.leaf] [.int .i64 0] [] 0), (5, .box [.sl .shr [.leaf], .leaf, .leaf] [.lst 0 [], .int .i64 0, .int .u64 0] [] 0), (6, .val false [.sl .own [.leaf]] [.lst 0 []] [] 0), (7, .val false [.leaf] [.int .i64 0] [] 0)], 0⟩
def f44_s_R8Plain.l0.A : Alt (Nat × List T) := .one (.exit 0) ⟨[(6, .val false [.sl .own [.leaf]] [.lst 0 []] [] 0)], 0⟩ sg_l
def f44_s_R8Plain.l0.F (n m : Nat) (v : Int × Nat × List T × Int × Int × Nat × List T × Int) := f44_s_R8Plain.l0 n m v.1 v.2.1 v.2.2.1 v.2.2.2.1 v.2.2.2.2.1 v.2.2.2.2.2.1 v.2.2.2.2.2.2.1 v.2.2.2.2.2.2.2
def f44_s_R8Plain.l0.W (n : Nat) : LpW := .of 64 f44_s_R8Plain.l0.P sg_iliili f44_s_R8Plain.l0.A (f44_s_R8Plain.l0.F n n)
def f44_s_R8Plain.P : List Arg := [⟨.val, ⟨false, [.sl .shr [.leaf]], [.lst 0 []]⟩⟩, ⟨.val, ⟨false, [.leaf], [.int .i64 0]⟩⟩]
def f44_s_R8Plain.A : RAlt (Nat × List T) := .one ⟨[⟨false, [.sl .own [.leaf]], [.lst 0 []]⟩], [none, none]⟩ sg_l
def f44_s_R8Plain.F (n : Nat) (v : Nat × List T × Int) := f44_s_R8Plain n v.1 v.2.1 v.2.2
noncomputable def f44_s_R8Plain.O (n : Nat) : Orc := orcOf (E := E) [f75_s_l00From.w, f77_s_l01DrawPlain.w] [f44_s_R8Plain.l0.W n] n
theorem f44_s_R8Plain.l0.ok (n : Nat) : LpOk (f44_s_R8Plain.O n) E (evalFn E n) n (keepAt 44) (.loop (loopAt c44 0)) :=
  lp_pure f44_s_R8Plain.l0.P sg_iliili f44_s_R8Plain.l0.A (f44_s_R8Plain.l0.F n) (orcOf_cf _ _ n) (lpOk_of (bs := []) (by kernel_rfl) .nil) (fun _ => rfl) (fun _ _ => by kernel_rfl) (fun _ _ _ => by kernel_rfl)
theorem f44_s_R8Plain.ok : ∀ n v x, f44_s_R8Plain.F n v = some x → evalFn E n 44 (flAs f44_s_R8Plain.P (sg_li.pk v)) = some (f44_s_R8Plain.A.enc x) :=
  fn_pure (modes := (fdAt 44).ms) (outs := (fdAt 44).os) (results := (fdAt 44).rs) f44_s_R8Plain.O (c := c44) (keep := keepAt 44) (by kernel_rfl) (fun n => orcOf_cf _ _ n) (fun n => lpOk_of (bs := [loopAt c44 0]) (by kernel_rfl) (.cons (f44_s_R8Plain.l0.ok n) .nil)) (fun _ => rfl) (fun _ _ => by kernel_rfl)
noncomputable def f44_s_R8Plain.w : FnW E := fnW 44 f44_s_R8Plain.P sg_li f44_s_R8Plain.A f44_s_R8Plain.F f44_s_R8Plain.ok

def f94_i_areSamples : Nat → Nat → List T → Option (Bool)
  | 0, _, _ => none
  | n + 1, n1, l2 =>
    some (decide (((n1 : Nat) : Int) ≤ (256 : Int)))
def f94_i_areSamples.P : List Arg := [⟨.val, ⟨false, [.sl .shr [.leaf]], [.lst 0 []]⟩⟩]
def f94_i_areSamples.A : RAlt (Bool) := .one ⟨[⟨false, [.leaf], [.bool false]⟩], [none]⟩ sg_b
def f94_i_areSamples.F (n : Nat) (v : Nat × List T) := f94_i_areSamples n v.1 v.2
noncomputable def f94_i_areSamples.O (n : Nat) : Orc := orcOf (E := E) [] [] n
theorem f94_i_areSamples.ok : ∀ n v x, f94_i_areSamples.F n v = some x → evalFn E n 94 (flAs f94_i_areSamples.P (sg_l.pk v)) = some (f94_i_areSamples.A.enc x) :=
  fn_pure (modes := (fdAt 94).ms) (outs := (fdAt 94).os) (results := (fdAt 94).rs) f94_i_areSamples.O (c := c94) (keep := keepAt 94) (by kernel_rfl) (fun n => orcOf_cf _ _ n) (fun n => lpOk_of (bs := []) (by kernel_rfl) .nil) (fun _ => rfl) (fun _ _ => by kernel_rfl)
noncomputable def f94_i_areSamples.w : FnW E := fnW 94 f94_i_areSamples.P sg_l f94_i_areSamples.A f94_i_areSamples.F f94_i_areSamples.ok

def f114_i_areSides : Nat → Nat → List T → Nat → List T → Option (Bool)
  | 0, _, _, _, _ => none
  | n + 1, n1, l2, n3, l4 =>
    bd (f94_i_areSamples n n1 l2) fun r5 =>
    let b6 : Bool := r5
    br b6 (
     br (decide (((n1 : Nat) : Int) > (0 : Int))) (
      some (((n3 : Nat) : Int) == ((n1 : Nat) : Int))) (
      some false)) (
     some false)
def f114_i_areSides.P : List Arg := [⟨.val, ⟨false, [.sl .shr [.leaf]], [.lst 0 []]⟩⟩, ⟨.val, ⟨false, [.sl .shr [.leaf]], [.lst 0 []]⟩⟩]
def f114_i_areSides.A : RAlt (Bool) := .one ⟨[⟨false, [.leaf], [.bool false]⟩], [none, none]⟩ sg_b
def f114_i_areSides.F (n : Nat) (v : Nat × List T × Nat × List T) := f114_i_areSides n v.1 v.2.1 v.2.2.1 v.2.2.2
noncomputable def f114_i_areSides.O (n : Nat) : Orc := orcOf (E := E) [f94_i_areSamples.w] [] n
theorem f114_i_areSides.ok : ∀ n v x, f114_i_areSides.F n v = some x → evalFn E n 114 (flAs f114_i_areSides.P (sg_ll.pk v)) = some (f114_i_areSides.A.enc x) :=
  fn_pure (modes := (fdAt 114).ms) (outs := (fdAt 114).os) (results := (fdAt 114).rs) f114_i_areSides.O (c := c114) (keep := keepAt 114) (by kernel_rfl) (fun n => orcOf_cf _ _ n) (fun n => lpOk_of (bs := []) (by kernel_rfl) .nil) (fun _ => rfl) (fun _ _ => by kernel_rfl)
noncomputable def f114_i_areSides.w : FnW E := fnW 114 f114_i_areSides.P sg_ll f114_i_areSides.A f114_i_areSides.F f114_i_areSides.ok

def f108_i_dot.l0 (n : Nat) : Nat → Nat → List T → Nat → List T → Nat → Int → Int → Option (Nat)
  | 0, _, _, _, _, _, _, _ => none
  | m + 1, n1, l2, n3, l4, x5, i6, i7 =>
    br (decide (i7 < i6)) (
     gd ((decide (((0 : Int) ≤ i7) ∧ (i7 < ((n1 : Nat) : Int)))) && (okAt [(CK.flt FloatKind.f32)] l2 (Int.toNat i7))) (
     gd ((decide (((0 : Int) ≤ i7) ∧ (i7 < ((n3 : Nat) : Int)))) && (okAt [(CK.flt FloatKind.f32)] l4 (Int.toNat i7))) (
     let x8 : Nat := (fadd FloatKind.f32 x5 (fmul FloatKind.f32 (fAt l2 (Int.toNat i7)) (fAt l4 (Int.toNat i7))))
     f108_i_dot.l0 n m n1 l2 n3 l4 x8 i6 (IntKind.i64.wrap (i7 + (1 : Int)))))) (
     some x5)
def f108_i_dot : Nat → Nat → List T → Nat → List T → Option (Nat)
  | 0, _, _, _, _ => none
  | n + 1, n1, l2, n3, l4 =>
    bd (f108_i_dot.l0 n n n1 l2 n3 l4 0 ((n1 : Nat) : Int) (0 : Int)) fun r5 =>
    let x6 : Nat := r5
    some x6
def sg_f : Sig (Nat) where
  pk := fun v => [.flt v]
  up := fun ls => match ls with
    | [.flt a0] => some a0
    | _ => none
  ok := by
    intro ls v h
    split at h
    · cases h; rfl
    · cases h

def sg_llfii : Sig (Nat × List T × Nat × List T × Nat × Int × Int) where
  pk := fun v => [.lst v.1 v.2.1, .lst v.2.2.1 v.2.2.2.1, .flt v.2.2.2.2.1, .int v.2.2.2.2.2.1, .int v.2.2.2.2.2.2]
  up := fun ls => match ls with
    | [.lst a0 a1, .lst a2 a3, .flt a4, .int a5, .int a6] => some (a0, a1, a2, a3, a4, a5, a6)
    | _ => none
  ok := by
    intro ls v h
    split at h
    · cases h; rfl
    · cases h

def f108_i_dot.l0.P : AS := ⟨[(0, .val false [.sl .shr [.leaf]] [.lst 0 []] [] 0), (1, .val false [.sl .shr [.leaf]] [.lst 0 []] [] 0), (5, .val false [.leaf] [.flt .f32 0] [] 0), (8, .val false [.leaf] [.int .i64 0] [] 0), (9, .val false [.leaf] [.int .i64 0] [] 0)], 0⟩
def f108_i_dot.l0.A : Alt (Nat) := .one (.exit 0) ⟨[(5, .val false [.leaf] [.flt .f32 0] [] 0)], 0⟩ sg_f
def f108_i_dot.l0.F (n m : Nat) (v : Nat × List T × Nat × List T × Nat × Int × Int) := f108_i_dot.l0 n m v.1 v.2.1 v.2.2.1 v.2.2.2.1 v.2.2.2.2.1 v.2.2.2.2.2.1 v.2.2.2.2.2.2
def f108_i_dot.l0.W (n : Nat) : LpW := .of 48 f108_i_dot.l0.P sg_llfii f108_i_dot.l0.A (f108_i_dot.l0.F n n)
def f108_i_dot.P : List Arg := [⟨.val, ⟨false, [.sl .shr [.leaf]], [.lst 0 []]⟩⟩, ⟨.val, ⟨false, [.sl .shr [.leaf]], [.lst 0 []]⟩⟩]
def f108_i_dot.A : RAlt (Nat) := .one ⟨[⟨false, [.leaf], [.flt .f32 0]⟩], [none, none]⟩ sg_f
def f108_i_dot.F (n : Nat) (v : Nat × List T × Nat × List T) := f108_i_dot n v.1 v.2.1 v.2.2.1 v.2.2.2
noncomputable def f108_i_dot.O (n : Nat) : Orc := orcOf (E := E) [] [f108_i_dot.l0.W n] n
theorem f108_i_dot.l0.ok (n : Nat) : LpOk (f108_i_dot.O n) E (evalFn E n) n (keepAt 108) (.loop (loopAt c108 0)) :=
  lp_pure f108_i_dot.l0.P sg_llfii f108_i_dot.l0.A (f108_i_dot.l0.F n) (orcOf_cf _ _ n) (lpOk_of (bs := []) (by kernel_rfl) .nil) (fun _ => rfl) (fun _ _ => by kernel_rfl) (fun _ _ _ => by kernel_rfl)
theorem f108_i_dot.ok : ∀ n v x, f108_i_dot.F n v = some x → evalFn E n 108 (flAs f108_i_dot.P (sg_ll.pk v)) = some (f108_i_dot.A.enc x) :=
  fn_pure (modes := (fdAt 108).ms) (outs := (fdAt 108).os) (results := (fdAt 108).rs) f108_i_dot.O (c := c108) (keep := keepAt 108) (by kernel_rfl) (fun n => orcOf_cf _ _ n) (fun n => lpOk_of (bs := [loopAt c108 0]) (by kernel_rfl) (.cons (f108_i_dot.l0.ok n) .nil)) (fun _ => rfl) (fun _ _ => by kernel_rfl)
noncomputable def f108_i_dot.w : FnW E := fnW 108 f108_i_dot.P sg_ll f108_i_dot.A f108_i_dot.F f108_i_dot.ok

def f134_mathSqrt : Nat → Nat → Option (Nat)
  | 0, _ => none
  | n + 1, x1 =>
    bd (xSqrt n x1) fun r2 =>
    let x3 : Nat := r2
    some x3
def f134_mathSqrt.P : List Arg := [⟨.val, ⟨false, [.leaf], [.flt .f64 0]⟩⟩]
def f134_mathSqrt.A : RAlt (Nat) := .one ⟨[⟨false, [.leaf], [.flt .f64 0]⟩], [none]⟩ sg_f
def f134_mathSqrt.F (n : Nat) (v : Nat) := f134_mathSqrt n v
noncomputable def f134_mathSqrt.O (n : Nat) : Orc := orcOf (E := E) [x142.w] [] n
theorem f134_mathSqrt.ok : ∀ n v x, f134_mathSqrt.F n v = some x → evalFn E n 134 (flAs f134_mathSqrt.P (sg_f.pk v)) = some (f134_mathSqrt.A.enc x) :=
  fn_pure (modes := (fdAt 134).ms) (outs := (fdAt 134).os) (results := (fdAt 134).rs) f134_mathSqrt.O (c := c134) (keep := keepAt 134) (by kernel_rfl) (fun n => orcOf_cf _ _ n) (fun n => lpOk_of (bs := []) (by kernel_rfl) .nil) (fun _ => rfl) (fun _ _ => by kernel_rfl)
noncomputable def f134_mathSqrt.w : FnW E := fnW 134 f134_mathSqrt.P sg_f f134_mathSqrt.A f134_mathSqrt.F f134_mathSqrt.ok

def f115_i_RootNumber : Nat → Nat → Option (Nat)
  | 0, _ => none
  | n + 1, x1 =>
    bd ((fltToFlt FloatKind.f32 x1 FloatKind.f64)) fun y2 =>
    bd (f134_mathSqrt n y2) fun r3 =>
    let x4 : Nat := r3
    bd ((fltToFlt FloatKind.f64 x4 FloatKind.f32)) fun y5 =>
    some y5
def f115_i_RootNumber.P : List Arg := [⟨.val, ⟨false, [.leaf], [.flt .f32 0]⟩⟩]
def f115_i_RootNumber.A : RAlt (Nat) := .one ⟨[⟨false, [.leaf], [.flt .f32 0]⟩], [none]⟩ sg_f
def f115_i_RootNumber.F (n : Nat) (v : Nat) := f115_i_RootNumber n v
noncomputable def f115_i_RootNumber.O (n : Nat) : Orc := orcOf (E := E) [f134_mathSqrt.w] [] n
theorem f115_i_RootNumber.ok : ∀ n v x, f115_i_RootNumber.F n v = some x → evalFn E n 115 (flAs f115_i_RootNumber.P (sg_f.pk v)) = some (f115_i_RootNumber.A.enc x) :=
  fn_pure (modes := (fdAt 115).ms) (outs := (fdAt 115).os) (results := (fdAt 115).rs) f115_i_RootNumber.O (c := c115) (keep := keepAt 115) (by kernel_rfl) (fun n => orcOf_cf _ _ n) (fun n => lpOk_of (bs := []) (by kernel_rfl) .nil) (fun _ => rfl) (fun _ _ => by kernel_rfl)
noncomputable def f115_i_RootNumber.w : FnW E := fnW 115 f115_i_RootNumber.P sg_f f115_i_RootNumber.A f115_i_RootNumber.F f115_i_RootNumber.ok

def f54_i_LikenessOf : Nat → Nat → List T → Nat → List T → Option (Nat × Bool)
  | 0, _, _, _, _ => none
  | n + 1, n1, l2, n3, l4 =>
    bd (f114_i_areSides n n1 l2 n3 l4) fun r5 =>
    let b6 : Bool := r5
    br (!b6) (
     some (0, false)) (
     bd (f108_i_dot n n1 l2 n3 l4) fun r7 =>
     let x8 : Nat := r7
     bd (f108_i_dot n n1 l2 n1 l2) fun r9 =>
     let x10 : Nat := r9
     bd (f108_i_dot n n3 l4 n3 l4) fun r11 =>
     let x12 : Nat := r11
     bd (f115_i_RootNumber n (fmul FloatKind.f32 x10 x12)) fun r13 =>
     let x14 : Nat := r13
     some ((fdiv FloatKind.f32 x8 x14), true))
def sg_fb : Sig (Nat × Bool) where
  pk := fun v => [.flt v.1, .bool v.2]
  up := fun ls => match ls with
    | [.flt a0, .bool a1] => some (a0, a1)
    | _ => none
  ok := by
    intro ls v h
    split at h
    · cases h; rfl
    · cases h

def f54_i_LikenessOf.P : List Arg := [⟨.val, ⟨false, [.sl .shr [.leaf]], [.lst 0 []]⟩⟩, ⟨.val, ⟨false, [.sl .shr [.leaf]], [.lst 0 []]⟩⟩]
def f54_i_LikenessOf.A : RAlt (Nat × Bool) := .one ⟨[⟨false, [.leaf], [.flt .f32 0]⟩, ⟨false, [.leaf], [.bool false]⟩], [none, none]⟩ sg_fb
def f54_i_LikenessOf.F (n : Nat) (v : Nat × List T × Nat × List T) := f54_i_LikenessOf n v.1 v.2.1 v.2.2.1 v.2.2.2
noncomputable def f54_i_LikenessOf.O (n : Nat) : Orc := orcOf (E := E) [f114_i_areSides.w, f108_i_dot.w, f115_i_RootNumber.w] [] n
theorem f54_i_LikenessOf.ok : ∀ n v x, f54_i_LikenessOf.F n v = some x → evalFn E n 54 (flAs f54_i_LikenessOf.P (sg_ll.pk v)) = some (f54_i_LikenessOf.A.enc x) :=
  fn_pure (modes := (fdAt 54).ms) (outs := (fdAt 54).os) (results := (fdAt 54).rs) f54_i_LikenessOf.O (c := c54) (keep := keepAt 54) (by kernel_rfl) (fun n => orcOf_cf _ _ n) (fun n => lpOk_of (bs := []) (by kernel_rfl) .nil) (fun _ => rfl) (fun _ _ => by kernel_rfl)
noncomputable def f54_i_LikenessOf.w : FnW E := fnW 54 f54_i_LikenessOf.P sg_ll f54_i_LikenessOf.A f54_i_LikenessOf.F f54_i_LikenessOf.ok

def f116_i_RootMean : Nat → Nat → List T → Option (Nat × Bool)
  | 0, _, _ => none
  | n + 1, n1, l2 =>
    bd (f94_i_areSamples n n1 l2) fun r3 =>
    let b4 : Bool := r3
    br (!b4) (
     some (0, false)) (
     br (((n1 : Nat) : Int) == (0 : Int)) (
      some (0, false)) (
      bd (f108_i_dot n n1 l2 n1 l2) fun r5 =>
      let x6 : Nat := r5
      bd (f115_i_RootNumber n (fdiv FloatKind.f32 x6 (FloatKind.nearest FloatKind.f32 ((n1 : Nat) : Int)))) fun r7 =>
      let x8 : Nat := r7
      some (x8, true)))
def f116_i_RootMean.P : List Arg := [⟨.val, ⟨false, [.sl .shr [.leaf]], [.lst 0 []]⟩⟩]
def f116_i_RootMean.A : RAlt (Nat × Bool) := .one ⟨[⟨false, [.leaf], [.flt .f32 0]⟩, ⟨false, [.leaf], [.bool false]⟩], [none]⟩ sg_fb
def f116_i_RootMean.F (n : Nat) (v : Nat × List T) := f116_i_RootMean n v.1 v.2
noncomputable def f116_i_RootMean.O (n : Nat) : Orc := orcOf (E := E) [f94_i_areSamples.w, f108_i_dot.w, f115_i_RootNumber.w] [] n
theorem f116_i_RootMean.ok : ∀ n v x, f116_i_RootMean.F n v = some x → evalFn E n 116 (flAs f116_i_RootMean.P (sg_l.pk v)) = some (f116_i_RootMean.A.enc x) :=
  fn_pure (modes := (fdAt 116).ms) (outs := (fdAt 116).os) (results := (fdAt 116).rs) f116_i_RootMean.O (c := c116) (keep := keepAt 116) (by kernel_rfl) (fun n => orcOf_cf _ _ n) (fun n => lpOk_of (bs := []) (by kernel_rfl) .nil) (fun _ => rfl) (fun _ _ => by kernel_rfl)
noncomputable def f116_i_RootMean.w : FnW E := fnW 116 f116_i_RootMean.P sg_l f116_i_RootMean.A f116_i_RootMean.F f116_i_RootMean.ok

def f55_i_BalanceOf : Nat → Nat → List T → Nat → List T → Option (Nat × Bool)
  | 0, _, _, _, _ => none
  | n + 1, n1, l2, n3, l4 =>
    bd (f114_i_areSides n n1 l2 n3 l4) fun r5 =>
    let b6 : Bool := r5
    br (!b6) (
     some (0, false)) (
     bd (f116_i_RootMean n n1 l2) fun r7 =>
     let x8 : Nat := r7.1
     let b9 : Bool := r7.2
     bd (f116_i_RootMean n n3 l4) fun r10 =>
     let x11 : Nat := r10.1
     let b12 : Bool := r10.2
     br (feq FloatKind.f32 (fadd FloatKind.f32 x11 x8) 0) (
      some (0, true)) (
      some ((fdiv FloatKind.f32 (fsub FloatKind.f32 x11 x8) (fadd FloatKind.f32 x11 x8)), true)))
def f55_i_BalanceOf.P : List Arg := [⟨.val, ⟨false, [.sl .shr [.leaf]], [.lst 0 []]⟩⟩, ⟨.val, ⟨false, [.sl .shr [.leaf]], [.lst 0 []]⟩⟩]
def f55_i_BalanceOf.A : RAlt (Nat × Bool) := .one ⟨[⟨false, [.leaf], [.flt .f32 0]⟩, ⟨false, [.leaf], [.bool false]⟩], [none, none]⟩ sg_fb
def f55_i_BalanceOf.F (n : Nat) (v : Nat × List T × Nat × List T) := f55_i_BalanceOf n v.1 v.2.1 v.2.2.1 v.2.2.2
noncomputable def f55_i_BalanceOf.O (n : Nat) : Orc := orcOf (E := E) [f114_i_areSides.w, f116_i_RootMean.w] [] n
theorem f55_i_BalanceOf.ok : ∀ n v x, f55_i_BalanceOf.F n v = some x → evalFn E n 55 (flAs f55_i_BalanceOf.P (sg_ll.pk v)) = some (f55_i_BalanceOf.A.enc x) :=
  fn_pure (modes := (fdAt 55).ms) (outs := (fdAt 55).os) (results := (fdAt 55).rs) f55_i_BalanceOf.O (c := c55) (keep := keepAt 55) (by kernel_rfl) (fun n => orcOf_cf _ _ n) (fun n => lpOk_of (bs := []) (by kernel_rfl) .nil) (fun _ => rfl) (fun _ _ => by kernel_rfl)
noncomputable def f55_i_BalanceOf.w : FnW E := fnW 55 f55_i_BalanceOf.P sg_ll f55_i_BalanceOf.A f55_i_BalanceOf.F f55_i_BalanceOf.ok

def f127_i_absolute : Nat → Nat → Option (Nat)
  | 0, _ => none
  | n + 1, x1 =>
    bd ((fltToFlt FloatKind.f32 x1 FloatKind.f64)) fun y2 =>
    bd (xAbs n y2) fun r3 =>
    let x4 : Nat := r3
    bd ((fltToFlt FloatKind.f64 x4 FloatKind.f32)) fun y5 =>
    some y5
def f127_i_absolute.P : List Arg := [⟨.val, ⟨false, [.leaf], [.flt .f32 0]⟩⟩]
def f127_i_absolute.A : RAlt (Nat) := .one ⟨[⟨false, [.leaf], [.flt .f32 0]⟩], [none]⟩ sg_f
def f127_i_absolute.F (n : Nat) (v : Nat) := f127_i_absolute n v
noncomputable def f127_i_absolute.O (n : Nat) : Orc := orcOf (E := E) [x139.w] [] n
theorem f127_i_absolute.ok : ∀ n v x, f127_i_absolute.F n v = some x → evalFn E n 127 (flAs f127_i_absolute.P (sg_f.pk v)) = some (f127_i_absolute.A.enc x) :=
  fn_pure (modes := (fdAt 127).ms) (outs := (fdAt 127).os) (results := (fdAt 127).rs) f127_i_absolute.O (c := c127) (keep := keepAt 127) (by kernel_rfl) (fun n => orcOf_cf _ _ n) (fun n => lpOk_of (bs := []) (by kernel_rfl) .nil) (fun _ => rfl) (fun _ _ => by kernel_rfl)
noncomputable def f127_i_absolute.w : FnW E := fnW 127 f127_i_absolute.P sg_f f127_i_absolute.A f127_i_absolute.F f127_i_absolute.ok

def f96_i_peakOf.l0 (n : Nat) : Nat → Nat → List T → Nat → Nat → List T → Int → Int → Option (Nat)
  | 0, _, _, _, _, _, _, _ => none
  | m + 1, n1, l2, x3, n4, l5, i6, i7 =>
    br (decide (i7 < i6)) (
     gd ((decide (((0 : Int) ≤ i7) ∧ (i7 < ((n4 : Nat) : Int)))) && (okAt [(CK.flt FloatKind.f32)] l5 (Int.toNat i7))) (
     let x8 : Nat := (fAt l5 (Int.toNat i7))
     bd (f127_i_absolute n x8) fun r9 =>
     let x10 : Nat := r9
     br (fgt FloatKind.f32 x10 x3) (
      f96_i_peakOf.l0 n m n1 l2 x10 n4 l5 i6 (IntKind.i64.wrap (i7 + (1 : Int)))) (
      f96_i_peakOf.l0 n m n1 l2 x3 n4 l5 i6 (IntKind.i64.wrap (i7 + (1 : Int)))))) (
     some x3)
def f96_i_peakOf : Nat → Nat → List T → Option (Nat)
  | 0, _, _ => none
  | n + 1, n1, l2 =>
    bd (f96_i_peakOf.l0 n n n1 l2 0 n1 l2 ((n1 : Nat) : Int) (0 : Int)) fun r3 =>
    let x4 : Nat := r3
    some x4
def sg_lflii : Sig (Nat × List T × Nat × Nat × List T × Int × Int) where
  pk := fun v => [.lst v.1 v.2.1, .flt v.2.2.1, .lst v.2.2.2.1 v.2.2.2.2.1, .int v.2.2.2.2.2.1, .int v.2.2.2.2.2.2]
  up := fun ls => match ls with
    | [.lst a0 a1, .flt a2, .lst a3 a4, .int a5, .int a6] => some (a0, a1, a2, a3, a4, a5, a6)
    | _ => none
  ok := by
    intro ls v h
    split at h
    · cases h; rfl
    · cases h

def f96_i_peakOf.l0.P : AS := ⟨[(0, .val false [.sl .shr [.leaf]] [.lst 0 []] [] 0), (3, .val false [.leaf] [.flt .f32 0] [] 0), (7, .val false [.sl .shr [.leaf]] [.lst 0 []] [] 0), (8, .val false [.leaf] [.int .i64 0] [] 0), (9, .val false [.leaf] [.int .i64 0] [] 0)], 0⟩
def f96_i_peakOf.l0.A : Alt (Nat) := .one (.exit 0) ⟨[(3, .val false [.leaf] [.flt .f32 0] [] 0)], 0⟩ sg_f
def f96_i_peakOf.l0.F (n m : Nat) (v : Nat × List T × Nat × Nat × List T × Int × Int) := f96_i_peakOf.l0 n m v.1 v.2.1 v.2.2.1 v.2.2.2.1 v.2.2.2.2.1 v.2.2.2.2.2.1 v.2.2.2.2.2.2
def f96_i_peakOf.l0.W (n : Nat) : LpW := .of 48 f96_i_peakOf.l0.P sg_lflii f96_i_peakOf.l0.A (f96_i_peakOf.l0.F n n)
def f96_i_peakOf.P : List Arg := [⟨.val, ⟨false, [.sl .shr [.leaf]], [.lst 0 []]⟩⟩]
def f96_i_peakOf.A : RAlt (Nat) := .one ⟨[⟨false, [.leaf], [.flt .f32 0]⟩], [none]⟩ sg_f
def f96_i_peakOf.F (n : Nat) (v : Nat × List T) := f96_i_peakOf n v.1 v.2
noncomputable def f96_i_peakOf.O (n : Nat) : Orc := orcOf (E := E) [f127_i_absolute.w] [f96_i_peakOf.l0.W n] n
theorem f96_i_peakOf.l0.ok (n : Nat) : LpOk (f96_i_peakOf.O n) E (evalFn E n) n (keepAt 96) (.loop (loopAt c96 0)) :=
  lp_pure f96_i_peakOf.l0.P sg_lflii f96_i_peakOf.l0.A (f96_i_peakOf.l0.F n) (orcOf_cf _ _ n) (lpOk_of (bs := []) (by kernel_rfl) .nil) (fun _ => rfl) (fun _ _ => by kernel_rfl) (fun _ _ _ => by kernel_rfl)
theorem f96_i_peakOf.ok : ∀ n v x, f96_i_peakOf.F n v = some x → evalFn E n 96 (flAs f96_i_peakOf.P (sg_l.pk v)) = some (f96_i_peakOf.A.enc x) :=
  fn_pure (modes := (fdAt 96).ms) (outs := (fdAt 96).os) (results := (fdAt 96).rs) f96_i_peakOf.O (c := c96) (keep := keepAt 96) (by kernel_rfl) (fun n => orcOf_cf _ _ n) (fun n => lpOk_of (bs := [loopAt c96 0]) (by kernel_rfl) (.cons (f96_i_peakOf.l0.ok n) .nil)) (fun _ => rfl) (fun _ _ => by kernel_rfl)
noncomputable def f96_i_peakOf.w : FnW E := fnW 96 f96_i_peakOf.P sg_l f96_i_peakOf.A f96_i_peakOf.F f96_i_peakOf.ok

def f56_i_PeakOf : Nat → Nat → List T → Option (Nat × Bool)
  | 0, _, _ => none
  | n + 1, n1, l2 =>
    bd (f94_i_areSamples n n1 l2) fun r3 =>
    let b4 : Bool := r3
    br (!b4) (
     some (0, false)) (
     bd (f96_i_peakOf n n1 l2) fun r5 =>
     let x6 : Nat := r5
     some (x6, true))
def f56_i_PeakOf.P : List Arg := [⟨.val, ⟨false, [.sl .shr [.leaf]], [.lst 0 []]⟩⟩]
def f56_i_PeakOf.A : RAlt (Nat × Bool) := .one ⟨[⟨false, [.leaf], [.flt .f32 0]⟩, ⟨false, [.leaf], [.bool false]⟩], [none]⟩ sg_fb
def f56_i_PeakOf.F (n : Nat) (v : Nat × List T) := f56_i_PeakOf n v.1 v.2
noncomputable def f56_i_PeakOf.O (n : Nat) : Orc := orcOf (E := E) [f94_i_areSamples.w, f96_i_peakOf.w] [] n
theorem f56_i_PeakOf.ok : ∀ n v x, f56_i_PeakOf.F n v = some x → evalFn E n 56 (flAs f56_i_PeakOf.P (sg_l.pk v)) = some (f56_i_PeakOf.A.enc x) :=
  fn_pure (modes := (fdAt 56).ms) (outs := (fdAt 56).os) (results := (fdAt 56).rs) f56_i_PeakOf.O (c := c56) (keep := keepAt 56) (by kernel_rfl) (fun n => orcOf_cf _ _ n) (fun n => lpOk_of (bs := []) (by kernel_rfl) .nil) (fun _ => rfl) (fun _ _ => by kernel_rfl)
noncomputable def f56_i_PeakOf.w : FnW E := fnW 56 f56_i_PeakOf.P sg_l f56_i_PeakOf.A f56_i_PeakOf.F f56_i_PeakOf.ok

def f33_i_SameNumber : Nat → Nat → Nat → Option (Bool)
  | 0, _, _ => none
  | n + 1, x1, x2 =>
    br (fne FloatKind.f32 x1 x1) (
     br (fne FloatKind.f32 x1 x1) (
      some (fne FloatKind.f32 x2 x2)) (
      some false)) (
     br (fne FloatKind.f32 x2 x2) (
      br (fne FloatKind.f32 x1 x1) (
       some (fne FloatKind.f32 x2 x2)) (
       some false)) (
      bd (xF32bits n x1) fun r3 =>
      let i4 : Int := r3
      bd (xF32bits n x2) fun r5 =>
      let i6 : Int := r5
      some (i4 == i6)))
def sg_ff : Sig (Nat × Nat) where
  pk := fun v => [.flt v.1, .flt v.2]
  up := fun ls => match ls with
    | [.flt a0, .flt a1] => some (a0, a1)
    | _ => none
  ok := by
    intro ls v h
    split at h
    · cases h; rfl
    · cases h

def f33_i_SameNumber.P : List Arg := [⟨.val, ⟨false, [.leaf], [.flt .f32 0]⟩⟩, ⟨.val, ⟨false, [.leaf], [.flt .f32 0]⟩⟩]
def f33_i_SameNumber.A : RAlt (Bool) := .one ⟨[⟨false, [.leaf], [.bool false]⟩], [none, none]⟩ sg_b
def f33_i_SameNumber.F (n : Nat) (v : Nat × Nat) := f33_i_SameNumber n v.1 v.2
noncomputable def f33_i_SameNumber.O (n : Nat) : Orc := orcOf (E := E) [x98.w] [] n
theorem f33_i_SameNumber.ok : ∀ n v x, f33_i_SameNumber.F n v = some x → evalFn E n 33 (flAs f33_i_SameNumber.P (sg_ff.pk v)) = some (f33_i_SameNumber.A.enc x) :=
  fn_pure (modes := (fdAt 33).ms) (outs := (fdAt 33).os) (results := (fdAt 33).rs) f33_i_SameNumber.O (c := c33) (keep := keepAt 33) (by kernel_rfl) (fun n => orcOf_cf _ _ n) (fun n => lpOk_of (bs := []) (by kernel_rfl) .nil) (fun _ => rfl) (fun _ _ => by kernel_rfl)
noncomputable def f33_i_SameNumber.w : FnW E := fnW 33 f33_i_SameNumber.P sg_ff f33_i_SameNumber.A f33_i_SameNumber.F f33_i_SameNumber.ok

def f10_l_FnChannels : Nat → Nat → List T → Nat → List T → Option (Bool)
  | 0, _, _, _, _ => none
  | n + 1, n1, l2, n3, l4 =>
    bd (f27_l_r8Long n n1 l2 n3 l4) fun r5 =>
    let b6 : Bool := r5
    br b6 (
     some true) (
     bd (f28_l_r8At n n1 l2 (40 : Int) (10 : Int)) fun r7 =>
     let i8 : Int := r7
     let i9 : Int := (IntKind.i64.wrap ((1 : Int) + i8))
     bd (f44_s_R8Plain n n1 l2 i9) fun r10 =>
     let n11 : Nat := r10.1
     let l12 : List T := r10.2
     bd (f44_s_R8Plain n n3 l4 i9) fun r13 =>
     let n14 : Nat := r13.1
     let l15 : List T := r13.2
     bd (f54_i_LikenessOf n n11 l12 n14 l15) fun r16 =>
     let x17 : Nat := r16.1
     let b18 : Bool := r16.2
     bd (f54_i_LikenessOf n n14 l15 n11 l12) fun r19 =>
     let x20 : Nat := r19.1
     let b21 : Bool := r19.2
     bd (f54_i_LikenessOf n n11 l12 n11 l12) fun r22 =>
     let x23 : Nat := r22.1
     let b24 : Bool := r22.2
     bd (f55_i_BalanceOf n n11 l12 n14 l15) fun r25 =>
     let x26 : Nat := r25.1
     let b27 : Bool := r25.2
     bd (f55_i_BalanceOf n n14 l15 n11 l12) fun r28 =>
     let x29 : Nat := r28.1
     let b30 : Bool := r28.2
     bd (f55_i_BalanceOf n n11 l12 n11 l12) fun r31 =>
     let x32 : Nat := r31.1
     let b33 : Bool := r31.2
     bd (f56_i_PeakOf n n11 l12) fun r34 =>
     let x35 : Nat := r34.1
     let b36 : Bool := r34.2
     br (!b18) (
      some false) (
      br (!b21) (
       some false) (
       br (!b24) (
        some false) (
        br (!b27) (
         some false) (
         br (!b30) (
          some false) (
          br (!b33) (
           some false) (
           br (!b36) (
            some false) (
            bd (f33_i_SameNumber n x17 x20) fun r37 =>
            let b38 : Bool := r37
            br (!b38) (
             some false) (
             br (fne FloatKind.f32 x26 (negF FloatKind.f32 x29)) (
              some false) (
              br (fne FloatKind.f32 x32 0) (
               some false) (
               br (flt FloatKind.f32 x26 3212836864) (
                some false) (
                br (fgt FloatKind.f32 x26 1065353216) (
                 some false) (
                 br (feq FloatKind.f32 x35 0) (
                  some true) (
                  bd ((fltToFlt FloatKind.f32 x23 FloatKind.f64)) fun y39 =>
                  br (fgt FloatKind.f64 y39 4607181518080091934) (
                   bd ((fltToFlt FloatKind.f32 x23 FloatKind.f64)) fun y40 =>
                   some (flt FloatKind.f64 y40 4607182869159980145)) (
                   some false)))))))))))))))
def f10_l_FnChannels.P : List Arg := [⟨.val, ⟨false, [.sl .shr [.leaf]], [.lst 0 []]⟩⟩, ⟨.val, ⟨false, [.sl .shr [.leaf]], [.lst 0 []]⟩⟩]
def f10_l_FnChannels.A : RAlt (Bool) := .one ⟨[⟨false, [.leaf], [.bool false]⟩], [none, none]⟩ sg_b
def f10_l_FnChannels.F (n : Nat) (v : Nat × List T × Nat × List T) := f10_l_FnChannels n v.1 v.2.1 v.2.2.1 v.2.2.2
noncomputable def f10_l_FnChannels.O (n : Nat) : Orc := orcOf (E := E) [f27_l_r8Long.w, f28_l_r8At.w, f44_s_R8Plain.w, f54_i_LikenessOf.w, f55_i_BalanceOf.w, f56_i_PeakOf.w, f33_i_SameNumber.w] [] n
theorem f10_l_FnChannels.ok : ∀ n v x, f10_l_FnChannels.F n v = some x → evalFn E n 10 (flAs f10_l_FnChannels.P (sg_ll.pk v)) = some (f10_l_FnChannels.A.enc x) :=
  fn_pure (modes := (fdAt 10).ms) (outs := (fdAt 10).os) (results := (fdAt 10).rs) f10_l_FnChannels.O (c := c10) (keep := keepAt 10) (by kernel_rfl) (fun n => orcOf_cf _ _ n) (fun n => lpOk_of (bs := []) (by kernel_rfl) .nil) (fun _ => rfl) (fun _ _ => by kernel_rfl)
noncomputable def f10_l_FnChannels.w : FnW E := fnW 10 f10_l_FnChannels.P sg_ll f10_l_FnChannels.A f10_l_FnChannels.F f10_l_FnChannels.ok
end Go.Proofs.Ytdejjalkfekjiaa.D
end
section
/- FnChannels, in plain Lean. -/
namespace Go.Proofs.Ytdejjalkfekjiaa.D
open Go Go.Desk
set_option linter.unusedVariables false
theorem s_from (n l : Nat) (c : List T) : f75_s_l00From (n + 1) l c = some (l, c, 0, 0) := by rw [f75_s_l00From]
theorem s_next (n : Nat) {bs : List Int} (hb : Bytes bs) {a : Int} (h0 : 0 ≤ a) (h1 : a ≤ 1125899906842624) (sd : Int) :
    ∃ r sd', (0 ≤ r ∧ r ≤ 255) ∧ f128_s_l00Srcnext (n + 1) bs.length (its .u8 bs) a sd = some (r, bs.length, its .u8 bs, a + 1, sd') := by
  rw [f128_s_l00Srcnext]
  rw [show IntKind.i64.wrap (a + 1) = a + 1 by rw [wrap64] <;> omega]
  cases h : decide (a < (bs.length : Int))
  · simp only [br_f]
    cases decide (a + 1 ≤ (bs.length : Int))
    · exact ⟨_, _, and255 _, rfl⟩
    · exact ⟨0, _, by omega, rfl⟩
  · simp only [decide_eq_true_eq] at h
    obtain ⟨i, rfl⟩ := Int.eq_ofNat_of_zero_le h0
    have hi : i < bs.length := by omega
    have hr := hb (bs[i]) (List.getElem_mem _)
    simp only [br_t, in_dec hi, Int.toNat_natCast, okAt_its hi, Bool.and_self, gd_t, iAt_its]
    rw [show bs.getD i 0 = bs[i] by simp [List.getD, hi], show IntKind.i64.wrap bs[i] = bs[i] by rw [wrap64] <;> omega]
    cases decide ((i : Int) + 1 ≤ (bs.length : Int))
    · exact ⟨_, _, and255 _, rfl⟩
    · exact ⟨_, _, hr, rfl⟩
theorem s_pick (n : Nat) {bs : List Int} (hb : Bytes bs) {a : Int} (h0 : 0 ≤ a) (h1 : a ≤ 1125899906842622) (sd k : Int) :
    ∃ r a' sd', (0 ≤ r ∧ (1 < k → r < k) ∧ (k ≤ 1 → r = 0)) ∧ (a ≤ a' ∧ a' ≤ a + 2) ∧ f76_s_l00Srcpick (n + 2) bs.length (its .u8 bs) a sd k = some (r, bs.length, its .u8 bs, a', sd') := by
  rw [f76_s_l00Srcpick]
  by_cases hk : k ≤ 1
  · rw [decide_eq_true hk]; exact ⟨0, a, sd, by omega, by omega, rfl⟩
  rw [decide_eq_false hk]
  obtain ⟨r, s1, hr, e1⟩ := s_next n hb h0 (by omega) sd
  simp only [br_f, e1, bd_s]
  have hk0 : (!decide (k = 0)) = true := by simp; omega
  by_cases hk2 : k > 200
  · rw [decide_eq_true hk2]
    obtain ⟨r', s2, hr', e2⟩ := s_next n hb (a := a + 1) (by omega) (by omega) s1
    simp only [br_t, e2, bd_s, hk0, gd_t]
    rw [show IntKind.i64.wrap (r * 256) = r * 256 by rw [wrap64] <;> omega, show IntKind.i64.wrap (r * 256 + r') = r * 256 + r' by rw [wrap64] <;> omega]
    refine ⟨_, _, _, ?_, ?_, rfl⟩
    · rw [Int.tmod_eq_emod_of_nonneg (by omega)]
      have := Int.emod_nonneg (r * 256 + r') (show k ≠ 0 by omega)
      have := Int.emod_lt_of_pos (r * 256 + r') (show 0 < k by omega)
      omega
    · omega
  · rw [decide_eq_false hk2]
    simp only [br_f, hk0, gd_t]
    refine ⟨_, _, _, ?_, ?_, rfl⟩
    · rw [Int.tmod_eq_emod_of_nonneg (by omega)]
      have := Int.emod_nonneg r (show k ≠ 0 by omega)
      have := Int.emod_lt_of_pos r (show 0 < k by omega)
      omega
    · omega
theorem s_one (n : Nat) {bs : List Int} (hb : Bytes bs) {a : Int} (h0 : 0 ≤ a) (h1 : a ≤ 1125899906842622) (sd k : Int) :
    ∃ r a' sd', (a ≤ a' ∧ a' ≤ a + 2) ∧ f129_s_l00Srcone (n + 3) bs.length (its .u8 bs) a sd k = some (r, bs.length, its .u8 bs, a', sd') := by
  obtain ⟨r, a', s', -, ha, e⟩ := s_pick n hb h0 h1 sd k
  rw [f129_s_l00Srcone, e]
  exact ⟨_, _, _, ha, rfl⟩
theorem s_plain (n : Nat) {bs : List Int} (hb : Bytes bs) {a : Int} (h0 : 0 ≤ a) (h1 : a ≤ 1125899906842620) (sd : Int) :
    ∃ x a' sd', Plain x ∧ (a ≤ a' ∧ a' ≤ a + 4) ∧ f77_s_l01DrawPlain (n + 4) bs.length (its .u8 bs) a sd = some (x, bs.length, its .u8 bs, a', sd') := by
  obtain ⟨r, a1, s1, hr, ha, e⟩ := s_pick (n + 1) hb h0 (by omega) sd 129
  obtain ⟨b, a2, s2, ha2, e2⟩ := s_one n hb (a := a1) (by omega) (by omega) s1 4
  rw [f77_s_l01DrawPlain, e]
  simp only [bd_s, e2]
  rw [show IntKind.i64.wrap (r - 64) = r - 64 by rw [wrap64] <;> omega]
  cases b
  · exact ⟨_, a2, s2, ⟨r - 64, by omega, .inr rfl⟩, by omega, rfl⟩
  · exact ⟨_, a2, s2, ⟨r - 64, by omega, .inl rfl⟩, by omega, rfl⟩
theorem s_r8plain_loop (n : Nat) {bs : List Int} (hb : Bytes bs) (k : Nat) : ∀ (j m : Nat) (a sd : Int) (acc : List Nat), 0 ≤ a → a + 4 * (j : Int) ≤ 1125899906842000 → k = acc.length + j → k ≤ 1000 → j < m → (∀ x ∈ acc, Plain x) →
    ∃ ys, ys.length = k ∧ (∀ x ∈ ys, Plain x) ∧
      (∃ u, f44_s_R8Plain.l0 (n + 4) m (k : Int) bs.length (its .u8 bs) a sd acc.length (fls .f32 acc) (acc.length : Int) = some u ∧ u = (ys.length, fls .f32 ys)) := by
  intro j
  induction j with
  | zero =>
    intro m a sd acc h0 h1 hl hk hm hw
    obtain ⟨m, rfl⟩ : ∃ k, m = k + 1 := ⟨m - 1, by omega⟩
    rw [f44_s_R8Plain.l0, decide_eq_false (show ¬ ((acc.length : Int) < (k : Int)) by omega)]
    exact ⟨acc, by omega, hw, _, rfl, rfl⟩
  | succ j ih =>
    intro m a sd acc h0 h1 hl hk hm hw
    obtain ⟨m, rfl⟩ : ∃ k, m = k + 1 := ⟨m - 1, by omega⟩
    obtain ⟨x, a1, s1, hx, ha, e⟩ := s_plain n hb h0 (by omega) sd
    rw [f44_s_R8Plain.l0, decide_eq_true (show ((acc.length : Int) < (k : Int)) by omega)]
    simp only [br_t, e, bd_s, push_ok (show acc.length < 2147483648 by omega), gd_t, push_fls]
    rw [wrap_len (z := x) (by omega), show acc.length + 1 = (acc ++ [x]).length by simp]
    exact ih m a1 s1 (acc ++ [x]) (by omega) (by omega) (by simp; omega) hk (by omega) (by
        intro y hy; simp only [List.mem_append, List.mem_singleton] at hy; rcases hy with hy | rfl
        · exact hw y hy
        · exact hx)
theorem s_r8plain (n : Nat) {bs : List Int} (hb : Bytes bs) (k : Nat) (hk : k ≤ 1000) (hn : k < n) : ∃ xs, xs.length = k ∧ (∀ x ∈ xs, Plain x) ∧ f44_s_R8Plain (n + 5) bs.length (its .u8 bs) (k : Int) = some (xs.length, fls .f32 xs) := by
  obtain ⟨ys, hy, hw, u, e, rfl⟩ := s_r8plain_loop n hb k k (n + 4) 0 0 [] (by omega) (by omega) (by simp) hk (by omega) (by simp)
  rw [f44_s_R8Plain, s_from]
  have e : f44_s_R8Plain.l0 (n + 4) (n + 4) (k : Int) bs.length (its .u8 bs) 0 0 0 (reps 0 [(T.flt FloatKind.f32 0)]) 0 = some (ys.length, fls .f32 ys) := e
  refine ⟨ys, hy, hw, ?_⟩
  simp only [bd_s, e]

theorem l_long (n : Nat) (bs cs : List Int) : f27_l_r8Long (n + 1) bs.length (its .u8 bs) cs.length (its .u8 cs) = some (decide (48 < bs.length ∨ 48 < cs.length)) := by
  rw [f27_l_r8Long]
  by_cases h : 48 < bs.length
  · rw [decide_eq_true (show (bs.length : Int) > 48 by omega), decide_eq_true (Or.inl h)]; rfl
  · rw [decide_eq_false (show ¬ (bs.length : Int) > 48 by omega), br_f]
    congr 1
    simp [h]; omega
theorem l_at (n : Nat) {bs : List Int} (hb : Bytes bs) {i k : Int} (hi : 0 ≤ i) (hk : 1 ≤ k) : ∃ r, (0 ≤ r ∧ r < k) ∧ f28_l_r8At (n + 1) bs.length (its .u8 bs) i k = some r := by
  rw [f28_l_r8At]
  by_cases h : k ≤ 1
  · rw [decide_eq_true h]; exact ⟨0, by omega, rfl⟩
  rw [decide_eq_false h]
  by_cases h2 : i ≥ (bs.length : Int)
  · rw [decide_eq_true h2]; exact ⟨0, by omega, rfl⟩
  rw [decide_eq_false h2]
  obtain ⟨i, rfl⟩ := Int.eq_ofNat_of_zero_le hi
  have hi : i < bs.length := by omega
  have hr := hb (bs[i]) (List.getElem_mem _)
  have hk0 : (!decide (k = 0)) = true := by simp; omega
  simp only [br_f, in_dec hi, Int.toNat_natCast, okAt_its hi, Bool.and_self, gd_t, iAt_its, hk0]
  rw [show bs.getD i 0 = bs[i] by simp [List.getD, hi], show IntKind.i64.wrap bs[i] = bs[i] by rw [wrap64] <;> omega]
  refine ⟨_, ?_, rfl⟩
  rw [Int.tmod_eq_emod_of_nonneg (by omega)]
  have := Int.emod_nonneg bs[i] (show k ≠ 0 by omega)
  have := Int.emod_lt_of_pos bs[i] (show 0 < k by omega)
  omega
theorem i_same (n : Nat) {x y : Nat} (hx : W32 x) (hy : W32 y) : f33_i_SameNumber (n + 2) x y = some (x == y) := by
  rw [f33_i_SameNumber]
  simp only [fne_nan]
  cases hn : isNaN .f32 x
  · cases hm : isNaN .f32 y
    · simp only [br_f]
      have e1 : ∀ z, isNaN .f32 z = false → xF32bits (n + 1) z = some (z : Int) := fun z hz => by simp [xF32bits, hz]
      simp only [e1 x hn, e1 y hm, bd_s, Option.some.injEq]
      rw [Bool.eq_iff_iff]; simp; constructor <;> omega
    · simp only [br_f, br_t]
      have : x ≠ y := fun e => by rw [e, hm] at hn; cases hn
      simp [this]
  · cases hm : isNaN .f32 y
    · simp only [br_f, br_t]
      have : x ≠ y := fun e => by rw [e, hm] at hn; cases hn
      simp [this]
    · simp only [br_t]
      have : x = y := by rw [← hx.2, ← hy.2, canon_nan hn, canon_nan hm]
      simp [this]

theorem i_few (n k : Nat) (l : List T) : f94_i_areSamples (n + 1) k l = some (decide ((k : Int) ≤ 256)) := by rw [f94_i_areSamples]

theorem i_absolute (n : Nat) {x : Nat} (hg : W32 x) : f127_i_absolute (n + 2) x = some (size32 x) := by
  obtain ⟨h1, h2⟩ := abs_size hg.1 hg.2 n
  rw [f127_i_absolute, fltToFlt_wide]
  simp only [bd, h1, h2]

/-- the greatest size so far -/
def peakM (m : Nat) (xs : List Nat) : Nat := xs.foldl (fun m x => if fgt .f32 (size32 x) m then size32 x else m) m
theorem w32_peak : ∀ (xs : List Nat) (m : Nat), W32 m → (∀ x ∈ xs, W32 x) → W32 (peakM m xs)
  | [], m, h, _ => h
  | x :: xs, m, h, hx => by
    show W32 (peakM (if fgt .f32 (size32 x) m then size32 x else m) xs)
    refine w32_peak xs _ ?_ (fun y hy => hx y (by simp [hy]))
    split
    · exact w32_size (hx x (by simp))
    · exact h
theorem i_peak_loop (n : Nat) (N : Nat) (cs : List T) : ∀ (zs p : List Nat) (mx m : Nat), (∀ x ∈ zs, W32 x) → p.length + zs.length < 1048576 → zs.length < m →
    f96_i_peakOf.l0 (n + 2) m N cs mx (p ++ zs).length (fls .f32 (p ++ zs)) ((p ++ zs).length : Int) (p.length : Int) = some (peakM mx zs) := by
  intro zs
  induction zs with
  | nil =>
    intro p mx m _ _ hm
    obtain ⟨m, rfl⟩ : ∃ k, m = k + 1 := ⟨m - 1, by omega⟩
    rw [f96_i_peakOf.l0, lt_end]; rfl
  | cons z zs ih =>
    intro p mx m hz hp hm
    obtain ⟨m, rfl⟩ : ∃ k, m = k + 1 := ⟨m - 1, by omega⟩
    have ih' := fun mx => ih (p ++ [z]) mx m (fun x hx => hz x (by simp [hx])) (by simp at hp ⊢; omega) (by simp at hm; omega)
    simp only [List.append_assoc, List.cons_append, List.nil_append] at ih'
    rw [f96_i_peakOf.l0, lt_mid, in_mid, toNat_len, okAt_mid, fAt_mid]
    simp only [br_t, gd_t, Bool.and_self, i_absolute n (hz z (by simp)), bd_s, wrap_len (z := z) (show p.length < 4611686018427387904 by simp at hp; omega)]
    show _ = some (peakM (if fgt .f32 (size32 z) mx then size32 z else mx) zs)
    cases fgt .f32 (size32 z) mx
    · exact ih' mx
    · exact ih' _
theorem i_peak (n : Nat) (xs : List Nat) (hx : ∀ x ∈ xs, W32 x) (hl : xs.length < 1048576) (hn : xs.length < n) : f96_i_peakOf (n + 3) xs.length (fls .f32 xs) = some (peakM 0 xs) := by
  rw [f96_i_peakOf]
  have e := i_peak_loop n xs.length (fls .f32 xs) xs [] 0 (n + 2) hx (by simpa using hl) (by omega)
  have e : f96_i_peakOf.l0 (n + 2) (n + 2) xs.length (fls .f32 xs) 0 xs.length (fls .f32 xs) (xs.length : Int) 0 = some (peakM 0 xs) := e
  rw [e]; rfl
theorem i_peakof (n : Nat) (xs : List Nat) (hx : ∀ x ∈ xs, W32 x) (hl : xs.length ≤ 256) (hn : xs.length < n) : f56_i_PeakOf (n + 4) xs.length (fls .f32 xs) = some (peakM 0 xs, true) := by
  rw [f56_i_PeakOf, i_few, decide_eq_true (show (xs.length : Int) ≤ 256 by omega)]
  simp only [bd_s, br_not, br_t, i_peak n xs hx (by omega) hn]
theorem peak_facts : ∀ (xs : List Nat) (m : Nat), W32 m → isNaN .f32 m = false → 0 ≤ key .f32 m → (∀ x ∈ xs, W32 x) →
    isNaN .f32 (peakM m xs) = false ∧ key .f32 m ≤ key .f32 (peakM m xs) ∧ (∀ x ∈ xs, isNaN .f32 x = false → (key .f32 x).natAbs ≤ key .f32 (peakM m xs)) ∧ (peakM m xs = m ∨ ∃ x ∈ xs, isNaN .f32 x = false ∧ peakM m xs = size32 x)
  | [], m, _, hn, _, _ => ⟨hn, Int.le_refl _, by simp, .inl rfl⟩
  | x :: xs, m, hm, hn, h0, hx => by
    have hw := hx x (by simp)
    show isNaN .f32 (peakM (if fgt .f32 (size32 x) m then size32 x else m) xs) = false ∧ _
    cases hc : fgt .f32 (size32 x) m
    · obtain ⟨h1, h2, h3, h4⟩ := peak_facts xs m hm hn h0 (fun y hy => hx y (by simp [hy]))
      have e : peakM m (x :: xs) = peakM m xs := by show peakM (if fgt .f32 (size32 x) m then size32 x else m) xs = _; rw [hc]; rfl
      rw [e]
      refine ⟨h1, h2, fun y hy hyn => ?_, ?_⟩
      · simp only [List.mem_cons] at hy
        rcases hy with rfl | hy
        · rw [fgt_key] at hc
          unfold num2 at hc
          rw [nan_size, hyn, hn, key_size32 hw.1 hyn] at hc
          simp at hc
          omega
        · exact h3 y hy hyn
      · rcases h4 with h4 | ⟨y, hy, h5⟩
        · exact .inl h4
        · exact .inr ⟨y, by simp [hy], h5⟩
    · have hxn : isNaN .f32 x = false := by
        cases h : isNaN .f32 x
        · rfl
        · rw [fgt_nan _ (by rw [nan_size]; exact h)] at hc; cases hc
      have hk := key_size32 hw.1 hxn
      rw [fgt_key] at hc
      unfold num2 at hc
      rw [nan_size, hxn, hn, hk] at hc
      simp at hc
      obtain ⟨h1, h2, h3, h4⟩ := peak_facts xs (size32 x) (w32_size hw) (by rw [nan_size]; exact hxn) (by rw [hk]; omega) (fun y hy => hx y (by simp [hy]))
      have e : peakM m (x :: xs) = peakM (size32 x) xs := by
        show peakM (if fgt .f32 (size32 x) m then size32 x else m) xs = _
        rw [fgt_key]; unfold num2; rw [nan_size, hxn, hn, hk]; simp [hc]
      rw [e]
      refine ⟨h1, by omega, fun y hy hyn => ?_, ?_⟩
      · simp only [List.mem_cons] at hy
        rcases hy with rfl | hy
        · omega
        · exact h3 y hy hyn
      · rcases h4 with h4 | ⟨y, hy, h5⟩
        · exact .inr ⟨x, by simp, hxn, h4⟩
        · exact .inr ⟨y, by simp [hy], h5⟩




theorem i_dot_loop (n : Nat) (N : Nat) (cs : List T) : ∀ (zs ys p q : List Nat) (s m : Nat), ys.length = zs.length → q.length = p.length → p.length + zs.length < 1048576 → zs.length < m →
    f108_i_dot.l0 n m (p ++ zs).length (fls .f32 (p ++ zs)) (q ++ ys).length (fls .f32 (q ++ ys)) s ((p ++ zs).length : Int) (p.length : Int) = some (dotM s zs ys) := by
  intro zs
  induction zs with
  | nil =>
    intro ys p q s m _ _ _ hm
    obtain ⟨m, rfl⟩ : ∃ k, m = k + 1 := ⟨m - 1, by omega⟩
    rw [f108_i_dot.l0, lt_end]
    simp [br_f, dotM]
  | cons z zs ih =>
    intro ys p q s m hl hq hp hm
    obtain ⟨m, rfl⟩ : ∃ k, m = k + 1 := ⟨m - 1, by omega⟩
    cases ys with
    | nil => simp at hl
    | cons y ys =>
      have e1 : okAt [.flt .f32] (fls .f32 (q ++ y :: ys)) p.length = true := by rw [← hq]; exact okAt_mid
      have e2 : fAt (fls .f32 (q ++ y :: ys)) p.length = y := by rw [← hq]; exact fAt_mid
      have e3 : decide ((0 : Int) ≤ (p.length : Int) ∧ (p.length : Int) < ((q ++ y :: ys).length : Int)) = true := by rw [← hq]; exact in_mid
      rw [f108_i_dot.l0, lt_mid, in_mid, toNat_len, okAt_mid, fAt_mid, e1, e2, e3]
      have := ih ys (p ++ [z]) (q ++ [y]) (fadd .f32 s (fmul .f32 z y)) m (by simpa using hl) (by simp [hq]) (by simp at hp ⊢; omega) (by simp at hm; omega)
      simp only [br_t, gd_t, Bool.and_self, wrap_len (z := z) (show p.length < 4611686018427387904 by simp at hp; omega)]
      simpa [dotM] using this
theorem i_dotted (n : Nat) (xs ys : List Nat) (hl : ys.length = xs.length) (hx : xs.length < 1048576) (hn : xs.length < n) : f108_i_dot (n + 1) xs.length (fls .f32 xs) ys.length (fls .f32 ys) = some (dotM 0 xs ys) := by
  rw [f108_i_dot]
  have e := i_dot_loop n xs.length (fls .f32 xs) xs ys [] [] 0 n hl rfl (by simpa using hx) (by omega)
  have e : f108_i_dot.l0 n n xs.length (fls .f32 xs) ys.length (fls .f32 ys) 0 (xs.length : Int) 0 = some (dotM 0 xs ys) := e
  rw [e]; rfl

theorem m_sqrt (n x : Nat) : f134_mathSqrt (n + 2) x = some (fsqrt x) := by rw [f134_mathSqrt]; rfl
theorem i_root (n x : Nat) : f115_i_RootNumber (n + 3) x = some (root32 x) := by
  rw [f115_i_RootNumber, fltToFlt_wide]
  simp only [bd, m_sqrt, fltToFlt_root]

/-! roots, nearly -/
theorem rootFrom_high (n : Nat) : ∀ (todo root : Nat), n < (root + 2 ^ todo) * (root + 2 ^ todo) → n < (Ieee.Datum.rootFrom n todo root + 1) * (Ieee.Datum.rootFrom n todo root + 1) := by
  intro todo
  induction todo with
  | zero => intro root h; simpa [Ieee.Datum.rootFrom] using h
  | succ todo ih =>
    intro root h
    simp only [Ieee.Datum.rootFrom]
    rw [Nat.shiftLeft_eq, Nat.one_mul]
    by_cases hl : (root + 2 ^ todo) * (root + 2 ^ todo) ≤ n
    · rw [if_pos hl]
      refine ih _ ?_
      rw [Nat.add_assoc, ← Nat.two_mul, Nat.mul_comm 2, ← Nat.pow_succ]; exact h
    · rw [if_neg hl]; exact ih _ (by omega)
theorem sq_lt {a b : Nat} (h : a * a ≤ b * b) : a ≤ b := by
  refine Nat.not_lt.1 fun h' => ?_
  have := Nat.mul_lt_mul_of_lt_of_le h' (Nat.le_of_lt h') (by omega)
  omega
theorem mv_sq (c : Nat) (p : Int) : mv c p * mv c p = mv (c * c) (p + p) := (mv_mul _ _ _ _).symm
theorem fsqrt_near {x : Nat} {v : Rat} (hx : Val .f64 x v) (h0 : 0 < v) (h1 : v ≤ 1000000) : ∃ Q, Val .f64 (fsqrt x) Q ∧ ∀ C, Rep0 .f64 C → (C * C ≤ v → C ≤ Q) ∧ (v ≤ C * C → Q ≤ C) := by
  obtain ⟨s, m, i, e1, hv, -⟩ := hx
  have hmn := mv_nonneg m i
  have hs : s = false := by cases s <;> simp only [sg_true, sg_false] at hv <;> first | rfl | (exfalso; grind)
  subst hs
  rw [sg_false] at hv
  have hm : m ≠ 0 := by rintro rfl; rw [mv_zero] at hv; grind
  obtain ⟨b1, b2, b3, -, -⟩ := read_norm e1
  have e1 : FloatKind.f64.format.read x = .number false m i := e1
  generalize hmo : 2 * (FloatKind.f64.format.fractionBits + 2) - m.log2 = mo
  generalize hmo2 : mo + ((i - (mo : Int)) % 2).toNat = mo2
  generalize hn : m <<< mo2 = n
  generalize hw : Ieee.Datum.rootFrom n (n.log2 / 2 + 1) 0 = w
  generalize hp : (i - (mo2 : Int)) / 2 = p
  have hroot : fsqrt x = FloatKind.f64.encode (.number false (2 * w + (w * w != n).toNat) (p - 1)) := by
    unfold fsqrt
    simp only [Ieee.Format.sqrt, e1, Ieee.Datum.root, if_neg hm, Bool.false_eq_true, if_false, hmo, hmo2, hn, hw, hp, Option.map_some]
    rfl
  have hww : w * w ≤ n := by rw [← hw]; exact rootFrom_le n _ 0 (Nat.zero_le _)
  have hww2 : n < (w + 1) * (w + 1) := by
    rw [← hw]
    refine rootFrom_high n _ 0 ?_
    rw [Nat.zero_add, ← Nat.pow_add]
    refine Nat.lt_of_lt_of_le Nat.lt_log2_self (Nat.pow_le_pow_right (by decide) (by omega))
  have hp2 : i - (mo2 : Int) = p + p := by omega
  have hnv : mv n (p + p) = v := by
    rw [hv, ← hn, Nat.shiftLeft_eq, mv_shift]; congr 1; omega
  have hfb : FloatKind.f64.format.fractionBits = 52 := rfl
  rw [hfb] at hmo
  have hnlow : 2 ^ 108 ≤ n := by
    rw [← hn, Nat.shiftLeft_eq]
    have h2 : 2 ^ m.log2 ≤ m := Nat.log2_self_le hm
    have h3 : 2 ^ m.log2 * 2 ^ mo2 ≤ m * 2 ^ mo2 := Nat.mul_le_mul_right _ h2
    rw [← Nat.pow_add] at h3
    exact Nat.le_trans (Nat.pow_le_pow_right (by decide) (by omega)) h3
  have hN : ∀ c : Nat, (c ≤ w → 2 * c ≤ 2 * w + (w * w != n).toNat) ∧ (n ≤ c * c → 2 * w + (w * w != n).toNat ≤ 2 * c) := by
    intro c
    refine ⟨fun h => by omega, fun h => ?_⟩
    by_cases hq : w * w = n
    · rw [show (w * w != n) = false by simpa using hq]
      have := sq_lt (show w * w ≤ c * c by omega)
      simp; omega
    · rw [show (w * w != n) = true by simpa using hq]
      have : w < c := by
        refine Nat.not_le.1 fun h' => ?_
        have := Nat.mul_le_mul h' h'
        omega
      simp; omega
  have hside : ∀ C, Rep0 .f64 C → (C * C ≤ v → C ≤ mv (2 * w + (w * w != n).toNat) (p - 1)) ∧ (v ≤ C * C → mv (2 * w + (w * w != n).toNat) (p - 1) ≤ C) := by
    rintro C ⟨M, P, hM, hP, rfl⟩
    have hb : 2 * FloatKind.f64.format.binade = 2 ^ 53 := by decide
    rw [hb] at hM
    have two : ∀ c : Nat, mv c p = mv (2 * c) (p - 1) := by
      intro c; rw [Nat.mul_comm 2 c, show c * 2 = c * 2 ^ 1 by omega, mv_shift, show p - 1 + ((1 : Nat) : Int) = p by omega]
    rcases Int.lt_or_le P p with h | h
    · have hC : mv M P ≤ mv (2 ^ 52) p := by
        refine Rat.le_trans (mv_le.2 hM) ?_
        rw [mv_pow, mv_pow]; exact p2_le (by omega)
      have h52 : 2 ^ 52 ≤ w := by
        have : 2 ^ 52 * 2 ^ 52 ≤ w * w ∨ w < 2 ^ 52 := by
          rcases Nat.lt_or_ge w (2 ^ 52) with h | h
          · exact .inr h
          · exact .inl (Nat.mul_le_mul h h)
        rcases this with h | h
        · exact sq_lt h
        · exfalso
          have h3 : (w + 1) * (w + 1) ≤ 2 ^ 52 * 2 ^ 52 := Nat.mul_le_mul (by omega) (by omega)
          have h4 : 2 ^ 52 * 2 ^ 52 ≤ 2 ^ 108 := by decide
          omega
      constructor
      · intro _
        refine Rat.le_trans hC ?_
        rw [two]; exact mv_le.2 ((hN _).1 h52)
      · intro hle
        exfalso
        have h5 : mv M P * mv M P ≤ mv (2 ^ 52) p * mv (2 ^ 52) p := by
          have g1 := Rat.mul_le_mul_of_nonneg_right hC (mv_nonneg M P)
          have g2 := Rat.mul_le_mul_of_nonneg_left hC (mv_nonneg (2 ^ 52) p)
          exact Rat.le_trans g1 g2
        rw [mv_sq (2 ^ 52)] at h5
        rw [← hnv] at hle
        have h6 := mv_le.1 (Rat.le_trans hle h5)
        have h4 : 2 ^ 52 * 2 ^ 52 < 2 ^ 108 := by decide
        omega
    · have hC : mv M P = mv (M * 2 ^ (P - p).toNat) p := by rw [mv_shift]; congr 1; omega
      rw [hC, mv_sq, ← hnv, mv_le, mv_le, two, mv_le, mv_le]
      generalize M * 2 ^ (P - p).toNat = c
      refine ⟨fun h => (hN c).1 ?_, fun h => (hN c).2 h⟩
      refine Nat.not_lt.1 fun h' => ?_
      have := Nat.mul_le_mul (show w + 1 ≤ c from h') (show w + 1 ≤ c from h')
      omega
  have hB0 : Rep0 .f64 ((1024 : Nat) : Rat) := rep_nat .f64 (by have : 2 * FloatKind.f64.format.binade = 9007199254740992 := by decide
                                                                rw [this]; omega)
  have hT0 : ((1024 : Nat) : Rat) < p2 (topE .f64) := nat_top .f64 (by have : 2 * FloatKind.f64.format.binade = 9007199254740992 := by decide
                                                                       rw [this]; omega)
  have h1024 : ((1024 : Nat) : Rat) = 1024 := rfl
  rw [h1024] at hB0 hT0
  obtain ⟨Q, q1, q2⟩ := write_val .f64 false (2 * w + (w * w != n).toNat) (p - 1) hB0 ((hside _ hB0).2 (by grind)) hT0
  rw [sg_false] at q2
  refine ⟨Q, by rw [hroot]; exact q1, fun C hC => ?_⟩
  obtain ⟨c1, c2⟩ := hside C hC
  exact ⟨fun h => (q2 C hC.rep).2 (c1 h), fun h => (q2 C hC.rep).1 (c2 h)⟩
/-- a narrowed number -/
theorem narrow_near {w : Nat} {v : Rat} (hw : Val .f64 w v) {B : Rat} (hB : Rep0 .f32 B) (hT : B < p2 (topE .f32)) (h1 : v ≤ B) (h2 : -B ≤ v) : ∃ y R, fltToFlt .f64 w .f32 = some y ∧ Val .f32 y R ∧ Near .f32 v R := by
  obtain ⟨s, m, e, e1, rfl, -⟩ := hw
  obtain ⟨R, r1, r2⟩ := write_val .f32 s m e hB (abs_le (mv_nonneg _ _) h1 h2) hT
  refine ⟨_, R, ?_, r1, r2⟩
  unfold fltToFlt
  rw [if_neg (by decide), e1]
  obtain ⟨s', m', e', d, -⟩ := r1
  simp only [d, Ieee.Datum.isInfinity]
  rfl
theorem rep32_64 {C : Rat} (h : Rep0 .f32 C) : Rep0 .f64 C := by
  obtain ⟨M, P, h1, h2, h3⟩ := h
  exact ⟨M, P, Nat.le_trans h1 (by decide), Int.le_trans (by decide) h2, h3⟩
/-- the root of a number -/
theorem root_near {x : Nat} {v : Rat} (hx : Val .f32 x v) (h0 : 0 ≤ v) (h1 : v ≤ 1000000) : ∃ Q, Val .f32 (root32 x) Q ∧ 0 ≤ Q ∧ Q ≤ 1024 ∧ ∀ C, Rep0 .f32 C → 0 < v → (C * C ≤ v → C ≤ Q) ∧ (v ≤ C * C → Q ≤ C) := by
  have hb : 1024 ≤ 2 * FloatKind.f32.format.binade := Nat.le_trans (by decide : 1024 ≤ 16777216) (Nat.le_of_eq binade32.symm)
  have hB := rep_nat .f32 hb
  have hT := nat_top .f32 hb
  have h1024 : ((1024 : Nat) : Rat) = 1024 := rfl
  rw [h1024] at hB hT
  have hw := wide_val hx
  have hr := fltToFlt_root x
  have hz : Rep0 .f32 (0 : Rat) := by
    have := rep_nat .f32 (Nat.zero_le _)
    rwa [show ((0 : Nat) : Rat) = 0 from rfl] at this
  by_cases hv : v = 0
  · subst hv
    have hz0 : Val .f64 (fsqrt (wide x)) 0 := by
      obtain ⟨s, m, i, e1, hv, -⟩ := hw
      have hm : m = 0 := by
        refine Classical.byContradiction fun h => ?_
        have := (mv_lt (e := i)).2 (Nat.pos_of_ne_zero h)
        rw [mv_zero] at this
        cases s <;> simp only [sg_true, sg_false] at hv <;> grind
      subst hm
      have e1' : FloatKind.f64.format.read (wide x) = .number s 0 i := e1
      have : fsqrt (wide x) = FloatKind.f64.encode (.number s 0 i) := by
        unfold fsqrt
        simp only [Ieee.Format.sqrt, e1', Ieee.Datum.root, if_true, Option.map_some]
        rfl
      rw [this]
      obtain ⟨R, r1, r2⟩ := write_val .f64 s 0 i (rep32_64 hz) (by rw [mv_zero]; exact Rat.le_refl) (p2_pos _)
      have hsz : sg s (mv 0 i) = 0 := by rw [mv_zero]; cases s <;> simp [sg]
      rw [hsz] at r2
      exact r1.near_eq r2 (repZ _)
    obtain ⟨y, R, r1, r2, r3⟩ := narrow_near hz0 hB hT (by decide) (by decide)
    rw [hr] at r1
    obtain rfl := Option.some.inj r1
    have := r2.near_eq r3 (repZ _)
    exact ⟨0, this, Rat.le_refl, by decide, fun C _ h => absurd h (by grind)⟩
  · have hpos : 0 < v := by grind
    obtain ⟨Q, q1, q2⟩ := fsqrt_near hw hpos h1
    have hQ0 : 0 ≤ Q := ((q2 0 (rep32_64 hz)).1 (by grind))
    have hQ1 : Q ≤ 1024 := ((q2 _ (rep32_64 hB)).2 (by grind))
    obtain ⟨y, R, r1, r2, r3⟩ := narrow_near q1 hB hT hQ1 (by grind)
    rw [hr] at r1
    obtain rfl := Option.some.inj r1
    refine ⟨R, r2, (r3 0 (repZ _)).2 hQ0, (r3 _ hB.rep).1 hQ1, fun C hC _ => ?_⟩
    obtain ⟨c1, c2⟩ := q2 C (rep32_64 hC)
    exact ⟨fun h => (r3 _ hC.rep).2 (c1 h), fun h => (r3 _ hC.rep).1 (c2 h)⟩

/-! ### sides exchanged -/
theorem fmul_num {k : FloatKind} {x y : Nat} {s t : Bool} {m n : Nat} {i j : Int} (h1 : k.decode x = .number s m i) (h2 : k.decode y = .number t n j) : fmul k x y = k.encode (.number (s ^^ t) (m * n) (i + j)) := by
  have e1 : k.format.read x = .number s m i := h1
  have e2 : k.format.read y = .number t n j := h2
  simp only [fmul, Ieee.Format.mul, e1, e2, Ieee.Datum.product, Option.map_some]
  rfl
theorem fmul_comm {k : FloatKind} {x y : Nat} {a b : Rat} (hx : Val k x a) (hy : Val k y b) : fmul k x y = fmul k y x := by
  obtain ⟨s, m, i, e1, -⟩ := hx
  obtain ⟨t, n, j, e2, -⟩ := hy
  rw [fmul_num e1 e2, fmul_num e2 e1, Bool.xor_comm, Nat.mul_comm, Int.add_comm]
theorem fadd_comm {k : FloatKind} {x y : Nat} {a b : Rat} (hx : Val k x a) (hy : Val k y b) : fadd k x y = fadd k y x := by
  obtain ⟨s, m, i, e1, -⟩ := hx
  obtain ⟨t, n, j, e2, -⟩ := hy
  have e1 : k.format.read x = .number s m i := e1
  have e2 : k.format.read y = .number t n j := e2
  simp only [fadd, Ieee.Format.add, e1, e2, Ieee.Datum.sum, Option.map_some]
  rw [Int.min_comm i j, Int.add_comm (Ieee.signed s m _), Bool.and_comm]
theorem enc_flip (s : Bool) (m : Nat) (e : Int) : FloatKind.f32.encode (.number (!s) m e) = negF .f32 (FloatKind.f32.encode (.number s m e)) := by
  show FloatKind.f32.format.nearest (!s) m e = negF .f32 (FloatKind.f32.format.nearest s m e)
  rw [nearest_word _ (!s), nearest_word _ s]
  have hr := nearest_pos_lt .f32 m e
  rw [show FloatKind.f32.format.infRung = 2139095040 from rfl] at hr
  generalize FloatKind.f32.format.nearest false m e = r at hr
  have hsw : FloatKind.f32.format.signWeight = 2147483648 := rfl
  unfold Ieee.Format.word
  rw [hsw]
  cases s
  · simp only [Bool.not_false, if_true, Bool.false_eq_true, if_false]
    rw [negF32 (by omega) (by rw [nan32]; simp; omega), if_pos (by omega)]; omega
  · simp only [Bool.not_true, if_true, Bool.false_eq_true, if_false]
    rw [negF32 (by omega) (by rw [nan32]; simp; omega), if_neg (by omega)]; omega
theorem encode_w32 (s : Bool) (m : Nat) (e : Int) : W32 (FloatKind.f32.encode (.number s m e)) := w32_write (by intro _ _ h; cases h)
/-- what is left with the sides exchanged is the opposite -/
theorem sub_flip {x y : Nat} {a b d : Rat} (hx : Val .f32 x a) (hy : Val .f32 y b) (hd : Val .f32 (fsub .f32 x y) d) : Val .f32 (fsub .f32 y x) (-d) := by
  obtain ⟨s, m, i, e1, -⟩ := hx
  obtain ⟨t, n, j, e2, -⟩ := hy
  have e1 : FloatKind.f32.format.read x = .number s m i := e1
  have e2 : FloatKind.f32.format.read y = .number t n j := e2
  have sub1 : ∀ (x y : Nat) (s t : Bool) (m n : Nat) (i j : Int), FloatKind.f32.format.read x = .number s m i → FloatKind.f32.format.read y = .number t n j → fsub .f32 x y = FloatKind.f32.encode (.number (if Ieee.signed s m (i - min i j).toNat + Ieee.signed (!t) n (j - min i j).toNat = 0 then s && !t else Ieee.signed s m (i - min i j).toNat + Ieee.signed (!t) n (j - min i j).toNat < 0) (Ieee.signed s m (i - min i j).toNat + Ieee.signed (!t) n (j - min i j).toNat).natAbs (min i j)) := by
    intro x y s t m n i j e1 e2
    simp only [fsub, Ieee.Format.sub, e1, e2, Ieee.Datum.opposite, Ieee.Datum.sum, Option.map_some]
    rfl
  have h1 := sub1 x y s t m n i j e1 e2
  have h2 := sub1 y x t s n m j i e2 e1
  rw [Int.min_comm j i] at h2
  generalize min i j = base at h1 h2
  have flip : ∀ (s : Bool) (m u : Nat), Ieee.signed (!s) m u = -Ieee.signed s m u := by
    intro s m u; unfold Ieee.signed; cases s <;> simp
  rw [flip] at h1 h2
  generalize Ieee.signed s m (i - base).toNat = A at h1 h2
  generalize Ieee.signed t n (j - base).toNat = B at h1 h2
  by_cases h0 : A + -B = 0
  · have h0' : B + -A = 0 := by omega
    rw [if_pos h0, h0] at h1
    rw [if_pos h0', h0'] at h2
    have zero : ∀ s : Bool, Val .f32 (FloatKind.f32.encode (.number s (Int.natAbs 0) base)) 0 := by
      intro s
      have hz : Rep0 .f32 (0 : Rat) := by
        have := rep_nat .f32 (Nat.zero_le _)
        rwa [show ((0 : Nat) : Rat) = 0 from rfl] at this
      obtain ⟨R, r1, r2⟩ := write_val .f32 s (Int.natAbs 0) base hz (by rw [show Int.natAbs 0 = 0 from rfl, mv_zero]; exact Rat.le_refl) (p2_pos _)
      have hsz : sg s (mv (Int.natAbs 0) base) = 0 := by rw [show Int.natAbs 0 = 0 from rfl, mv_zero]; cases s <;> simp [sg]
      rw [hsz] at r2
      exact r1.near_eq r2 (repZ _)
    have v1 : Val .f32 (fsub .f32 x y) 0 := by rw [h1]; exact zero _
    have := hd.inj v1
    rw [this, h2, show -(0 : Rat) = 0 by grind]
    exact zero _
  · have h0' : B + -A ≠ 0 := by omega
    rw [if_neg h0] at h1
    rw [if_neg h0', show (B + -A).natAbs = (A + -B).natAbs by omega, show decide (B + -A < 0) = !decide (A + -B < 0) by
      by_cases hlt : A + -B < 0
      · rw [decide_eq_true hlt, decide_eq_false (by omega)]; rfl
      · rw [decide_eq_false hlt, decide_eq_true (by omega)]; rfl, enc_flip, ← h1] at h2
    rw [h2]
    exact neg_val (by rw [h1]; exact encode_w32 _ _ _) hd
/-- a part of the opposite is the opposite -/
theorem div_flip {x x' y : Nat} {d b q : Rat} (hx : Val .f32 x d) (hx' : Val .f32 x' (-d)) (hy : Val .f32 y b) (hb : b ≠ 0) (hq : Val .f32 (fdiv .f32 x y) q) : Val .f32 (fdiv .f32 x' y) (-q) := by
  by_cases h0 : d = 0
  · subst h0
    rw [show -(0 : Rat) = 0 by grind] at hx'
    have hz : Rep0 .f32 (0 : Rat) := by
      have := rep_nat .f32 (Nat.zero_le _)
      rwa [show ((0 : Nat) : Rat) = 0 from rfl] at this
    have hdiv : (0 : Rat) / b = 0 := by rw [Rat.div_def, Rat.zero_mul]
    obtain ⟨R, r1, r2⟩ := div_val hx hy hb hz (p2_pos _) (by rw [hdiv]; exact Rat.le_refl) (by rw [hdiv]; decide)
    obtain ⟨R', r1', r2'⟩ := div_val hx' hy hb hz (p2_pos _) (by rw [hdiv]; exact Rat.le_refl) (by rw [hdiv]; decide)
    rw [hdiv] at r2 r2'
    have v1 := r1.near_eq r2 (repZ _)
    have v2 := r1'.near_eq r2' (repZ _)
    rw [hq.inj v1, show -(0 : Rat) = 0 by grind]; exact v2
  · obtain ⟨s, m, i, e1, hv, -⟩ := hx
    obtain ⟨s', m', i', e1', hv', -⟩ := hx'
    obtain ⟨t, n, j, e2, hvb, -⟩ := hy
    have n1 := mv_nonneg m i
    have n2 := mv_nonneg m' i'
    obtain ⟨hss, hmm⟩ : s' = (!s) ∧ mv m i = mv m' i' := by
      cases s <;> cases s' <;> simp only [sg_true, sg_false] at hv hv' <;> first | (exact ⟨rfl, by grind⟩) | (exfalso; grind)
    obtain ⟨a1, a2, a3, -, -⟩ := read_norm e1
    obtain ⟨b1, b2, b3, -, -⟩ := read_norm e1'
    obtain ⟨rfl, rfl⟩ := mv_norm a1 b1 a2 b2 a3 b3 hmm
    subst hss
    have hn : n ≠ 0 := by
      rintro rfl
      apply hb
      rw [hvb, mv_zero]; cases t <;> simp [sg]
    have e1 : FloatKind.f32.format.read x = .number s m i := e1
    have e1' : FloatKind.f32.format.read x' = .number (!s) m i := e1'
    have e2 : FloatKind.f32.format.read y = .number t n j := e2
    have hd : ∀ (x : Nat) (s : Bool), FloatKind.f32.format.read x = .number s m i → fdiv .f32 x y = FloatKind.f32.encode (.number (s ^^ t) (2 * ((m <<< (FloatKind.f32.format.fractionBits + 2 + n.log2 - m.log2)) / n) + ((m <<< (FloatKind.f32.format.fractionBits + 2 + n.log2 - m.log2)) % n != 0).toNat) (i - j - ((FloatKind.f32.format.fractionBits + 2 + n.log2 - m.log2 : Nat) : Int) - 1)) := by
      intro x s h
      simp only [fdiv, Ieee.Format.div, h, e2, Ieee.Datum.quotient, if_neg hn, Option.map_some]
      rfl
    have h1 := hd x s e1
    have h2 := hd x' (!s) e1'
    rw [show ((!s) ^^ t) = !(s ^^ t) by cases s <;> cases t <;> rfl, enc_flip, ← h1] at h2
    rw [h2]
    exact neg_val (by rw [h1]; exact encode_w32 _ _ _) hq
/-! ### sums of squares -/
theorem le2000 {B : Nat} (h : B ≤ 2000) : B ≤ 2 * FloatKind.f32.format.binade := Nat.le_trans h (Nat.le_trans (by decide : 2000 ≤ 16777216) (Nat.le_of_eq binade32.symm))
theorem plain_val {x : Nat} (h : Plain x) : Val .f32 x (fval .f32 x) ∧ -10 ≤ fval .f32 x ∧ fval .f32 x ≤ 10 ∧ (fval .f32 x ≠ 0 → 1 / 256 ≤ fval .f32 x * fval .f32 x) := by
  obtain ⟨v, -, v2, v3, v4, v5⟩ := h.val
  refine ⟨fin_val h.fin, ?_, ?_, ?_⟩
  · rcases v5 with e | e <;> rw [e] <;> grind
  · rcases v5 with e | e <;> rw [e] <;> grind
  · intro h0
    have hv : 1 / 16 ≤ v := by
      rcases v2 with h | h
      · exfalso; apply h0; rcases v5 with e | e <;> rw [e, h] <;> grind
      · exact h
    have h1 : 1 / 16 * v ≤ v * v := Rat.mul_le_mul_of_nonneg_right hv v3
    rcases v5 with e | e <;> rw [e] <;> grind
theorem rep_256 : Rep .f32 (1 / 256 : Rat) := by
  have h1 := p2_add (-8) 8
  have h2 : p2 8 = 256 := by have := p2_nat 8; rw [show ((8 : Nat) : Int) = 8 from rfl] at this; rw [this]; rfl
  rw [h2, show (-8 : Int) + 8 = 0 by decide, p2_zero] at h1
  have h3 : (1 / 256 : Rat) = ((1 : Int) : Rat) * p2 (-8) := by rw [show ((1 : Int) : Rat) = 1 from rfl]; grind
  rw [h3]; exact rep_int (by rw [binade32]; decide) (by rw [least32]; decide)
theorem dot_ge : ∀ (ds : List Nat) (s : Nat) (v : Rat) (B : Nat), (∀ d ∈ ds, Plain d) → Val .f32 s v → 0 ≤ v → v ≤ (B : Rat) → B + 100 * ds.length ≤ 2000 → ∃ w, Val .f32 (dotM s ds ds) w ∧ v ≤ w ∧ w ≤ ((B + 100 * ds.length : Nat) : Rat) ∧ (∀ d ∈ ds, fval .f32 d ≠ 0 → 1 / 256 ≤ w) := by
  intro ds
  induction ds with
  | nil => intro s v B _ h h0 h1 _; exact ⟨v, h, Rat.le_refl, h1, by simp⟩
  | cons d ds ih =>
    intro s v B hd h h0 h1 hl
    simp only [List.length_cons] at hl
    have hl2 : B + 100 + 100 * ds.length ≤ 2000 := by omega
    have hb2 : B + 100 ≤ 2000 := by omega
    have hb3 : (100 : Nat) ≤ 2000 := by omega
    have hlen : B + 100 + 100 * ds.length = B + 100 * (ds.length + 1) := by omega
    obtain ⟨u1, u2, u3, u4⟩ := plain_val (hd d (by simp))
    generalize fval .f32 d = u at u1 u2 u3 u4
    have h100 : ((100 : Nat) : Rat) = 100 := rfl
    have hB := rep_nat .f32 (le2000 hb3)
    have hT := nat_top .f32 (le2000 hb3)
    have hs := mul_between (A := 10) (B := 10) (by decide) (by decide) u2 u3 u2 u3
    have hsq : 0 ≤ u * u := by
      rcases (Rat.le_total : (0 : Rat) ≤ u ∨ u ≤ 0) with h | h
      · exact Rat.mul_nonneg h h
      · have := Rat.mul_nonneg (show 0 ≤ -u by grind) (show 0 ≤ -u by grind); grind
    obtain ⟨q, q1, q2⟩ := mul_val u1 u1 hB hT (by rw [h100]; grind) (by rw [h100]; grind)
    have hq0 := (q2 0 (repZ _)).2 hsq
    have hq1 : q ≤ ((100 : Nat) : Rat) := (q2 _ hB.rep).1 (by rw [h100]; grind)
    have hB2 := rep_nat .f32 (le2000 hb2)
    have hT2 := nat_top .f32 (le2000 hb2)
    have hBn : (0 : Rat) ≤ (B : Rat) := by exact_mod_cast Nat.zero_le B
    rw [natcast_add] at hB2 hT2
    obtain ⟨r, r1, r2⟩ := add_val h q1 hB2 hT2 (by grind) (by grind)
    have hr0 : v ≤ r := (r2 v h.rep).2 (by grind)
    have hrq : q ≤ r := (r2 q q1.rep).2 (by grind)
    have hr1 := (r2 _ hB2.rep).1 (show v + q ≤ (B : Rat) + ((100 : Nat) : Rat) by grind)
    rw [← natcast_add] at hr1
    obtain ⟨w, w1, w2, w3, w4⟩ := ih _ r (B + 100) (fun d hd' => hd d (by simp [hd'])) r1 (by grind) hr1 hl2
    rw [hlen] at w3
    refine ⟨w, w1, Rat.le_trans hr0 w2, w3, ?_⟩
    intro x hx hx0
    rcases List.mem_cons.1 hx with rfl | hx
    · have h5 := (q2 _ rep_256).2 (u4 (by
        intro h6; apply hx0
        have := (plain_val (hd x (by simp))).1.inj u1
        rw [this]; exact h6))
      exact Rat.le_trans h5 (Rat.le_trans hrq w2)
    · exact w4 x hx hx0
theorem dot_swap : ∀ (xs ys : List Nat) (s : Nat), (∀ x ∈ xs, Plain x) → (∀ y ∈ ys, Plain y) → dotM s xs ys = dotM s ys xs := by
  intro xs
  induction xs with
  | nil => intro ys s _ _; cases ys <;> rfl
  | cons x xs ih =>
    intro ys s hx hy
    cases ys with
    | nil => rfl
    | cons y ys =>
      show dotM (fadd .f32 s (fmul .f32 x y)) xs ys = dotM (fadd .f32 s (fmul .f32 y x)) ys xs
      rw [fmul_comm (plain_val (hx x (by simp))).1 (plain_val (hy y (by simp))).1]
      exact ih ys _ (fun z hz => hx z (by simp [hz])) (fun z hz => hy z (by simp [hz]))
/-! ### nearly one -/
theorem nearly_one {S : Nat} {v : Rat} (hS : Val .f32 S v) (h0 : 1 / 256 ≤ v) (h1 : v ≤ 1000) : ∃ c, Val .f32 (fdiv .f32 S (root32 (fmul .f32 S S))) c ∧ mv 131071 (-17) ≤ c ∧ c ≤ mv 131073 (-17) := by
  obtain ⟨s, m, e, e1, hv, h3, h4⟩ := hS
  have hmn := mv_nonneg m e
  have hs : s = false := by cases s <;> simp only [sg_true, sg_false] at hv <;> first | rfl | (exfalso; grind)
  subst hs
  rw [sg_false] at hv
  obtain ⟨b1, b2, b3, -, -⟩ := read_norm e1
  rw [binade32] at b1
  rw [least32] at b2 b3
  rw [show FloatKind.f32.format.binade = 8388608 by decide] at b3
  have he1 : -33 < e := by
    refine Int.not_le.1 fun h => ?_
    have h5 : mv m e ≤ mv (2 ^ 24) e := mv_le.2 (by omega)
    rw [mv_pow] at h5
    have h6 := p2_le (show e + ((24 : Nat) : Int) ≤ -9 by omega)
    have h7 := p2_add (-9) 9
    have h8 : p2 9 = 512 := by have := p2_nat 9; rw [show ((9 : Nat) : Int) = 9 from rfl] at this; rw [this]; rfl
    rw [h8, show (-9 : Int) + 9 = 0 by decide, p2_zero] at h7
    grind
  have hm := b3 (by omega)
  have hS : Val .f32 S v := ⟨false, m, e, e1, by rw [sg_false]; exact hv, h3, h4⟩
  obtain ⟨q, hq⟩ : ∃ q, q = m * m / 33554432 := ⟨_, rfl⟩
  obtain ⟨r, hr⟩ : ∃ r, r = m * m % 33554432 := ⟨_, rfl⟩
  have hqr : m * m = q * 33554432 + r := by have := Nat.div_add_mod (m * m) 33554432; rw [hq, hr]; omega
  have hrlt : r < 33554432 := by rw [hr]; exact Nat.mod_lt _ (by decide)
  obtain ⟨d, hd⟩ : ∃ d, m = d + 8 := ⟨m - 8, by omega⟩
  obtain ⟨l, hl⟩ : ∃ l, l = 8 * (m / 8) - 8 := ⟨_, rfl⟩
  obtain ⟨u, hu⟩ : ∃ u, u = m / 8 + 2 := ⟨_, rfl⟩
  have hmm : m * m = d * d + 16 * d + 64 := by rw [hd, Nat.add_mul, Nat.mul_add]; omega
  have hll : l * l ≤ d * d := Nat.mul_le_mul (by omega) (by omega)
  have huu : (d + 16) * (d + 16) ≤ (u * 8) * (u * 8) := Nat.mul_le_mul (by omega) (by omega)
  have hdd : (d + 16) * (d + 16) = d * d + 32 * d + 256 := by rw [Nat.add_mul, Nat.mul_add]; omega
  have hq24 : q < 8388608 := by
    have : m * m < 16777216 * 16777216 := Nat.mul_lt_mul_of_lt_of_le b1 (Nat.le_of_lt b1) (by decide)
    omega
  -- the square
  have hB : Rep0 .f32 ((1000000 : Nat) : Rat) := rep_nat .f32 (Nat.le_trans (by decide : 1000000 ≤ 16777216) (Nat.le_of_eq binade32.symm))
  have hT : ((1000000 : Nat) : Rat) < p2 (topE .f32) := nat_top .f32 (Nat.le_trans (by decide : 1000000 ≤ 16777216) (Nat.le_of_eq binade32.symm))
  have hM : ((1000000 : Nat) : Rat) = 1000000 := rfl
  rw [hM] at hB hT
  have hvv : v * v ≤ 1000 * 1000 := (mul_between (A := 1000) (B := 1000) (by decide) (by decide) (by grind) h1 (by grind) h1).2
  have hvv0 : 0 ≤ v * v := Rat.mul_nonneg (by grind) (by grind)
  obtain ⟨p, p1, p2_⟩ := mul_val hS hS hB hT (by grind) (by grind)
  have hsq : v * v = mv (m * m) (e + e) := by rw [hv]; exact mv_sq m e
  have rep1 : ∀ N : Nat, N ≤ 8388608 → Rep0 .f32 (mv N (e + e + 25)) := fun N hN => ⟨N, _, by rw [binade32]; omega, by rw [least32]; omega, rfl⟩
  have shift : ∀ N : Nat, mv N (e + e + 25) = mv (N * 33554432) (e + e) := by
    intro N
    rw [show (33554432 : Nat) = 2 ^ 25 by decide, mv_shift]; rfl
  have lowp : mv (q * 33554432) (e + e) ≤ p := by
    rw [← shift]
    refine (p2_ _ (rep1 q (by omega)).rep).2 ?_
    rw [shift, hsq]; exact mv_le.2 (by omega)
  have highp : p ≤ mv ((q + 1) * 33554432) (e + e) := by
    rw [← shift]
    refine (p2_ _ (rep1 (q + 1) (by omega)).rep).1 ?_
    rw [shift, hsq]; exact mv_le.2 (by omega)
  have p0 : 0 < p := by
    have h5 : 0 < mv (q * 33554432) (e + e) := by
      have := (mv_lt (e := e + e)).2 (show 0 < q * 33554432 by omega)
      rwa [mv_zero] at this
    grind
  have pM : p ≤ 1000000 := (p2_ _ hB.rep).1 (by grind)
  obtain ⟨Q, k1, k2, k3, k4⟩ := root_near p1 (Rat.le_of_lt p0) pM
  have repl : Rep0 .f32 (mv l e) := ⟨l, e, by rw [binade32]; omega, by rw [least32]; omega, rfl⟩
  have repu : Rep0 .f32 (mv u (e + 3)) := ⟨u, e + 3, by rw [binade32]; omega, by rw [least32]; omega, rfl⟩
  have ushift : mv u (e + 3) = mv (u * 8) e := by rw [show u * 8 = u * 2 ^ 3 by omega, mv_shift]; rfl
  have lowQ : mv l e ≤ Q := by
    refine (k4 _ repl p0).1 (Rat.le_trans ?_ lowp)
    rw [mv_sq]; exact mv_le.2 (by omega)
  have highQ : Q ≤ mv (u * 8) e := by
    rw [← ushift]
    refine (k4 _ repu p0).2 (Rat.le_trans highp ?_)
    rw [ushift, mv_sq]; exact mv_le.2 (by omega)
  -- the part
  have t1 : v * 131072 ≤ 131073 * Q := by
    have h5 : mv (m * 131072) e ≤ mv (131073 * l) e := mv_le.2 (by omega)
    have h6 : mv (m * 131072) e = v * 131072 := by rw [hv]; unfold mv; rw [Rat.natCast_mul, show ((131072 : Nat) : Rat) = 131072 from rfl]; grind
    have h7 : mv (131073 * l) e = 131073 * mv l e := by unfold mv; rw [Rat.natCast_mul, show ((131073 : Nat) : Rat) = 131073 from rfl]; grind
    rw [h6, h7] at h5; grind
  have t2 : 131071 * Q ≤ v * 131072 := by
    have h5 : mv (131071 * (u * 8)) e ≤ mv (m * 131072) e := mv_le.2 (by omega)
    have h6 : mv (m * 131072) e = v * 131072 := by rw [hv]; unfold mv; rw [Rat.natCast_mul, show ((131072 : Nat) : Rat) = 131072 from rfl]; grind
    have h7 : mv (131071 * (u * 8)) e = 131071 * mv (u * 8) e := by unfold mv; rw [Rat.natCast_mul, show ((131071 : Nat) : Rat) = 131071 from rfl]; grind
    rw [h6, h7] at h5; grind
  have hQ0 : 0 < Q := by grind
  have hcan : v / Q * Q = v := Rat.div_mul_cancel (by grind)
  have c1 : v / Q ≤ 131073 / 131072 := by
    refine Rat.not_lt.1 fun h => ?_
    have := (Rat.mul_lt_mul_right hQ0).2 h
    grind
  have c2 : 131071 / 131072 ≤ v / Q := by
    refine Rat.not_lt.1 fun h => ?_
    have := (Rat.mul_lt_mul_right hQ0).2 h
    grind
  have h17 : p2 (-17) * 131072 = 1 := by
    have h1 := p2_add (-17) 17
    have h2 : p2 17 = 131072 := by have := p2_nat 17; rw [show ((17 : Nat) : Int) = 17 from rfl] at this; rw [this]; rfl
    rw [h2, show (-17 : Int) + 17 = 0 by decide, p2_zero] at h1
    exact h1.symm
  have r1 : mv 131073 (-17) = 131073 / 131072 := by unfold mv; rw [show ((131073 : Nat) : Rat) = 131073 from rfl]; grind
  have r2 : mv 131071 (-17) = 131071 / 131072 := by unfold mv; rw [show ((131071 : Nat) : Rat) = 131071 from rfl]; grind
  have w1 : Rep0 .f32 (mv 131073 (-17)) := ⟨_, _, by rw [binade32]; decide, by rw [least32]; decide, rfl⟩
  have w2 : Rep0 .f32 (mv 131071 (-17)) := ⟨_, _, by rw [binade32]; decide, by rw [least32]; decide, rfl⟩
  obtain ⟨c, q1, q2⟩ := div_val hS k1 (by grind) hB hT (by grind) (by grind)
  exact ⟨c, q1, (q2 _ w2.rep).2 (by rw [r2]; exact c2), (q2 _ w1.rep).1 (by rw [r1]; exact c1)⟩
theorem told_one {x : Nat} {c : Rat} (hc : Val .f32 x c) (h1 : mv 131071 (-17) ≤ c) (h2 : c ≤ mv 131073 (-17)) : fgt .f64 (wide x) 4607181518080091934 = true ∧ flt .f64 (wide x) 4607182869159980145 = true := by
  have hw := wide_val hc
  have hlow : Val .f64 4607181869044203520 (mv 131064 (-17)) := by
    have := read_val (k := .f64) (x := 4607181869044203520) (s := false) (m := 131064 * 2 ^ 36) (e := -53) (by decide)
    rwa [sg_false, mv_shift, show (-53 : Int) + ((36 : Nat) : Int) = -17 by decide] at this
  have hhigh : Val .f64 4607182693677924352 (mv 131080 (-17)) := by
    have := read_val (k := .f64) (x := 4607182693677924352) (s := false) (m := 131080 * 2 ^ 35) (e := -52) (by decide)
    rwa [sg_false, mv_shift, show (-52 : Int) + ((35 : Nat) : Int) = -17 by decide] at this
  obtain ⟨a, a1, a2, a3⟩ := between_val (x := 4607181518080091934) (val_zero .f64) hlow (by decide) (by decide)
  obtain ⟨b, b1, b2, b3⟩ := between_val (x := 4607182869159980145) hhigh val_two64 (by decide) (by decide)
  have g1 : mv 131064 (-17) ≤ mv 131071 (-17) := mv_le.2 (by decide)
  have g2 : mv 131073 (-17) < mv 131080 (-17) := mv_lt.2 (by decide)
  exact ⟨(fgt_val hw a1).2 (by grind), (flt_val hw b1).2 (by grind)⟩
/-! ### the functions -/
def likeM (xs ys : List Nat) : Nat := fdiv .f32 (dotM 0 xs ys) (root32 (fmul .f32 (dotM 0 xs xs) (dotM 0 ys ys)))
def meanM (xs : List Nat) : Nat := root32 (fdiv .f32 (dotM 0 xs xs) (FloatKind.f32.nearest (xs.length : Int)))
def balM (l r : Nat) : Nat := if feq .f32 (fadd .f32 r l) 0 then 0 else fdiv .f32 (fsub .f32 r l) (fadd .f32 r l)
theorem i_sides (n : Nat) (xs ys : List Nat) (h0 : 0 < xs.length) (hl : ys.length = xs.length) (hx : xs.length ≤ 256) : f114_i_areSides (n + 2) xs.length (fls .f32 xs) ys.length (fls .f32 ys) = some true := by
  rw [f114_i_areSides]
  simp only [i_few, bd_s, decide_eq_true (show (xs.length : Int) ≤ 256 by omega), br_t, decide_eq_true (show (xs.length : Int) > 0 by omega), hl, beq_self_eq_true]
theorem i_like (n : Nat) (xs ys : List Nat) (h0 : 0 < xs.length) (hl : ys.length = xs.length) (hx : xs.length ≤ 256) (hn : xs.length < n) : f54_i_LikenessOf (n + 4) xs.length (fls .f32 xs) ys.length (fls .f32 ys) = some (likeM xs ys, true) := by
  rw [f54_i_LikenessOf, i_sides (n + 1) xs ys h0 hl hx]
  simp only [bd_s, br_not, br_t, i_dotted (n + 2) xs ys hl (by omega) (by omega), i_dotted (n + 2) xs xs rfl (by omega) (by omega), i_dotted (n + 2) ys ys rfl (by omega) (by omega), i_root n]
  rfl
theorem i_mean (n : Nat) (xs : List Nat) (h0 : 0 < xs.length) (hx : xs.length ≤ 256) (hn : xs.length < n) : f116_i_RootMean (n + 4) xs.length (fls .f32 xs) = some (meanM xs, true) := by
  rw [f116_i_RootMean]
  simp only [i_few, bd_s, decide_eq_true (show (xs.length : Int) ≤ 256 by omega), br_not, br_t, show (((xs.length : Nat) : Int) == 0) = false from beq_eq_false_iff_ne.2 (by omega), br_f, i_dotted (n + 2) xs xs rfl (by omega) (by omega), i_root n]
  rfl
theorem i_bal (n : Nat) (xs ys : List Nat) (h0 : 0 < xs.length) (hl : ys.length = xs.length) (hx : xs.length ≤ 256) (hn : xs.length < n) : f55_i_BalanceOf (n + 5) xs.length (fls .f32 xs) ys.length (fls .f32 ys) = some (balM (meanM xs) (meanM ys), true) := by
  rw [f55_i_BalanceOf, i_sides (n + 2) xs ys h0 hl hx]
  simp only [bd_s, br_not, br_t, i_mean n xs h0 hx hn, i_mean n ys (by omega) (by omega) (by omega)]
  unfold balM
  cases feq .f32 (fadd .f32 (meanM ys) (meanM xs)) 0
  · rw [br_f, if_neg (by decide)]
  · rw [br_t, if_pos rfl]
theorem w32_bal (l r : Nat) : W32 (balM l r) := by
  unfold balM; split
  · exact w32_zero
  · exact w32_fdiv _ _
theorem mean_val {xs : List Nat} (h : ∀ x ∈ xs, Plain x) (h0 : 0 < xs.length) (hl : xs.length ≤ 10) : ∃ a, Val .f32 (meanM xs) a ∧ 0 ≤ a ∧ a ≤ 1024 := by
  obtain ⟨w, w1, w2, w3, -⟩ := dot_ge xs 0 0 0 h (val_zero .f32) Rat.le_refl Rat.le_refl (by omega)
  have hw : w ≤ 1000 := by
    refine Rat.le_trans w3 ?_
    have : ((0 + 100 * xs.length : Nat) : Rat) ≤ ((1000 : Nat) : Rat) := by exact_mod_cast (show 0 + 100 * xs.length ≤ 1000 by omega)
    exact this
  have hn := int_val (k := .f32) (n := (xs.length : Int)) (by rw [binade32]; omega)
  rw [Rat.intCast_natCast] at hn
  have hn1 : (1 : Rat) ≤ (xs.length : Rat) := by exact_mod_cast h0
  have hb : (1000 : Nat) ≤ 2000 := by decide
  have hB := rep_nat .f32 (le2000 hb)
  have hT := nat_top .f32 (le2000 hb)
  have hM : ((1000 : Nat) : Rat) = 1000 := rfl
  rw [hM] at hB hT
  generalize (xs.length : Rat) = N at hn hn1
  have hN0 : 0 < N := by grind
  have hcan : w / N * N = w := Rat.div_mul_cancel (by grind)
  have q0 : 0 ≤ w / N := by
    refine Rat.not_lt.1 fun h => ?_
    have := (Rat.mul_lt_mul_right hN0).2 h
    grind
  have q1 : w / N ≤ w := by
    refine Rat.not_lt.1 fun h => ?_
    have h5 := (Rat.mul_lt_mul_right hN0).2 h
    have h6 : w * 1 ≤ w * N := Rat.mul_le_mul_of_nonneg_left hn1 w2
    grind
  obtain ⟨R, r1, r2⟩ := div_val w1 hn (by grind) hB hT (by grind) (by grind)
  have r0 := (r2 0 (repZ _)).2 q0
  have r3 := (r2 _ hB.rep).1 (show w / N ≤ 1000 by grind)
  obtain ⟨a, a1, a2, a3, -⟩ := root_near r1 r0 (by grind)
  exact ⟨a, a1, a2, a3⟩
theorem bal_val {l r : Nat} {a b : Rat} (hl : Val .f32 l a) (hr : Val .f32 r b) (a0 : 0 ≤ a) (a1 : a ≤ 1024) (b0 : 0 ≤ b) (b1 : b ≤ 1024) : ∃ q, Val .f32 (balM l r) q ∧ Val .f32 (balM r l) (-q) ∧ -1 ≤ q ∧ q ≤ 1 := by
  have hcomm := fadd_comm hr hl
  have hb : (2048 : Nat) ≤ 2 * FloatKind.f32.format.binade := Nat.le_trans (by decide : 2048 ≤ 16777216) (Nat.le_of_eq binade32.symm)
  have hB := rep_nat .f32 hb
  have hT := nat_top .f32 hb
  have hM : ((2048 : Nat) : Rat) = 2048 := rfl
  rw [hM] at hB hT
  obtain ⟨S, s1, s2⟩ := add_val hr hl hB hT (by grind) (by grind)
  have sb : b ≤ S := (s2 b hr.rep).2 (by grind)
  have sa : a ≤ S := (s2 a hl.rep).2 (by grind)
  unfold balM
  rw [← hcomm]
  by_cases hz : S = 0
  · have : feq .f32 (fadd .f32 r l) 0 = true := (feq_val s1 (val_zero .f32)).2 hz
    rw [this, if_pos rfl, if_pos rfl]
    exact ⟨0, val_zero .f32, by rw [show -(0 : Rat) = 0 by grind]; exact val_zero .f32, by decide, by decide⟩
  · have : feq .f32 (fadd .f32 r l) 0 = false := by
      cases h : feq .f32 (fadd .f32 r l) 0
      · rfl
      · exact absurd ((feq_val s1 (val_zero .f32)).1 h) hz
    rw [this, if_neg (by decide), if_neg (by decide)]
    have hS0 : 0 < S := by grind
    obtain ⟨d, d1, d2⟩ := sub_val hr hl hB hT (by grind) (by grind)
    have repn : ∀ {x : Nat} {v : Rat}, Val .f32 x v → Rep .f32 (-v) := by
      intro x v h
      obtain ⟨s, C, hC, e⟩ := h.rep
      exact ⟨!s, C, hC, by rw [e]; cases s <;> simp [sg]⟩
    have dS : -S ≤ d ∧ d ≤ S := by
      have h1 := (d2 b hr.rep).1 (show b - a ≤ b by grind)
      have h2 := (d2 (-a) (repn hl)).2 (show -a ≤ b - a by grind)
      exact ⟨by grind, by grind⟩
    have hcan : d / S * S = d := Rat.div_mul_cancel (by grind)
    have q1 : d / S ≤ 1 := by
      refine Rat.not_lt.1 fun h => ?_
      have := (Rat.mul_lt_mul_right hS0).2 h
      grind
    have q2 : -1 ≤ d / S := by
      refine Rat.not_lt.1 fun h => ?_
      have := (Rat.mul_lt_mul_right hS0).2 h
      grind
    obtain ⟨q, k1, k2⟩ := div_val d1 s1 hz hB hT (by grind) (by grind)
    refine ⟨q, k1, div_flip d1 (sub_flip hr hl d1) s1 hz k1, (k2 _ (repn val_one32)).2 q2, (k2 1 val_one32.rep).1 q1⟩
theorem bal_self {l : Nat} {a : Rat} (hl : Val .f32 l a) (a0 : 0 ≤ a) (a1 : a ≤ 1024) : Val .f32 (balM l l) 0 := by
  obtain ⟨q, q1, q2, -, -⟩ := bal_val hl hl a0 a1 a0 a1
  have h := q1.inj q2
  have h0 : q = 0 := by grind
  rwa [h0] at q1
theorem exact_ (cs : List Int) (hc : ∀ b ∈ cs, GoodI .u8 b) (lc : cs.length ≤ maxLen) (ms : List Int) (hm : ∀ b ∈ ms, GoodI .u8 b) (lm : ms.length ≤ maxLen) : ∃ n, f10_l_FnChannels n cs.length (its .u8 cs) ms.length (its .u8 ms) = some true := by
  refine ⟨1000, ?_⟩
  suffices h : ∀ n, f10_l_FnChannels (n + 500) cs.length (its .u8 cs) ms.length (its .u8 ms) = some true from h 500
  intro n
  rw [f10_l_FnChannels, l_long]
  cases hlong : decide (48 < cs.length ∨ 48 < ms.length)
  case true => rfl
  obtain ⟨c, hc1, e1⟩ := l_at (n + 498) (bytes_of hc) (i := 40) (k := 10) (by omega) (by omega)
  obtain ⟨c, rfl⟩ := Int.eq_ofNat_of_zero_le hc1.1
  have w1 : IntKind.i64.wrap (1 + (c : Int)) = ((1 + c : Nat) : Int) := by rw [wrap64] <;> omega
  obtain ⟨xs, hxl, hxp, e2⟩ := s_r8plain (n + 494) (bytes_of hc) (1 + c) (by omega) (by omega)
  obtain ⟨ys, hyl, hyp, e3⟩ := s_r8plain (n + 494) (bytes_of hm) (1 + c) (by omega) (by omega)
  have e2 : f44_s_R8Plain (n + 499) cs.length (its .u8 cs) ((1 + c : Nat) : Int) = some (xs.length, fls .f32 xs) := e2
  have e3 : f44_s_R8Plain (n + 499) ms.length (its .u8 ms) ((1 + c : Nat) : Int) = some (ys.length, fls .f32 ys) := e3
  have hlen : ys.length = xs.length := by omega
  have hxw : ∀ x ∈ xs, W32 x := fun x hx => (hxp x hx).w32
  have f1 := i_like (n + 495) xs ys (by omega) hlen (by omega) (by omega)
  have f2 := i_like (n + 495) ys xs (by omega) hlen.symm (by omega) (by omega)
  have f3 := i_like (n + 495) xs xs (by omega) rfl (by omega) (by omega)
  have f4 := i_bal (n + 494) xs ys (by omega) hlen (by omega) (by omega)
  have f5 := i_bal (n + 494) ys xs (by omega) hlen.symm (by omega) (by omega)
  have f6 := i_bal (n + 494) xs xs (by omega) rfl (by omega) (by omega)
  have f7 := i_peakof (n + 495) xs hxw (by omega) (by omega)
  obtain ⟨wx, x1, x2, x3, x4⟩ := dot_ge xs 0 0 0 hxp (val_zero .f32) Rat.le_refl Rat.le_refl (by omega)
  obtain ⟨wy, y1, -, -, -⟩ := dot_ge ys 0 0 0 hyp (val_zero .f32) Rat.le_refl Rat.le_refl (by omega)
  have hlike : likeM ys xs = likeM xs ys := by
    unfold likeM
    rw [dot_swap ys xs 0 hyp hxp, fmul_comm y1 x1]
  rw [hlike] at f2
  obtain ⟨a, a1, a2, a3⟩ := mean_val hxp (by omega) (by omega)
  obtain ⟨b, b1, b2, b3⟩ := mean_val hyp (by omega) (by omega)
  obtain ⟨q, q1, q2, q3, q4⟩ := bal_val a1 b1 a2 a3 b2 b3
  have zself := bal_self a1 a2 a3
  have same : f33_i_SameNumber (n + 499) (likeM xs ys) (likeM xs ys) = some true := by
    have := i_same (n + 497) (w32_fdiv (dotM 0 xs ys) (root32 (fmul .f32 (dotM 0 xs xs) (dotM 0 ys ys)))) (w32_fdiv (dotM 0 xs ys) (root32 (fmul .f32 (dotM 0 xs xs) (dotM 0 ys ys))))
    simpa [likeM] using this
  have nef : ∀ {x y : Nat} {v : Rat}, Val .f32 x v → Val .f32 y v → fne .f32 x y = false := by
    intro x y v hx hy
    have h := (feq_val hx hy).2 rfl
    have e : fne .f32 x y = !(feq .f32 x y) := rfl
    rw [e, h]; rfl
  have n1 : fne .f32 (balM (meanM xs) (meanM ys)) (negF .f32 (balM (meanM ys) (meanM xs))) = false := by
    have := neg_val (w32_bal _ _) q2
    rw [show - -q = q by grind] at this
    exact nef q1 this
  have n2 : fne .f32 (balM (meanM xs) (meanM xs)) 0 = false := nef zself (val_zero .f32)
  have n3 : flt .f32 (balM (meanM xs) (meanM ys)) 3212836864 = false := by
    cases h : flt .f32 (balM (meanM xs) (meanM ys)) 3212836864
    · rfl
    · have := (flt_val q1 val_neg_one32).1 h; grind
  have n4 : fgt .f32 (balM (meanM xs) (meanM ys)) 1065353216 = false := by
    cases h : fgt .f32 (balM (meanM xs) (meanM ys)) 1065353216
    · rfl
    · have := (fgt_val q1 val_one32).1 h; grind
  simp only [br_f, bd_s, e1, w1, e2, e3, f1, f2, f3, f4, f5, f6, f7, br_not, br_t, same, n1, n2, n3, n4, fltToFlt_wide]
  cases hp : feq .f32 (peakM 0 xs) 0
  case true => rfl
  rw [br_f]
  obtain ⟨-, -, -, pf4⟩ := peak_facts xs 0 w32_zero (by decide) (by decide) hxw
  have hnz : ∃ x ∈ xs, fval .f32 x ≠ 0 := by
    rcases pf4 with h | ⟨x, hx, -, h⟩
    · rw [h] at hp; exact absurd hp (by decide)
    · refine ⟨x, hx, fun h0 => ?_⟩
      obtain ⟨v, v1, -, -, -, v5⟩ := (hxp x hx).val
      have hv : v = 0 := by rcases v5 with e | e <;> grind
      rw [hv] at v1
      rw [h] at hp
      have := (feq_val v1 (val_zero .f32)).2 rfl
      rw [this] at hp; exact absurd hp (by decide)
  obtain ⟨x, hx, hx0⟩ := hnz
  have hw : wx ≤ 1000 := by
    refine Rat.le_trans x3 ?_
    have : ((0 + 100 * xs.length : Nat) : Rat) ≤ ((1000 : Nat) : Rat) := by exact_mod_cast (show 0 + 100 * xs.length ≤ 1000 by omega)
    exact this
  obtain ⟨cv, c1, c2, c3⟩ := nearly_one x1 (x4 x hx hx0) hw
  obtain ⟨t1, t2⟩ := told_one c1 c2 c3
  have t1 : fgt .f64 (wide (likeM xs xs)) 4607181518080091934 = true := t1
  have t2 : flt .f64 (wide (likeM xs xs)) 4607182869159980145 = true := t2
  rw [t1, br_t, t2]
theorem law10 : ∀ args, LawArgs E Try.f10.params.toList args → ∃ N os, evalFn E N 10 args = some ⟨[⟨false, [.leaf], [.bool true]⟩], os⟩ := by
  intro args h0
  have hp : Try.f10.params.toList = [22, 22] := by kernel_rfl
  rw [hp] at h0
  obtain ⟨ts0, r0, rfl, hw0, h1⟩ := h0.cons_inv (d := ⟨false, 1, 24, [.sl .own [.leaf]], [.lst 0 []], .slc 5⟩) (by kernel_rfl)
  obtain ⟨n0, cs0, rfl, gl0, hs0⟩ := hw0.slc_inv (e := 5) (d := ⟨false, 1, 24, [.sl .own [.leaf]], [.lst 0 []], .slc 5⟩) (by kernel_rfl) rfl
  obtain ⟨a0, rfl, rfl, g0⟩ := hs0.ints (k := .u8) (d := ⟨false, 1, 1, [.leaf], [.int .u8 0], .int .u8⟩) (by kernel_rfl) rfl
  obtain ⟨ts1, r1, rfl, hw1, h2⟩ := h1.cons_inv (d := ⟨false, 1, 24, [.sl .own [.leaf]], [.lst 0 []], .slc 5⟩) (by kernel_rfl)
  obtain ⟨n1, cs1, rfl, gl1, hs1⟩ := hw1.slc_inv (e := 5) (d := ⟨false, 1, 24, [.sl .own [.leaf]], [.lst 0 []], .slc 5⟩) (by kernel_rfl) rfl
  obtain ⟨a1, rfl, rfl, g1⟩ := hs1.ints (k := .u8) (d := ⟨false, 1, 1, [.leaf], [.int .u8 0], .int .u8⟩) (by kernel_rfl) rfl
  obtain rfl := h2.nil_inv
  obtain ⟨N, hN⟩ := exact_ a0 g0 gl0 a1 g1 gl1
  exact ⟨N, _, f10_l_FnChannels.ok N (a0.length, its .u8 a0, a1.length, its .u8 a1) true hN⟩


end Go.Proofs.Ytdejjalkfekjiaa.D
end
section
/- FnChannels holds: for every input the law returns true, and its arguments read as before. -/
namespace Go.Proofs.Ytdejjalkfekjiaa.fnChannels
open Go Go.ChangeShapes Go.WideShapes Go.ChangeAt Go.RowKit Go.Desk
set_option linter.unusedVariables false
theorem own : ownKnob Try.prog.godebug = none := by kernel_rfl
theorem laidOut : laidOutB Try.prog = true := by kernel_rfl
set_option maxRecDepth 100000 in
theorem lifted (os : Os) (started : os.Started) (H : Type) (enc : TypeId × Value → H) :
    ReturnsInHanded {} Try.checked os 10 .any (Rows.fnChannelsSpec.pre6 enc Try.prog Try.f10 Rows.fnChannelsRow.domain false) (Rows.fnChannelsSpec.post enc Try.prog Try.f10 false true false false) := by
  refine returnsInHanded_of_change (C := Try.checked) own started (by kernel_rfl) Try.func10
    (ChangeSpec.witness6 (enc := enc) (C := Try.checked) false ⟨#[], #[.slice none 0 0, .slice none 0 0], []⟩ 8 (by kernel_rfl) (by kernel_rfl) (by kernel_rfl) (by kernel_rfl)) ?_
  intro W base args ds gs before hval hW hcnd _
  exact law_contract (c := D.c10) Try.checked.mixed D.tysOk D.fnOk Try.func10 (by kernel_rfl) (by kernel_rfl) (by kernel_rfl) Try.underlying4 rfl
    (fun ds h => by
      rw [show Try.f10.params.toList.length = 2 by kernel_rfl] at h
      match ds, h with
      | [_, _], _ => rfl)
    laidOut (N := 8) (by kernel_rfl) (by kernel_rfl) D.law10 hval hW
theorem over : Rows.fnChannelsRow.holds Try.pinned (OpenSpec.ofChange Rows.fnChannelsSpec) :=
  OpenClaim.holds_of_wide 10 Try.f10 rfl rfl rfl rfl rfl rfl rfl ⟨rfl, rfl, rfl, rfl, rfl⟩ rfl rfl rfl rfl rfl (by kernel_rfl) Try.func10 (by kernel_rfl)
    (of_decide_eq_true (by kernel_rfl)) (by unfold Func.isWrapper; first | (rw [if_pos (by decide +kernel)]; kernel_rfl) | (rw [if_neg (by decide +kernel)]; exact ⟨rfl, rfl⟩))
    (fun os started H enc _ => lifted os started H enc)
theorem proved : Rows.FnChannelsSaid := over
#print axioms proved
end Go.Proofs.Ytdejjalkfekjiaa.fnChannels
namespace Go.Proofs.Ytdejjalkfekjiaa
/-- The row, under a short name, for the claim. -/
theorem fnChannels_holds : Rows.FnChannelsSaid := fnChannels.proved
end Go.Proofs.Ytdejjalkfekjiaa
end
