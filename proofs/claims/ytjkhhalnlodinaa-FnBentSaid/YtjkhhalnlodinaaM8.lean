/- FnBent holds: for every input the law returns true, and its arguments read as before. -/
import Derived.Test.YtjkhhalnlodinaaChecked
import Derived.Test.YtjkhhalnlodinaaDeskF
import Derived.KernelRfl
import Derived.Test.YtjkhhalnlodinaaRows
import Derived.WalkKit
import Derived.ProofKit
import Derived.OpenShut
import Derived.ShutString
import Derived.ChangeOld
import Derived.Below
import Derived.SizedLaws
set_option linter.all false
section
/- What math.Abs owes: tables of its own, and the reading of its code. -/
namespace Go.Proofs.Ytjkhhalnlodinaa.DA
open Go Go.Desk
def bodyOf (f : Func) : Code := match f.body with
  | some c => c
  | none => .skip
def tyTab : List (Nat × TD) := [
  (34, ⟨false, 1, 8, [.leaf], [.flt .f64 0], .flt .f64⟩),
  (174, ⟨false, 1, 8, [.leaf], [.int .u64 0], .int .u64⟩)]
noncomputable def c179 : Code := bodyOf Try.f179
noncomputable def fnTab : List (Nat × FD) := [
  (178, .ext (pF64frombits)),
  (179, .code c179 [.val] [] [(2, none)] [(0, [0]), (1, [0])]),
  (189, .ext (pF64bits))]
noncomputable def E : Env := ⟨fun t => lookT tyTab t, lookF fnTab⟩
noncomputable def fdAt (n : Nat) : FD := match lookF fnTab n with
  | some d => d
  | none => .ext fun _ => none
noncomputable def keepAt (n : Nat) : List (Nat × List Nat) := match lookF fnTab n with
  | some d => d.keep
  | none => []
theorem tysOk : TysOk Try.prog E := tysOk_of (l := tyTab) (fun _ => rfl) (by kernel_rfl)
theorem ft178 : FnTab Try.prog E 178 (.ext (pF64frombits)) := ext_pF64frombits Try.func178 (by kernel_rfl) (by kernel_rfl) (by kernel_rfl) (by kernel_rfl)
theorem ft179 : FnTab Try.prog E 179 (fdAt 179) := fnTab_code (c := c179) (modes := (fdAt 179).ms) (outs := (fdAt 179).os) (results := (fdAt 179).rs) (keep := (fdAt 179).keep) Try.func179 (by kernel_rfl) (by kernel_rfl) (by kernel_rfl)
theorem ft189 : FnTab Try.prog E 189 (.ext (pF64bits)) := ext_pF64bits Try.func189 (by kernel_rfl) (by kernel_rfl) (by kernel_rfl) (by kernel_rfl)
theorem allFns : AllFns Try.prog E fnTab := .cons ft178 (.cons ft179 (.cons ft189 (.nil)))
theorem fnOk : ∀ f fd, E.fn f = some fd → FnTab Try.prog E f fd := fnTab_of (l := fnTab) (fun _ => rfl) allFns
end Go.Proofs.Ytjkhhalnlodinaa.DA
section
namespace Go.Proofs.Ytjkhhalnlodinaa.DA
open Go Go.Desk
set_option linter.unusedVariables false
noncomputable def x178.w : FnW E := xF64frombits.w 178 (by kernel_rfl)

noncomputable def x189.w : FnW E := xF64bits.w 189 (by kernel_rfl)

def f179_mathAbs : Nat → Nat → Option (Nat)
  | 0, _ => none
  | n + 1, x1 =>
    bd (xF64bits n x1) fun r2 =>
    let i3 : Int := r2
    bd (xF64frombits n (intBits BinOp.andNot IntKind.u64 i3 (9223372036854775808 : Int))) fun r4 =>
    let x5 : Nat := r4
    some x5
def sg_f : Sig (Nat) where
  pk := fun v => [.flt v]
  up := fun ls => match ls with
    | [.flt a0] => some a0
    | _ => none
  ok := by
    intro ls v h
    split at h
    · cases h; rfl
    · cases h

def f179_mathAbs.P : List Arg := [⟨.val, ⟨false, [.leaf], [.flt .f64 0]⟩⟩]
def f179_mathAbs.A : RAlt (Nat) := .one ⟨[⟨false, [.leaf], [.flt .f64 0]⟩], [none]⟩ sg_f
def f179_mathAbs.F (n : Nat) (v : Nat) := f179_mathAbs n v
noncomputable def f179_mathAbs.O (n : Nat) : Orc := orcOf (E := E) [x178.w, x189.w] [] n
theorem f179_mathAbs.ok : ∀ n v x, f179_mathAbs.F n v = some x → evalFn E n 179 (flAs f179_mathAbs.P (sg_f.pk v)) = some (f179_mathAbs.A.enc x) :=
  fn_pure (modes := (fdAt 179).ms) (outs := (fdAt 179).os) (results := (fdAt 179).rs) f179_mathAbs.O (c := c179) (keep := keepAt 179) (by kernel_rfl) (fun n => orcOf_cf _ _ n) (fun n => lpOk_of (bs := []) (by kernel_rfl) .nil) (fun _ => rfl) (fun _ _ => by kernel_rfl)
noncomputable def f179_mathAbs.w : FnW E := fnW 179 f179_mathAbs.P sg_f f179_mathAbs.A f179_mathAbs.F f179_mathAbs.ok
end Go.Proofs.Ytjkhhalnlodinaa.DA
end
namespace Go.Proofs.Ytjkhhalnlodinaa.DA
open Go Go.Desk
theorem absOk : ExtOk Try.prog 179 pAbs := ext_pAbs_of Try.checked.mixed tysOk fnOk
  (fun x hN hx => ⟨3, f179_mathAbs.ok 3 x _ (abs_plain 1 hN)⟩)
  ⟨5, by kernel_rfl⟩
end Go.Proofs.Ytjkhhalnlodinaa.DA
end
section
/- The tables of the reading: types and functions of the translation, with what is kept at each region's beginning (written by a program of this workplace). -/
namespace Go.Proofs.Ytjkhhalnlodinaa.D
open Go Go.Desk
def bodyOf (f : Func) : Code := match f.body with
  | some c => c
  | none => .skip
def tyTab : List (Nat × TD) := [
  (2, ⟨false, 1, 8, [.leaf], [.int .i64 0], .int .i64⟩),
  (3, ⟨false, 1, 8, [.leaf], [.int .i64 0], .int .i64⟩),
  (4, ⟨false, 1, 1, [.leaf], [.bool false], .bool⟩),
  (5, ⟨false, 1, 1, [.leaf], [.int .u8 0], .int .u8⟩),
  (22, ⟨false, 1, 24, [.sl .own [.leaf]], [.lst 0 []], .slc 5⟩),
  (24, ⟨false, 1, 24, [.sl .own [.leaf]], [.lst 0 []], .slc 29⟩),
  (29, ⟨false, 1, 4, [.leaf], [.flt .f32 0], .flt .f32⟩),
  (34, ⟨false, 1, 8, [.leaf], [.flt .f64 0], .flt .f64⟩),
  (35, ⟨false, 1, 8, [.leaf], [.int .u64 0], .int .u64⟩),
  (36, ⟨false, 1, 24, [.sl .own [.leaf]], [.lst 0 []], .slc 2⟩),
  (120, ⟨false, 1, 8, [.leaf], [.nil], .ptr 176⟩),
  (128, ⟨false, 1, 4, [.leaf], [.int .u32 0], .int .u32⟩),
  (174, ⟨false, 1, 8, [.leaf], [.int .u64 0], .int .u64⟩),
  (176, ⟨true, 3, 40, [.sl .own [.leaf], .leaf, .leaf], [.lst 0 [], .int .i64 0, .int .u64 0], .st [(0, 22), (1, 3), (2, 174)]⟩)]
noncomputable def c8 : Code := bodyOf Try.f8
noncomputable def c15 : Code := bodyOf Try.f15
noncomputable def c16 : Code := bodyOf Try.f16
noncomputable def c17 : Code := bodyOf Try.f17
noncomputable def c22 : Code := bodyOf Try.f22
noncomputable def c46 : Code := bodyOf Try.f46
noncomputable def c47 : Code := bodyOf Try.f47
noncomputable def c48 : Code := bodyOf Try.f48
noncomputable def c49 : Code := bodyOf Try.f49
noncomputable def c75 : Code := bodyOf Try.f75
noncomputable def c90 : Code := bodyOf Try.f90
noncomputable def c91 : Code := bodyOf Try.f91
noncomputable def c92 : Code := bodyOf Try.f92
noncomputable def c94 : Code := bodyOf Try.f94
noncomputable def c97 : Code := bodyOf Try.f97
noncomputable def c98 : Code := bodyOf Try.f98
noncomputable def c110 : Code := bodyOf Try.f110
noncomputable def c112 : Code := bodyOf Try.f112
noncomputable def c151 : Code := bodyOf Try.f151
noncomputable def c158 : Code := bodyOf Try.f158
noncomputable def c163 : Code := bodyOf Try.f163
noncomputable def c166 : Code := bodyOf Try.f166
noncomputable def c167 : Code := bodyOf Try.f167
noncomputable def c168 : Code := bodyOf Try.f168
noncomputable def fnTab : List (Nat × FD) := [
  (8, .code c8 [.val, .val] [] [(4, none)] [(0, [0, 1]), (1, [0, 1]), (2, []), (3, [0, 1]), (4, [0, 1, 5]), (5, [0, 1, 5, 6]), (6, [0, 1, 5, 6]), (7, [0, 1, 5, 6]), (8, [0, 1, 5, 6, 7]), (9, [0, 1, 5, 6, 7, 8]), (10, []), (11, [0, 1]), (12, [0, 1, 9]), (13, []), (14, [0, 1]), (15, [0, 10]), (16, [0, 10, 11, 12]), (17, [0, 10, 11, 12, 13, 14]), (18, [10, 11, 12, 13, 14, 15]), (19, [10, 11, 12, 13, 14, 15, 16, 17]), (20, []), (21, [10, 11, 13, 15, 16]), (22, [10, 11, 15, 16, 18]), (23, [10, 11, 15, 16, 18, 19]), (24, [10, 11, 15, 16, 18, 19]), (25, [10, 11, 15, 16, 18, 19]), (26, []), (27, [10, 11, 15, 16, 18, 19]), (28, [11, 18]), (1000005, [0, 1, 4]), (1000023, [4, 11, 18])]),
  (15, .code c15 [.val, .val] [] [(4, none)] [(0, [0, 1]), (1, [0, 1])]),
  (16, .code c16 [.val, .val] [] [(4, none)] [(0, [0, 1]), (1, [0, 1]), (2, [1, 5]), (3, [1, 5, 6]), (4, [1, 5, 6, 7]), (5, [1, 5, 6, 7]), (6, [1, 5, 6, 7]), (7, [6]), (1000004, [6])]),
  (17, .code c17 [.val, .val, .val] [] [(6, none)] [(0, [0, 1, 2]), (1, [0, 1, 2]), (2, []), (3, [0, 1, 2])]),
  (22, .code c22 [.val, .val] [] [(4, none)] [(0, [0, 1]), (1, [0, 1]), (2, [1, 5]), (3, [5, 6])]),
  (46, .code c46 [.val] [] [(2, none)] [(0, [0]), (1, [0]), (2, []), (3, [0]), (4, []), (5, [0])]),
  (47, .code c47 [.val] [] [(2, none), (3, none)] [(0, [0]), (1, [0]), (2, []), (3, [0])]),
  (48, .code c48 [.val] [] [(2, none), (3, none)] [(0, [0]), (1, [0]), (2, []), (3, [0])]),
  (49, .code c49 [.val, .val, .val] [] [(6, none), (7, none)] [(0, [0, 1, 2]), (1, [0, 1, 2]), (2, []), (3, [0, 1, 2]), (4, [0, 1, 2, 8]), (5, [0, 1, 2, 8, 15, 16, 17]), (6, [0, 1, 2, 8, 15, 16, 17]), (7, [0, 1, 2, 8, 9, 10, 15, 16, 17]), (8, [0, 1, 2, 8, 10, 11, 15, 16, 17]), (9, [0, 1, 2, 8, 15, 16, 17]), (10, [8]), (1000005, [8])]),
  (75, .code c75 [.val] [] [(2, none)] [(0, [0]), (1, [0])]),
  (90, .code c90 [.val] [] [(2, none)] [(0, [0]), (1, [0])]),
  (91, .code c91 [.iop] [0] [(2, none)] [(0, [0]), (1, [0]), (2, [0, 3]), (3, [0, 3]), (4, [0, 3])]),
  (92, .code c92 [.val] [] [(2, none)] [(0, [0]), (1, [0])]),
  (94, .code c94 [.val, .val] [] [(4, none)] [(0, [0, 1]), (1, [0, 1]), (2, [0, 1, 5]), (3, [0, 1, 5, 8, 9]), (4, [0, 1, 5, 8, 9]), (5, [0, 1, 5, 6, 8, 9]), (6, [0, 1, 5, 8, 9]), (7, [5]), (1000003, [5])]),
  (97, .code c97 [.iop, .val] [0] [(4, none)] [(0, [0, 1]), (1, [0, 1]), (2, [0]), (3, [0, 1]), (4, [0, 1, 5]), (5, [0, 1, 5]), (6, [0, 1, 5])]),
  (98, .code c98 [.iop, .val] [0] [(4, none)] [(0, [0, 1]), (1, [0, 1]), (2, [0, 1, 5]), (3, [0, 1, 5, 6]), (4, [0, 1, 5, 6]), (5, [0, 1, 5, 6]), (6, [0, 1, 5, 6]), (7, [0, 1, 5, 6]), (8, [0, 5]), (1000003, [0, 5])]),
  (110, .code c110 [.val] [] [(2, none)] [(0, [0]), (1, [0]), (2, [0, 3]), (3, [0, 3, 7, 8, 9]), (4, [0, 3, 7, 8, 9]), (5, [0, 3, 5, 7, 8, 9]), (6, [0, 3, 6, 7, 8, 9]), (7, [0, 6, 7, 8, 9]), (8, [0, 3, 7, 8, 9]), (9, [3]), (1000003, [3])]),
  (112, .code c112 [.iop] [0] [(2, none)] [(0, [0]), (1, [0]), (2, [0]), (3, [0]), (4, [0, 10]), (5, [0]), (6, [0, 10]), (7, [0]), (8, [0, 3]), (9, [0, 10]), (10, [0]), (11, [0])]),
  (151, .code c151 [.val] [] [(2, none)] [(0, [0]), (1, [0])]),
  (158, .code c158 [.iop, .val] [0] [(4, none)] [(0, [0, 1]), (1, [0, 1])]),
  (163, .code c163 [.iop] [0] [(2, none)] [(0, [0]), (1, [0]), (2, [0, 3]), (3, [0]), (4, [0, 3]), (5, [0, 3]), (6, [0, 3]), (7, [0, 3]), (8, [0])]),
  (166, .code c166 [.val] [] [(2, none)] [(0, [0]), (1, [0])]),
  (167, .code c167 [.val] [] [(2, none)] [(0, [0]), (1, [0])]),
  (168, .code c168 [.iop, .io] [0, 1] [(4, none)] [(0, [0, 1]), (1, [0, 1])]),
  (179, .ext (pAbs)),
  (181, .ext (pSqrt)),
  (183, .ext (pF32frombits))]
noncomputable def E : Env := ⟨fun t => lookT tyTab t, lookF fnTab⟩
noncomputable def fdAt (n : Nat) : FD := match lookF fnTab n with
  | some d => d
  | none => .ext fun _ => none
noncomputable def keepAt (n : Nat) : List (Nat × List Nat) := match lookF fnTab n with
  | some d => d.keep
  | none => []
theorem tysOk : TysOk Try.prog E := tysOk_of (l := tyTab) (fun _ => rfl) (by kernel_rfl)
theorem ft8 : FnTab Try.prog E 8 (fdAt 8) := fnTab_code (c := c8) (modes := (fdAt 8).ms) (outs := (fdAt 8).os) (results := (fdAt 8).rs) (keep := (fdAt 8).keep) Try.func8 (by kernel_rfl) (by kernel_rfl) (by kernel_rfl)
theorem ft15 : FnTab Try.prog E 15 (fdAt 15) := fnTab_code (c := c15) (modes := (fdAt 15).ms) (outs := (fdAt 15).os) (results := (fdAt 15).rs) (keep := (fdAt 15).keep) Try.func15 (by kernel_rfl) (by kernel_rfl) (by kernel_rfl)
theorem ft16 : FnTab Try.prog E 16 (fdAt 16) := fnTab_code (c := c16) (modes := (fdAt 16).ms) (outs := (fdAt 16).os) (results := (fdAt 16).rs) (keep := (fdAt 16).keep) Try.func16 (by kernel_rfl) (by kernel_rfl) (by kernel_rfl)
theorem ft17 : FnTab Try.prog E 17 (fdAt 17) := fnTab_code (c := c17) (modes := (fdAt 17).ms) (outs := (fdAt 17).os) (results := (fdAt 17).rs) (keep := (fdAt 17).keep) Try.func17 (by kernel_rfl) (by kernel_rfl) (by kernel_rfl)
theorem ft22 : FnTab Try.prog E 22 (fdAt 22) := fnTab_code (c := c22) (modes := (fdAt 22).ms) (outs := (fdAt 22).os) (results := (fdAt 22).rs) (keep := (fdAt 22).keep) Try.func22 (by kernel_rfl) (by kernel_rfl) (by kernel_rfl)
theorem ft46 : FnTab Try.prog E 46 (fdAt 46) := fnTab_code (c := c46) (modes := (fdAt 46).ms) (outs := (fdAt 46).os) (results := (fdAt 46).rs) (keep := (fdAt 46).keep) Try.func46 (by kernel_rfl) (by kernel_rfl) (by kernel_rfl)
theorem ft47 : FnTab Try.prog E 47 (fdAt 47) := fnTab_code (c := c47) (modes := (fdAt 47).ms) (outs := (fdAt 47).os) (results := (fdAt 47).rs) (keep := (fdAt 47).keep) Try.func47 (by kernel_rfl) (by kernel_rfl) (by kernel_rfl)
theorem ft48 : FnTab Try.prog E 48 (fdAt 48) := fnTab_code (c := c48) (modes := (fdAt 48).ms) (outs := (fdAt 48).os) (results := (fdAt 48).rs) (keep := (fdAt 48).keep) Try.func48 (by kernel_rfl) (by kernel_rfl) (by kernel_rfl)
theorem ft49 : FnTab Try.prog E 49 (fdAt 49) := fnTab_code (c := c49) (modes := (fdAt 49).ms) (outs := (fdAt 49).os) (results := (fdAt 49).rs) (keep := (fdAt 49).keep) Try.func49 (by kernel_rfl) (by kernel_rfl) (by kernel_rfl)
theorem ft75 : FnTab Try.prog E 75 (fdAt 75) := fnTab_code (c := c75) (modes := (fdAt 75).ms) (outs := (fdAt 75).os) (results := (fdAt 75).rs) (keep := (fdAt 75).keep) Try.func75 (by kernel_rfl) (by kernel_rfl) (by kernel_rfl)
theorem ft90 : FnTab Try.prog E 90 (fdAt 90) := fnTab_code (c := c90) (modes := (fdAt 90).ms) (outs := (fdAt 90).os) (results := (fdAt 90).rs) (keep := (fdAt 90).keep) Try.func90 (by kernel_rfl) (by kernel_rfl) (by kernel_rfl)
theorem ft91 : FnTab Try.prog E 91 (fdAt 91) := fnTab_code (c := c91) (modes := (fdAt 91).ms) (outs := (fdAt 91).os) (results := (fdAt 91).rs) (keep := (fdAt 91).keep) Try.func91 (by kernel_rfl) (by kernel_rfl) (by kernel_rfl)
theorem ft92 : FnTab Try.prog E 92 (fdAt 92) := fnTab_code (c := c92) (modes := (fdAt 92).ms) (outs := (fdAt 92).os) (results := (fdAt 92).rs) (keep := (fdAt 92).keep) Try.func92 (by kernel_rfl) (by kernel_rfl) (by kernel_rfl)
theorem ft94 : FnTab Try.prog E 94 (fdAt 94) := fnTab_code (c := c94) (modes := (fdAt 94).ms) (outs := (fdAt 94).os) (results := (fdAt 94).rs) (keep := (fdAt 94).keep) Try.func94 (by kernel_rfl) (by kernel_rfl) (by kernel_rfl)
theorem ft97 : FnTab Try.prog E 97 (fdAt 97) := fnTab_code (c := c97) (modes := (fdAt 97).ms) (outs := (fdAt 97).os) (results := (fdAt 97).rs) (keep := (fdAt 97).keep) Try.func97 (by kernel_rfl) (by kernel_rfl) (by kernel_rfl)
theorem ft98 : FnTab Try.prog E 98 (fdAt 98) := fnTab_code (c := c98) (modes := (fdAt 98).ms) (outs := (fdAt 98).os) (results := (fdAt 98).rs) (keep := (fdAt 98).keep) Try.func98 (by kernel_rfl) (by kernel_rfl) (by kernel_rfl)
theorem ft110 : FnTab Try.prog E 110 (fdAt 110) := fnTab_code (c := c110) (modes := (fdAt 110).ms) (outs := (fdAt 110).os) (results := (fdAt 110).rs) (keep := (fdAt 110).keep) Try.func110 (by kernel_rfl) (by kernel_rfl) (by kernel_rfl)
theorem ft112 : FnTab Try.prog E 112 (fdAt 112) := fnTab_code (c := c112) (modes := (fdAt 112).ms) (outs := (fdAt 112).os) (results := (fdAt 112).rs) (keep := (fdAt 112).keep) Try.func112 (by kernel_rfl) (by kernel_rfl) (by kernel_rfl)
theorem ft151 : FnTab Try.prog E 151 (fdAt 151) := fnTab_code (c := c151) (modes := (fdAt 151).ms) (outs := (fdAt 151).os) (results := (fdAt 151).rs) (keep := (fdAt 151).keep) Try.func151 (by kernel_rfl) (by kernel_rfl) (by kernel_rfl)
theorem ft158 : FnTab Try.prog E 158 (fdAt 158) := fnTab_code (c := c158) (modes := (fdAt 158).ms) (outs := (fdAt 158).os) (results := (fdAt 158).rs) (keep := (fdAt 158).keep) Try.func158 (by kernel_rfl) (by kernel_rfl) (by kernel_rfl)
theorem ft163 : FnTab Try.prog E 163 (fdAt 163) := fnTab_code (c := c163) (modes := (fdAt 163).ms) (outs := (fdAt 163).os) (results := (fdAt 163).rs) (keep := (fdAt 163).keep) Try.func163 (by kernel_rfl) (by kernel_rfl) (by kernel_rfl)
theorem ft166 : FnTab Try.prog E 166 (fdAt 166) := fnTab_code (c := c166) (modes := (fdAt 166).ms) (outs := (fdAt 166).os) (results := (fdAt 166).rs) (keep := (fdAt 166).keep) Try.func166 (by kernel_rfl) (by kernel_rfl) (by kernel_rfl)
theorem ft167 : FnTab Try.prog E 167 (fdAt 167) := fnTab_code (c := c167) (modes := (fdAt 167).ms) (outs := (fdAt 167).os) (results := (fdAt 167).rs) (keep := (fdAt 167).keep) Try.func167 (by kernel_rfl) (by kernel_rfl) (by kernel_rfl)
theorem ft168 : FnTab Try.prog E 168 (fdAt 168) := fnTab_code (c := c168) (modes := (fdAt 168).ms) (outs := (fdAt 168).os) (results := (fdAt 168).rs) (keep := (fdAt 168).keep) Try.func168 (by kernel_rfl) (by kernel_rfl) (by kernel_rfl)
theorem ft179 : FnTab Try.prog E 179 (.ext (pAbs)) := DA.absOk
theorem ft181 : FnTab Try.prog E 181 (.ext (pSqrt)) := ext_pSqrt Try.func181 (by kernel_rfl) (by kernel_rfl) (by kernel_rfl) (by kernel_rfl)
theorem ft183 : FnTab Try.prog E 183 (.ext (pF32frombits)) := ext_pF32frombits Try.func183 (by kernel_rfl) (by kernel_rfl) (by kernel_rfl) (by kernel_rfl)
theorem allFns : AllFns Try.prog E fnTab := .cons ft8 (.cons ft15 (.cons ft16 (.cons ft17 (.cons ft22 (.cons ft46 (.cons ft47 (.cons ft48 (.cons ft49 (.cons ft75 (.cons ft90 (.cons ft91 (.cons ft92 (.cons ft94 (.cons ft97 (.cons ft98 (.cons ft110 (.cons ft112 (.cons ft151 (.cons ft158 (.cons ft163 (.cons ft166 (.cons ft167 (.cons ft168 (.cons ft179 (.cons ft181 (.cons ft183 (.nil)))))))))))))))))))))))))))
theorem fnOk : ∀ f fd, E.fn f = some fd → FnTab Try.prog E f fd := fnTab_of (l := fnTab) (fun _ => rfl) allFns
end Go.Proofs.Ytjkhhalnlodinaa.D
end
section
/- Plain functions for the law's Go functions, each tied to the reading by the kernel (printed by a program of this workplace). -/
namespace Go.Proofs.Ytjkhhalnlodinaa.D
open Go Go.Desk
set_option linter.unusedVariables false
noncomputable def x183.w : FnW E := xF32frombits.w 183 (by kernel_rfl)

noncomputable def x181.w : FnW E := xSqrt.w 181 (by kernel_rfl)

noncomputable def x179.w : FnW E := xAbs.w 179 (by kernel_rfl)

def f15_l_r8Long : Nat → Nat → List T → Nat → List T → Option (Bool)
  | 0, _, _, _, _ => none
  | n + 1, n1, l2, n3, l4 =>
    br (decide (((n1 : Nat) : Int) > (48 : Int))) (
     some true) (
     some (decide (((n3 : Nat) : Int) > (48 : Int))))
def sg_ll : Sig (Nat × List T × Nat × List T) where
  pk := fun v => [.lst v.1 v.2.1, .lst v.2.2.1 v.2.2.2]
  up := fun ls => match ls with
    | [.lst a0 a1, .lst a2 a3] => some (a0, a1, a2, a3)
    | _ => none
  ok := by
    intro ls v h
    split at h
    · cases h; rfl
    · cases h

def sg_b : Sig (Bool) where
  pk := fun v => [.bool v]
  up := fun ls => match ls with
    | [.bool a0] => some a0
    | _ => none
  ok := by
    intro ls v h
    split at h
    · cases h; rfl
    · cases h

def f15_l_r8Long.P : List Arg := [⟨.val, ⟨false, [.sl .shr [.leaf]], [.lst 0 []]⟩⟩, ⟨.val, ⟨false, [.sl .shr [.leaf]], [.lst 0 []]⟩⟩]
def f15_l_r8Long.A : RAlt (Bool) := .one ⟨[⟨false, [.leaf], [.bool false]⟩], [none, none]⟩ sg_b
def f15_l_r8Long.F (n : Nat) (v : Nat × List T × Nat × List T) := f15_l_r8Long n v.1 v.2.1 v.2.2.1 v.2.2.2
noncomputable def f15_l_r8Long.O (n : Nat) : Orc := orcOf (E := E) [] [] n
theorem f15_l_r8Long.ok : ∀ n v x, f15_l_r8Long.F n v = some x → evalFn E n 15 (flAs f15_l_r8Long.P (sg_ll.pk v)) = some (f15_l_r8Long.A.enc x) :=
  fn_pure (modes := (fdAt 15).ms) (outs := (fdAt 15).os) (results := (fdAt 15).rs) f15_l_r8Long.O (c := c15) (keep := keepAt 15) (by kernel_rfl) (fun n => orcOf_cf _ _ n) (fun n => lpOk_of (bs := []) (by kernel_rfl) .nil) (fun _ => rfl) (fun _ _ => by kernel_rfl)
noncomputable def f15_l_r8Long.w : FnW E := fnW 15 f15_l_r8Long.P sg_ll f15_l_r8Long.A f15_l_r8Long.F f15_l_r8Long.ok

def f90_s_l00From : Nat → Nat → List T → Option (Nat × List T × Int × Int)
  | 0, _, _ => none
  | n + 1, n1, l2 =>
    some (n1, l2, (0 : Int), (0 : Int))
def sg_l : Sig (Nat × List T) where
  pk := fun v => [.lst v.1 v.2]
  up := fun ls => match ls with
    | [.lst a0 a1] => some (a0, a1)
    | _ => none
  ok := by
    intro ls v h
    split at h
    · cases h; rfl
    · cases h

def sg_lii : Sig (Nat × List T × Int × Int) where
  pk := fun v => [.lst v.1 v.2.1, .int v.2.2.1, .int v.2.2.2]
  up := fun ls => match ls with
    | [.lst a0 a1, .int a2, .int a3] => some (a0, a1, a2, a3)
    | _ => none
  ok := by
    intro ls v h
    split at h
    · cases h; rfl
    · cases h

def f90_s_l00From.P : List Arg := [⟨.val, ⟨false, [.sl .shr [.leaf]], [.lst 0 []]⟩⟩]
def f90_s_l00From.A : RAlt (Nat × List T × Int × Int) := .one ⟨[⟨false, [.rf .own [.sl .shr [.leaf], .leaf, .leaf]], [.ref [.lst 0 [], .int .i64 0, .int .u64 0]]⟩], [none]⟩ sg_lii
def f90_s_l00From.F (n : Nat) (v : Nat × List T) := f90_s_l00From n v.1 v.2
noncomputable def f90_s_l00From.O (n : Nat) : Orc := orcOf (E := E) [] [] n
theorem f90_s_l00From.ok : ∀ n v x, f90_s_l00From.F n v = some x → evalFn E n 90 (flAs f90_s_l00From.P (sg_l.pk v)) = some (f90_s_l00From.A.enc x) :=
  fn_pure (modes := (fdAt 90).ms) (outs := (fdAt 90).os) (results := (fdAt 90).rs) f90_s_l00From.O (c := c90) (keep := keepAt 90) (by kernel_rfl) (fun n => orcOf_cf _ _ n) (fun n => lpOk_of (bs := []) (by kernel_rfl) .nil) (fun _ => rfl) (fun _ _ => by kernel_rfl)
noncomputable def f90_s_l00From.w : FnW E := fnW 90 f90_s_l00From.P sg_l f90_s_l00From.A f90_s_l00From.F f90_s_l00From.ok

def f163_s_l00Srcnext : Nat → Nat → List T → Int → Int → Option (Int × Nat × List T × Int × Int)
  | 0, _, _, _, _ => none
  | n + 1, n1, l2, i3, i4 =>
    br (decide (i3 < ((n1 : Nat) : Int))) (
     gd ((decide (((0 : Int) ≤ i3) ∧ (i3 < ((n1 : Nat) : Int)))) && (okAt [(CK.int IntKind.u8)] l2 (Int.toNat i3))) (
     let i5 : Int := (IntKind.i64.wrap (iAt l2 (Int.toNat i3)))
     let i6 : Int := (IntKind.i64.wrap (i3 + (1 : Int)))
     let i7 : Int := (IntKind.u64.wrap ((IntKind.u64.wrap ((IntKind.u64.wrap (i4 * (6364136223846793005 : Int))) + (IntKind.u64.wrap i5))) + (1442695040888963407 : Int)))
     br (decide (i6 ≤ ((n1 : Nat) : Int))) (
      some (i5, n1, l2, i6, i7)) (
      some ((IntKind.i64.wrap (intBits BinOp.and IntKind.u64 (Int.fdiv i7 (1099511627776 : Int)) (255 : Int))), n1, l2, i6, i7)))) (
     let i8 : Int := (IntKind.i64.wrap (i3 + (1 : Int)))
     let i9 : Int := (IntKind.u64.wrap ((IntKind.u64.wrap ((IntKind.u64.wrap (i4 * (6364136223846793005 : Int))) + (0 : Int))) + (1442695040888963407 : Int)))
     br (decide (i8 ≤ ((n1 : Nat) : Int))) (
      some ((0 : Int), n1, l2, i8, i9)) (
      some ((IntKind.i64.wrap (intBits BinOp.and IntKind.u64 (Int.fdiv i9 (1099511627776 : Int)) (255 : Int))), n1, l2, i8, i9)))
def sg_ilii : Sig (Int × Nat × List T × Int × Int) where
  pk := fun v => [.int v.1, .lst v.2.1 v.2.2.1, .int v.2.2.2.1, .int v.2.2.2.2]
  up := fun ls => match ls with
    | [.int a0, .lst a1 a2, .int a3, .int a4] => some (a0, a1, a2, a3, a4)
    | _ => none
  ok := by
    intro ls v h
    split at h
    · cases h; rfl
    · cases h

def f163_s_l00Srcnext.P : List Arg := [⟨.iop, ⟨false, [.rf .own [.sl .shr [.leaf], .leaf, .leaf]], [.ref [.lst 0 [], .int .i64 0, .int .u64 0]]⟩⟩]
def f163_s_l00Srcnext.A : RAlt (Int × Nat × List T × Int × Int) := .one ⟨[⟨false, [.leaf], [.int .i64 0]⟩], [some ⟨false, [.rf .own [.sl .shr [.leaf], .leaf, .leaf]], [.ref [.lst 0 [], .int .i64 0, .int .u64 0]]⟩]⟩ sg_ilii
def f163_s_l00Srcnext.F (n : Nat) (v : Nat × List T × Int × Int) := f163_s_l00Srcnext n v.1 v.2.1 v.2.2.1 v.2.2.2
noncomputable def f163_s_l00Srcnext.O (n : Nat) : Orc := orcOf (E := E) [] [] n
theorem f163_s_l00Srcnext.ok : ∀ n v x, f163_s_l00Srcnext.F n v = some x → evalFn E n 163 (flAs f163_s_l00Srcnext.P (sg_lii.pk v)) = some (f163_s_l00Srcnext.A.enc x) :=
  fn_pure (modes := (fdAt 163).ms) (outs := (fdAt 163).os) (results := (fdAt 163).rs) f163_s_l00Srcnext.O (c := c163) (keep := keepAt 163) (by kernel_rfl) (fun n => orcOf_cf _ _ n) (fun n => lpOk_of (bs := []) (by kernel_rfl) .nil) (fun _ => rfl) (fun _ _ => by kernel_rfl)
noncomputable def f163_s_l00Srcnext.w : FnW E := fnW 163 f163_s_l00Srcnext.P sg_lii f163_s_l00Srcnext.A f163_s_l00Srcnext.F f163_s_l00Srcnext.ok

def f97_s_l00Srcpick : Nat → Nat → List T → Int → Int → Int → Option (Int × Nat × List T × Int × Int)
  | 0, _, _, _, _, _ => none
  | n + 1, n1, l2, i3, i4, i5 =>
    br (decide (i5 ≤ (1 : Int))) (
     some ((0 : Int), n1, l2, i3, i4)) (
     bd (f163_s_l00Srcnext n n1 l2 i3 i4) fun r6 =>
     let i7 : Int := r6.1
     let n8 : Nat := r6.2.1
     let l9 : List T := r6.2.2.1
     let i10 : Int := r6.2.2.2.1
     let i11 : Int := r6.2.2.2.2
     br (decide (i5 > (200 : Int))) (
      bd (f163_s_l00Srcnext n n8 l9 i10 i11) fun r12 =>
      let i13 : Int := r12.1
      let n14 : Nat := r12.2.1
      let l15 : List T := r12.2.2.1
      let i16 : Int := r12.2.2.2.1
      let i17 : Int := r12.2.2.2.2
      let i18 : Int := (IntKind.i64.wrap ((IntKind.i64.wrap (i7 * (256 : Int))) + i13))
      gd (!(decide (i5 = (0 : Int)))) (
      some ((Int.tmod i18 i5), n14, l15, i16, i17))) (
      gd (!(decide (i5 = (0 : Int)))) (
      some ((Int.tmod i7 i5), n8, l9, i10, i11))))
def sg_liii : Sig (Nat × List T × Int × Int × Int) where
  pk := fun v => [.lst v.1 v.2.1, .int v.2.2.1, .int v.2.2.2.1, .int v.2.2.2.2]
  up := fun ls => match ls with
    | [.lst a0 a1, .int a2, .int a3, .int a4] => some (a0, a1, a2, a3, a4)
    | _ => none
  ok := by
    intro ls v h
    split at h
    · cases h; rfl
    · cases h

def f97_s_l00Srcpick.P : List Arg := [⟨.iop, ⟨false, [.rf .own [.sl .shr [.leaf], .leaf, .leaf]], [.ref [.lst 0 [], .int .i64 0, .int .u64 0]]⟩⟩, ⟨.val, ⟨false, [.leaf], [.int .i64 0]⟩⟩]
def f97_s_l00Srcpick.A : RAlt (Int × Nat × List T × Int × Int) := .one ⟨[⟨false, [.leaf], [.int .i64 0]⟩], [some ⟨false, [.rf .own [.sl .shr [.leaf], .leaf, .leaf]], [.ref [.lst 0 [], .int .i64 0, .int .u64 0]]⟩, none]⟩ sg_ilii
def f97_s_l00Srcpick.F (n : Nat) (v : Nat × List T × Int × Int × Int) := f97_s_l00Srcpick n v.1 v.2.1 v.2.2.1 v.2.2.2.1 v.2.2.2.2
noncomputable def f97_s_l00Srcpick.O (n : Nat) : Orc := orcOf (E := E) [f163_s_l00Srcnext.w] [] n
theorem f97_s_l00Srcpick.ok : ∀ n v x, f97_s_l00Srcpick.F n v = some x → evalFn E n 97 (flAs f97_s_l00Srcpick.P (sg_liii.pk v)) = some (f97_s_l00Srcpick.A.enc x) :=
  fn_pure (modes := (fdAt 97).ms) (outs := (fdAt 97).os) (results := (fdAt 97).rs) f97_s_l00Srcpick.O (c := c97) (keep := keepAt 97) (by kernel_rfl) (fun n => orcOf_cf _ _ n) (fun n => lpOk_of (bs := []) (by kernel_rfl) .nil) (fun _ => rfl) (fun _ _ => by kernel_rfl)
noncomputable def f97_s_l00Srcpick.w : FnW E := fnW 97 f97_s_l00Srcpick.P sg_liii f97_s_l00Srcpick.A f97_s_l00Srcpick.F f97_s_l00Srcpick.ok

def f158_s_l00Srcone : Nat → Nat → List T → Int → Int → Int → Option (Bool × Nat × List T × Int × Int)
  | 0, _, _, _, _, _ => none
  | n + 1, n1, l2, i3, i4, i5 =>
    bd (f97_s_l00Srcpick n n1 l2 i3 i4 i5) fun r6 =>
    let i7 : Int := r6.1
    let n8 : Nat := r6.2.1
    let l9 : List T := r6.2.2.1
    let i10 : Int := r6.2.2.2.1
    let i11 : Int := r6.2.2.2.2
    some ((i7 == (0 : Int)), n8, l9, i10, i11)
def sg_blii : Sig (Bool × Nat × List T × Int × Int) where
  pk := fun v => [.bool v.1, .lst v.2.1 v.2.2.1, .int v.2.2.2.1, .int v.2.2.2.2]
  up := fun ls => match ls with
    | [.bool a0, .lst a1 a2, .int a3, .int a4] => some (a0, a1, a2, a3, a4)
    | _ => none
  ok := by
    intro ls v h
    split at h
    · cases h; rfl
    · cases h

def f158_s_l00Srcone.P : List Arg := [⟨.iop, ⟨false, [.rf .own [.sl .shr [.leaf], .leaf, .leaf]], [.ref [.lst 0 [], .int .i64 0, .int .u64 0]]⟩⟩, ⟨.val, ⟨false, [.leaf], [.int .i64 0]⟩⟩]
def f158_s_l00Srcone.A : RAlt (Bool × Nat × List T × Int × Int) := .one ⟨[⟨false, [.leaf], [.bool false]⟩], [some ⟨false, [.rf .own [.sl .shr [.leaf], .leaf, .leaf]], [.ref [.lst 0 [], .int .i64 0, .int .u64 0]]⟩, none]⟩ sg_blii
def f158_s_l00Srcone.F (n : Nat) (v : Nat × List T × Int × Int × Int) := f158_s_l00Srcone n v.1 v.2.1 v.2.2.1 v.2.2.2.1 v.2.2.2.2
noncomputable def f158_s_l00Srcone.O (n : Nat) : Orc := orcOf (E := E) [f97_s_l00Srcpick.w] [] n
theorem f158_s_l00Srcone.ok : ∀ n v x, f158_s_l00Srcone.F n v = some x → evalFn E n 158 (flAs f158_s_l00Srcone.P (sg_liii.pk v)) = some (f158_s_l00Srcone.A.enc x) :=
  fn_pure (modes := (fdAt 158).ms) (outs := (fdAt 158).os) (results := (fdAt 158).rs) f158_s_l00Srcone.O (c := c158) (keep := keepAt 158) (by kernel_rfl) (fun n => orcOf_cf _ _ n) (fun n => lpOk_of (bs := []) (by kernel_rfl) .nil) (fun _ => rfl) (fun _ _ => by kernel_rfl)
noncomputable def f158_s_l00Srcone.w : FnW E := fnW 158 f158_s_l00Srcone.P sg_liii f158_s_l00Srcone.A f158_s_l00Srcone.F f158_s_l00Srcone.ok

def f91_s_l01DrawPlain : Nat → Nat → List T → Int → Int → Option (Nat × Nat × List T × Int × Int)
  | 0, _, _, _, _ => none
  | n + 1, n1, l2, i3, i4 =>
    bd (f97_s_l00Srcpick n n1 l2 i3 i4 (129 : Int)) fun r5 =>
    let i6 : Int := r5.1
    let n7 : Nat := r5.2.1
    let l8 : List T := r5.2.2.1
    let i9 : Int := r5.2.2.2.1
    let i10 : Int := r5.2.2.2.2
    let i11 : Int := (IntKind.i64.wrap (i6 - (64 : Int)))
    bd (f158_s_l00Srcone n n7 l8 i9 i10 (4 : Int)) fun r12 =>
    let b13 : Bool := r12.1
    let n14 : Nat := r12.2.1
    let l15 : List T := r12.2.2.1
    let i16 : Int := r12.2.2.2.1
    let i17 : Int := r12.2.2.2.2
    br b13 (
     some ((fdiv FloatKind.f32 (FloatKind.nearest FloatKind.f32 i11) 1088421888), n14, l15, i16, i17)) (
     some ((fdiv FloatKind.f32 (FloatKind.nearest FloatKind.f32 i11) 1098907648), n14, l15, i16, i17))
def sg_flii : Sig (Nat × Nat × List T × Int × Int) where
  pk := fun v => [.flt v.1, .lst v.2.1 v.2.2.1, .int v.2.2.2.1, .int v.2.2.2.2]
  up := fun ls => match ls with
    | [.flt a0, .lst a1 a2, .int a3, .int a4] => some (a0, a1, a2, a3, a4)
    | _ => none
  ok := by
    intro ls v h
    split at h
    · cases h; rfl
    · cases h

def f91_s_l01DrawPlain.P : List Arg := [⟨.iop, ⟨false, [.rf .own [.sl .shr [.leaf], .leaf, .leaf]], [.ref [.lst 0 [], .int .i64 0, .int .u64 0]]⟩⟩]
def f91_s_l01DrawPlain.A : RAlt (Nat × Nat × List T × Int × Int) := .one ⟨[⟨false, [.leaf], [.flt .f32 0]⟩], [some ⟨false, [.rf .own [.sl .shr [.leaf], .leaf, .leaf]], [.ref [.lst 0 [], .int .i64 0, .int .u64 0]]⟩]⟩ sg_flii
def f91_s_l01DrawPlain.F (n : Nat) (v : Nat × List T × Int × Int) := f91_s_l01DrawPlain n v.1 v.2.1 v.2.2.1 v.2.2.2
noncomputable def f91_s_l01DrawPlain.O (n : Nat) : Orc := orcOf (E := E) [f97_s_l00Srcpick.w, f158_s_l00Srcone.w] [] n
theorem f91_s_l01DrawPlain.ok : ∀ n v x, f91_s_l01DrawPlain.F n v = some x → evalFn E n 91 (flAs f91_s_l01DrawPlain.P (sg_lii.pk v)) = some (f91_s_l01DrawPlain.A.enc x) :=
  fn_pure (modes := (fdAt 91).ms) (outs := (fdAt 91).os) (results := (fdAt 91).rs) f91_s_l01DrawPlain.O (c := c91) (keep := keepAt 91) (by kernel_rfl) (fun n => orcOf_cf _ _ n) (fun n => lpOk_of (bs := []) (by kernel_rfl) .nil) (fun _ => rfl) (fun _ _ => by kernel_rfl)
noncomputable def f91_s_l01DrawPlain.w : FnW E := fnW 91 f91_s_l01DrawPlain.P sg_lii f91_s_l01DrawPlain.A f91_s_l01DrawPlain.F f91_s_l01DrawPlain.ok

def f168_s_l00Srcamong : Nat → Nat → List T → Int → Int → Nat → List T → Option (Int × Nat × List T × Int × Int × Nat × List T)
  | 0, _, _, _, _, _, _ => none
  | n + 1, n1, l2, i3, i4, n5, l6 =>
    bd (f97_s_l00Srcpick n n1 l2 i3 i4 ((n5 : Nat) : Int)) fun r7 =>
    let i8 : Int := r7.1
    let n9 : Nat := r7.2.1
    let l10 : List T := r7.2.2.1
    let i11 : Int := r7.2.2.2.1
    let i12 : Int := r7.2.2.2.2
    gd (decide (((0 : Int) ≤ i8) ∧ (i8 < ((n5 : Nat) : Int)))) (
    gd (okAt [(CK.int IntKind.i64)] l6 (Int.toNat i8)) (
    some ((iAt l6 (Int.toNat i8)), n9, l10, i11, i12, n5, l6)))
def sg_liil : Sig (Nat × List T × Int × Int × Nat × List T) where
  pk := fun v => [.lst v.1 v.2.1, .int v.2.2.1, .int v.2.2.2.1, .lst v.2.2.2.2.1 v.2.2.2.2.2]
  up := fun ls => match ls with
    | [.lst a0 a1, .int a2, .int a3, .lst a4 a5] => some (a0, a1, a2, a3, a4, a5)
    | _ => none
  ok := by
    intro ls v h
    split at h
    · cases h; rfl
    · cases h

def sg_iliil : Sig (Int × Nat × List T × Int × Int × Nat × List T) where
  pk := fun v => [.int v.1, .lst v.2.1 v.2.2.1, .int v.2.2.2.1, .int v.2.2.2.2.1, .lst v.2.2.2.2.2.1 v.2.2.2.2.2.2]
  up := fun ls => match ls with
    | [.int a0, .lst a1 a2, .int a3, .int a4, .lst a5 a6] => some (a0, a1, a2, a3, a4, a5, a6)
    | _ => none
  ok := by
    intro ls v h
    split at h
    · cases h; rfl
    · cases h

def f168_s_l00Srcamong.P : List Arg := [⟨.iop, ⟨false, [.rf .own [.sl .shr [.leaf], .leaf, .leaf]], [.ref [.lst 0 [], .int .i64 0, .int .u64 0]]⟩⟩, ⟨.io, ⟨false, [.sl .own [.leaf]], [.lst 0 []]⟩⟩]
def f168_s_l00Srcamong.A : RAlt (Int × Nat × List T × Int × Int × Nat × List T) := .one ⟨[⟨false, [.leaf], [.int .i64 0]⟩], [some ⟨false, [.rf .own [.sl .shr [.leaf], .leaf, .leaf]], [.ref [.lst 0 [], .int .i64 0, .int .u64 0]]⟩, some ⟨false, [.sl .own [.leaf]], [.lst 0 []]⟩]⟩ sg_iliil
def f168_s_l00Srcamong.F (n : Nat) (v : Nat × List T × Int × Int × Nat × List T) := f168_s_l00Srcamong n v.1 v.2.1 v.2.2.1 v.2.2.2.1 v.2.2.2.2.1 v.2.2.2.2.2
noncomputable def f168_s_l00Srcamong.O (n : Nat) : Orc := orcOf (E := E) [f97_s_l00Srcpick.w] [] n
theorem f168_s_l00Srcamong.ok : ∀ n v x, f168_s_l00Srcamong.F n v = some x → evalFn E n 168 (flAs f168_s_l00Srcamong.P (sg_liil.pk v)) = some (f168_s_l00Srcamong.A.enc x) :=
  fn_pure (modes := (fdAt 168).ms) (outs := (fdAt 168).os) (results := (fdAt 168).rs) f168_s_l00Srcamong.O (c := c168) (keep := keepAt 168) (by kernel_rfl) (fun n => orcOf_cf _ _ n) (fun n => lpOk_of (bs := []) (by kernel_rfl) .nil) (fun _ => rfl) (fun _ _ => by kernel_rfl)
noncomputable def f168_s_l00Srcamong.w : FnW E := fnW 168 f168_s_l00Srcamong.P sg_liil f168_s_l00Srcamong.A f168_s_l00Srcamong.F f168_s_l00Srcamong.ok

def f167_s_l01From : Nat → Int → Option (Nat)
  | 0, _ => none
  | n + 1, i1 =>
    bd (xF32frombits n (IntKind.u32.wrap i1)) fun r2 =>
    let x3 : Nat := r2
    some x3
def sg_i : Sig (Int) where
  pk := fun v => [.int v]
  up := fun ls => match ls with
    | [.int a0] => some a0
    | _ => none
  ok := by
    intro ls v h
    split at h
    · cases h; rfl
    · cases h

def sg_f : Sig (Nat) where
  pk := fun v => [.flt v]
  up := fun ls => match ls with
    | [.flt a0] => some a0
    | _ => none
  ok := by
    intro ls v h
    split at h
    · cases h; rfl
    · cases h

def f167_s_l01From.P : List Arg := [⟨.val, ⟨false, [.leaf], [.int .i64 0]⟩⟩]
def f167_s_l01From.A : RAlt (Nat) := .one ⟨[⟨false, [.leaf], [.flt .f32 0]⟩], [none]⟩ sg_f
def f167_s_l01From.F (n : Nat) (v : Int) := f167_s_l01From n v
noncomputable def f167_s_l01From.O (n : Nat) : Orc := orcOf (E := E) [x183.w] [] n
theorem f167_s_l01From.ok : ∀ n v x, f167_s_l01From.F n v = some x → evalFn E n 167 (flAs f167_s_l01From.P (sg_i.pk v)) = some (f167_s_l01From.A.enc x) :=
  fn_pure (modes := (fdAt 167).ms) (outs := (fdAt 167).os) (results := (fdAt 167).rs) f167_s_l01From.O (c := c167) (keep := keepAt 167) (by kernel_rfl) (fun n => orcOf_cf _ _ n) (fun n => lpOk_of (bs := []) (by kernel_rfl) .nil) (fun _ => rfl) (fun _ _ => by kernel_rfl)
noncomputable def f167_s_l01From.w : FnW E := fnW 167 f167_s_l01From.P sg_i f167_s_l01From.A f167_s_l01From.F f167_s_l01From.ok

def f112_s_l01DrawFloat : Nat → Nat → List T → Int → Int → Option (Nat × Nat × List T × Int × Int)
  | 0, _, _, _, _ => none
  | n + 1, n1, l2, i3, i4 =>
    bd (f158_s_l00Srcone n n1 l2 i3 i4 (12 : Int)) fun r5 =>
    let b6 : Bool := r5.1
    let n7 : Nat := r5.2.1
    let l8 : List T := r5.2.2.1
    let i9 : Int := r5.2.2.2.1
    let i10 : Int := r5.2.2.2.2
    br (!b6) (
     bd (f91_s_l01DrawPlain n n7 l8 i9 i10) fun r11 =>
     let x12 : Nat := r11.1
     let n13 : Nat := r11.2.1
     let l14 : List T := r11.2.2.1
     let i15 : Int := r11.2.2.2.1
     let i16 : Int := r11.2.2.2.2
     some (x12, n13, l14, i15, i16)) (
     bd (f97_s_l00Srcpick n n7 l8 i9 i10 (4 : Int)) fun r17 =>
     let i18 : Int := r17.1
     let n19 : Nat := r17.2.1
     let l20 : List T := r17.2.2.1
     let i21 : Int := r17.2.2.2.1
     let i22 : Int := r17.2.2.2.2
     br (i18 == (0 : Int)) (
      bd (f168_s_l00Srcamong n n19 l20 i21 i22 10 (setN (setN (setN (setN (setN (setN (setN (setN (setN (setN (reps 10 [(T.int IntKind.i64 (0 : Int))]) 0 [(T.int IntKind.i64 (0 : Int))]) 1 [(T.int IntKind.i64 (2147483648 : Int))]) 2 [(T.int IntKind.i64 (2139095040 : Int))]) 3 [(T.int IntKind.i64 (4286578688 : Int))]) 4 [(T.int IntKind.i64 (2143289344 : Int))]) 5 [(T.int IntKind.i64 (1 : Int))]) 6 [(T.int IntKind.i64 (2139095039 : Int))]) 7 [(T.int IntKind.i64 (8388608 : Int))]) 8 [(T.int IntKind.i64 (8388607 : Int))]) 9 [(T.int IntKind.i64 (2147483649 : Int))])) fun r23 =>
      let i24 : Int := r23.1
      let n25 : Nat := r23.2.1
      let l26 : List T := r23.2.2.1
      let i27 : Int := r23.2.2.2.1
      let i28 : Int := r23.2.2.2.2.1
      let n29 : Nat := r23.2.2.2.2.2.1
      let l30 : List T := r23.2.2.2.2.2.2
      bd (f167_s_l01From n i24) fun r31 =>
      let x32 : Nat := r31
      some (x32, n25, l26, i27, i28)) (
      br (i18 == (1 : Int)) (
       bd (f97_s_l00Srcpick n n19 l20 i21 i22 (65536 : Int)) fun r33 =>
       let i34 : Int := r33.1
       let n35 : Nat := r33.2.1
       let l36 : List T := r33.2.2.1
       let i37 : Int := r33.2.2.2.1
       let i38 : Int := r33.2.2.2.2
       let i39 : Int := (IntKind.i64.wrap (i34 * (65536 : Int)))
       bd (f97_s_l00Srcpick n n35 l36 i37 i38 (65536 : Int)) fun r40 =>
       let i41 : Int := r40.1
       let n42 : Nat := r40.2.1
       let l43 : List T := r40.2.2.1
       let i44 : Int := r40.2.2.2.1
       let i45 : Int := r40.2.2.2.2
       bd (f167_s_l01From n (IntKind.i64.wrap (i39 + i41))) fun r46 =>
       let x47 : Nat := r46
       some (x47, n42, l43, i44, i45)) (
       br (i18 == (2 : Int)) (
        bd (f97_s_l00Srcpick n n19 l20 i21 i22 (65536 : Int)) fun r48 =>
        let i49 : Int := r48.1
        let n50 : Nat := r48.2.1
        let l51 : List T := r48.2.2.1
        let i52 : Int := r48.2.2.2.1
        let i53 : Int := r48.2.2.2.2
        bd (f167_s_l01From n (IntKind.i64.wrap (i49 * (65536 : Int)))) fun r54 =>
        let x55 : Nat := r54
        some (x55, n50, l51, i52, i53)) (
        bd (f91_s_l01DrawPlain n n19 l20 i21 i22) fun r56 =>
        let x57 : Nat := r56.1
        let n58 : Nat := r56.2.1
        let l59 : List T := r56.2.2.1
        let i60 : Int := r56.2.2.2.1
        let i61 : Int := r56.2.2.2.2
        bd (f168_s_l00Srcamong n n58 l59 i60 i61 4 (setN (setN (setN (setN (reps 4 [(T.int IntKind.i64 (0 : Int))]) 0 [(T.int IntKind.i64 (8388608 : Int))]) 1 [(T.int IntKind.i64 (2130706432 : Int))]) 2 [(T.int IntKind.i64 (1610612736 : Int))]) 3 [(T.int IntKind.i64 (536870912 : Int))])) fun r62 =>
        let i63 : Int := r62.1
        let n64 : Nat := r62.2.1
        let l65 : List T := r62.2.2.1
        let i66 : Int := r62.2.2.2.1
        let i67 : Int := r62.2.2.2.2.1
        let n68 : Nat := r62.2.2.2.2.2.1
        let l69 : List T := r62.2.2.2.2.2.2
        bd (f167_s_l01From n i63) fun r70 =>
        let x71 : Nat := r70
        some ((fmul FloatKind.f32 x57 x71), n64, l65, i66, i67)))))
def f112_s_l01DrawFloat.P : List Arg := [⟨.iop, ⟨false, [.rf .own [.sl .shr [.leaf], .leaf, .leaf]], [.ref [.lst 0 [], .int .i64 0, .int .u64 0]]⟩⟩]
def f112_s_l01DrawFloat.A : RAlt (Nat × Nat × List T × Int × Int) := .one ⟨[⟨false, [.leaf], [.flt .f32 0]⟩], [some ⟨false, [.rf .own [.sl .shr [.leaf], .leaf, .leaf]], [.ref [.lst 0 [], .int .i64 0, .int .u64 0]]⟩]⟩ sg_flii
def f112_s_l01DrawFloat.F (n : Nat) (v : Nat × List T × Int × Int) := f112_s_l01DrawFloat n v.1 v.2.1 v.2.2.1 v.2.2.2
noncomputable def f112_s_l01DrawFloat.O (n : Nat) : Orc := orcOf (E := E) [f97_s_l00Srcpick.w, f158_s_l00Srcone.w, f91_s_l01DrawPlain.w, f168_s_l00Srcamong.w, f167_s_l01From.w] [] n
theorem f112_s_l01DrawFloat.ok : ∀ n v x, f112_s_l01DrawFloat.F n v = some x → evalFn E n 112 (flAs f112_s_l01DrawFloat.P (sg_lii.pk v)) = some (f112_s_l01DrawFloat.A.enc x) :=
  fn_pure (modes := (fdAt 112).ms) (outs := (fdAt 112).os) (results := (fdAt 112).rs) f112_s_l01DrawFloat.O (c := c112) (keep := keepAt 112) (by kernel_rfl) (fun n => orcOf_cf _ _ n) (fun n => lpOk_of (bs := []) (by kernel_rfl) .nil) (fun _ => rfl) (fun _ _ => by kernel_rfl)
noncomputable def f112_s_l01DrawFloat.w : FnW E := fnW 112 f112_s_l01DrawFloat.P sg_lii f112_s_l01DrawFloat.A f112_s_l01DrawFloat.F f112_s_l01DrawFloat.ok

def f98_s_l01DrawFloats.l0 (n : Nat) : Nat → Nat → List T → Int → Int → Int → Nat → List T → Bool → Option (Nat × List T × Int × Int × Nat × List T)
  | 0, _, _, _, _, _, _, _, _ => none
  | m + 1, n1, l2, i3, i4, i5, n6, l7, b8 =>
    br (decide (i5 > (0 : Int))) (
     br b8 (
      bd (f112_s_l01DrawFloat n n1 l2 i3 i4) fun r9 =>
      let x10 : Nat := r9.1
      let n11 : Nat := r9.2.1
      let l12 : List T := r9.2.2.1
      let i13 : Int := r9.2.2.2.1
      let i14 : Int := r9.2.2.2.2
      gd (Nat.ble (n6 + 1) 2147483648) (
      let n15 : Nat := (n6 + 1)
      let l16 : List T := (l7 ++ (setN (reps 1 [(T.flt FloatKind.f32 0)]) 0 [(T.flt FloatKind.f32 x10)]))
      f98_s_l01DrawFloats.l0 n m n11 l12 i13 i14 (IntKind.i64.wrap (i5 - (1 : Int))) n15 l16 b8)) (
      bd (f91_s_l01DrawPlain n n1 l2 i3 i4) fun r17 =>
      let x18 : Nat := r17.1
      let n19 : Nat := r17.2.1
      let l20 : List T := r17.2.2.1
      let i21 : Int := r17.2.2.2.1
      let i22 : Int := r17.2.2.2.2
      gd (Nat.ble (n6 + 1) 2147483648) (
      let n23 : Nat := (n6 + 1)
      let l24 : List T := (l7 ++ (setN (reps 1 [(T.flt FloatKind.f32 0)]) 0 [(T.flt FloatKind.f32 x18)]))
      f98_s_l01DrawFloats.l0 n m n19 l20 i21 i22 (IntKind.i64.wrap (i5 - (1 : Int))) n23 l24 b8))) (
     some (n1, l2, i3, i4, n6, l7))
def f98_s_l01DrawFloats : Nat → Nat → List T → Int → Int → Int → Option (Nat × List T × Nat × List T × Int × Int)
  | 0, _, _, _, _, _ => none
  | n + 1, n1, l2, i3, i4, i5 =>
    bd (f158_s_l00Srcone n n1 l2 i3 i4 (4 : Int)) fun r6 =>
    let b7 : Bool := r6.1
    let n8 : Nat := r6.2.1
    let l9 : List T := r6.2.2.1
    let i10 : Int := r6.2.2.2.1
    let i11 : Int := r6.2.2.2.2
    bd (f98_s_l01DrawFloats.l0 n n n8 l9 i10 i11 i5 0 (reps 0 [(T.flt FloatKind.f32 0)]) b7) fun r12 =>
    let n13 : Nat := r12.1
    let l14 : List T := r12.2.1
    let i15 : Int := r12.2.2.1
    let i16 : Int := r12.2.2.2.1
    let n17 : Nat := r12.2.2.2.2.1
    let l18 : List T := r12.2.2.2.2.2
    some (n17, l18, n13, l14, i15, i16)
def sg_llii : Sig (Nat × List T × Nat × List T × Int × Int) where
  pk := fun v => [.lst v.1 v.2.1, .lst v.2.2.1 v.2.2.2.1, .int v.2.2.2.2.1, .int v.2.2.2.2.2]
  up := fun ls => match ls with
    | [.lst a0 a1, .lst a2 a3, .int a4, .int a5] => some (a0, a1, a2, a3, a4, a5)
    | _ => none
  ok := by
    intro ls v h
    split at h
    · cases h; rfl
    · cases h

def sg_liiilb : Sig (Nat × List T × Int × Int × Int × Nat × List T × Bool) where
  pk := fun v => [.lst v.1 v.2.1, .int v.2.2.1, .int v.2.2.2.1, .int v.2.2.2.2.1, .lst v.2.2.2.2.2.1 v.2.2.2.2.2.2.1, .bool v.2.2.2.2.2.2.2]
  up := fun ls => match ls with
    | [.lst a0 a1, .int a2, .int a3, .int a4, .lst a5 a6, .bool a7] => some (a0, a1, a2, a3, a4, a5, a6, a7)
    | _ => none
  ok := by
    intro ls v h
    split at h
    · cases h; rfl
    · cases h

def f98_s_l01DrawFloats.l0.P : AS := ⟨[(0, .box [.sl .shr [.leaf], .leaf, .leaf] [.lst 0 [], .int .i64 0, .int .u64 0] [] 0), (1, .val false [.leaf] [.int .i64 0] [] 0), (5, .val false [.sl .own [.leaf]] [.lst 0 []] [] 0), (6, .val false [.leaf] [.bool false] [] 0)], 0⟩
def f98_s_l01DrawFloats.l0.A : Alt (Nat × List T × Int × Int × Nat × List T) := .one (.exit 0) ⟨[(0, .box [.sl .shr [.leaf], .leaf, .leaf] [.lst 0 [], .int .i64 0, .int .u64 0] [] 0), (5, .val false [.sl .own [.leaf]] [.lst 0 []] [] 0)], 0⟩ sg_liil
def f98_s_l01DrawFloats.l0.F (n m : Nat) (v : Nat × List T × Int × Int × Int × Nat × List T × Bool) := f98_s_l01DrawFloats.l0 n m v.1 v.2.1 v.2.2.1 v.2.2.2.1 v.2.2.2.2.1 v.2.2.2.2.2.1 v.2.2.2.2.2.2.1 v.2.2.2.2.2.2.2
def f98_s_l01DrawFloats.l0.W (n : Nat) : LpW := .of 48 f98_s_l01DrawFloats.l0.P sg_liiilb f98_s_l01DrawFloats.l0.A (f98_s_l01DrawFloats.l0.F n n)
def f98_s_l01DrawFloats.P : List Arg := [⟨.iop, ⟨false, [.rf .own [.sl .shr [.leaf], .leaf, .leaf]], [.ref [.lst 0 [], .int .i64 0, .int .u64 0]]⟩⟩, ⟨.val, ⟨false, [.leaf], [.int .i64 0]⟩⟩]
def f98_s_l01DrawFloats.A : RAlt (Nat × List T × Nat × List T × Int × Int) := .one ⟨[⟨false, [.sl .own [.leaf]], [.lst 0 []]⟩], [some ⟨false, [.rf .own [.sl .shr [.leaf], .leaf, .leaf]], [.ref [.lst 0 [], .int .i64 0, .int .u64 0]]⟩, none]⟩ sg_llii
def f98_s_l01DrawFloats.F (n : Nat) (v : Nat × List T × Int × Int × Int) := f98_s_l01DrawFloats n v.1 v.2.1 v.2.2.1 v.2.2.2.1 v.2.2.2.2
noncomputable def f98_s_l01DrawFloats.O (n : Nat) : Orc := orcOf (E := E) [f158_s_l00Srcone.w, f91_s_l01DrawPlain.w, f112_s_l01DrawFloat.w] [f98_s_l01DrawFloats.l0.W n] n
theorem f98_s_l01DrawFloats.l0.ok (n : Nat) : LpOk (f98_s_l01DrawFloats.O n) E (evalFn E n) n (keepAt 98) (.loop (loopAt c98 0)) :=
  lp_pure f98_s_l01DrawFloats.l0.P sg_liiilb f98_s_l01DrawFloats.l0.A (f98_s_l01DrawFloats.l0.F n) (orcOf_cf _ _ n) (lpOk_of (bs := []) (by kernel_rfl) .nil) (fun _ => rfl) (fun _ _ => by kernel_rfl) (fun _ _ _ => by kernel_rfl)
theorem f98_s_l01DrawFloats.ok : ∀ n v x, f98_s_l01DrawFloats.F n v = some x → evalFn E n 98 (flAs f98_s_l01DrawFloats.P (sg_liii.pk v)) = some (f98_s_l01DrawFloats.A.enc x) :=
  fn_pure (modes := (fdAt 98).ms) (outs := (fdAt 98).os) (results := (fdAt 98).rs) f98_s_l01DrawFloats.O (c := c98) (keep := keepAt 98) (by kernel_rfl) (fun n => orcOf_cf _ _ n) (fun n => lpOk_of (bs := [loopAt c98 0]) (by kernel_rfl) (.cons (f98_s_l01DrawFloats.l0.ok n) .nil)) (fun _ => rfl) (fun _ _ => by kernel_rfl)
noncomputable def f98_s_l01DrawFloats.w : FnW E := fnW 98 f98_s_l01DrawFloats.P sg_liii f98_s_l01DrawFloats.A f98_s_l01DrawFloats.F f98_s_l01DrawFloats.ok

def f22_s_R8Samples : Nat → Nat → List T → Int → Option (Nat × List T)
  | 0, _, _, _ => none
  | n + 1, n1, l2, i3 =>
    bd (f90_s_l00From n n1 l2) fun r4 =>
    let n5 : Nat := r4.1
    let l6 : List T := r4.2.1
    let i7 : Int := r4.2.2.1
    let i8 : Int := r4.2.2.2
    bd (f97_s_l00Srcpick n n5 l6 i7 i8 (IntKind.i64.wrap (i3 + (1 : Int)))) fun r9 =>
    let i10 : Int := r9.1
    let n11 : Nat := r9.2.1
    let l12 : List T := r9.2.2.1
    let i13 : Int := r9.2.2.2.1
    let i14 : Int := r9.2.2.2.2
    bd (f98_s_l01DrawFloats n n11 l12 i13 i14 i10) fun r15 =>
    let n16 : Nat := r15.1
    let l17 : List T := r15.2.1
    let n18 : Nat := r15.2.2.1
    let l19 : List T := r15.2.2.2.1
    let i20 : Int := r15.2.2.2.2.1
    let i21 : Int := r15.2.2.2.2.2
    some (n16, l17)
def sg_li : Sig (Nat × List T × Int) where
  pk := fun v => [.lst v.1 v.2.1, .int v.2.2]
  up := fun ls => match ls with
    | [.lst a0 a1, .int a2] => some (a0, a1, a2)
    | _ => none
  ok := by
    intro ls v h
    split at h
    · cases h; rfl
    · cases h

def f22_s_R8Samples.P : List Arg := [⟨.val, ⟨false, [.sl .shr [.leaf]], [.lst 0 []]⟩⟩, ⟨.val, ⟨false, [.leaf], [.int .i64 0]⟩⟩]
def f22_s_R8Samples.A : RAlt (Nat × List T) := .one ⟨[⟨false, [.sl .own [.leaf]], [.lst 0 []]⟩], [none, none]⟩ sg_l
def f22_s_R8Samples.F (n : Nat) (v : Nat × List T × Int) := f22_s_R8Samples n v.1 v.2.1 v.2.2
noncomputable def f22_s_R8Samples.O (n : Nat) : Orc := orcOf (E := E) [f90_s_l00From.w, f97_s_l00Srcpick.w, f98_s_l01DrawFloats.w] [] n
theorem f22_s_R8Samples.ok : ∀ n v x, f22_s_R8Samples.F n v = some x → evalFn E n 22 (flAs f22_s_R8Samples.P (sg_li.pk v)) = some (f22_s_R8Samples.A.enc x) :=
  fn_pure (modes := (fdAt 22).ms) (outs := (fdAt 22).os) (results := (fdAt 22).rs) f22_s_R8Samples.O (c := c22) (keep := keepAt 22) (by kernel_rfl) (fun n => orcOf_cf _ _ n) (fun n => lpOk_of (bs := []) (by kernel_rfl) .nil) (fun _ => rfl) (fun _ _ => by kernel_rfl)
noncomputable def f22_s_R8Samples.w : FnW E := fnW 22 f22_s_R8Samples.P sg_li f22_s_R8Samples.A f22_s_R8Samples.F f22_s_R8Samples.ok

def f46_i_BendSample : Nat → Nat → Option (Nat)
  | 0, _ => none
  | n + 1, x1 =>
    br (fge FloatKind.f32 x1 1065353216) (
     some 1065353216) (
     br (fle FloatKind.f32 x1 3212836864) (
      some 3212836864) (
      some (fmul FloatKind.f32 x1 (fsub FloatKind.f32 1069547520 (fmul FloatKind.f32 1056964608 (fmul FloatKind.f32 x1 x1))))))
def f46_i_BendSample.P : List Arg := [⟨.val, ⟨false, [.leaf], [.flt .f32 0]⟩⟩]
def f46_i_BendSample.A : RAlt (Nat) := .one ⟨[⟨false, [.leaf], [.flt .f32 0]⟩], [none]⟩ sg_f
def f46_i_BendSample.F (n : Nat) (v : Nat) := f46_i_BendSample n v
noncomputable def f46_i_BendSample.O (n : Nat) : Orc := orcOf (E := E) [] [] n
theorem f46_i_BendSample.ok : ∀ n v x, f46_i_BendSample.F n v = some x → evalFn E n 46 (flAs f46_i_BendSample.P (sg_f.pk v)) = some (f46_i_BendSample.A.enc x) :=
  fn_pure (modes := (fdAt 46).ms) (outs := (fdAt 46).os) (results := (fdAt 46).rs) f46_i_BendSample.O (c := c46) (keep := keepAt 46) (by kernel_rfl) (fun n => orcOf_cf _ _ n) (fun n => lpOk_of (bs := []) (by kernel_rfl) .nil) (fun _ => rfl) (fun _ _ => by kernel_rfl)
noncomputable def f46_i_BendSample.w : FnW E := fnW 46 f46_i_BendSample.P sg_f f46_i_BendSample.A f46_i_BendSample.F f46_i_BendSample.ok

def f8_l_FnBent.l0 (n : Nat) : Nat → Nat → List T → Nat → List T → Nat → List T → Int → Option ((Bool) ⊕ (Nat × List T × Nat × List T))
  | 0, _, _, _, _, _, _, _ => none
  | m + 1, n1, l2, n3, l4, n5, l6, i7 =>
    br (decide (i7 < ((n5 : Nat) : Int))) (
     gd (decide (((0 : Int) ≤ i7) ∧ (i7 < ((n5 : Nat) : Int)))) (
     gd (okAt [(CK.flt FloatKind.f32)] l6 (Int.toNat i7)) (
     bd (f46_i_BendSample n (fAt l6 (Int.toNat i7))) fun r8 =>
     let x9 : Nat := r8
     gd (decide (((0 : Int) ≤ i7) ∧ (i7 < ((n5 : Nat) : Int)))) (
     gd (okAt [(CK.flt FloatKind.f32)] l6 (Int.toNat i7)) (
     bd (f46_i_BendSample n (negF FloatKind.f32 (fAt l6 (Int.toNat i7)))) fun r10 =>
     let x11 : Nat := r10
     gd (decide (((0 : Int) ≤ i7) ∧ (i7 < ((n5 : Nat) : Int)))) (
     gd (okAt [(CK.flt FloatKind.f32)] l6 (Int.toNat i7)) (
     gd (decide (((0 : Int) ≤ i7) ∧ (i7 < ((n5 : Nat) : Int)))) (
     gd (okAt [(CK.flt FloatKind.f32)] l6 (Int.toNat i7)) (
     br (feq FloatKind.f32 (fAt l6 (Int.toNat i7)) (fAt l6 (Int.toNat i7))) (
      br (!(fle FloatKind.f32 x9 1065353216)) (
       some (Sum.inl false)) (
       br (!(fge FloatKind.f32 x9 3212836864)) (
        some (Sum.inl false)) (
        br (fne FloatKind.f32 x9 (negF FloatKind.f32 x11)) (
         some (Sum.inl false)) (
         gd (decide (((0 : Int) ≤ i7) ∧ (i7 < ((n5 : Nat) : Int)))) (
         gd (okAt [(CK.flt FloatKind.f32)] l6 (Int.toNat i7)) (
         gd (decide (((0 : Int) ≤ i7) ∧ (i7 < ((n5 : Nat) : Int)))) (
         gd (okAt [(CK.flt FloatKind.f32)] l6 (Int.toNat i7)) (
         br (fne FloatKind.f32 (fAt l6 (Int.toNat i7)) (fAt l6 (Int.toNat i7))) (
          br (feq FloatKind.f32 x9 x9) (
           some (Sum.inl false)) (
           f8_l_FnBent.l0 n m n1 l2 n3 l4 n5 l6 (IntKind.i64.wrap (i7 + (1 : Int))))) (
          f8_l_FnBent.l0 n m n1 l2 n3 l4 n5 l6 (IntKind.i64.wrap (i7 + (1 : Int)))))))))))) (
      gd (decide (((0 : Int) ≤ i7) ∧ (i7 < ((n5 : Nat) : Int)))) (
      gd (okAt [(CK.flt FloatKind.f32)] l6 (Int.toNat i7)) (
      gd (decide (((0 : Int) ≤ i7) ∧ (i7 < ((n5 : Nat) : Int)))) (
      gd (okAt [(CK.flt FloatKind.f32)] l6 (Int.toNat i7)) (
      br (fne FloatKind.f32 (fAt l6 (Int.toNat i7)) (fAt l6 (Int.toNat i7))) (
       br (feq FloatKind.f32 x9 x9) (
        some (Sum.inl false)) (
        f8_l_FnBent.l0 n m n1 l2 n3 l4 n5 l6 (IntKind.i64.wrap (i7 + (1 : Int))))) (
       f8_l_FnBent.l0 n m n1 l2 n3 l4 n5 l6 (IntKind.i64.wrap (i7 + (1 : Int)))))))))))))))))) (
     some (Sum.inr (n1, l2, n3, l4)))
def f17_l_r8At : Nat → Nat → List T → Int → Int → Option (Int)
  | 0, _, _, _, _ => none
  | n + 1, n1, l2, i3, i4 =>
    br (decide (i4 ≤ (1 : Int))) (
     some (0 : Int)) (
     br (decide (i3 ≥ ((n1 : Nat) : Int))) (
      some (0 : Int)) (
      gd ((decide (((0 : Int) ≤ i3) ∧ (i3 < ((n1 : Nat) : Int)))) && (okAt [(CK.int IntKind.u8)] l2 (Int.toNat i3))) (
      gd (!(decide (i4 = (0 : Int)))) (
      some (Int.tmod (IntKind.i64.wrap (iAt l2 (Int.toNat i3))) i4)))))
def f17_l_r8At.P : List Arg := [⟨.val, ⟨false, [.sl .shr [.leaf]], [.lst 0 []]⟩⟩, ⟨.val, ⟨false, [.leaf], [.int .i64 0]⟩⟩, ⟨.val, ⟨false, [.leaf], [.int .i64 0]⟩⟩]
def f17_l_r8At.A : RAlt (Int) := .one ⟨[⟨false, [.leaf], [.int .i64 0]⟩], [none, none, none]⟩ sg_i
def f17_l_r8At.F (n : Nat) (v : Nat × List T × Int × Int) := f17_l_r8At n v.1 v.2.1 v.2.2.1 v.2.2.2
noncomputable def f17_l_r8At.O (n : Nat) : Orc := orcOf (E := E) [] [] n
theorem f17_l_r8At.ok : ∀ n v x, f17_l_r8At.F n v = some x → evalFn E n 17 (flAs f17_l_r8At.P (sg_lii.pk v)) = some (f17_l_r8At.A.enc x) :=
  fn_pure (modes := (fdAt 17).ms) (outs := (fdAt 17).os) (results := (fdAt 17).rs) f17_l_r8At.O (c := c17) (keep := keepAt 17) (by kernel_rfl) (fun n => orcOf_cf _ _ n) (fun n => lpOk_of (bs := []) (by kernel_rfl) .nil) (fun _ => rfl) (fun _ _ => by kernel_rfl)
noncomputable def f17_l_r8At.w : FnW E := fnW 17 f17_l_r8At.P sg_lii f17_l_r8At.A f17_l_r8At.F f17_l_r8At.ok

def f16_s_R8Plain.l0 (n : Nat) : Nat → Int → Nat → List T → Int → Int → Nat → List T → Int → Option (Nat × List T)
  | 0, _, _, _, _, _, _, _, _ => none
  | m + 1, i1, n2, l3, i4, i5, n6, l7, i8 =>
    br (decide (i8 < i1)) (
     bd (f91_s_l01DrawPlain n n2 l3 i4 i5) fun r9 =>
     let x10 : Nat := r9.1
     let n11 : Nat := r9.2.1
     let l12 : List T := r9.2.2.1
     let i13 : Int := r9.2.2.2.1
     let i14 : Int := r9.2.2.2.2
     gd (Nat.ble (n6 + 1) 2147483648) (
     let n15 : Nat := (n6 + 1)
     let l16 : List T := (l7 ++ (setN (reps 1 [(T.flt FloatKind.f32 0)]) 0 [(T.flt FloatKind.f32 x10)]))
     f16_s_R8Plain.l0 n m i1 n11 l12 i13 i14 n15 l16 (IntKind.i64.wrap (i8 + (1 : Int))))) (
     some (n6, l7))
def f16_s_R8Plain : Nat → Nat → List T → Int → Option (Nat × List T)
  | 0, _, _, _ => none
  | n + 1, n1, l2, i3 =>
    bd (f90_s_l00From n n1 l2) fun r4 =>
    let n5 : Nat := r4.1
    let l6 : List T := r4.2.1
    let i7 : Int := r4.2.2.1
    let i8 : Int := r4.2.2.2
    bd (f16_s_R8Plain.l0 n n i3 n5 l6 i7 i8 0 (reps 0 [(T.flt FloatKind.f32 0)]) (0 : Int)) fun r9 =>
    let n10 : Nat := r9.1
    let l11 : List T := r9.2
    some (n10, l11)
def sg_iliili : Sig (Int × Nat × List T × Int × Int × Nat × List T × Int) where
  pk := fun v => [.int v.1, .lst v.2.1 v.2.2.1, .int v.2.2.2.1, .int v.2.2.2.2.1, .lst v.2.2.2.2.2.1 v.2.2.2.2.2.2.1, .int v.2.2.2.2.2.2.2]
  up := fun ls => match ls with
    | [.int a0, .lst a1 a2, .int a3, .int a4, .lst a5 a6, .int a7] => some (a0, a1, a2, a3, a4, a5, a6, a7)
    | _ => none
  ok := by
    intro ls v h
    split at h
    · cases h; rfl
    · cases h

def f16_s_R8Plain.l0.P : AS := ⟨[(1, .val false [.leaf] [.int .i64 0] [] 0), (5, .box [.sl .shr [.leaf], .leaf, .leaf] [.lst 0 [], .int .i64 0, .int .u64 0] [] 0), (6, .val false [.sl .own [.leaf]] [.lst 0 []] [] 0), (7, .val false [.leaf] [.int .i64 0] [] 0)], 0⟩
def f16_s_R8Plain.l0.A : Alt (Nat × List T) := .one (.exit 0) ⟨[(6, .val false [.sl .own [.leaf]] [.lst 0 []] [] 0)], 0⟩ sg_l
def f16_s_R8Plain.l0.F (n m : Nat) (v : Int × Nat × List T × Int × Int × Nat × List T × Int) := f16_s_R8Plain.l0 n m v.1 v.2.1 v.2.2.1 v.2.2.2.1 v.2.2.2.2.1 v.2.2.2.2.2.1 v.2.2.2.2.2.2.1 v.2.2.2.2.2.2.2
def f16_s_R8Plain.l0.W (n : Nat) : LpW := .of 64 f16_s_R8Plain.l0.P sg_iliili f16_s_R8Plain.l0.A (f16_s_R8Plain.l0.F n n)
def f16_s_R8Plain.P : List Arg := [⟨.val, ⟨false, [.sl .shr [.leaf]], [.lst 0 []]⟩⟩, ⟨.val, ⟨false, [.leaf], [.int .i64 0]⟩⟩]
def f16_s_R8Plain.A : RAlt (Nat × List T) := .one ⟨[⟨false, [.sl .own [.leaf]], [.lst 0 []]⟩], [none, none]⟩ sg_l
def f16_s_R8Plain.F (n : Nat) (v : Nat × List T × Int) := f16_s_R8Plain n v.1 v.2.1 v.2.2
noncomputable def f16_s_R8Plain.O (n : Nat) : Orc := orcOf (E := E) [f90_s_l00From.w, f91_s_l01DrawPlain.w] [f16_s_R8Plain.l0.W n] n
theorem f16_s_R8Plain.l0.ok (n : Nat) : LpOk (f16_s_R8Plain.O n) E (evalFn E n) n (keepAt 16) (.loop (loopAt c16 0)) :=
  lp_pure f16_s_R8Plain.l0.P sg_iliili f16_s_R8Plain.l0.A (f16_s_R8Plain.l0.F n) (orcOf_cf _ _ n) (lpOk_of (bs := []) (by kernel_rfl) .nil) (fun _ => rfl) (fun _ _ => by kernel_rfl) (fun _ _ _ => by kernel_rfl)
theorem f16_s_R8Plain.ok : ∀ n v x, f16_s_R8Plain.F n v = some x → evalFn E n 16 (flAs f16_s_R8Plain.P (sg_li.pk v)) = some (f16_s_R8Plain.A.enc x) :=
  fn_pure (modes := (fdAt 16).ms) (outs := (fdAt 16).os) (results := (fdAt 16).rs) f16_s_R8Plain.O (c := c16) (keep := keepAt 16) (by kernel_rfl) (fun n => orcOf_cf _ _ n) (fun n => lpOk_of (bs := [loopAt c16 0]) (by kernel_rfl) (.cons (f16_s_R8Plain.l0.ok n) .nil)) (fun _ => rfl) (fun _ _ => by kernel_rfl)
noncomputable def f16_s_R8Plain.w : FnW E := fnW 16 f16_s_R8Plain.P sg_li f16_s_R8Plain.A f16_s_R8Plain.F f16_s_R8Plain.ok

def f92_i_areSamples : Nat → Nat → List T → Option (Bool)
  | 0, _, _ => none
  | n + 1, n1, l2 =>
    some (decide (((n1 : Nat) : Int) ≤ (256 : Int)))
def f92_i_areSamples.P : List Arg := [⟨.val, ⟨false, [.sl .shr [.leaf]], [.lst 0 []]⟩⟩]
def f92_i_areSamples.A : RAlt (Bool) := .one ⟨[⟨false, [.leaf], [.bool false]⟩], [none]⟩ sg_b
def f92_i_areSamples.F (n : Nat) (v : Nat × List T) := f92_i_areSamples n v.1 v.2
noncomputable def f92_i_areSamples.O (n : Nat) : Orc := orcOf (E := E) [] [] n
theorem f92_i_areSamples.ok : ∀ n v x, f92_i_areSamples.F n v = some x → evalFn E n 92 (flAs f92_i_areSamples.P (sg_l.pk v)) = some (f92_i_areSamples.A.enc x) :=
  fn_pure (modes := (fdAt 92).ms) (outs := (fdAt 92).os) (results := (fdAt 92).rs) f92_i_areSamples.O (c := c92) (keep := keepAt 92) (by kernel_rfl) (fun n => orcOf_cf _ _ n) (fun n => lpOk_of (bs := []) (by kernel_rfl) .nil) (fun _ => rfl) (fun _ _ => by kernel_rfl)
noncomputable def f92_i_areSamples.w : FnW E := fnW 92 f92_i_areSamples.P sg_l f92_i_areSamples.A f92_i_areSamples.F f92_i_areSamples.ok

def f94_i_dot.l0 (n : Nat) : Nat → Nat → List T → Nat → List T → Nat → Int → Int → Option (Nat)
  | 0, _, _, _, _, _, _, _ => none
  | m + 1, n1, l2, n3, l4, x5, i6, i7 =>
    br (decide (i7 < i6)) (
     gd ((decide (((0 : Int) ≤ i7) ∧ (i7 < ((n1 : Nat) : Int)))) && (okAt [(CK.flt FloatKind.f32)] l2 (Int.toNat i7))) (
     gd ((decide (((0 : Int) ≤ i7) ∧ (i7 < ((n3 : Nat) : Int)))) && (okAt [(CK.flt FloatKind.f32)] l4 (Int.toNat i7))) (
     let x8 : Nat := (fadd FloatKind.f32 x5 (fmul FloatKind.f32 (fAt l2 (Int.toNat i7)) (fAt l4 (Int.toNat i7))))
     f94_i_dot.l0 n m n1 l2 n3 l4 x8 i6 (IntKind.i64.wrap (i7 + (1 : Int)))))) (
     some x5)
def f94_i_dot : Nat → Nat → List T → Nat → List T → Option (Nat)
  | 0, _, _, _, _ => none
  | n + 1, n1, l2, n3, l4 =>
    bd (f94_i_dot.l0 n n n1 l2 n3 l4 0 ((n1 : Nat) : Int) (0 : Int)) fun r5 =>
    let x6 : Nat := r5
    some x6
def sg_llfii : Sig (Nat × List T × Nat × List T × Nat × Int × Int) where
  pk := fun v => [.lst v.1 v.2.1, .lst v.2.2.1 v.2.2.2.1, .flt v.2.2.2.2.1, .int v.2.2.2.2.2.1, .int v.2.2.2.2.2.2]
  up := fun ls => match ls with
    | [.lst a0 a1, .lst a2 a3, .flt a4, .int a5, .int a6] => some (a0, a1, a2, a3, a4, a5, a6)
    | _ => none
  ok := by
    intro ls v h
    split at h
    · cases h; rfl
    · cases h

def f94_i_dot.l0.P : AS := ⟨[(0, .val false [.sl .shr [.leaf]] [.lst 0 []] [] 0), (1, .val false [.sl .shr [.leaf]] [.lst 0 []] [] 0), (5, .val false [.leaf] [.flt .f32 0] [] 0), (8, .val false [.leaf] [.int .i64 0] [] 0), (9, .val false [.leaf] [.int .i64 0] [] 0)], 0⟩
def f94_i_dot.l0.A : Alt (Nat) := .one (.exit 0) ⟨[(5, .val false [.leaf] [.flt .f32 0] [] 0)], 0⟩ sg_f
def f94_i_dot.l0.F (n m : Nat) (v : Nat × List T × Nat × List T × Nat × Int × Int) := f94_i_dot.l0 n m v.1 v.2.1 v.2.2.1 v.2.2.2.1 v.2.2.2.2.1 v.2.2.2.2.2.1 v.2.2.2.2.2.2
def f94_i_dot.l0.W (n : Nat) : LpW := .of 48 f94_i_dot.l0.P sg_llfii f94_i_dot.l0.A (f94_i_dot.l0.F n n)
def f94_i_dot.P : List Arg := [⟨.val, ⟨false, [.sl .shr [.leaf]], [.lst 0 []]⟩⟩, ⟨.val, ⟨false, [.sl .shr [.leaf]], [.lst 0 []]⟩⟩]
def f94_i_dot.A : RAlt (Nat) := .one ⟨[⟨false, [.leaf], [.flt .f32 0]⟩], [none, none]⟩ sg_f
def f94_i_dot.F (n : Nat) (v : Nat × List T × Nat × List T) := f94_i_dot n v.1 v.2.1 v.2.2.1 v.2.2.2
noncomputable def f94_i_dot.O (n : Nat) : Orc := orcOf (E := E) [] [f94_i_dot.l0.W n] n
theorem f94_i_dot.l0.ok (n : Nat) : LpOk (f94_i_dot.O n) E (evalFn E n) n (keepAt 94) (.loop (loopAt c94 0)) :=
  lp_pure f94_i_dot.l0.P sg_llfii f94_i_dot.l0.A (f94_i_dot.l0.F n) (orcOf_cf _ _ n) (lpOk_of (bs := []) (by kernel_rfl) .nil) (fun _ => rfl) (fun _ _ => by kernel_rfl) (fun _ _ _ => by kernel_rfl)
theorem f94_i_dot.ok : ∀ n v x, f94_i_dot.F n v = some x → evalFn E n 94 (flAs f94_i_dot.P (sg_ll.pk v)) = some (f94_i_dot.A.enc x) :=
  fn_pure (modes := (fdAt 94).ms) (outs := (fdAt 94).os) (results := (fdAt 94).rs) f94_i_dot.O (c := c94) (keep := keepAt 94) (by kernel_rfl) (fun n => orcOf_cf _ _ n) (fun n => lpOk_of (bs := [loopAt c94 0]) (by kernel_rfl) (.cons (f94_i_dot.l0.ok n) .nil)) (fun _ => rfl) (fun _ _ => by kernel_rfl)
noncomputable def f94_i_dot.w : FnW E := fnW 94 f94_i_dot.P sg_ll f94_i_dot.A f94_i_dot.F f94_i_dot.ok

def f151_mathSqrt : Nat → Nat → Option (Nat)
  | 0, _ => none
  | n + 1, x1 =>
    bd (xSqrt n x1) fun r2 =>
    let x3 : Nat := r2
    some x3
def f151_mathSqrt.P : List Arg := [⟨.val, ⟨false, [.leaf], [.flt .f64 0]⟩⟩]
def f151_mathSqrt.A : RAlt (Nat) := .one ⟨[⟨false, [.leaf], [.flt .f64 0]⟩], [none]⟩ sg_f
def f151_mathSqrt.F (n : Nat) (v : Nat) := f151_mathSqrt n v
noncomputable def f151_mathSqrt.O (n : Nat) : Orc := orcOf (E := E) [x181.w] [] n
theorem f151_mathSqrt.ok : ∀ n v x, f151_mathSqrt.F n v = some x → evalFn E n 151 (flAs f151_mathSqrt.P (sg_f.pk v)) = some (f151_mathSqrt.A.enc x) :=
  fn_pure (modes := (fdAt 151).ms) (outs := (fdAt 151).os) (results := (fdAt 151).rs) f151_mathSqrt.O (c := c151) (keep := keepAt 151) (by kernel_rfl) (fun n => orcOf_cf _ _ n) (fun n => lpOk_of (bs := []) (by kernel_rfl) .nil) (fun _ => rfl) (fun _ _ => by kernel_rfl)
noncomputable def f151_mathSqrt.w : FnW E := fnW 151 f151_mathSqrt.P sg_f f151_mathSqrt.A f151_mathSqrt.F f151_mathSqrt.ok

def f75_i_RootNumber : Nat → Nat → Option (Nat)
  | 0, _ => none
  | n + 1, x1 =>
    bd ((fltToFlt FloatKind.f32 x1 FloatKind.f64)) fun y2 =>
    bd (f151_mathSqrt n y2) fun r3 =>
    let x4 : Nat := r3
    bd ((fltToFlt FloatKind.f64 x4 FloatKind.f32)) fun y5 =>
    some y5
def f75_i_RootNumber.P : List Arg := [⟨.val, ⟨false, [.leaf], [.flt .f32 0]⟩⟩]
def f75_i_RootNumber.A : RAlt (Nat) := .one ⟨[⟨false, [.leaf], [.flt .f32 0]⟩], [none]⟩ sg_f
def f75_i_RootNumber.F (n : Nat) (v : Nat) := f75_i_RootNumber n v
noncomputable def f75_i_RootNumber.O (n : Nat) : Orc := orcOf (E := E) [f151_mathSqrt.w] [] n
theorem f75_i_RootNumber.ok : ∀ n v x, f75_i_RootNumber.F n v = some x → evalFn E n 75 (flAs f75_i_RootNumber.P (sg_f.pk v)) = some (f75_i_RootNumber.A.enc x) :=
  fn_pure (modes := (fdAt 75).ms) (outs := (fdAt 75).os) (results := (fdAt 75).rs) f75_i_RootNumber.O (c := c75) (keep := keepAt 75) (by kernel_rfl) (fun n => orcOf_cf _ _ n) (fun n => lpOk_of (bs := []) (by kernel_rfl) .nil) (fun _ => rfl) (fun _ _ => by kernel_rfl)
noncomputable def f75_i_RootNumber.w : FnW E := fnW 75 f75_i_RootNumber.P sg_f f75_i_RootNumber.A f75_i_RootNumber.F f75_i_RootNumber.ok

def f47_i_RootMean : Nat → Nat → List T → Option (Nat × Bool)
  | 0, _, _ => none
  | n + 1, n1, l2 =>
    bd (f92_i_areSamples n n1 l2) fun r3 =>
    let b4 : Bool := r3
    br (!b4) (
     some (0, false)) (
     br (((n1 : Nat) : Int) == (0 : Int)) (
      some (0, false)) (
      bd (f94_i_dot n n1 l2 n1 l2) fun r5 =>
      let x6 : Nat := r5
      bd (f75_i_RootNumber n (fdiv FloatKind.f32 x6 (FloatKind.nearest FloatKind.f32 ((n1 : Nat) : Int)))) fun r7 =>
      let x8 : Nat := r7
      some (x8, true)))
def sg_fb : Sig (Nat × Bool) where
  pk := fun v => [.flt v.1, .bool v.2]
  up := fun ls => match ls with
    | [.flt a0, .bool a1] => some (a0, a1)
    | _ => none
  ok := by
    intro ls v h
    split at h
    · cases h; rfl
    · cases h

def f47_i_RootMean.P : List Arg := [⟨.val, ⟨false, [.sl .shr [.leaf]], [.lst 0 []]⟩⟩]
def f47_i_RootMean.A : RAlt (Nat × Bool) := .one ⟨[⟨false, [.leaf], [.flt .f32 0]⟩, ⟨false, [.leaf], [.bool false]⟩], [none]⟩ sg_fb
def f47_i_RootMean.F (n : Nat) (v : Nat × List T) := f47_i_RootMean n v.1 v.2
noncomputable def f47_i_RootMean.O (n : Nat) : Orc := orcOf (E := E) [f92_i_areSamples.w, f94_i_dot.w, f75_i_RootNumber.w] [] n
theorem f47_i_RootMean.ok : ∀ n v x, f47_i_RootMean.F n v = some x → evalFn E n 47 (flAs f47_i_RootMean.P (sg_l.pk v)) = some (f47_i_RootMean.A.enc x) :=
  fn_pure (modes := (fdAt 47).ms) (outs := (fdAt 47).os) (results := (fdAt 47).rs) f47_i_RootMean.O (c := c47) (keep := keepAt 47) (by kernel_rfl) (fun n => orcOf_cf _ _ n) (fun n => lpOk_of (bs := []) (by kernel_rfl) .nil) (fun _ => rfl) (fun _ _ => by kernel_rfl)
noncomputable def f47_i_RootMean.w : FnW E := fnW 47 f47_i_RootMean.P sg_l f47_i_RootMean.A f47_i_RootMean.F f47_i_RootMean.ok

def f166_i_absolute : Nat → Nat → Option (Nat)
  | 0, _ => none
  | n + 1, x1 =>
    bd ((fltToFlt FloatKind.f32 x1 FloatKind.f64)) fun y2 =>
    bd (xAbs n y2) fun r3 =>
    let x4 : Nat := r3
    bd ((fltToFlt FloatKind.f64 x4 FloatKind.f32)) fun y5 =>
    some y5
def f166_i_absolute.P : List Arg := [⟨.val, ⟨false, [.leaf], [.flt .f32 0]⟩⟩]
def f166_i_absolute.A : RAlt (Nat) := .one ⟨[⟨false, [.leaf], [.flt .f32 0]⟩], [none]⟩ sg_f
def f166_i_absolute.F (n : Nat) (v : Nat) := f166_i_absolute n v
noncomputable def f166_i_absolute.O (n : Nat) : Orc := orcOf (E := E) [x179.w] [] n
theorem f166_i_absolute.ok : ∀ n v x, f166_i_absolute.F n v = some x → evalFn E n 166 (flAs f166_i_absolute.P (sg_f.pk v)) = some (f166_i_absolute.A.enc x) :=
  fn_pure (modes := (fdAt 166).ms) (outs := (fdAt 166).os) (results := (fdAt 166).rs) f166_i_absolute.O (c := c166) (keep := keepAt 166) (by kernel_rfl) (fun n => orcOf_cf _ _ n) (fun n => lpOk_of (bs := []) (by kernel_rfl) .nil) (fun _ => rfl) (fun _ _ => by kernel_rfl)
noncomputable def f166_i_absolute.w : FnW E := fnW 166 f166_i_absolute.P sg_f f166_i_absolute.A f166_i_absolute.F f166_i_absolute.ok

def f110_i_peakOf.l0 (n : Nat) : Nat → Nat → List T → Nat → Nat → List T → Int → Int → Option (Nat)
  | 0, _, _, _, _, _, _, _ => none
  | m + 1, n1, l2, x3, n4, l5, i6, i7 =>
    br (decide (i7 < i6)) (
     gd ((decide (((0 : Int) ≤ i7) ∧ (i7 < ((n4 : Nat) : Int)))) && (okAt [(CK.flt FloatKind.f32)] l5 (Int.toNat i7))) (
     let x8 : Nat := (fAt l5 (Int.toNat i7))
     bd (f166_i_absolute n x8) fun r9 =>
     let x10 : Nat := r9
     br (fgt FloatKind.f32 x10 x3) (
      f110_i_peakOf.l0 n m n1 l2 x10 n4 l5 i6 (IntKind.i64.wrap (i7 + (1 : Int)))) (
      f110_i_peakOf.l0 n m n1 l2 x3 n4 l5 i6 (IntKind.i64.wrap (i7 + (1 : Int)))))) (
     some x3)
def f110_i_peakOf : Nat → Nat → List T → Option (Nat)
  | 0, _, _ => none
  | n + 1, n1, l2 =>
    bd (f110_i_peakOf.l0 n n n1 l2 0 n1 l2 ((n1 : Nat) : Int) (0 : Int)) fun r3 =>
    let x4 : Nat := r3
    some x4
def sg_lflii : Sig (Nat × List T × Nat × Nat × List T × Int × Int) where
  pk := fun v => [.lst v.1 v.2.1, .flt v.2.2.1, .lst v.2.2.2.1 v.2.2.2.2.1, .int v.2.2.2.2.2.1, .int v.2.2.2.2.2.2]
  up := fun ls => match ls with
    | [.lst a0 a1, .flt a2, .lst a3 a4, .int a5, .int a6] => some (a0, a1, a2, a3, a4, a5, a6)
    | _ => none
  ok := by
    intro ls v h
    split at h
    · cases h; rfl
    · cases h

def f110_i_peakOf.l0.P : AS := ⟨[(0, .val false [.sl .shr [.leaf]] [.lst 0 []] [] 0), (3, .val false [.leaf] [.flt .f32 0] [] 0), (7, .val false [.sl .shr [.leaf]] [.lst 0 []] [] 0), (8, .val false [.leaf] [.int .i64 0] [] 0), (9, .val false [.leaf] [.int .i64 0] [] 0)], 0⟩
def f110_i_peakOf.l0.A : Alt (Nat) := .one (.exit 0) ⟨[(3, .val false [.leaf] [.flt .f32 0] [] 0)], 0⟩ sg_f
def f110_i_peakOf.l0.F (n m : Nat) (v : Nat × List T × Nat × Nat × List T × Int × Int) := f110_i_peakOf.l0 n m v.1 v.2.1 v.2.2.1 v.2.2.2.1 v.2.2.2.2.1 v.2.2.2.2.2.1 v.2.2.2.2.2.2
def f110_i_peakOf.l0.W (n : Nat) : LpW := .of 48 f110_i_peakOf.l0.P sg_lflii f110_i_peakOf.l0.A (f110_i_peakOf.l0.F n n)
def f110_i_peakOf.P : List Arg := [⟨.val, ⟨false, [.sl .shr [.leaf]], [.lst 0 []]⟩⟩]
def f110_i_peakOf.A : RAlt (Nat) := .one ⟨[⟨false, [.leaf], [.flt .f32 0]⟩], [none]⟩ sg_f
def f110_i_peakOf.F (n : Nat) (v : Nat × List T) := f110_i_peakOf n v.1 v.2
noncomputable def f110_i_peakOf.O (n : Nat) : Orc := orcOf (E := E) [f166_i_absolute.w] [f110_i_peakOf.l0.W n] n
theorem f110_i_peakOf.l0.ok (n : Nat) : LpOk (f110_i_peakOf.O n) E (evalFn E n) n (keepAt 110) (.loop (loopAt c110 0)) :=
  lp_pure f110_i_peakOf.l0.P sg_lflii f110_i_peakOf.l0.A (f110_i_peakOf.l0.F n) (orcOf_cf _ _ n) (lpOk_of (bs := []) (by kernel_rfl) .nil) (fun _ => rfl) (fun _ _ => by kernel_rfl) (fun _ _ _ => by kernel_rfl)
theorem f110_i_peakOf.ok : ∀ n v x, f110_i_peakOf.F n v = some x → evalFn E n 110 (flAs f110_i_peakOf.P (sg_l.pk v)) = some (f110_i_peakOf.A.enc x) :=
  fn_pure (modes := (fdAt 110).ms) (outs := (fdAt 110).os) (results := (fdAt 110).rs) f110_i_peakOf.O (c := c110) (keep := keepAt 110) (by kernel_rfl) (fun n => orcOf_cf _ _ n) (fun n => lpOk_of (bs := [loopAt c110 0]) (by kernel_rfl) (.cons (f110_i_peakOf.l0.ok n) .nil)) (fun _ => rfl) (fun _ _ => by kernel_rfl)
noncomputable def f110_i_peakOf.w : FnW E := fnW 110 f110_i_peakOf.P sg_l f110_i_peakOf.A f110_i_peakOf.F f110_i_peakOf.ok

def f48_i_PeakOf : Nat → Nat → List T → Option (Nat × Bool)
  | 0, _, _ => none
  | n + 1, n1, l2 =>
    bd (f92_i_areSamples n n1 l2) fun r3 =>
    let b4 : Bool := r3
    br (!b4) (
     some (0, false)) (
     bd (f110_i_peakOf n n1 l2) fun r5 =>
     let x6 : Nat := r5
     some (x6, true))
def f48_i_PeakOf.P : List Arg := [⟨.val, ⟨false, [.sl .shr [.leaf]], [.lst 0 []]⟩⟩]
def f48_i_PeakOf.A : RAlt (Nat × Bool) := .one ⟨[⟨false, [.leaf], [.flt .f32 0]⟩, ⟨false, [.leaf], [.bool false]⟩], [none]⟩ sg_fb
def f48_i_PeakOf.F (n : Nat) (v : Nat × List T) := f48_i_PeakOf n v.1 v.2
noncomputable def f48_i_PeakOf.O (n : Nat) : Orc := orcOf (E := E) [f92_i_areSamples.w, f110_i_peakOf.w] [] n
theorem f48_i_PeakOf.ok : ∀ n v x, f48_i_PeakOf.F n v = some x → evalFn E n 48 (flAs f48_i_PeakOf.P (sg_l.pk v)) = some (f48_i_PeakOf.A.enc x) :=
  fn_pure (modes := (fdAt 48).ms) (outs := (fdAt 48).os) (results := (fdAt 48).rs) f48_i_PeakOf.O (c := c48) (keep := keepAt 48) (by kernel_rfl) (fun n => orcOf_cf _ _ n) (fun n => lpOk_of (bs := []) (by kernel_rfl) .nil) (fun _ => rfl) (fun _ _ => by kernel_rfl)
noncomputable def f48_i_PeakOf.w : FnW E := fnW 48 f48_i_PeakOf.P sg_l f48_i_PeakOf.A f48_i_PeakOf.F f48_i_PeakOf.ok

def f49_i_FadeSamples.l0 (n : Nat) : Nat → Nat → List T → Nat → Nat → Nat → List T → Nat → List T → Int → Int → Option (Nat × List T)
  | 0, _, _, _, _, _, _, _, _, _, _ => none
  | m + 1, n1, l2, x3, x4, n5, l6, n7, l8, i9, i10 =>
    br (decide (i10 < i9)) (
     gd ((decide (((0 : Int) ≤ i10) ∧ (i10 < ((n7 : Nat) : Int)))) && (okAt [(CK.flt FloatKind.f32)] l8 (Int.toNat i10))) (
     let x11 : Nat := (fAt l8 (Int.toNat i10))
     let x12 : Nat := (fdiv FloatKind.f32 (FloatKind.nearest FloatKind.f32 i10) (FloatKind.nearest FloatKind.f32 ((n1 : Nat) : Int)))
     gd (Nat.ble (n5 + 1) 2147483648) (
     let n13 : Nat := (n5 + 1)
     let l14 : List T := (l6 ++ (setN (reps 1 [(T.flt FloatKind.f32 0)]) 0 [(T.flt FloatKind.f32 (fmul FloatKind.f32 x11 (fadd FloatKind.f32 x3 (fmul FloatKind.f32 (fsub FloatKind.f32 x4 x3) x12))))]))
     f49_i_FadeSamples.l0 n m n1 l2 x3 x4 n13 l14 n7 l8 i9 (IntKind.i64.wrap (i10 + (1 : Int)))))) (
     some (n5, l6))
def f49_i_FadeSamples : Nat → Nat → List T → Nat → Nat → Option (Nat × List T × Bool)
  | 0, _, _, _, _ => none
  | n + 1, n1, l2, x3, x4 =>
    bd (f92_i_areSamples n n1 l2) fun r5 =>
    let b6 : Bool := r5
    br (!b6) (
     some (0, [], false)) (
     bd (f49_i_FadeSamples.l0 n n n1 l2 x3 x4 0 [] n1 l2 ((n1 : Nat) : Int) (0 : Int)) fun r7 =>
     let n8 : Nat := r7.1
     let l9 : List T := r7.2
     some (n8, l9, true))
def sg_lff : Sig (Nat × List T × Nat × Nat) where
  pk := fun v => [.lst v.1 v.2.1, .flt v.2.2.1, .flt v.2.2.2]
  up := fun ls => match ls with
    | [.lst a0 a1, .flt a2, .flt a3] => some (a0, a1, a2, a3)
    | _ => none
  ok := by
    intro ls v h
    split at h
    · cases h; rfl
    · cases h

def sg_lb : Sig (Nat × List T × Bool) where
  pk := fun v => [.lst v.1 v.2.1, .bool v.2.2]
  up := fun ls => match ls with
    | [.lst a0 a1, .bool a2] => some (a0, a1, a2)
    | _ => none
  ok := by
    intro ls v h
    split at h
    · cases h; rfl
    · cases h

def sg_lffllii : Sig (Nat × List T × Nat × Nat × Nat × List T × Nat × List T × Int × Int) where
  pk := fun v => [.lst v.1 v.2.1, .flt v.2.2.1, .flt v.2.2.2.1, .lst v.2.2.2.2.1 v.2.2.2.2.2.1, .lst v.2.2.2.2.2.2.1 v.2.2.2.2.2.2.2.1, .int v.2.2.2.2.2.2.2.2.1, .int v.2.2.2.2.2.2.2.2.2]
  up := fun ls => match ls with
    | [.lst a0 a1, .flt a2, .flt a3, .lst a4 a5, .lst a6 a7, .int a8, .int a9] => some (a0, a1, a2, a3, a4, a5, a6, a7, a8, a9)
    | _ => none
  ok := by
    intro ls v h
    split at h
    · cases h; rfl
    · cases h

def f49_i_FadeSamples.l0.P : AS := ⟨[(0, .val false [.sl .shr [.leaf]] [.lst 0 []] [] 0), (1, .val false [.leaf] [.flt .f32 0] [] 0), (2, .val false [.leaf] [.flt .f32 0] [] 0), (8, .val false [.sl .own [.leaf]] [.lst 0 []] [] 0), (15, .val false [.sl .shr [.leaf]] [.lst 0 []] [] 0), (16, .val false [.leaf] [.int .i64 0] [] 0), (17, .val false [.leaf] [.int .i64 0] [] 0)], 0⟩
def f49_i_FadeSamples.l0.A : Alt (Nat × List T) := .one (.exit 0) ⟨[(8, .val false [.sl .own [.leaf]] [.lst 0 []] [] 0)], 0⟩ sg_l
def f49_i_FadeSamples.l0.F (n m : Nat) (v : Nat × List T × Nat × Nat × Nat × List T × Nat × List T × Int × Int) := f49_i_FadeSamples.l0 n m v.1 v.2.1 v.2.2.1 v.2.2.2.1 v.2.2.2.2.1 v.2.2.2.2.2.1 v.2.2.2.2.2.2.1 v.2.2.2.2.2.2.2.1 v.2.2.2.2.2.2.2.2.1 v.2.2.2.2.2.2.2.2.2
def f49_i_FadeSamples.l0.W (n : Nat) : LpW := .of 80 f49_i_FadeSamples.l0.P sg_lffllii f49_i_FadeSamples.l0.A (f49_i_FadeSamples.l0.F n n)
def f49_i_FadeSamples.P : List Arg := [⟨.val, ⟨false, [.sl .shr [.leaf]], [.lst 0 []]⟩⟩, ⟨.val, ⟨false, [.leaf], [.flt .f32 0]⟩⟩, ⟨.val, ⟨false, [.leaf], [.flt .f32 0]⟩⟩]
def f49_i_FadeSamples.A : RAlt (Nat × List T × Bool) := .one ⟨[⟨false, [.sl .own [.leaf]], [.lst 0 []]⟩, ⟨false, [.leaf], [.bool false]⟩], [none, none, none]⟩ sg_lb
def f49_i_FadeSamples.F (n : Nat) (v : Nat × List T × Nat × Nat) := f49_i_FadeSamples n v.1 v.2.1 v.2.2.1 v.2.2.2
noncomputable def f49_i_FadeSamples.O (n : Nat) : Orc := orcOf (E := E) [f92_i_areSamples.w] [f49_i_FadeSamples.l0.W n] n
theorem f49_i_FadeSamples.l0.ok (n : Nat) : LpOk (f49_i_FadeSamples.O n) E (evalFn E n) n (keepAt 49) (.loop (loopAt c49 0)) :=
  lp_pure f49_i_FadeSamples.l0.P sg_lffllii f49_i_FadeSamples.l0.A (f49_i_FadeSamples.l0.F n) (orcOf_cf _ _ n) (lpOk_of (bs := []) (by kernel_rfl) .nil) (fun _ => rfl) (fun _ _ => by kernel_rfl) (fun _ _ _ => by kernel_rfl)
theorem f49_i_FadeSamples.ok : ∀ n v x, f49_i_FadeSamples.F n v = some x → evalFn E n 49 (flAs f49_i_FadeSamples.P (sg_lff.pk v)) = some (f49_i_FadeSamples.A.enc x) :=
  fn_pure (modes := (fdAt 49).ms) (outs := (fdAt 49).os) (results := (fdAt 49).rs) f49_i_FadeSamples.O (c := c49) (keep := keepAt 49) (by kernel_rfl) (fun n => orcOf_cf _ _ n) (fun n => lpOk_of (bs := [loopAt c49 0]) (by kernel_rfl) (.cons (f49_i_FadeSamples.l0.ok n) .nil)) (fun _ => rfl) (fun _ _ => by kernel_rfl)
noncomputable def f49_i_FadeSamples.w : FnW E := fnW 49 f49_i_FadeSamples.P sg_lff f49_i_FadeSamples.A f49_i_FadeSamples.F f49_i_FadeSamples.ok

def f8_l_FnBent.l1 (n : Nat) : Nat → Nat → List T → Nat → Nat → Nat → List T → Nat → Int → Option ((Bool) ⊕ (Nat × Nat))
  | 0, _, _, _, _, _, _, _, _ => none
  | m + 1, n1, l2, x3, x4, n5, l6, x7, i8 =>
    br (decide (i8 < ((n1 : Nat) : Int))) (
     gd (decide (((0 : Int) ≤ i8) ∧ (i8 < ((n5 : Nat) : Int)))) (
     gd (okAt [(CK.flt FloatKind.f32)] l6 (Int.toNat i8)) (
     gd (decide (((0 : Int) ≤ i8) ∧ (i8 < ((n1 : Nat) : Int)))) (
     gd (okAt [(CK.flt FloatKind.f32)] l2 (Int.toNat i8)) (
     br (fne FloatKind.f32 (fAt l6 (Int.toNat i8)) (fmul FloatKind.f32 (fAt l2 (Int.toNat i8)) x4)) (
      some (Sum.inl false)) (
      gd (decide (((0 : Int) ≤ i8) ∧ (i8 < ((n1 : Nat) : Int)))) (
      gd (okAt [(CK.flt FloatKind.f32)] l2 (Int.toNat i8)) (
      gd (decide (((0 : Int) ≤ i8) ∧ (i8 < ((n1 : Nat) : Int)))) (
      gd (okAt [(CK.flt FloatKind.f32)] l2 (Int.toNat i8)) (
      let x9 : Nat := (fmx false FloatKind.f32 x7 (fmx true FloatKind.f32 (fAt l2 (Int.toNat i8)) (negF FloatKind.f32 (fAt l2 (Int.toNat i8)))))
      f8_l_FnBent.l1 n m n1 l2 x3 x4 n5 l6 x9 (IntKind.i64.wrap (i8 + (1 : Int))))))))))))) (
     some (Sum.inr (x3, x7)))
def f8_l_FnBent : Nat → Nat → List T → Nat → List T → Option (Bool)
  | 0, _, _, _, _ => none
  | n + 1, n1, l2, n3, l4 =>
    bd (f15_l_r8Long n n1 l2 n3 l4) fun r5 =>
    let b6 : Bool := r5
    br b6 (
     some true) (
     bd (f22_s_R8Samples n n1 l2 (3 : Int)) fun r7 =>
     let n8 : Nat := r7.1
     let l9 : List T := r7.2
     bd (f8_l_FnBent.l0 n n n1 l2 n3 l4 n8 l9 (0 : Int)) fun r10 =>
     sm r10 (fun u11 =>
      let b12 : Bool := u11
      some b12) (fun u13 =>
      let n14 : Nat := u13.1
      let l15 : List T := u13.2.1
      let n16 : Nat := u13.2.2.1
      let l17 : List T := u13.2.2.2
      bd (f17_l_r8At n n14 l15 (40 : Int) (16 : Int)) fun r18 =>
      let i19 : Int := r18
      let i20 : Int := (IntKind.i64.wrap (i19 - (8 : Int)))
      bd (f46_i_BendSample n (fdiv FloatKind.f32 (FloatKind.nearest FloatKind.f32 i20) 1090519040)) fun r21 =>
      let x22 : Nat := r21
      bd (f46_i_BendSample n (fdiv FloatKind.f32 (FloatKind.nearest FloatKind.f32 (IntKind.i64.wrap (i20 + (1 : Int)))) 1090519040)) fun r23 =>
      let x24 : Nat := r23
      br (fgt FloatKind.f32 x22 x24) (
       some false) (
       bd (f17_l_r8At n n14 l15 (41 : Int) (9 : Int)) fun r25 =>
       let i26 : Int := r25
       bd (f16_s_R8Plain n n16 l17 (IntKind.i64.wrap ((1 : Int) + i26))) fun r27 =>
       let n28 : Nat := r27.1
       let l29 : List T := r27.2
       bd (f47_i_RootMean n n28 l29) fun r30 =>
       let x31 : Nat := r30.1
       let b32 : Bool := r30.2
       bd (f48_i_PeakOf n n28 l29) fun r33 =>
       let x34 : Nat := r33.1
       let b35 : Bool := r33.2
       bd (f17_l_r8At n n14 l15 (42 : Int) (16 : Int)) fun r36 =>
       let i37 : Int := r36
       let x38 : Nat := (fdiv FloatKind.f32 (FloatKind.nearest FloatKind.f32 (IntKind.i64.wrap ((1 : Int) + i37))) 1090519040)
       bd (f49_i_FadeSamples n n28 l29 x38 x38) fun r39 =>
       let n40 : Nat := r39.1
       let l41 : List T := r39.2.1
       let b42 : Bool := r39.2.2
       br (!b32) (
        some false) (
        br (!b35) (
         some false) (
         br (!b42) (
          some false) (
          br (((n40 : Nat) : Int) != ((n28 : Nat) : Int)) (
           some false) (
           br (!(fge FloatKind.f32 x31 0)) (
            some false) (
            bd ((fltToFlt FloatKind.f32 x31 FloatKind.f64)) fun y43 =>
            bd ((fltToFlt FloatKind.f32 x34 FloatKind.f64)) fun y44 =>
            br (fgt FloatKind.f64 y43 (fmul FloatKind.f64 4607182869159980145 y44)) (
             some false) (
             bd (f8_l_FnBent.l1 n n n28 l29 x31 x38 n40 l41 x34 (0 : Int)) fun r45 =>
             sm r45 (fun u46 =>
              let b47 : Bool := u46
              some b47) (fun u48 =>
              let x49 : Nat := u48.1
              let x50 : Nat := u48.2
              bd ((fltToFlt FloatKind.f32 x49 FloatKind.f64)) fun y51 =>
              bd ((fltToFlt FloatKind.f32 x50 FloatKind.f64)) fun y52 =>
              some (fge FloatKind.f64 (fmul FloatKind.f64 4607182869159980145 y51) y52)))))))))))
def sg_llli : Sig (Nat × List T × Nat × List T × Nat × List T × Int) where
  pk := fun v => [.lst v.1 v.2.1, .lst v.2.2.1 v.2.2.2.1, .lst v.2.2.2.2.1 v.2.2.2.2.2.1, .int v.2.2.2.2.2.2]
  up := fun ls => match ls with
    | [.lst a0 a1, .lst a2 a3, .lst a4 a5, .int a6] => some (a0, a1, a2, a3, a4, a5, a6)
    | _ => none
  ok := by
    intro ls v h
    split at h
    · cases h; rfl
    · cases h

def sg_lfflfi : Sig (Nat × List T × Nat × Nat × Nat × List T × Nat × Int) where
  pk := fun v => [.lst v.1 v.2.1, .flt v.2.2.1, .flt v.2.2.2.1, .lst v.2.2.2.2.1 v.2.2.2.2.2.1, .flt v.2.2.2.2.2.2.1, .int v.2.2.2.2.2.2.2]
  up := fun ls => match ls with
    | [.lst a0 a1, .flt a2, .flt a3, .lst a4 a5, .flt a6, .int a7] => some (a0, a1, a2, a3, a4, a5, a6, a7)
    | _ => none
  ok := by
    intro ls v h
    split at h
    · cases h; rfl
    · cases h

def sg_ff : Sig (Nat × Nat) where
  pk := fun v => [.flt v.1, .flt v.2]
  up := fun ls => match ls with
    | [.flt a0, .flt a1] => some (a0, a1)
    | _ => none
  ok := by
    intro ls v h
    split at h
    · cases h; rfl
    · cases h

def f8_l_FnBent.l0.P : AS := ⟨[(0, .val false [.sl .shr [.leaf]] [.lst 0 []] [] 0), (1, .val false [.sl .shr [.leaf]] [.lst 0 []] [] 0), (5, .val false [.sl .own [.leaf]] [.lst 0 []] [] 0), (6, .val false [.leaf] [.int .i64 0] [] 0)], 0⟩
def f8_l_FnBent.l0.A : Alt ((Bool) ⊕ (Nat × List T × Nat × List T)) := .or (.one .ret ⟨[(0, .dead), (1, .dead), (4, .val false [.leaf] [.bool false] [] 0)], 0⟩ sg_b) (.one (.exit 0) ⟨[(0, .val false [.sl .shr [.leaf]] [.lst 0 []] [] 0), (1, .val false [.sl .shr [.leaf]] [.lst 0 []] [] 0), (4, .dead)], 0⟩ sg_ll)
def f8_l_FnBent.l0.F (n m : Nat) (v : Nat × List T × Nat × List T × Nat × List T × Int) := f8_l_FnBent.l0 n m v.1 v.2.1 v.2.2.1 v.2.2.2.1 v.2.2.2.2.1 v.2.2.2.2.2.1 v.2.2.2.2.2.2
def f8_l_FnBent.l0.W (n : Nat) : LpW := .of 80 f8_l_FnBent.l0.P sg_llli f8_l_FnBent.l0.A (f8_l_FnBent.l0.F n n)
def f8_l_FnBent.l1.P : AS := ⟨[(10, .val false [.sl .own [.leaf]] [.lst 0 []] [] 0), (11, .val false [.leaf] [.flt .f32 0] [] 0), (15, .val false [.leaf] [.flt .f32 0] [] 0), (16, .val false [.sl .own [.leaf]] [.lst 0 []] [] 0), (18, .val false [.leaf] [.flt .f32 0] [] 0), (19, .val false [.leaf] [.int .i64 0] [] 0)], 0⟩
def f8_l_FnBent.l1.A : Alt ((Bool) ⊕ (Nat × Nat)) := .or (.one .ret ⟨[(4, .val false [.leaf] [.bool false] [] 0), (11, .dead), (18, .dead)], 0⟩ sg_b) (.one (.exit 2) ⟨[(4, .dead), (11, .val false [.leaf] [.flt .f32 0] [] 0), (18, .val false [.leaf] [.flt .f32 0] [] 0)], 0⟩ sg_ff)
def f8_l_FnBent.l1.F (n m : Nat) (v : Nat × List T × Nat × Nat × Nat × List T × Nat × Int) := f8_l_FnBent.l1 n m v.1 v.2.1 v.2.2.1 v.2.2.2.1 v.2.2.2.2.1 v.2.2.2.2.2.1 v.2.2.2.2.2.2.1 v.2.2.2.2.2.2.2
def f8_l_FnBent.l1.W (n : Nat) : LpW := .of 368 f8_l_FnBent.l1.P sg_lfflfi f8_l_FnBent.l1.A (f8_l_FnBent.l1.F n n)
def f8_l_FnBent.P : List Arg := [⟨.val, ⟨false, [.sl .shr [.leaf]], [.lst 0 []]⟩⟩, ⟨.val, ⟨false, [.sl .shr [.leaf]], [.lst 0 []]⟩⟩]
def f8_l_FnBent.A : RAlt (Bool) := .one ⟨[⟨false, [.leaf], [.bool false]⟩], [none, none]⟩ sg_b
def f8_l_FnBent.F (n : Nat) (v : Nat × List T × Nat × List T) := f8_l_FnBent n v.1 v.2.1 v.2.2.1 v.2.2.2
noncomputable def f8_l_FnBent.O (n : Nat) : Orc := orcOf (E := E) [f15_l_r8Long.w, f22_s_R8Samples.w, f46_i_BendSample.w, f17_l_r8At.w, f16_s_R8Plain.w, f47_i_RootMean.w, f48_i_PeakOf.w, f49_i_FadeSamples.w] [f8_l_FnBent.l0.W n, f8_l_FnBent.l1.W n] n
theorem f8_l_FnBent.l0.ok (n : Nat) : LpOk (f8_l_FnBent.O n) E (evalFn E n) n (keepAt 8) (.loop (loopAt c8 0)) :=
  lp_pure f8_l_FnBent.l0.P sg_llli f8_l_FnBent.l0.A (f8_l_FnBent.l0.F n) (orcOf_cf _ _ n) (lpOk_of (bs := []) (by kernel_rfl) .nil) (fun _ => rfl) (fun _ _ => by kernel_rfl) (fun _ _ _ => by kernel_rfl)
theorem f8_l_FnBent.l1.ok (n : Nat) : LpOk (f8_l_FnBent.O n) E (evalFn E n) n (keepAt 8) (.loop (loopAt c8 1)) :=
  lp_pure f8_l_FnBent.l1.P sg_lfflfi f8_l_FnBent.l1.A (f8_l_FnBent.l1.F n) (orcOf_cf _ _ n) (lpOk_of (bs := []) (by kernel_rfl) .nil) (fun _ => rfl) (fun _ _ => by kernel_rfl) (fun _ _ _ => by kernel_rfl)
theorem f8_l_FnBent.ok : ∀ n v x, f8_l_FnBent.F n v = some x → evalFn E n 8 (flAs f8_l_FnBent.P (sg_ll.pk v)) = some (f8_l_FnBent.A.enc x) :=
  fn_pure (modes := (fdAt 8).ms) (outs := (fdAt 8).os) (results := (fdAt 8).rs) f8_l_FnBent.O (c := c8) (keep := keepAt 8) (by kernel_rfl) (fun n => orcOf_cf _ _ n) (fun n => lpOk_of (bs := [loopAt c8 0, loopAt c8 1]) (by kernel_rfl) (.cons (f8_l_FnBent.l0.ok n) (.cons (f8_l_FnBent.l1.ok n) .nil))) (fun _ => rfl) (fun _ _ => by kernel_rfl)
noncomputable def f8_l_FnBent.w : FnW E := fnW 8 f8_l_FnBent.P sg_ll f8_l_FnBent.A f8_l_FnBent.F f8_l_FnBent.ok
end Go.Proofs.Ytjkhhalnlodinaa.D
end
section
/- FnBent, in plain Lean. -/
namespace Go.Proofs.Ytjkhhalnlodinaa.D
open Go Go.Desk
set_option linter.unusedVariables false
theorem s_from (n l : Nat) (c : List T) : f90_s_l00From (n + 1) l c = some (l, c, 0, 0) := by rw [f90_s_l00From]
theorem s_next (n : Nat) {bs : List Int} (hb : Bytes bs) {a : Int} (h0 : 0 ≤ a) (h1 : a ≤ 1125899906842624) (sd : Int) :
    ∃ r sd', (0 ≤ r ∧ r ≤ 255) ∧ f163_s_l00Srcnext (n + 1) bs.length (its .u8 bs) a sd = some (r, bs.length, its .u8 bs, a + 1, sd') := by
  rw [f163_s_l00Srcnext]
  rw [show IntKind.i64.wrap (a + 1) = a + 1 by rw [wrap64] <;> omega]
  cases h : decide (a < (bs.length : Int))
  · simp only [br_f]
    cases decide (a + 1 ≤ (bs.length : Int))
    · exact ⟨_, _, and255 _, rfl⟩
    · exact ⟨0, _, by omega, rfl⟩
  · simp only [decide_eq_true_eq] at h
    obtain ⟨i, rfl⟩ := Int.eq_ofNat_of_zero_le h0
    have hi : i < bs.length := by omega
    have hr := hb (bs[i]) (List.getElem_mem _)
    simp only [br_t, in_dec hi, Int.toNat_natCast, okAt_its hi, Bool.and_self, gd_t, iAt_its]
    rw [show bs.getD i 0 = bs[i] by simp [List.getD, hi], show IntKind.i64.wrap bs[i] = bs[i] by rw [wrap64] <;> omega]
    cases decide ((i : Int) + 1 ≤ (bs.length : Int))
    · exact ⟨_, _, and255 _, rfl⟩
    · exact ⟨_, _, hr, rfl⟩
theorem s_pick (n : Nat) {bs : List Int} (hb : Bytes bs) {a : Int} (h0 : 0 ≤ a) (h1 : a ≤ 1125899906842622) (sd k : Int) :
    ∃ r a' sd', (0 ≤ r ∧ (1 < k → r < k) ∧ (k ≤ 1 → r = 0)) ∧ (a ≤ a' ∧ a' ≤ a + 2) ∧ f97_s_l00Srcpick (n + 2) bs.length (its .u8 bs) a sd k = some (r, bs.length, its .u8 bs, a', sd') := by
  rw [f97_s_l00Srcpick]
  by_cases hk : k ≤ 1
  · rw [decide_eq_true hk]; exact ⟨0, a, sd, by omega, by omega, rfl⟩
  rw [decide_eq_false hk]
  obtain ⟨r, s1, hr, e1⟩ := s_next n hb h0 (by omega) sd
  simp only [br_f, e1, bd_s]
  have hk0 : (!decide (k = 0)) = true := by simp; omega
  by_cases hk2 : k > 200
  · rw [decide_eq_true hk2]
    obtain ⟨r', s2, hr', e2⟩ := s_next n hb (a := a + 1) (by omega) (by omega) s1
    simp only [br_t, e2, bd_s, hk0, gd_t]
    rw [show IntKind.i64.wrap (r * 256) = r * 256 by rw [wrap64] <;> omega, show IntKind.i64.wrap (r * 256 + r') = r * 256 + r' by rw [wrap64] <;> omega]
    refine ⟨_, _, _, ?_, ?_, rfl⟩
    · rw [Int.tmod_eq_emod_of_nonneg (by omega)]
      have := Int.emod_nonneg (r * 256 + r') (show k ≠ 0 by omega)
      have := Int.emod_lt_of_pos (r * 256 + r') (show 0 < k by omega)
      omega
    · omega
  · rw [decide_eq_false hk2]
    simp only [br_f, hk0, gd_t]
    refine ⟨_, _, _, ?_, ?_, rfl⟩
    · rw [Int.tmod_eq_emod_of_nonneg (by omega)]
      have := Int.emod_nonneg r (show k ≠ 0 by omega)
      have := Int.emod_lt_of_pos r (show 0 < k by omega)
      omega
    · omega
theorem s_one (n : Nat) {bs : List Int} (hb : Bytes bs) {a : Int} (h0 : 0 ≤ a) (h1 : a ≤ 1125899906842622) (sd k : Int) :
    ∃ r a' sd', (a ≤ a' ∧ a' ≤ a + 2) ∧ f158_s_l00Srcone (n + 3) bs.length (its .u8 bs) a sd k = some (r, bs.length, its .u8 bs, a', sd') := by
  obtain ⟨r, a', s', -, ha, e⟩ := s_pick n hb h0 h1 sd k
  rw [f158_s_l00Srcone, e]
  exact ⟨_, _, _, ha, rfl⟩
theorem s_plain (n : Nat) {bs : List Int} (hb : Bytes bs) {a : Int} (h0 : 0 ≤ a) (h1 : a ≤ 1125899906842620) (sd : Int) :
    ∃ x a' sd', Plain x ∧ (a ≤ a' ∧ a' ≤ a + 4) ∧ f91_s_l01DrawPlain (n + 4) bs.length (its .u8 bs) a sd = some (x, bs.length, its .u8 bs, a', sd') := by
  obtain ⟨r, a1, s1, hr, ha, e⟩ := s_pick (n + 1) hb h0 (by omega) sd 129
  obtain ⟨b, a2, s2, ha2, e2⟩ := s_one n hb (a := a1) (by omega) (by omega) s1 4
  rw [f91_s_l01DrawPlain, e]
  simp only [bd_s, e2]
  rw [show IntKind.i64.wrap (r - 64) = r - 64 by rw [wrap64] <;> omega]
  cases b
  · exact ⟨_, a2, s2, ⟨r - 64, by omega, .inr rfl⟩, by omega, rfl⟩
  · exact ⟨_, a2, s2, ⟨r - 64, by omega, .inl rfl⟩, by omega, rfl⟩
theorem s_among (n : Nat) {bs : List Int} (hb : Bytes bs) {a : Int} (h0 : 0 ≤ a) (h1 : a ≤ 1125899906842622) (sd : Int) (L : List Int) (hL : 0 < L.length) :
    ∃ r a' sd', r ∈ L ∧ (a ≤ a' ∧ a' ≤ a + 2) ∧ f168_s_l00Srcamong (n + 3) bs.length (its .u8 bs) a sd L.length (its .i64 L) = some (r, bs.length, its .u8 bs, a', sd', L.length, its .i64 L) := by
  obtain ⟨r, a1, s1, hr, ha, e⟩ := s_pick n hb h0 h1 sd (L.length : Int)
  rw [f168_s_l00Srcamong, e]
  obtain ⟨i, rfl⟩ := Int.eq_ofNat_of_zero_le hr.1
  have hi : i < L.length := by
    by_cases h : (L.length : Int) ≤ 1
    · have := hr.2.2 h; omega
    · have := hr.2.1 (by omega); omega
  simp only [bd_s, in_dec hi, Int.toNat_natCast, okAt_its hi, Bool.and_self, gd_t, iAt_its]
  refine ⟨_, _, _, ?_, ha, rfl⟩
  rw [show L.getD i 0 = L[i] by simp [List.getD, hi]]
  exact List.getElem_mem _
theorem s_from32 (n : Nat) {i : Int} (h0 : 0 ≤ i) (h1 : i < 4294967296) : ∃ x, W32 x ∧ f167_s_l01From (n + 2) i = some x := by
  rw [f167_s_l01From]
  refine ⟨canon .f32 i.toNat, w32_canon (by omega), ?_⟩
  rw [u32_wrap h0 h1]
  show bd (if 0 ≤ i then some (canon .f32 i.toNat) else none) _ = _
  rw [if_pos h0]; rfl
theorem s_float (n : Nat) {bs : List Int} (hb : Bytes bs) {a : Int} (h0 : 0 ≤ a) (h1 : a ≤ 1125899906842600) (sd : Int) :
    ∃ x a' sd', W32 x ∧ (a ≤ a' ∧ a' ≤ a + 16) ∧ f112_s_l01DrawFloat (n + 5) bs.length (its .u8 bs) a sd = some (x, bs.length, its .u8 bs, a', sd') := by
  obtain ⟨b, a1, s1, ha1, e1⟩ := s_one (n + 1) hb h0 (by omega) sd 12
  rw [f112_s_l01DrawFloat, e1]
  simp only [bd_s, br_not]
  cases b
  · obtain ⟨x, a2, s2, hx, ha2, e2⟩ := s_plain n hb (a := a1) (by omega) (by omega) s1
    simp only [br_f, e2, bd_s]
    exact ⟨_, _, _, hx.w32, by omega, rfl⟩
  obtain ⟨q, a2, s2, -, ha2, e2⟩ := s_pick (n + 2) hb (a := a1) (by omega) (by omega) s1 4
  simp only [br_t, e2, bd_s]
  cases q == 0
  case true =>
    obtain ⟨r, a3, s3, hr, ha3, e3⟩ := s_among (n + 1) hb (a := a2) (by omega) (by omega) s2 [0, 2147483648, 2139095040, 4286578688, 2143289344, 1, 2139095039, 8388608, 8388607, 2147483649] (by decide)
    have hr' : 0 ≤ r ∧ r < 4294967296 := by simp only [List.mem_cons, List.not_mem_nil, or_false] at hr; omega
    obtain ⟨x, hx, e4⟩ := s_from32 (n + 2) hr'.1 hr'.2
    rw [br_t]
    refine ⟨x, a3, s3, hx, by omega, ?_⟩
    refine Eq.trans (congrArg (fun o => bd o _) e3) ?_
    simp only [bd_s, e4]
  cases q == 1
  case true =>
    obtain ⟨r, a3, s3, hr, ha3, e3⟩ := s_pick (n + 2) hb (a := a2) (by omega) (by omega) s2 65536
    obtain ⟨r', a4, s4, hr', ha4, e4⟩ := s_pick (n + 2) hb (a := a3) (by omega) (by omega) s3 65536
    obtain ⟨x, hx, e5⟩ := s_from32 (n + 2) (i := r * 65536 + r') (by omega) (by omega)
    simp only [br_f, br_t, e3, e4, bd_s]
    rw [show IntKind.i64.wrap (r * 65536) = r * 65536 by rw [wrap64] <;> omega, show IntKind.i64.wrap (r * 65536 + r') = r * 65536 + r' by rw [wrap64] <;> omega, e5]
    exact ⟨x, _, _, hx, by omega, rfl⟩
  cases q == 2
  case true =>
    obtain ⟨r, a3, s3, hr, ha3, e3⟩ := s_pick (n + 2) hb (a := a2) (by omega) (by omega) s2 65536
    obtain ⟨x, hx, e5⟩ := s_from32 (n + 2) (i := r * 65536) (by omega) (by omega)
    simp only [br_f, br_t, e3, bd_s]
    rw [show IntKind.i64.wrap (r * 65536) = r * 65536 by rw [wrap64] <;> omega, e5]
    exact ⟨x, _, _, hx, by omega, rfl⟩
  obtain ⟨x, a3, s3, hx, ha3, e3⟩ := s_plain n hb (a := a2) (by omega) (by omega) s2
  obtain ⟨r, a4, s4, hr, ha4, e4⟩ := s_among (n + 1) hb (a := a3) (by omega) (by omega) s3 [8388608, 2130706432, 1610612736, 536870912] (by decide)
  have hr' : 0 ≤ r ∧ r < 4294967296 := by simp only [List.mem_cons, List.not_mem_nil, or_false] at hr; omega
  obtain ⟨y, hy, e5⟩ := s_from32 (n + 2) hr'.1 hr'.2
  simp only [br_f, e3, bd_s]
  refine ⟨_, a4, s4, w32_fmul x y, by omega, ?_⟩
  refine Eq.trans (congrArg (fun o => bd o _) e4) ?_
  simp only [bd_s, e5]
theorem s_floats_loop (n : Nat) {bs : List Int} (hb : Bytes bs) (str : Bool) : ∀ (j m : Nat) (a sd : Int) (acc : List Nat), 0 ≤ a → a + 16 * (j : Int) ≤ 1125899906842000 → acc.length + j ≤ 2147483647 → j < m → (∀ x ∈ acc, W32 x) →
    ∃ ys a' sd', ys.length = acc.length + j ∧ (∀ x ∈ ys, W32 x) ∧ (a ≤ a' ∧ a' ≤ a + 16 * (j : Int)) ∧
      f98_s_l01DrawFloats.l0 (n + 5) m bs.length (its .u8 bs) a sd (j : Int) acc.length (fls .f32 acc) str = some (bs.length, its .u8 bs, a', sd', ys.length, fls .f32 ys) := by
  intro j
  induction j with
  | zero =>
    intro m a sd acc h0 h1 hl hm hw
    obtain ⟨m, rfl⟩ : ∃ k, m = k + 1 := ⟨m - 1, by omega⟩
    rw [f98_s_l01DrawFloats.l0]
    exact ⟨acc, a, sd, by omega, hw, by omega, rfl⟩
  | succ j ih =>
    intro m a sd acc h0 h1 hl hm hw
    obtain ⟨m, rfl⟩ : ∃ k, m = k + 1 := ⟨m - 1, by omega⟩
    rw [f98_s_l01DrawFloats.l0, decide_eq_true (show (((j + 1 : Nat) : Int) > 0) by omega), show IntKind.i64.wrap (((j + 1 : Nat) : Int) - 1) = (j : Int) by rw [wrap64] <;> omega]
    have key : ∀ x a1 s1, W32 x → a ≤ a1 → a1 ≤ a + 16 → ∃ ys a' sd', ys.length = acc.length + (j + 1) ∧ (∀ x ∈ ys, W32 x) ∧ (a ≤ a' ∧ a' ≤ a + 16 * ((j + 1 : Nat) : Int)) ∧
        f98_s_l01DrawFloats.l0 (n + 5) m bs.length (its .u8 bs) a1 s1 (j : Int) (acc ++ [x]).length (fls .f32 (acc ++ [x])) str = some (bs.length, its .u8 bs, a', sd', ys.length, fls .f32 ys) := by
      intro x a1 s1 hx h2 h3
      obtain ⟨ys, a', sd', hy, hyw, ha, e⟩ := ih m a1 s1 (acc ++ [x]) (by omega) (by omega) (by simp; omega) (by omega) (by
        intro y hy; simp only [List.mem_append, List.mem_singleton] at hy; rcases hy with hy | rfl
        · exact hw y hy
        · exact hx)
      exact ⟨ys, a', sd', by simp at hy; omega, hyw, by omega, e⟩
    simp only [br_t]
    cases str
    · obtain ⟨x, a1, s1, hx, ha, e⟩ := s_plain (n + 1) hb h0 (by omega) sd
      simp only [br_f, e, bd_s, push_ok (show acc.length < 2147483648 by omega), gd_t, push_fls]
      rw [show acc.length + 1 = (acc ++ [x]).length by simp]
      exact key x a1 s1 hx.w32 (by omega) (by omega)
    · obtain ⟨x, a1, s1, hx, ha, e⟩ := s_float n hb h0 (by omega) sd
      simp only [br_t, e, bd_s, push_ok (show acc.length < 2147483648 by omega), gd_t, push_fls]
      rw [show acc.length + 1 = (acc ++ [x]).length by simp]
      exact key x a1 s1 hx (by omega) (by omega)
theorem s_floats (n : Nat) {bs : List Int} (hb : Bytes bs) {a : Int} (h0 : 0 ≤ a) (j : Nat) (h1 : a + 16 * (j : Int) ≤ 1125899906841000) (hj : j ≤ 2147483647) (hn : j < n) (sd : Int) :
    ∃ ys a' sd', ys.length = j ∧ (∀ x ∈ ys, W32 x) ∧ (a ≤ a' ∧ a' ≤ a + 2 + 16 * (j : Int)) ∧ f98_s_l01DrawFloats (n + 6) bs.length (its .u8 bs) a sd (j : Int) = some (ys.length, fls .f32 ys, bs.length, its .u8 bs, a', sd') := by
  obtain ⟨b, a1, s1, ha1, e1⟩ := s_one (n + 2) hb h0 (by omega) sd 4
  obtain ⟨ys, a2, s2, hy, hw, ha2, e2⟩ := s_floats_loop n hb b j (n + 5) a1 s1 [] (by omega) (by omega) (by simp; omega) (by omega) (by simp)
  rw [f98_s_l01DrawFloats, e1]
  refine ⟨ys, a2, s2, by simpa using hy, hw, by omega, ?_⟩
  have e2 : f98_s_l01DrawFloats.l0 (n + 5) (n + 5) bs.length (its .u8 bs) a1 s1 (j : Int) 0 (reps 0 [(T.flt FloatKind.f32 0)]) b = some (bs.length, its .u8 bs, a2, s2, ys.length, fls .f32 ys) := e2
  simp only [bd_s, e2]
theorem s_r8samples (n : Nat) {bs : List Int} (hb : Bytes bs) (k : Nat) (hk : k ≤ 1000) (hn : k < n) : ∃ xs, xs.length ≤ k ∧ (∀ x ∈ xs, W32 x) ∧ f22_s_R8Samples (n + 7) bs.length (its .u8 bs) (k : Int) = some (xs.length, fls .f32 xs) := by
  obtain ⟨r, a1, s1, hr, ha1, e1⟩ := s_pick (n + 4) hb (a := 0) (by omega) (by omega) 0 ((k : Int) + 1)
  obtain ⟨j, rfl⟩ := Int.eq_ofNat_of_zero_le hr.1
  have hj : j ≤ k := by omega
  obtain ⟨ys, a2, s2, hy, hw, ha2, e2⟩ := s_floats n hb (a := a1) (by omega) j (by omega) (by omega) (by omega) s1
  rw [f22_s_R8Samples, s_from, show IntKind.i64.wrap ((k : Int) + 1) = (k : Int) + 1 by rw [wrap64] <;> omega]
  simp only [bd_s, e1, e2]
  exact ⟨ys, by omega, hw, rfl⟩
theorem s_r8plain_loop (n : Nat) {bs : List Int} (hb : Bytes bs) (k : Nat) : ∀ (j m : Nat) (a sd : Int) (acc : List Nat), 0 ≤ a → a + 4 * (j : Int) ≤ 1125899906842000 → k = acc.length + j → k ≤ 1000 → j < m → (∀ x ∈ acc, Plain x) →
    ∃ ys, ys.length = k ∧ (∀ x ∈ ys, Plain x) ∧
      (∃ u, f16_s_R8Plain.l0 (n + 4) m (k : Int) bs.length (its .u8 bs) a sd acc.length (fls .f32 acc) (acc.length : Int) = some u ∧ u = (ys.length, fls .f32 ys)) := by
  intro j
  induction j with
  | zero =>
    intro m a sd acc h0 h1 hl hk hm hw
    obtain ⟨m, rfl⟩ : ∃ k, m = k + 1 := ⟨m - 1, by omega⟩
    rw [f16_s_R8Plain.l0, decide_eq_false (show ¬ ((acc.length : Int) < (k : Int)) by omega)]
    exact ⟨acc, by omega, hw, _, rfl, rfl⟩
  | succ j ih =>
    intro m a sd acc h0 h1 hl hk hm hw
    obtain ⟨m, rfl⟩ : ∃ k, m = k + 1 := ⟨m - 1, by omega⟩
    obtain ⟨x, a1, s1, hx, ha, e⟩ := s_plain n hb h0 (by omega) sd
    rw [f16_s_R8Plain.l0, decide_eq_true (show ((acc.length : Int) < (k : Int)) by omega)]
    simp only [br_t, e, bd_s, push_ok (show acc.length < 2147483648 by omega), gd_t, push_fls]
    rw [wrap_len (z := x) (by omega), show acc.length + 1 = (acc ++ [x]).length by simp]
    exact ih m a1 s1 (acc ++ [x]) (by omega) (by omega) (by simp; omega) hk (by omega) (by
        intro y hy; simp only [List.mem_append, List.mem_singleton] at hy; rcases hy with hy | rfl
        · exact hw y hy
        · exact hx)
theorem s_r8plain (n : Nat) {bs : List Int} (hb : Bytes bs) (k : Nat) (hk : k ≤ 1000) (hn : k < n) : ∃ xs, xs.length = k ∧ (∀ x ∈ xs, Plain x) ∧ f16_s_R8Plain (n + 5) bs.length (its .u8 bs) (k : Int) = some (xs.length, fls .f32 xs) := by
  obtain ⟨ys, hy, hw, u, e, rfl⟩ := s_r8plain_loop n hb k k (n + 4) 0 0 [] (by omega) (by omega) (by simp) hk (by omega) (by simp)
  rw [f16_s_R8Plain, s_from]
  have e : f16_s_R8Plain.l0 (n + 4) (n + 4) (k : Int) bs.length (its .u8 bs) 0 0 0 (reps 0 [(T.flt FloatKind.f32 0)]) 0 = some (ys.length, fls .f32 ys) := e
  refine ⟨ys, hy, hw, ?_⟩
  simp only [bd_s, e]

theorem l_long (n : Nat) (bs cs : List Int) : f15_l_r8Long (n + 1) bs.length (its .u8 bs) cs.length (its .u8 cs) = some (decide (48 < bs.length ∨ 48 < cs.length)) := by
  rw [f15_l_r8Long]
  by_cases h : 48 < bs.length
  · rw [decide_eq_true (show (bs.length : Int) > 48 by omega), decide_eq_true (Or.inl h)]; rfl
  · rw [decide_eq_false (show ¬ (bs.length : Int) > 48 by omega), br_f]
    congr 1
    simp [h]; omega
theorem l_at (n : Nat) {bs : List Int} (hb : Bytes bs) {i k : Int} (hi : 0 ≤ i) (hk : 1 ≤ k) : ∃ r, (0 ≤ r ∧ r < k) ∧ f17_l_r8At (n + 1) bs.length (its .u8 bs) i k = some r := by
  rw [f17_l_r8At]
  by_cases h : k ≤ 1
  · rw [decide_eq_true h]; exact ⟨0, by omega, rfl⟩
  rw [decide_eq_false h]
  by_cases h2 : i ≥ (bs.length : Int)
  · rw [decide_eq_true h2]; exact ⟨0, by omega, rfl⟩
  rw [decide_eq_false h2]
  obtain ⟨i, rfl⟩ := Int.eq_ofNat_of_zero_le hi
  have hi : i < bs.length := by omega
  have hr := hb (bs[i]) (List.getElem_mem _)
  have hk0 : (!decide (k = 0)) = true := by simp; omega
  simp only [br_f, in_dec hi, Int.toNat_natCast, okAt_its hi, Bool.and_self, gd_t, iAt_its, hk0]
  rw [show bs.getD i 0 = bs[i] by simp [List.getD, hi], show IntKind.i64.wrap bs[i] = bs[i] by rw [wrap64] <;> omega]
  refine ⟨_, ?_, rfl⟩
  rw [Int.tmod_eq_emod_of_nonneg (by omega)]
  have := Int.emod_nonneg bs[i] (show k ≠ 0 by omega)
  have := Int.emod_lt_of_pos bs[i] (show 0 < k by omega)
  omega

theorem i_few (n k : Nat) (l : List T) : f92_i_areSamples (n + 1) k l = some (decide ((k : Int) ≤ 256)) := by rw [f92_i_areSamples]


theorem i_absolute (n : Nat) {x : Nat} (hg : W32 x) : f166_i_absolute (n + 2) x = some (size32 x) := by
  obtain ⟨h1, h2⟩ := abs_size hg.1 hg.2 n
  rw [f166_i_absolute, fltToFlt_wide]
  simp only [bd, h1, h2]

/-- the greatest size so far -/
def peakM (m : Nat) (xs : List Nat) : Nat := xs.foldl (fun m x => if fgt .f32 (size32 x) m then size32 x else m) m
theorem w32_peak : ∀ (xs : List Nat) (m : Nat), W32 m → (∀ x ∈ xs, W32 x) → W32 (peakM m xs)
  | [], m, h, _ => h
  | x :: xs, m, h, hx => by
    show W32 (peakM (if fgt .f32 (size32 x) m then size32 x else m) xs)
    refine w32_peak xs _ ?_ (fun y hy => hx y (by simp [hy]))
    split
    · exact w32_size (hx x (by simp))
    · exact h
theorem i_peak_loop (n : Nat) (N : Nat) (cs : List T) : ∀ (zs p : List Nat) (mx m : Nat), (∀ x ∈ zs, W32 x) → p.length + zs.length < 1048576 → zs.length < m →
    f110_i_peakOf.l0 (n + 2) m N cs mx (p ++ zs).length (fls .f32 (p ++ zs)) ((p ++ zs).length : Int) (p.length : Int) = some (peakM mx zs) := by
  intro zs
  induction zs with
  | nil =>
    intro p mx m _ _ hm
    obtain ⟨m, rfl⟩ : ∃ k, m = k + 1 := ⟨m - 1, by omega⟩
    rw [f110_i_peakOf.l0, lt_end]; rfl
  | cons z zs ih =>
    intro p mx m hz hp hm
    obtain ⟨m, rfl⟩ : ∃ k, m = k + 1 := ⟨m - 1, by omega⟩
    have ih' := fun mx => ih (p ++ [z]) mx m (fun x hx => hz x (by simp [hx])) (by simp at hp ⊢; omega) (by simp at hm; omega)
    simp only [List.append_assoc, List.cons_append, List.nil_append] at ih'
    rw [f110_i_peakOf.l0, lt_mid, in_mid, toNat_len, okAt_mid, fAt_mid]
    simp only [br_t, gd_t, Bool.and_self, i_absolute n (hz z (by simp)), bd_s, wrap_len (z := z) (show p.length < 4611686018427387904 by simp at hp; omega)]
    show _ = some (peakM (if fgt .f32 (size32 z) mx then size32 z else mx) zs)
    cases fgt .f32 (size32 z) mx
    · exact ih' mx
    · exact ih' _
theorem i_peak (n : Nat) (xs : List Nat) (hx : ∀ x ∈ xs, W32 x) (hl : xs.length < 1048576) (hn : xs.length < n) : f110_i_peakOf (n + 3) xs.length (fls .f32 xs) = some (peakM 0 xs) := by
  rw [f110_i_peakOf]
  have e := i_peak_loop n xs.length (fls .f32 xs) xs [] 0 (n + 2) hx (by simpa using hl) (by omega)
  have e : f110_i_peakOf.l0 (n + 2) (n + 2) xs.length (fls .f32 xs) 0 xs.length (fls .f32 xs) (xs.length : Int) 0 = some (peakM 0 xs) := e
  rw [e]; rfl
theorem i_peakof (n : Nat) (xs : List Nat) (hx : ∀ x ∈ xs, W32 x) (hl : xs.length ≤ 256) (hn : xs.length < n) : f48_i_PeakOf (n + 4) xs.length (fls .f32 xs) = some (peakM 0 xs, true) := by
  rw [f48_i_PeakOf, i_few, decide_eq_true (show (xs.length : Int) ≤ 256 by omega)]
  simp only [bd_s, br_not, br_t, i_peak n xs hx (by omega) hn]
theorem peak_facts : ∀ (xs : List Nat) (m : Nat), W32 m → isNaN .f32 m = false → 0 ≤ key .f32 m → (∀ x ∈ xs, W32 x) →
    isNaN .f32 (peakM m xs) = false ∧ key .f32 m ≤ key .f32 (peakM m xs) ∧ (∀ x ∈ xs, isNaN .f32 x = false → (key .f32 x).natAbs ≤ key .f32 (peakM m xs)) ∧ (peakM m xs = m ∨ ∃ x ∈ xs, isNaN .f32 x = false ∧ peakM m xs = size32 x)
  | [], m, _, hn, _, _ => ⟨hn, Int.le_refl _, by simp, .inl rfl⟩
  | x :: xs, m, hm, hn, h0, hx => by
    have hw := hx x (by simp)
    show isNaN .f32 (peakM (if fgt .f32 (size32 x) m then size32 x else m) xs) = false ∧ _
    cases hc : fgt .f32 (size32 x) m
    · obtain ⟨h1, h2, h3, h4⟩ := peak_facts xs m hm hn h0 (fun y hy => hx y (by simp [hy]))
      have e : peakM m (x :: xs) = peakM m xs := by show peakM (if fgt .f32 (size32 x) m then size32 x else m) xs = _; rw [hc]; rfl
      rw [e]
      refine ⟨h1, h2, fun y hy hyn => ?_, ?_⟩
      · simp only [List.mem_cons] at hy
        rcases hy with rfl | hy
        · rw [fgt_key] at hc
          unfold num2 at hc
          rw [nan_size, hyn, hn, key_size32 hw.1 hyn] at hc
          simp at hc
          omega
        · exact h3 y hy hyn
      · rcases h4 with h4 | ⟨y, hy, h5⟩
        · exact .inl h4
        · exact .inr ⟨y, by simp [hy], h5⟩
    · have hxn : isNaN .f32 x = false := by
        cases h : isNaN .f32 x
        · rfl
        · rw [fgt_nan _ (by rw [nan_size]; exact h)] at hc; cases hc
      have hk := key_size32 hw.1 hxn
      rw [fgt_key] at hc
      unfold num2 at hc
      rw [nan_size, hxn, hn, hk] at hc
      simp at hc
      obtain ⟨h1, h2, h3, h4⟩ := peak_facts xs (size32 x) (w32_size hw) (by rw [nan_size]; exact hxn) (by rw [hk]; omega) (fun y hy => hx y (by simp [hy]))
      have e : peakM m (x :: xs) = peakM (size32 x) xs := by
        show peakM (if fgt .f32 (size32 x) m then size32 x else m) xs = _
        rw [fgt_key]; unfold num2; rw [nan_size, hxn, hn, hk]; simp [hc]
      rw [e]
      refine ⟨h1, by omega, fun y hy hyn => ?_, ?_⟩
      · simp only [List.mem_cons] at hy
        rcases hy with rfl | hy
        · omega
        · exact h3 y hy hyn
      · rcases h4 with h4 | ⟨y, hy, h5⟩
        · exact .inr ⟨x, by simp, hxn, h4⟩
        · exact .inr ⟨y, by simp [hy], h5⟩




theorem i_dot_loop (n : Nat) (N : Nat) (cs : List T) : ∀ (zs ys p q : List Nat) (s m : Nat), ys.length = zs.length → q.length = p.length → p.length + zs.length < 1048576 → zs.length < m →
    f94_i_dot.l0 n m (p ++ zs).length (fls .f32 (p ++ zs)) (q ++ ys).length (fls .f32 (q ++ ys)) s ((p ++ zs).length : Int) (p.length : Int) = some (dotM s zs ys) := by
  intro zs
  induction zs with
  | nil =>
    intro ys p q s m _ _ _ hm
    obtain ⟨m, rfl⟩ : ∃ k, m = k + 1 := ⟨m - 1, by omega⟩
    rw [f94_i_dot.l0, lt_end]
    simp [br_f, dotM]
  | cons z zs ih =>
    intro ys p q s m hl hq hp hm
    obtain ⟨m, rfl⟩ : ∃ k, m = k + 1 := ⟨m - 1, by omega⟩
    cases ys with
    | nil => simp at hl
    | cons y ys =>
      have e1 : okAt [.flt .f32] (fls .f32 (q ++ y :: ys)) p.length = true := by rw [← hq]; exact okAt_mid
      have e2 : fAt (fls .f32 (q ++ y :: ys)) p.length = y := by rw [← hq]; exact fAt_mid
      have e3 : decide ((0 : Int) ≤ (p.length : Int) ∧ (p.length : Int) < ((q ++ y :: ys).length : Int)) = true := by rw [← hq]; exact in_mid
      rw [f94_i_dot.l0, lt_mid, in_mid, toNat_len, okAt_mid, fAt_mid, e1, e2, e3]
      have := ih ys (p ++ [z]) (q ++ [y]) (fadd .f32 s (fmul .f32 z y)) m (by simpa using hl) (by simp [hq]) (by simp at hp ⊢; omega) (by simp at hm; omega)
      simp only [br_t, gd_t, Bool.and_self, wrap_len (z := z) (show p.length < 4611686018427387904 by simp at hp; omega)]
      simpa [dotM] using this
theorem i_dotted (n : Nat) (xs ys : List Nat) (hl : ys.length = xs.length) (hx : xs.length < 1048576) (hn : xs.length < n) : f94_i_dot (n + 1) xs.length (fls .f32 xs) ys.length (fls .f32 ys) = some (dotM 0 xs ys) := by
  rw [f94_i_dot]
  have e := i_dot_loop n xs.length (fls .f32 xs) xs ys [] [] 0 n hl rfl (by simpa using hx) (by omega)
  have e : f94_i_dot.l0 n n xs.length (fls .f32 xs) ys.length (fls .f32 ys) 0 (xs.length : Int) 0 = some (dotM 0 xs ys) := e
  rw [e]; rfl


theorem m_sqrt (n x : Nat) : f151_mathSqrt (n + 2) x = some (fsqrt x) := by rw [f151_mathSqrt]; rfl
theorem i_root (n x : Nat) : f75_i_RootNumber (n + 3) x = some (root32 x) := by
  rw [f75_i_RootNumber, fltToFlt_wide]
  simp only [bd, m_sqrt, fltToFlt_root]

/-! roots, nearly -/
theorem rootFrom_high (n : Nat) : ∀ (todo root : Nat), n < (root + 2 ^ todo) * (root + 2 ^ todo) → n < (Ieee.Datum.rootFrom n todo root + 1) * (Ieee.Datum.rootFrom n todo root + 1) := by
  intro todo
  induction todo with
  | zero => intro root h; simpa [Ieee.Datum.rootFrom] using h
  | succ todo ih =>
    intro root h
    simp only [Ieee.Datum.rootFrom]
    rw [Nat.shiftLeft_eq, Nat.one_mul]
    by_cases hl : (root + 2 ^ todo) * (root + 2 ^ todo) ≤ n
    · rw [if_pos hl]
      refine ih _ ?_
      rw [Nat.add_assoc, ← Nat.two_mul, Nat.mul_comm 2, ← Nat.pow_succ]; exact h
    · rw [if_neg hl]; exact ih _ (by omega)
theorem sq_lt {a b : Nat} (h : a * a ≤ b * b) : a ≤ b := by
  refine Nat.not_lt.1 fun h' => ?_
  have := Nat.mul_lt_mul_of_lt_of_le h' (Nat.le_of_lt h') (by omega)
  omega
theorem mv_sq (c : Nat) (p : Int) : mv c p * mv c p = mv (c * c) (p + p) := (mv_mul _ _ _ _).symm
theorem fsqrt_near {x : Nat} {v : Rat} (hx : Val .f64 x v) (h0 : 0 < v) (h1 : v ≤ 1000000) : ∃ Q, Val .f64 (fsqrt x) Q ∧ ∀ C, Rep0 .f64 C → (C * C ≤ v → C ≤ Q) ∧ (v ≤ C * C → Q ≤ C) := by
  obtain ⟨s, m, i, e1, hv, -⟩ := hx
  have hmn := mv_nonneg m i
  have hs : s = false := by cases s <;> simp only [sg_true, sg_false] at hv <;> first | rfl | (exfalso; grind)
  subst hs
  rw [sg_false] at hv
  have hm : m ≠ 0 := by rintro rfl; rw [mv_zero] at hv; grind
  obtain ⟨b1, b2, b3, -, -⟩ := read_norm e1
  have e1 : FloatKind.f64.format.read x = .number false m i := e1
  generalize hmo : 2 * (FloatKind.f64.format.fractionBits + 2) - m.log2 = mo
  generalize hmo2 : mo + ((i - (mo : Int)) % 2).toNat = mo2
  generalize hn : m <<< mo2 = n
  generalize hw : Ieee.Datum.rootFrom n (n.log2 / 2 + 1) 0 = w
  generalize hp : (i - (mo2 : Int)) / 2 = p
  have hroot : fsqrt x = FloatKind.f64.encode (.number false (2 * w + (w * w != n).toNat) (p - 1)) := by
    unfold fsqrt
    simp only [Ieee.Format.sqrt, e1, Ieee.Datum.root, if_neg hm, Bool.false_eq_true, if_false, hmo, hmo2, hn, hw, hp, Option.map_some]
    rfl
  have hww : w * w ≤ n := by rw [← hw]; exact rootFrom_le n _ 0 (Nat.zero_le _)
  have hww2 : n < (w + 1) * (w + 1) := by
    rw [← hw]
    refine rootFrom_high n _ 0 ?_
    rw [Nat.zero_add, ← Nat.pow_add]
    refine Nat.lt_of_lt_of_le Nat.lt_log2_self (Nat.pow_le_pow_right (by decide) (by omega))
  have hp2 : i - (mo2 : Int) = p + p := by omega
  have hnv : mv n (p + p) = v := by
    rw [hv, ← hn, Nat.shiftLeft_eq, mv_shift]; congr 1; omega
  have hfb : FloatKind.f64.format.fractionBits = 52 := rfl
  rw [hfb] at hmo
  have hnlow : 2 ^ 108 ≤ n := by
    rw [← hn, Nat.shiftLeft_eq]
    have h2 : 2 ^ m.log2 ≤ m := Nat.log2_self_le hm
    have h3 : 2 ^ m.log2 * 2 ^ mo2 ≤ m * 2 ^ mo2 := Nat.mul_le_mul_right _ h2
    rw [← Nat.pow_add] at h3
    exact Nat.le_trans (Nat.pow_le_pow_right (by decide) (by omega)) h3
  have hN : ∀ c : Nat, (c ≤ w → 2 * c ≤ 2 * w + (w * w != n).toNat) ∧ (n ≤ c * c → 2 * w + (w * w != n).toNat ≤ 2 * c) := by
    intro c
    refine ⟨fun h => by omega, fun h => ?_⟩
    by_cases hq : w * w = n
    · rw [show (w * w != n) = false by simpa using hq]
      have := sq_lt (show w * w ≤ c * c by omega)
      simp; omega
    · rw [show (w * w != n) = true by simpa using hq]
      have : w < c := by
        refine Nat.not_le.1 fun h' => ?_
        have := Nat.mul_le_mul h' h'
        omega
      simp; omega
  have hside : ∀ C, Rep0 .f64 C → (C * C ≤ v → C ≤ mv (2 * w + (w * w != n).toNat) (p - 1)) ∧ (v ≤ C * C → mv (2 * w + (w * w != n).toNat) (p - 1) ≤ C) := by
    rintro C ⟨M, P, hM, hP, rfl⟩
    have hb : 2 * FloatKind.f64.format.binade = 2 ^ 53 := by decide
    rw [hb] at hM
    have two : ∀ c : Nat, mv c p = mv (2 * c) (p - 1) := by
      intro c; rw [Nat.mul_comm 2 c, show c * 2 = c * 2 ^ 1 by omega, mv_shift, show p - 1 + ((1 : Nat) : Int) = p by omega]
    rcases Int.lt_or_le P p with h | h
    · have hC : mv M P ≤ mv (2 ^ 52) p := by
        refine Rat.le_trans (mv_le.2 hM) ?_
        rw [mv_pow, mv_pow]; exact p2_le (by omega)
      have h52 : 2 ^ 52 ≤ w := by
        have : 2 ^ 52 * 2 ^ 52 ≤ w * w ∨ w < 2 ^ 52 := by
          rcases Nat.lt_or_ge w (2 ^ 52) with h | h
          · exact .inr h
          · exact .inl (Nat.mul_le_mul h h)
        rcases this with h | h
        · exact sq_lt h
        · exfalso
          have h3 : (w + 1) * (w + 1) ≤ 2 ^ 52 * 2 ^ 52 := Nat.mul_le_mul (by omega) (by omega)
          have h4 : 2 ^ 52 * 2 ^ 52 ≤ 2 ^ 108 := by decide
          omega
      constructor
      · intro _
        refine Rat.le_trans hC ?_
        rw [two]; exact mv_le.2 ((hN _).1 h52)
      · intro hle
        exfalso
        have h5 : mv M P * mv M P ≤ mv (2 ^ 52) p * mv (2 ^ 52) p := by
          have g1 := Rat.mul_le_mul_of_nonneg_right hC (mv_nonneg M P)
          have g2 := Rat.mul_le_mul_of_nonneg_left hC (mv_nonneg (2 ^ 52) p)
          exact Rat.le_trans g1 g2
        rw [mv_sq (2 ^ 52)] at h5
        rw [← hnv] at hle
        have h6 := mv_le.1 (Rat.le_trans hle h5)
        have h4 : 2 ^ 52 * 2 ^ 52 < 2 ^ 108 := by decide
        omega
    · have hC : mv M P = mv (M * 2 ^ (P - p).toNat) p := by rw [mv_shift]; congr 1; omega
      rw [hC, mv_sq, ← hnv, mv_le, mv_le, two, mv_le, mv_le]
      generalize M * 2 ^ (P - p).toNat = c
      refine ⟨fun h => (hN c).1 ?_, fun h => (hN c).2 h⟩
      refine Nat.not_lt.1 fun h' => ?_
      have := Nat.mul_le_mul (show w + 1 ≤ c from h') (show w + 1 ≤ c from h')
      omega
  have hB0 : Rep0 .f64 ((1024 : Nat) : Rat) := rep_nat .f64 (by have : 2 * FloatKind.f64.format.binade = 9007199254740992 := by decide
                                                                rw [this]; omega)
  have hT0 : ((1024 : Nat) : Rat) < p2 (topE .f64) := nat_top .f64 (by have : 2 * FloatKind.f64.format.binade = 9007199254740992 := by decide
                                                                       rw [this]; omega)
  have h1024 : ((1024 : Nat) : Rat) = 1024 := rfl
  rw [h1024] at hB0 hT0
  obtain ⟨Q, q1, q2⟩ := write_val .f64 false (2 * w + (w * w != n).toNat) (p - 1) hB0 ((hside _ hB0).2 (by grind)) hT0
  rw [sg_false] at q2
  refine ⟨Q, by rw [hroot]; exact q1, fun C hC => ?_⟩
  obtain ⟨c1, c2⟩ := hside C hC
  exact ⟨fun h => (q2 C hC.rep).2 (c1 h), fun h => (q2 C hC.rep).1 (c2 h)⟩
/-- a narrowed number -/
theorem narrow_near {w : Nat} {v : Rat} (hw : Val .f64 w v) {B : Rat} (hB : Rep0 .f32 B) (hT : B < p2 (topE .f32)) (h1 : v ≤ B) (h2 : -B ≤ v) : ∃ y R, fltToFlt .f64 w .f32 = some y ∧ Val .f32 y R ∧ Near .f32 v R := by
  obtain ⟨s, m, e, e1, rfl, -⟩ := hw
  obtain ⟨R, r1, r2⟩ := write_val .f32 s m e hB (abs_le (mv_nonneg _ _) h1 h2) hT
  refine ⟨_, R, ?_, r1, r2⟩
  unfold fltToFlt
  rw [if_neg (by decide), e1]
  obtain ⟨s', m', e', d, -⟩ := r1
  simp only [d, Ieee.Datum.isInfinity]
  rfl
theorem rep32_64 {C : Rat} (h : Rep0 .f32 C) : Rep0 .f64 C := by
  obtain ⟨M, P, h1, h2, h3⟩ := h
  exact ⟨M, P, Nat.le_trans h1 (by decide), Int.le_trans (by decide) h2, h3⟩
/-- the root of a number -/
theorem root_near {x : Nat} {v : Rat} (hx : Val .f32 x v) (h0 : 0 ≤ v) (h1 : v ≤ 1000000) : ∃ Q, Val .f32 (root32 x) Q ∧ 0 ≤ Q ∧ Q ≤ 1024 ∧ ∀ C, Rep0 .f32 C → 0 < v → (C * C ≤ v → C ≤ Q) ∧ (v ≤ C * C → Q ≤ C) := by
  have hb : 1024 ≤ 2 * FloatKind.f32.format.binade := Nat.le_trans (by decide : 1024 ≤ 16777216) (Nat.le_of_eq binade32.symm)
  have hB := rep_nat .f32 hb
  have hT := nat_top .f32 hb
  have h1024 : ((1024 : Nat) : Rat) = 1024 := rfl
  rw [h1024] at hB hT
  have hw := wide_val hx
  have hr := fltToFlt_root x
  have hz : Rep0 .f32 (0 : Rat) := by
    have := rep_nat .f32 (Nat.zero_le _)
    rwa [show ((0 : Nat) : Rat) = 0 from rfl] at this
  by_cases hv : v = 0
  · subst hv
    have hz0 : Val .f64 (fsqrt (wide x)) 0 := by
      obtain ⟨s, m, i, e1, hv, -⟩ := hw
      have hm : m = 0 := by
        refine Classical.byContradiction fun h => ?_
        have := (mv_lt (e := i)).2 (Nat.pos_of_ne_zero h)
        rw [mv_zero] at this
        cases s <;> simp only [sg_true, sg_false] at hv <;> grind
      subst hm
      have e1' : FloatKind.f64.format.read (wide x) = .number s 0 i := e1
      have : fsqrt (wide x) = FloatKind.f64.encode (.number s 0 i) := by
        unfold fsqrt
        simp only [Ieee.Format.sqrt, e1', Ieee.Datum.root, if_true, Option.map_some]
        rfl
      rw [this]
      obtain ⟨R, r1, r2⟩ := write_val .f64 s 0 i (rep32_64 hz) (by rw [mv_zero]; exact Rat.le_refl) (p2_pos _)
      have hsz : sg s (mv 0 i) = 0 := by rw [mv_zero]; cases s <;> simp [sg]
      rw [hsz] at r2
      exact r1.near_eq r2 (repZ _)
    obtain ⟨y, R, r1, r2, r3⟩ := narrow_near hz0 hB hT (by decide) (by decide)
    rw [hr] at r1
    obtain rfl := Option.some.inj r1
    have := r2.near_eq r3 (repZ _)
    exact ⟨0, this, Rat.le_refl, by decide, fun C _ h => absurd h (by grind)⟩
  · have hpos : 0 < v := by grind
    obtain ⟨Q, q1, q2⟩ := fsqrt_near hw hpos h1
    have hQ0 : 0 ≤ Q := ((q2 0 (rep32_64 hz)).1 (by grind))
    have hQ1 : Q ≤ 1024 := ((q2 _ (rep32_64 hB)).2 (by grind))
    obtain ⟨y, R, r1, r2, r3⟩ := narrow_near q1 hB hT hQ1 (by grind)
    rw [hr] at r1
    obtain rfl := Option.some.inj r1
    refine ⟨R, r2, (r3 0 (repZ _)).2 hQ0, (r3 _ hB.rep).1 hQ1, fun C hC _ => ?_⟩
    obtain ⟨c1, c2⟩ := q2 C (rep32_64 hC)
    exact ⟨fun h => (r3 _ hC.rep).2 (c1 h), fun h => (r3 _ hC.rep).1 (c2 h)⟩

/-! ### bent samples -/
def bendT (x : Nat) : Nat := fsub .f32 1069547520 (fmul .f32 1056964608 (fmul .f32 x x))
def bendM (x : Nat) : Nat := if fge .f32 x 1065353216 = true then 1065353216 else if fle .f32 x 3212836864 = true then 3212836864 else fmul .f32 x (bendT x)
theorem i_bend (n x : Nat) : f46_i_BendSample (n + 1) x = some (bendM x) := by
  rw [f46_i_BendSample]
  unfold bendM
  cases fge .f32 x 1065353216
  · cases fle .f32 x 3212836864 <;> rfl
  · rfl
theorem fmul_num {k : FloatKind} {x y : Nat} {s t : Bool} {m n : Nat} {i j : Int} (h1 : k.decode x = .number s m i) (h2 : k.decode y = .number t n j) : fmul k x y = k.encode (.number (s ^^ t) (m * n) (i + j)) := by
  have e1 : k.format.read x = .number s m i := h1
  have e2 : k.format.read y = .number t n j := h2
  simp only [fmul, Ieee.Format.mul, e1, e2, Ieee.Datum.product, Option.map_some]
  rfl
theorem neg_decode {x : Nat} (hx : x < 4294967296) {s : Bool} {m : Nat} {e : Int} (h : FloatKind.f32.decode x = .number s m e) : FloatKind.f32.decode (negF .f32 x) = .number (!s) m e := by
  have hn : isNaN .f32 x = false := Val.num ⟨s, m, e, h, rfl, (by have := read_norm h; omega), (by have := read_norm h; omega)⟩
  have h1 := (decode_size (x := x)).1 s m e h
  have hv := negF32 hx hn
  have hmod : negF .f32 x % 2147483648 = x % 2147483648 := by rw [hv]; split <;> omega
  have hs := (read_fin h).2
  obtain ⟨v, s', m', e', g1, -⟩ : ∃ v, Val .f32 (negF .f32 x) v := ⟨_, neg_val ⟨hx, canon_num hn⟩ (read_val h)⟩
  have h2 := (decode_size (x := negF .f32 x)).1 s' m' e' g1
  rw [hmod, h1] at h2
  have hs' := (read_fin g1).2
  injection h2 with _ e1 e2
  subst e1 e2
  rw [g1]
  congr 1
  rw [← hs, ← hs', hv]
  unfold negOf
  show _ = !(x / 2147483648 % 2 == 1)
  show ((if x < 2147483648 then x + 2147483648 else x - 2147483648) / 2147483648 % 2 == 1) = _
  split
  · rename_i c
    rw [show (x + 2147483648) / 2147483648 = 1 by omega, show x / 2147483648 = 0 by omega]; rfl
  · rename_i c
    rw [show (x - 2147483648) / 2147483648 = 0 by omega, show x / 2147483648 = 1 by omega]; rfl
theorem neg_sq {x : Nat} {v : Rat} (hx : x < 4294967296) (h : Val .f32 x v) : fmul .f32 (negF .f32 x) (negF .f32 x) = fmul .f32 x x := by
  obtain ⟨s, m, e, h1, -⟩ := h
  have h2 := neg_decode hx h1
  rw [fmul_num h2 h2, fmul_num h1 h1, Bool.xor_self, Bool.xor_self]
theorem encode_flip (s : Bool) (M : Nat) (E : Int) (h : isNaN .f32 (FloatKind.f32.encode (.number s M E)) = false) : FloatKind.f32.encode (.number (!s) M E) = negF .f32 (FloatKind.f32.encode (.number s M E)) := by
  have e1 : FloatKind.f32.encode (.number s M E) = FloatKind.f32.format.word s (FloatKind.f32.format.nearest false M E) := nearest_word _ _ _ _
  have e2 : FloatKind.f32.encode (.number (!s) M E) = FloatKind.f32.format.word (!s) (FloatKind.f32.format.nearest false M E) := nearest_word _ _ _ _
  have hr : FloatKind.f32.format.nearest false M E ≤ 2139095040 := nearest_pos_lt .f32 M E
  have hl := write_lt2 .f32 s M E
  rw [negF32 hl h, e1, e2]
  generalize FloatKind.f32.format.nearest false M E = r at hr
  have hw : FloatKind.f32.format.signWeight = 2147483648 := by decide
  have w1 : FloatKind.f32.format.word true r = 2147483648 + r := by unfold Ieee.Format.word; rw [if_pos rfl, hw]
  have w0 : FloatKind.f32.format.word false r = r := by unfold Ieee.Format.word; rw [if_neg (by decide)]
  cases s
  · rw [Bool.not_false, w1, w0, if_pos (by omega)]; omega
  · rw [Bool.not_true, w1, w0, if_neg (by omega)]; omega
theorem mul_flip {x t : Nat} {v u w : Rat} (hx : x < 4294967296) (h : Val .f32 x v) (ht : Val .f32 t u) (hw : Val .f32 (fmul .f32 x t) w) : fmul .f32 (negF .f32 x) t = negF .f32 (fmul .f32 x t) := by
  obtain ⟨s, m, e, h1, -⟩ := h
  obtain ⟨s', m', e', h2, -⟩ := ht
  have hn := hw.num
  rw [fmul_num h1 h2] at hn ⊢
  rw [fmul_num (neg_decode hx h1) h2, ← encode_flip _ _ _ hn]
  congr 2
  cases s <;> cases s' <;> rfl
theorem neg_neg {x : Nat} (hx : x < 4294967296) (hn : isNaN .f32 x = false) : negF .f32 (negF .f32 x) = x := by
  have h1 := isNaN_negF32 hx hn
  have e := negF32 hx hn
  have hl : negF .f32 x < 4294967296 := by rw [e]; split <;> omega
  rw [negF32 hl h1, e]
  split <;> split <;> omega
/-! ### a bent sample is not greater than 1 -/
def nearOk (k : Nat) : Bool := fin32 (bendT (1065345024 + k)) && fin32 (fmul .f32 (1065345024 + k) (bendT (1065345024 + k))) && fle .f32 (fmul .f32 (1065345024 + k) (bendT (1065345024 + k))) 1065353216 && fge .f32 (fmul .f32 (1065345024 + k) (bendT (1065345024 + k))) 0
theorem near_tab0 : ∀ k : Nat, k < 256 → nearOk (k + 0) = true := by decide +kernel
theorem near_tab1 : ∀ k : Nat, k < 256 → nearOk (k + 256) = true := by decide +kernel
theorem near_tab2 : ∀ k : Nat, k < 256 → nearOk (k + 512) = true := by decide +kernel
theorem near_tab3 : ∀ k : Nat, k < 256 → nearOk (k + 768) = true := by decide +kernel
theorem near_tab4 : ∀ k : Nat, k < 256 → nearOk (k + 1024) = true := by decide +kernel
theorem near_tab5 : ∀ k : Nat, k < 256 → nearOk (k + 1280) = true := by decide +kernel
theorem near_tab6 : ∀ k : Nat, k < 256 → nearOk (k + 1536) = true := by decide +kernel
theorem near_tab7 : ∀ k : Nat, k < 256 → nearOk (k + 1792) = true := by decide +kernel
theorem near_tab8 : ∀ k : Nat, k < 256 → nearOk (k + 2048) = true := by decide +kernel
theorem near_tab9 : ∀ k : Nat, k < 256 → nearOk (k + 2304) = true := by decide +kernel
theorem near_tab10 : ∀ k : Nat, k < 256 → nearOk (k + 2560) = true := by decide +kernel
theorem near_tab11 : ∀ k : Nat, k < 256 → nearOk (k + 2816) = true := by decide +kernel
theorem near_tab12 : ∀ k : Nat, k < 256 → nearOk (k + 3072) = true := by decide +kernel
theorem near_tab13 : ∀ k : Nat, k < 256 → nearOk (k + 3328) = true := by decide +kernel
theorem near_tab14 : ∀ k : Nat, k < 256 → nearOk (k + 3584) = true := by decide +kernel
theorem near_tab15 : ∀ k : Nat, k < 256 → nearOk (k + 3840) = true := by decide +kernel
theorem near_tab16 : ∀ k : Nat, k < 256 → nearOk (k + 4096) = true := by decide +kernel
theorem near_tab17 : ∀ k : Nat, k < 256 → nearOk (k + 4352) = true := by decide +kernel
theorem near_tab18 : ∀ k : Nat, k < 256 → nearOk (k + 4608) = true := by decide +kernel
theorem near_tab19 : ∀ k : Nat, k < 256 → nearOk (k + 4864) = true := by decide +kernel
theorem near_tab20 : ∀ k : Nat, k < 256 → nearOk (k + 5120) = true := by decide +kernel
theorem near_tab21 : ∀ k : Nat, k < 256 → nearOk (k + 5376) = true := by decide +kernel
theorem near_tab22 : ∀ k : Nat, k < 256 → nearOk (k + 5632) = true := by decide +kernel
theorem near_tab23 : ∀ k : Nat, k < 256 → nearOk (k + 5888) = true := by decide +kernel
theorem near_tab24 : ∀ k : Nat, k < 256 → nearOk (k + 6144) = true := by decide +kernel
theorem near_tab25 : ∀ k : Nat, k < 256 → nearOk (k + 6400) = true := by decide +kernel
theorem near_tab26 : ∀ k : Nat, k < 256 → nearOk (k + 6656) = true := by decide +kernel
theorem near_tab27 : ∀ k : Nat, k < 256 → nearOk (k + 6912) = true := by decide +kernel
theorem near_tab28 : ∀ k : Nat, k < 256 → nearOk (k + 7168) = true := by decide +kernel
theorem near_tab29 : ∀ k : Nat, k < 256 → nearOk (k + 7424) = true := by decide +kernel
theorem near_tab30 : ∀ k : Nat, k < 256 → nearOk (k + 7680) = true := by decide +kernel
theorem near_tab31 : ∀ k : Nat, k < 256 → nearOk (k + 7936) = true := by decide +kernel
theorem near_one (k : Nat) (h : k < 8192) : nearOk k = true := by
  by_cases h0 : k < 256
  · have := near_tab0 (k - 0) (by omega)
    rwa [show k - 0 + 0 = k by omega] at this
  by_cases h1 : k < 512
  · have := near_tab1 (k - 256) (by omega)
    rwa [show k - 256 + 256 = k by omega] at this
  by_cases h2 : k < 768
  · have := near_tab2 (k - 512) (by omega)
    rwa [show k - 512 + 512 = k by omega] at this
  by_cases h3 : k < 1024
  · have := near_tab3 (k - 768) (by omega)
    rwa [show k - 768 + 768 = k by omega] at this
  by_cases h4 : k < 1280
  · have := near_tab4 (k - 1024) (by omega)
    rwa [show k - 1024 + 1024 = k by omega] at this
  by_cases h5 : k < 1536
  · have := near_tab5 (k - 1280) (by omega)
    rwa [show k - 1280 + 1280 = k by omega] at this
  by_cases h6 : k < 1792
  · have := near_tab6 (k - 1536) (by omega)
    rwa [show k - 1536 + 1536 = k by omega] at this
  by_cases h7 : k < 2048
  · have := near_tab7 (k - 1792) (by omega)
    rwa [show k - 1792 + 1792 = k by omega] at this
  by_cases h8 : k < 2304
  · have := near_tab8 (k - 2048) (by omega)
    rwa [show k - 2048 + 2048 = k by omega] at this
  by_cases h9 : k < 2560
  · have := near_tab9 (k - 2304) (by omega)
    rwa [show k - 2304 + 2304 = k by omega] at this
  by_cases h10 : k < 2816
  · have := near_tab10 (k - 2560) (by omega)
    rwa [show k - 2560 + 2560 = k by omega] at this
  by_cases h11 : k < 3072
  · have := near_tab11 (k - 2816) (by omega)
    rwa [show k - 2816 + 2816 = k by omega] at this
  by_cases h12 : k < 3328
  · have := near_tab12 (k - 3072) (by omega)
    rwa [show k - 3072 + 3072 = k by omega] at this
  by_cases h13 : k < 3584
  · have := near_tab13 (k - 3328) (by omega)
    rwa [show k - 3328 + 3328 = k by omega] at this
  by_cases h14 : k < 3840
  · have := near_tab14 (k - 3584) (by omega)
    rwa [show k - 3584 + 3584 = k by omega] at this
  by_cases h15 : k < 4096
  · have := near_tab15 (k - 3840) (by omega)
    rwa [show k - 3840 + 3840 = k by omega] at this
  by_cases h16 : k < 4352
  · have := near_tab16 (k - 4096) (by omega)
    rwa [show k - 4096 + 4096 = k by omega] at this
  by_cases h17 : k < 4608
  · have := near_tab17 (k - 4352) (by omega)
    rwa [show k - 4352 + 4352 = k by omega] at this
  by_cases h18 : k < 4864
  · have := near_tab18 (k - 4608) (by omega)
    rwa [show k - 4608 + 4608 = k by omega] at this
  by_cases h19 : k < 5120
  · have := near_tab19 (k - 4864) (by omega)
    rwa [show k - 4864 + 4864 = k by omega] at this
  by_cases h20 : k < 5376
  · have := near_tab20 (k - 5120) (by omega)
    rwa [show k - 5120 + 5120 = k by omega] at this
  by_cases h21 : k < 5632
  · have := near_tab21 (k - 5376) (by omega)
    rwa [show k - 5376 + 5376 = k by omega] at this
  by_cases h22 : k < 5888
  · have := near_tab22 (k - 5632) (by omega)
    rwa [show k - 5632 + 5632 = k by omega] at this
  by_cases h23 : k < 6144
  · have := near_tab23 (k - 5888) (by omega)
    rwa [show k - 5888 + 5888 = k by omega] at this
  by_cases h24 : k < 6400
  · have := near_tab24 (k - 6144) (by omega)
    rwa [show k - 6144 + 6144 = k by omega] at this
  by_cases h25 : k < 6656
  · have := near_tab25 (k - 6400) (by omega)
    rwa [show k - 6400 + 6400 = k by omega] at this
  by_cases h26 : k < 6912
  · have := near_tab26 (k - 6656) (by omega)
    rwa [show k - 6656 + 6656 = k by omega] at this
  by_cases h27 : k < 7168
  · have := near_tab27 (k - 6912) (by omega)
    rwa [show k - 6912 + 6912 = k by omega] at this
  by_cases h28 : k < 7424
  · have := near_tab28 (k - 7168) (by omega)
    rwa [show k - 7168 + 7168 = k by omega] at this
  by_cases h29 : k < 7680
  · have := near_tab29 (k - 7424) (by omega)
    rwa [show k - 7424 + 7424 = k by omega] at this
  by_cases h30 : k < 7936
  · have := near_tab30 (k - 7680) (by omega)
    rwa [show k - 7680 + 7680 = k by omega] at this
  by_cases h31 : k < 8192
  · have := near_tab31 (k - 7936) (by omega)
    rwa [show k - 7936 + 7936 = k by omega] at this
  omega
theorem p2_inv (j : Nat) (c : Nat) (h : 2 ^ j = c) : p2 (-(j : Int)) = 1 / (c : Rat) := by
  have hpp : p2 (j : Int) * p2 (-(j : Int)) = 1 := by rw [← p2_add, show (j : Int) + -(j : Int) = 0 by omega, p2_zero]
  rw [p2_nat, h] at hpp
  have hc : (c : Rat) ≠ 0 := by
    intro e
    rw [e, Rat.zero_mul] at hpp
    exact absurd hpp (by decide)
  grind
theorem rep0_one : Rep0 .f32 (1 : Rat) := rep_nat .f32 (B := 1) (by rw [binade32]; decide)
theorem rep0_two : Rep0 .f32 (2 : Rat) := rep_nat .f32 (B := 2) (by rw [binade32]; decide)
theorem top_one : (1 : Rat) < p2 (topE .f32) := nat_top .f32 (B := 1) (by rw [binade32]; decide)
theorem top_two : (2 : Rat) < p2 (topE .f32) := nat_top .f32 (B := 2) (by rw [binade32]; decide)
theorem rep0_zero : Rep0 .f32 (0 : Rat) := by
  have := rep_nat .f32 (Nat.zero_le _)
  rwa [show ((0 : Nat) : Rat) = 0 from rfl] at this
theorem sq_le {v : Rat} (h0 : 0 ≤ v) (h1 : v ≤ 1) : 0 ≤ v * v ∧ v * v ≤ 1 ∧ v * v ≤ v := by
  have a := Rat.mul_nonneg h0 h0
  have b := Rat.mul_le_mul_of_nonneg_left h1 h0
  rw [Rat.mul_one] at b
  exact ⟨a, by grind, b⟩
theorem curve_le {v t : Rat} (h0 : 0 ≤ v) (h1 : v ≤ 1 - 1 / 2048) (ht : t ≤ 3 / 2 - v * v / 2 + 7 / 33554432) : v * t ≤ 1 := by
  have a := Rat.mul_le_mul_of_nonneg_left ht h0
  have hd : (1 / 2048 : Rat) ≤ 1 - v := by grind
  have hd0 : (0 : Rat) ≤ 1 - v := by grind
  have b := Rat.mul_le_mul_of_nonneg_left hd (show (0 : Rat) ≤ 1 / 2048 by grind)
  have c := Rat.mul_le_mul_of_nonneg_right hd hd0
  have hq : (1 / 4194304 : Rat) ≤ (1 - v) * (1 - v) := by grind
  have hv2 : (0 : Rat) ≤ 1 + v / 2 := by grind
  have e := Rat.mul_le_mul_of_nonneg_right hq hv2
  have f : v * (3 / 2 - v * v / 2 + 7 / 33554432) = 1 - (1 - v) * (1 - v) * (1 + v / 2) + 7 / 33554432 * v := by grind
  grind
theorem half32 : Val .f32 1056964608 (1 / 2) := by
  have h := read_val (k := .f32) (x := 1056964608) (s := false) (m := 8388608) (e := -24) (by decide)
  rw [sg_false] at h
  have e : mv 8388608 (-24) = 1 / 2 := by
    unfold mv
    rw [show (-24 : Int) = -((24 : Nat) : Int) from rfl, p2_inv 24 16777216 (by decide)]
    rw [show ((8388608 : Nat) : Rat) = 8388608 from rfl, show ((16777216 : Nat) : Rat) = 16777216 from rfl]
    grind
  rwa [e] at h
theorem three_half : Val .f32 1069547520 (3 / 2) := by
  have h := read_val (k := .f32) (x := 1069547520) (s := false) (m := 12582912) (e := -23) (by decide)
  rw [sg_false] at h
  have e : mv 12582912 (-23) = 3 / 2 := by
    unfold mv
    rw [show (-23 : Int) = -((23 : Nat) : Int) from rfl, p2_inv 23 8388608 (by decide)]
    rw [show ((12582912 : Nat) : Rat) = 12582912 from rfl, show ((8388608 : Nat) : Rat) = 8388608 from rfl]
    grind
  rwa [e] at h
theorem edge32 : Val .f32 1065345024 (1 - 1 / 2048) := by
  have h := read_val (k := .f32) (x := 1065345024) (s := false) (m := 16769024) (e := -24) (by decide)
  rw [sg_false] at h
  have e : mv 16769024 (-24) = 1 - 1 / 2048 := by
    unfold mv
    rw [show (-24 : Int) = -((24 : Nat) : Int) from rfl, p2_inv 24 16777216 (by decide)]
    rw [show ((16769024 : Nat) : Rat) = 16769024 from rfl, show ((16777216 : Nat) : Rat) = 16777216 from rfl]
    grind
  rwa [e] at h
/-- the curve below the edge -/
theorem bent_low {x : Nat} {v : Rat} (h : Val .f32 x v) (h0 : 0 ≤ v) (h1 : v ≤ 1 - 1 / 2048) : ∃ t w, Val .f32 (bendT x) t ∧ Val .f32 (fmul .f32 x (bendT x)) w ∧ 0 ≤ w ∧ w ≤ 1 := by
  have hv1 : v ≤ 1 := by grind
  obtain ⟨s0, s1, s2⟩ := sq_le h0 hv1
  have b32 := binade32
  have p24 : p2 ((24 : Nat) : Int) = 16777216 := by rw [p2_nat]; rfl
  have p23 : p2 ((23 : Nat) : Int) = 8388608 := by rw [p2_nat]; rfl
  have q24 := p2_inv 24 16777216 (by decide)
  have q23 := p2_inv 23 8388608 (by decide)
  rw [show ((16777216 : Nat) : Rat) = 16777216 from rfl] at q24
  rw [show ((8388608 : Nat) : Rat) = 8388608 from rfl] at q23
  have c1 : ((16777215 : Nat) : Rat) = 16777215 := rfl
  have hm1 : -(1 : Rat) ≤ v * v := by grind
  obtain ⟨a, a1, a2⟩ := mul_val h h rep0_one top_one s1 hm1
  have aN := a2.abs 24 (by decide) (B := 16777215) (by omega) (by rw [p24, c1]; grind) (by rw [p24, c1]; grind)
  rw [q24] at aN
  have a0 := (a2 _ (repZ _)).2 s0
  have a1' := (a2 _ rep0_one.rep).1 s1
  have hb : (1 / 2 : Rat) * a ≤ 1 := by grind
  have hb' : -(1 : Rat) ≤ 1 / 2 * a := by grind
  obtain ⟨b, b1, b2⟩ := mul_val half32 a1 rep0_one top_one hb hb'
  have bN := b2.abs 24 (by decide) (B := 16777215) (by omega) (by rw [p24, c1]; grind) (by rw [p24, c1]; grind)
  rw [q24] at bN
  have b0 := (b2 _ (repZ _)).2 (by grind)
  have b1' := (b2 _ (half32.rep)).1 (by grind)
  obtain ⟨t, t1, t2⟩ := sub_val three_half b1 rep0_two top_two (by grind) (by grind)
  have tN := t2.abs 23 (by decide) (B := 16777215) (by omega) (by rw [p23, c1]; grind) (by rw [p23, c1]; grind)
  rw [q23] at tN
  have t0 := (t2 _ (rep0_one.rep)).2 (by grind)
  have t3 := (t2 _ three_half.rep).1 (by grind)
  have hle : v * t ≤ 1 := curve_le h0 h1 (by grind)
  have hge : 0 ≤ v * t := Rat.mul_nonneg h0 (by grind)
  obtain ⟨w, w1, w2⟩ := mul_val h t1 rep0_one top_one hle (by grind)
  exact ⟨t, w, t1, w1, (w2 _ (repZ _)).2 hge, (w2 _ rep0_one.rep).1 hle⟩
theorem bent_one {x : Nat} {v : Rat} (hx : W32 x) (h : Val .f32 x v) (h0 : 0 ≤ v) (h1 : v < 1) : ∃ t w, Val .f32 (bendT x) t ∧ Val .f32 (fmul .f32 x (bendT x)) w ∧ 0 ≤ w ∧ w ≤ 1 := by
  by_cases hv : v ≤ 1 - 1 / 2048
  · exact bent_low h h0 hv
  · have a1 := (flt_val h val_one32).2 h1
    have a2 := (flt_val edge32 h).2 (by grind)
    rw [flt_key] at a1 a2
    simp only [Bool.and_eq_true, decide_eq_true_eq] at a1 a2
    have k1 := a1.2
    have k2 := a2.2
    rw [key32 hx.1, show key .f32 1065353216 = 1065353216 by decide] at k1
    rw [key32 hx.1, show key .f32 1065345024 = 1065345024 by decide] at k2
    obtain ⟨k, rfl⟩ : ∃ k, x = 1065345024 + k := ⟨x - 1065345024, by split at k2 <;> omega⟩
    have hk : k < 8192 := by split at k1 <;> omega
    have hn := near_one k hk
    unfold nearOk at hn
    simp only [Bool.and_eq_true] at hn
    obtain ⟨⟨⟨n1, n2⟩, n3⟩, n4⟩ := hn
    have w1 := fin_val n2
    exact ⟨_, _, fin_val n1, w1, (fge_val w1 (val_zero .f32)).1 n4, (fle_val w1 val_one32).1 n3⟩
theorem bend_ok {x : Nat} (hx : W32 x) (hn : isNaN .f32 x = false) : fle .f32 (bendM x) 1065353216 = true ∧ fge .f32 (bendM x) 3212836864 = true ∧ fne .f32 (bendM x) (negF .f32 (bendM (negF .f32 x))) = false := by
  cases hf : fin32 x
  · have h1 := num_mag hn
    have h2 := hx.1
    unfold fin32 at hf
    simp only [decide_eq_false_iff_not] at hf
    have : x = 2139095040 ∨ x = 4286578688 := by omega
    rcases this with rfl | rfl <;> decide
  · have hv := fin_val hf
    have hnv := neg_val hx hv
    have hnw := w32_negF hx
    generalize fval .f32 x = v at hv hnv
    have hT : bendT (negF .f32 x) = bendT x := by unfold bendT; rw [neg_sq hx.1 hv]
    by_cases c1 : 1 ≤ v
    · have b1 : bendM x = 1065353216 := by unfold bendM; rw [if_pos ((fge_val hv val_one32).2 c1)]
      have b2 : bendM (negF .f32 x) = 3212836864 := by
        unfold bendM
        rw [if_neg (fun h => by have := (fge_val hnv val_one32).1 h; grind), if_pos ((fle_val hnv val_neg_one32).2 (by grind))]
      rw [b1, b2]; decide
    · by_cases c2 : v ≤ -1
      · have b1 : bendM x = 3212836864 := by
          unfold bendM
          rw [if_neg (fun h => c1 ((fge_val hv val_one32).1 h)), if_pos ((fle_val hv val_neg_one32).2 c2)]
        have b2 : bendM (negF .f32 x) = 1065353216 := by unfold bendM; rw [if_pos ((fge_val hnv val_one32).2 (by grind))]
        rw [b1, b2]; decide
      · have b1 : bendM x = fmul .f32 x (bendT x) := by
          unfold bendM
          rw [if_neg (fun h => c1 ((fge_val hv val_one32).1 h)), if_neg (fun h => c2 ((fle_val hv val_neg_one32).1 h))]
        have b2 : bendM (negF .f32 x) = fmul .f32 (negF .f32 x) (bendT x) := by
          unfold bendM
          rw [if_neg (fun h => by have := (fge_val hnv val_one32).1 h; grind), if_neg (fun h => by have := (fle_val hnv val_neg_one32).1 h; grind), hT]
        rw [b1, b2]
        by_cases c3 : 0 ≤ v
        · obtain ⟨t, w, t1, w1, w2, w3⟩ := bent_one hx hv c3 (by grind)
          rw [mul_flip hx.1 hv t1 w1, neg_neg (fmul_lt .f32 x (bendT x)) w1.num]
          refine ⟨(fle_val w1 val_one32).2 w3, (fge_val w1 val_neg_one32).2 (by grind), ?_⟩
          rw [fne_feq, feq_self w1.num]; rfl
        · obtain ⟨t, w, t1, w1, w2, w3⟩ := bent_one hnw hnv (by grind) (by grind)
          rw [hT] at t1 w1
          have e := mul_flip hnw.1 hnv t1 w1
          rw [neg_neg hx.1 hn] at e
          have hw := neg_val (w32_fmul (negF .f32 x) (bendT x)) w1
          rw [e]
          refine ⟨(fle_val hw val_one32).2 (by grind), (fge_val hw val_neg_one32).2 (by grind), ?_⟩
          rw [fne_feq, feq_self hw.num]; rfl
theorem bend_nan : feq .f32 (bendM (qnan .f32)) (bendM (qnan .f32)) = false := by decide
theorem bend_loop (n n1 : Nat) (l2 : List T) (n3 : Nat) (l4 : List T) (xs : List Nat) (hx : ∀ x ∈ xs, W32 x) (hl : xs.length ≤ 100) : ∀ (j i m : Nat), i + j = xs.length → j < m →
    f8_l_FnBent.l0 (n + 1) m n1 l2 n3 l4 xs.length (fls .f32 xs) (i : Int) = some (Sum.inr (n1, l2, n3, l4)) := by
  intro j
  induction j with
  | zero =>
    intro i m hi hm
    obtain ⟨m, rfl⟩ : ∃ k, m = k + 1 := ⟨m - 1, by omega⟩
    rw [f8_l_FnBent.l0, nlt_dec (by omega)]; rfl
  | succ j ih =>
    intro i m hi hm
    obtain ⟨m, rfl⟩ : ∃ k, m = k + 1 := ⟨m - 1, by omega⟩
    have h : i < xs.length := by omega
    have hw : W32 (xs.getD i 0) := by
      have : xs.getD i 0 = xs[i] := by simp [List.getD, h]
      rw [this]; exact hx _ (List.getElem_mem h)
    have step := ih (i + 1) m (by omega) (by omega)
    rw [f8_l_FnBent.l0, lt_dec h, in_dec h, Int.toNat_natCast, okAt_fls h, fAt_fls, i_bend, i_bend, wrap_succ (show i < 9223372036854775807 by omega)]
    generalize xs.getD i 0 = x at hw
    cases hn : isNaN .f32 x
    · obtain ⟨p1, p2_, p3⟩ := bend_ok hw hn
      have q1 : feq .f32 x x = true := feq_self hn
      have q2 : fne .f32 x x = false := by rw [fne_feq, q1]; rfl
      simp only [br_t, gd_t, bd_s, q1, q2, p1, p2_, p3, Bool.not_true, br_f]
      exact step
    · have hq : x = qnan .f32 := by rw [← hw.2]; exact canon_nan hn
      have q2 : fne .f32 x x = true := by rw [fne_nan]; exact hn
      have q1 : feq .f32 x x = false := by
        rw [fne_feq] at q2
        simpa using q2
      have q3 : feq .f32 (bendM x) (bendM x) = false := by rw [hq]; exact bend_nan
      simp only [br_t, gd_t, bd_s, q1, q2, q3, br_f]
      exact step
theorem eighth_tab : ∀ k : Nat, k < 16 → fgt .f32 (bendM (fdiv .f32 (FloatKind.f32.nearest ((k : Int) - 8)) 1090519040)) (bendM (fdiv .f32 (FloatKind.f32.nearest ((k : Int) - 8 + 1)) 1090519040)) = false := by decide +kernel
/-! ### fading -/
def gain8 (k : Nat) : Nat := fdiv .f32 (FloatKind.f32.nearest (1 + (k : Int))) 1090519040
theorem fade_tab0 : ∀ k : Nat, k < 16 → (fsub .f32 (gain8 k) (gain8 k) == 0 && fadd .f32 (gain8 k) 0 == gain8 k && fin32 (gain8 k) && fle .f32 (gain8 k) 1073741824 && fge .f32 (gain8 k) 3221225472) = true := by decide +kernel
theorem fade_tab1 : ∀ n : Nat, n < 10 → (List.range n).all (fun i => fmul .f32 0 (fdiv .f32 (FloatKind.f32.nearest (i : Int)) (FloatKind.f32.nearest (n : Int))) == 0) = true := by decide +kernel
theorem fade_at {k n i : Nat} (hk : k < 16) (hn : n < 10) (hi : i < n) : fadd .f32 (gain8 k) (fmul .f32 (fsub .f32 (gain8 k) (gain8 k)) (fdiv .f32 (FloatKind.f32.nearest (i : Int)) (FloatKind.f32.nearest (n : Int)))) = gain8 k := by
  have h0 := fade_tab0 k hk
  have h1 := fade_tab1 n hn
  simp only [Bool.and_eq_true, beq_iff_eq, List.all_eq_true, List.mem_range] at h0 h1
  rw [h0.1.1.1.1, h1 i hi, h0.1.1.1.2]
theorem fade_loop (n : Nat) (k : Nat) (hk : k < 16) (xs : List Nat) (hl : xs.length < 10) : ∀ (j i m : Nat) (P : List Nat), i + j = xs.length → P.length ≤ i → j < m →
    f49_i_FadeSamples.l0 n m xs.length (fls .f32 xs) (gain8 k) (gain8 k) P.length (fls .f32 P) xs.length (fls .f32 xs) (xs.length : Int) (i : Int) = some ((P ++ (xs.drop i).map fun x => fmul .f32 x (gain8 k)).length, fls .f32 (P ++ (xs.drop i).map fun x => fmul .f32 x (gain8 k))) := by
  intro j
  induction j with
  | zero =>
    intro i m P hi hP hm
    obtain ⟨m, rfl⟩ : ∃ k, m = k + 1 := ⟨m - 1, by omega⟩
    rw [f49_i_FadeSamples.l0, nlt_dec (by omega), List.drop_eq_nil_of_le (by omega)]
    simp [br]
  | succ j ih =>
    intro i m P hi hP hm
    obtain ⟨m, rfl⟩ : ∃ k, m = k + 1 := ⟨m - 1, by omega⟩
    have h : i < xs.length := by omega
    have hd : xs.drop i = xs.getD i 0 :: xs.drop (i + 1) := by
      rw [List.drop_eq_getElem_cons h]; simp [List.getD, h]
    rw [f49_i_FadeSamples.l0, lt_dec h, in_dec h, Int.toNat_natCast, okAt_fls h, fAt_fls]
    simp only [br_t, Bool.and_self, gd_t, fade_at hk hl h, push_ok (show P.length < 2147483648 by omega), push_fls, wrap_succ (show i < 9223372036854775807 by omega)]
    rw [push_len (z := fmul .f32 (xs.getD i 0) (gain8 k)), ih (i + 1) m _ (by omega) (by simp; omega) (by omega), hd]
    simp
theorem i_fade (n k : Nat) (hk : k < 16) (xs : List Nat) (hl : xs.length < 10) (hn : 100 < n) : f49_i_FadeSamples (n + 2) xs.length (fls .f32 xs) (gain8 k) (gain8 k) = some ((xs.map fun x => fmul .f32 x (gain8 k)).length, fls .f32 (xs.map fun x => fmul .f32 x (gain8 k)), true) := by
  have e := fade_loop (n + 1) k hk xs hl xs.length 0 (n + 1) [] (by omega) (by simp) (by omega)
  simp only [List.drop_zero, List.nil_append] at e
  have e : f49_i_FadeSamples.l0 (n + 1) (n + 1) xs.length (fls .f32 xs) (gain8 k) (gain8 k) 0 [] xs.length (fls .f32 xs) (xs.length : Int) 0 = _ := e
  rw [f49_i_FadeSamples]
  simp only [i_few, decide_eq_true (show (xs.length : Int) ≤ 256 by omega), bd_s, Bool.not_true, br_f, e]
/-! ### roots of means -/
/-- the size of a plain number -/
def Mag (u : Rat) : Prop := u = 0 ∨ ∃ (m : Nat) (e : Int), u = mv m e ∧ 8388608 ≤ m ∧ m ≤ 16776000 ∧ -40 ≤ e ∧ e ≤ 0
def formOk (w : Nat) : Bool := w == 0 || (match FloatKind.f32.decode w with
  | .number false m e => decide (8388608 ≤ m) && decide (m ≤ 16776000) && decide (-40 ≤ e) && decide (e ≤ 0)
  | _ => false)
theorem form_tab0 : ∀ k : Nat, k < 129 → formOk (size32 (fdiv .f32 (FloatKind.f32.nearest ((k : Int) - 64)) 1088421888)) = true := by decide +kernel
theorem form_tab1 : ∀ k : Nat, k < 129 → formOk (size32 (fdiv .f32 (FloatKind.f32.nearest ((k : Int) - 64)) 1098907648)) = true := by decide +kernel
theorem plain_mag {x : Nat} {u : Rat} (h : Plain x) (hu : Val .f32 (size32 x) u) : Mag u := by
  have hf : formOk (size32 x) = true := by
    obtain ⟨m, hm, e | e⟩ := h
    · have := form_tab0 (m + 64).toNat (by omega)
      rwa [show (((m + 64).toNat : Nat) : Int) - 64 = m by omega, ← e] at this
    · have := form_tab1 (m + 64).toNat (by omega)
      rwa [show (((m + 64).toNat : Nat) : Int) - 64 = m by omega, ← e] at this
  unfold formOk at hf
  simp only [Bool.or_eq_true, beq_iff_eq] at hf
  rcases hf with hf | hf
  · left
    rw [hf] at hu
    exact hu.inj (val_zero .f32)
  · right
    split at hf
    · rename_i m e hd
      simp only [Bool.and_eq_true, decide_eq_true_eq] at hf
      exact ⟨m, e, hu.inj (read_val hd), hf.1.1.1, hf.1.1.2, hf.1.2, hf.2⟩
    · cases hf
/-- sums of squares are not greater than so many of a bound -/
theorem dot_le {A : Nat → Rat} (hA0 : A 0 = 0) (hA : ∀ k, k ≤ 9 → Rep0 .f32 (A k) ∧ A k < p2 (topE .f32)) (hs : ∀ k, k < 9 → A (k + 1) = A k + A 1) : ∀ (ds : List Nat) (s : Nat) (v : Rat) (k : Nat), (∀ d ∈ ds, ∃ u, Val .f32 d u ∧ u * u ≤ A 1 ∧ 0 ≤ u * u) → Val .f32 s v → 0 ≤ v → v ≤ A k → k + ds.length ≤ 9 → ∃ w, Val .f32 (dotM s ds ds) w ∧ 0 ≤ w ∧ w ≤ A (k + ds.length) := by
  intro ds
  induction ds with
  | nil => intro s v k _ h h0 h1 _; exact ⟨v, h, h0, h1⟩
  | cons d ds ih =>
    intro s v k hd h h0 h1 hl
    simp only [List.length_cons] at hl
    obtain ⟨u, u1, u2, u3⟩ := hd d (by simp)
    obtain ⟨r1, r2⟩ := hA 1 (by omega)
    obtain ⟨r3, r4⟩ := hA (k + 1) (by omega)
    have a1 := rep0_nonneg r1
    have ak := rep0_nonneg r3
    have e := hs k (by omega)
    obtain ⟨q, q1, q2⟩ := mul_val u1 u1 r1 r2 u2 (by grind)
    have q3 := (q2 _ (repZ _)).2 u3
    have q4 := (q2 _ r1.rep).1 u2
    obtain ⟨p, p1, p2_⟩ := add_val h q1 r3 r4 (by grind) (by grind)
    have p3 := (p2_ _ (repZ _)).2 (show 0 ≤ v + q by grind)
    have p4 := (p2_ _ r3.rep).1 (show v + q ≤ A (k + 1) by grind)
    obtain ⟨w, w1, w2, w3⟩ := ih (fadd .f32 s (fmul .f32 d d)) p (k + 1) (fun x hx => hd x (by simp [hx])) p1 p3 p4 (by omega)
    exact ⟨w, w1, w2, by rw [show k + (d :: ds).length = k + 1 + ds.length by simp; omega]; exact w3⟩
theorem dot_low {A : Nat → Rat} (hA : ∀ k, k ≤ 9 → Rep0 .f32 (A k)) (hs : ∀ k, k < 9 → A (k + 1) = A k + A 1) : ∀ (ds : List Nat) (s : Nat) (v : Rat) (k B : Nat), (∀ d ∈ ds, ∃ u, Val .f32 d u ∧ u * u ≤ 100 ∧ A 1 ≤ u * u) → Val .f32 s v → 0 ≤ v → A k ≤ v → v ≤ (B : Rat) → B + 100 * ds.length ≤ 2000 → k + ds.length ≤ 9 → ∃ w, Val .f32 (dotM s ds ds) w ∧ A (k + ds.length) ≤ w := by
  intro ds
  induction ds with
  | nil => intro s v k B _ h _ h1 _ _ _; exact ⟨v, h, h1⟩
  | cons d ds ih =>
    intro s v k B hd h h0 h1 hB hb hl
    simp only [List.length_cons] at hl hb
    have b32 := binade32
    obtain ⟨u, u1, u2, u3⟩ := hd d (by simp)
    have a1 := rep0_nonneg (hA 1 (by omega))
    have e := hs k (by omega)
    have h100 : ((100 : Nat) : Rat) = 100 := rfl
    have r1 := rep_nat .f32 (B := 100) (by omega)
    have t1 := nat_top .f32 (B := 100) (by omega)
    rw [h100] at r1 t1
    have r2 := rep_nat .f32 (B := B + 100) (by omega)
    have t2 := nat_top .f32 (B := B + 100) (by omega)
    rw [natcast_add, h100] at r2 t2
    have hBn : (0 : Rat) ≤ (B : Rat) := by exact_mod_cast Nat.zero_le B
    obtain ⟨q, q1, q2⟩ := mul_val u1 u1 r1 t1 u2 (by grind)
    have q3 := (q2 _ (hA 1 (by omega)).rep).2 u3
    have q4 := (q2 _ r1.rep).1 u2
    obtain ⟨p, p1, p2_⟩ := add_val h q1 r2 t2 (by grind) (by grind)
    have p3 := (p2_ _ (repZ _)).2 (show 0 ≤ v + q by grind)
    have p4 := (p2_ _ (hA (k + 1) (by omega)).rep).2 (show A (k + 1) ≤ v + q by grind)
    have p5 := (p2_ _ r2.rep).1 (show v + q ≤ (B : Rat) + 100 by grind)
    obtain ⟨w, w1, w2⟩ := ih (fadd .f32 s (fmul .f32 d d)) p (k + 1) (B + 100) (fun x hx => hd x (by simp [hx])) p1 p3 p4 (by rw [natcast_add, h100]; exact p5) (by omega) (by omega)
    exact ⟨w, w1, by rw [show k + (d :: ds).length = k + 1 + ds.length by simp; omega]; exact w2⟩
theorem mv_up (a : Nat) (E : Int) (c : Nat) : mv a (E + (c : Int)) = mv (a * 2 ^ c) E := by
  unfold mv
  rw [p2_add, p2_nat]
  have : ((a * 2 ^ c : Nat) : Rat) = (a : Rat) * ((2 ^ c : Nat) : Rat) := by exact_mod_cast rfl
  rw [this]
  grind
theorem mv_times (k a : Nat) (E : Int) : mv (k * a) E = (k : Rat) * mv a E := by
  unfold mv
  have : ((k * a : Nat) : Rat) = (k : Rat) * (a : Rat) := by exact_mod_cast rfl
  rw [this]; grind
theorem mv_plus (a b : Nat) (E : Int) : mv (a + b) E = mv a E + mv b E := by
  unfold mv
  rw [natcast_add]; grind
theorem div_le {w N A : Rat} (hN : 1 ≤ N) (h : w ≤ N * A) : w / N ≤ A := by
  have hN0 : 0 < N := by grind
  have hcan : w / N * N = w := Rat.div_mul_cancel (by grind)
  refine Rat.not_lt.1 fun h1 => ?_
  have := (Rat.mul_lt_mul_right hN0).2 h1
  grind
theorem le_div {w N A : Rat} (hN : 1 ≤ N) (h : N * A ≤ w) : A ≤ w / N := by
  have hN0 : 0 < N := by grind
  have hcan : w / N * N = w := Rat.div_mul_cancel (by grind)
  refine Rat.not_lt.1 fun h1 => ?_
  have := (Rat.mul_lt_mul_right hN0).2 h1
  grind
def rootM (xs : List Nat) : Nat := root32 (fdiv .f32 (dotM 0 xs xs) (FloatKind.f32.nearest (xs.length : Int)))
theorem root_zero {x : Nat} (hx : x < 4294967296) (h : Val .f32 x 0) : Val .f32 (root32 x) 0 := by
  rcases val_zero_word hx h with rfl | rfl
  · rw [show root32 0 = 0 by decide]; exact val_zero _
  · rw [show root32 2147483648 = 2147483648 by decide]; exact val_mzero
theorem sq_nonneg (u : Rat) : 0 ≤ u * u := by
  rcases (Rat.le_total : (0 : Rat) ≤ u ∨ u ≤ 0) with h | h
  · exact Rat.mul_nonneg h h
  · have := Rat.mul_nonneg (show 0 ≤ -u by grind) (show 0 ≤ -u by grind); grind
theorem root_both (xs : List Nat) (h1 : 1 ≤ xs.length) (h9 : xs.length ≤ 9) {A : Nat → Rat} {C : Rat} (hA : ∀ k, k ≤ 9 → Rep0 .f32 (A k) ∧ A k < p2 (topE .f32)) (hk : ∀ k, A k = (k : Rat) * A 1) (hC : Rep0 .f32 C) (hAC : A 1 ≤ C * C) (hCM : C * C ≤ 1000000) (hd : ∀ d ∈ xs, ∃ u, Val .f32 d u ∧ u * u ≤ A 1) :
    ∃ Q, Val .f32 (rootM xs) Q ∧ 0 ≤ Q ∧ Q ≤ C ∧ ∀ (A' : Nat → Rat) (C' : Rat), (∀ k, k ≤ 9 → Rep0 .f32 (A' k)) → (∀ k, A' k = (k : Rat) * A' 1) → Rep0 .f32 C' → C' * C' ≤ A' 1 → 0 < A' 1 → (∀ d ∈ xs, ∃ u, Val .f32 d u ∧ u * u ≤ 100 ∧ A' 1 ≤ u * u) → C' ≤ Q := by
  have b32 := binade32
  have hA0 : A 0 = 0 := by rw [hk 0, show ((0 : Nat) : Rat) = 0 from rfl, Rat.zero_mul]
  have hs : ∀ k, k < 9 → A (k + 1) = A k + A 1 := by
    intro k _
    rw [hk (k + 1), hk k, natcast_add, show ((1 : Nat) : Rat) = 1 from rfl]; grind
  obtain ⟨w, w1, w2, w3⟩ := dot_le hA0 hA hs xs 0 0 0 (fun d hd' => by obtain ⟨u, u1, u2⟩ := hd d hd'; exact ⟨u, u1, u2, sq_nonneg u⟩) (val_zero .f32) Rat.le_refl (by rw [hA0]; exact Rat.le_refl) (by omega)
  rw [Nat.zero_add, hk] at w3
  have hn := int_val (k := .f32) (n := (xs.length : Int)) (by omega)
  rw [Rat.intCast_natCast] at hn
  have hN : (1 : Rat) ≤ (xs.length : Rat) := by exact_mod_cast h1
  have q1 := div_le hN w3
  have q0 := le_div (A := 0) hN (by rw [Rat.mul_zero]; exact w2)
  obtain ⟨a1, a2⟩ := hA 1 (by omega)
  have a0 := rep0_nonneg a1
  obtain ⟨R, r1, r2⟩ := div_val w1 hn (by grind) a1 a2 q1 (by grind)
  have r3 := (r2 _ (repZ _)).2 q0
  have r4 := (r2 _ a1.rep).1 q1
  obtain ⟨Q, Q1, Q2, -, Q3⟩ := root_near r1 r3 (by grind)
  have hC0 := rep0_nonneg hC
  refine ⟨Q, Q1, Q2, ?_, ?_⟩
  · by_cases hR : R = 0
    · rw [hR] at r1
      rw [(root_zero (fdiv_lt .f32 _ _) r1).inj Q1] at hC0
      exact hC0
    · exact (Q3 C hC (by grind)).2 (by grind)
  · intro A' C' hA' hk' hC' hCA hpos hd'
    have hA0' : A' 0 = 0 := by rw [hk' 0, show ((0 : Nat) : Rat) = 0 from rfl, Rat.zero_mul]
    have hs' : ∀ k, k < 9 → A' (k + 1) = A' k + A' 1 := by
      intro k _
      rw [hk' (k + 1), hk' k, natcast_add, show ((1 : Nat) : Rat) = 1 from rfl]; grind
    obtain ⟨w', v1, v2⟩ := dot_low hA' hs' xs 0 0 0 0 hd' (val_zero .f32) Rat.le_refl (by rw [hA0']; exact Rat.le_refl) (by exact Rat.le_refl) (by omega) (by omega)
    rw [v1.inj w1, Nat.zero_add, hk'] at v2
    have p1 := le_div hN v2
    have p2_ := (r2 _ (hA' 1 (by omega)).rep).2 p1
    exact (Q3 C' hC' (by grind)).1 (by grind)
theorem p2_52 : p2 ((52 : Nat) : Int) = 4503599627370496 := by rw [p2_nat]; rfl
theorem up28 (x : Nat) : x ≤ (x / 268435456 + 1) * 268435456 := by omega
theorem mag_le {u : Rat} (h : Mag u) : 0 ≤ u := by
  rcases h with rfl | ⟨m, e, rfl, -⟩
  · exact Rat.le_refl
  · exact mv_nonneg m e
/-- a bound above the squares, and its root -/
theorem mag_high {P : Rat} (h : Mag P) (hP : P ≤ 10) : ∃ (A : Nat → Rat) (C : Rat), (∀ k, k ≤ 9 → Rep0 .f32 (A k) ∧ A k < p2 (topE .f32)) ∧ (∀ k, A k = (k : Rat) * A 1) ∧ Rep0 .f32 C ∧ A 1 ≤ C * C ∧ C * C ≤ 1000000 ∧ P * P ≤ A 1 ∧ C ≤ P * (1 + 1 / 16384) := by
  have b32 := binade32
  rcases h with rfl | ⟨m, e, rfl, h1, h2, h3, h4⟩
  · exact ⟨fun _ => 0, 0, fun _ _ => ⟨rep0_zero, p2_pos _⟩, fun k => (Rat.mul_zero _).symm, rep0_zero, by rw [Rat.mul_zero]; exact Rat.le_refl, by grind, by rw [Rat.mul_zero]; exact Rat.le_refl, by grind⟩
  · have hmm : m * m ≤ 16776000 * 16776000 := Nat.mul_le_mul h2 h2
    have ha : m * m / 268435456 + 1 ≤ 1048577 := by omega
    have hsq : (m + 512) * (m + 512) = m * m + 1024 * m + 262144 := by
      rw [Nat.add_mul, Nat.mul_add, Nat.mul_add]; omega
    refine ⟨fun k => mv (k * (m * m / 268435456 + 1)) (e + e + ((28 : Nat) : Int)), mv (m + 512) e, fun k hk => ?_, fun k => ?_, ?_, ?_, ?_, ?_, ?_⟩
    · have hka : k * (m * m / 268435456 + 1) ≤ 9 * 1048577 := Nat.mul_le_mul hk ha
      refine ⟨⟨_, _, by omega, by rw [least32]; omega, rfl⟩, ?_⟩
      have q := (mv_lt (m := k * (m * m / 268435456 + 1)) (n := 2 ^ 24) (e := e + e + ((28 : Nat) : Int))).2 (by omega)
      rw [mv_pow] at q
      have q2 : p2 (e + e + ((28 : Nat) : Int) + ((24 : Nat) : Int)) ≤ p2 (topE .f32) := p2_le (by show _ ≤ (128 : Int); omega)
      grind
    · show mv _ _ = _ * mv _ _
      rw [Nat.one_mul]; exact mv_times _ _ _
    · exact ⟨_, _, by omega, by rw [least32]; omega, rfl⟩
    · show mv (1 * _) _ ≤ _
      rw [mv_sq, Nat.one_mul, mv_up, mv_le, hsq]
      show (m * m / 268435456 + 1) * 268435456 ≤ _
      omega
    · have hC : mv (m + 512) e ≤ 20 := by
        have : mv (m + 512) e ≤ mv (2 * m) e := mv_le.2 (by omega)
        rw [mv_times, show ((2 : Nat) : Rat) = 2 from rfl] at this
        grind
      have h0 := mv_nonneg (m + 512) e
      have := Rat.mul_le_mul_of_nonneg_left hC h0
      grind
    · show _ ≤ mv (1 * _) _
      rw [mv_sq, Nat.one_mul, mv_up, mv_le]
      exact up28 _
    · rw [mv_plus]
      have : mv (16384 * 512) e ≤ mv m e := mv_le.2 (by omega)
      rw [mv_times, show ((16384 : Nat) : Rat) = 16384 from rfl] at this
      grind
theorem mag_low {P : Rat} (h : Mag P) (h0 : P ≠ 0) : ∃ (A : Nat → Rat) (C : Rat), (∀ k, k ≤ 9 → Rep0 .f32 (A k)) ∧ (∀ k, A k = (k : Rat) * A 1) ∧ Rep0 .f32 C ∧ C * C ≤ A 1 ∧ 0 < A 1 ∧ A 1 ≤ P * P ∧ P * (1 - 1 / 16384) ≤ C := by
  have b32 := binade32
  rcases h with rfl | ⟨m, e, rfl, h1, h2, h3, h4⟩
  · exact absurd rfl h0
  · have hmm : m * m ≤ 16776000 * 16776000 := Nat.mul_le_mul h2 h2
    have hmm1 : 8388608 * 8388608 ≤ m * m := Nat.mul_le_mul h1 h1
    have ha : m * m / 268435456 ≤ 1048577 := by omega
    obtain ⟨q, rfl⟩ : ∃ q, m = q + 512 := ⟨m - 512, by omega⟩
    have hsq : (q + 512) * (q + 512) = q * q + 1024 * q + 262144 := by
      rw [Nat.add_mul, Nat.mul_add, Nat.mul_add]; omega
    refine ⟨fun k => mv (k * ((q + 512) * (q + 512) / 268435456)) (e + e + ((28 : Nat) : Int)), mv q e, fun k hk => ?_, fun k => ?_, ?_, ?_, ?_, ?_, ?_⟩
    · have hka : k * ((q + 512) * (q + 512) / 268435456) ≤ 9 * 1048577 := Nat.mul_le_mul hk ha
      exact ⟨_, _, by omega, by rw [least32]; omega, rfl⟩
    · show mv _ _ = _ * mv _ _
      rw [Nat.one_mul]; exact mv_times _ _ _
    · exact ⟨_, _, by omega, by rw [least32]; omega, rfl⟩
    · show _ ≤ mv (1 * _) _
      rw [mv_sq, Nat.one_mul, mv_up, mv_le]
      show _ ≤ (q + 512) * (q + 512) / 268435456 * 268435456
      omega
    · show 0 < mv (1 * _) _
      rw [Nat.one_mul]
      have : mv 0 (e + e + ((28 : Nat) : Int)) < mv ((q + 512) * (q + 512) / 268435456) (e + e + ((28 : Nat) : Int)) := mv_lt.2 (by omega)
      rwa [mv_zero] at this
    · show mv (1 * _) _ ≤ _
      rw [mv_sq, Nat.one_mul, mv_up, mv_le]
      exact Nat.div_mul_le_self _ _
    · have e1 := mv_plus q 512 e
      have : mv (16384 * 512) e ≤ mv (q + 512) e := mv_le.2 h1
      rw [mv_times, show ((16384 : Nat) : Rat) = 16384 from rfl] at this
      grind
/-! ### the least size -/
def mxM (z : Nat) : Nat := fmx true .f32 z (negF .f32 z)
theorem mx_val {z : Nat} (h : Plain z) : ∃ u, Val .f32 (mxM z) u ∧ Val .f32 (size32 z) u ∧ 0 ≤ u := by
  obtain ⟨u, u1, -, u3, -, u5⟩ := h.val
  have hv := fin_val h.fin
  have hn := neg_val h.w32 hv
  obtain ⟨o1, o2, o3⟩ := order_val hv hn
  generalize fval .f32 z = a at *
  refine ⟨u, ?_, u1, u3⟩
  unfold mxM fmx
  rcases (show a < -a ∨ a = -a ∨ -a < a by grind) with h | h | h
  · rw [o1.2 h]; simp only [if_true]
    have : u = -a := by rcases u5 with e | e <;> grind
    rw [this]; exact hn
  · rw [o2.2 h]
    have h0 : u = a ∧ u = -a := by rcases u5 with e | e <;> grind
    simp only
    split
    · rw [h0.2]; exact hn
    · rw [h0.1]; exact hv
  · rw [o3.2 h]; simp only [if_true]
    have : u = a := by rcases u5 with e | e <;> grind
    rw [this]; exact hv
theorem min_val {x y : Nat} {a b : Rat} (hx : Val .f32 x a) (hy : Val .f32 y b) : ∃ w, Val .f32 (fmx false .f32 x y) w ∧ (w = a ∨ w = b) ∧ w ≤ a ∧ w ≤ b := by
  obtain ⟨o1, o2, o3⟩ := order_val hx hy
  unfold fmx
  rcases (show a < b ∨ a = b ∨ b < a by grind) with h | h | h
  · rw [o1.2 h]; exact ⟨a, hx, .inl rfl, Rat.le_refl, by grind⟩
  · rw [o2.2 h]
    simp only
    split
    · exact ⟨b, hy, .inr rfl, by grind, Rat.le_refl⟩
    · exact ⟨a, hx, .inl rfl, Rat.le_refl, by grind⟩
  · rw [o3.2 h]; exact ⟨b, hy, .inr rfl, by grind, Rat.le_refl⟩
theorem low_loop (n k : Nat) (hk : k < 16) (root : Nat) (xs : List Nat) (hp : ∀ x ∈ xs, Plain x) (hl : xs.length < 10) : ∀ (j i m lw : Nat) (l : Rat), i + j = xs.length → Val .f32 lw l → Mag l → j < m →
    ∃ (lw' : Nat) (l' : Rat), f8_l_FnBent.l1 n m xs.length (fls .f32 xs) root (gain8 k) xs.length (fls .f32 (xs.map fun x => fmul .f32 x (gain8 k))) lw (i : Int) = some (Sum.inr (root, lw')) ∧ Val .f32 lw' l' ∧ Mag l' ∧ l' ≤ l ∧ ∀ x ∈ xs.drop i, ∀ u, Val .f32 (size32 x) u → l' ≤ u := by
  intro j
  induction j with
  | zero =>
    intro i m lw l hi hv hm _
    obtain ⟨m, rfl⟩ : ∃ k, m = k + 1 := ⟨m - 1, by omega⟩
    refine ⟨lw, l, ?_, hv, hm, Rat.le_refl, ?_⟩
    · rw [f8_l_FnBent.l1, nlt_dec (by omega)]; rfl
    · rw [List.drop_eq_nil_of_le (by omega)]; intro x hx; cases hx
  | succ j ih =>
    intro i m lw l hi hv hm _
    obtain ⟨m, rfl⟩ : ∃ k, m = k + 1 := ⟨m - 1, by omega⟩
    have h : i < xs.length := by omega
    have hmem : xs.getD i 0 ∈ xs := by
      have : xs.getD i 0 = xs[i] := by simp [List.getD, h]
      rw [this]; exact List.getElem_mem h
    have hd : xs.drop i = xs.getD i 0 :: xs.drop (i + 1) := by
      rw [List.drop_eq_getElem_cons h]; simp [List.getD, h]
    have hlm : i < (xs.map fun x => fmul .f32 x (gain8 k)).length := by rw [List.length_map]; exact h
    have hg : (xs.map fun x => fmul .f32 x (gain8 k)).getD i 0 = fmul .f32 (xs.getD i 0) (gain8 k) := by simp [List.getD, h]
    have hpl := hp _ hmem
    have hfin : fne .f32 (fmul .f32 (xs.getD i 0) (gain8 k)) (fmul .f32 (xs.getD i 0) (gain8 k)) = false := by
      have h0 := fade_tab0 k hk
      simp only [Bool.and_eq_true, beq_iff_eq] at h0
      have vg := fin_val h0.1.1.2
      have g1 := (fle_val vg (int_val (k := .f32) (n := 2) (by rw [binade32]; decide))).1 (by rw [show FloatKind.f32.nearest 2 = 1073741824 by decide]; exact h0.1.2)
      have g2 := (fge_val vg (int_val (k := .f32) (n := -2) (by rw [binade32]; decide))).1 (by rw [show FloatKind.f32.nearest (-2) = 3221225472 by decide]; exact h0.2)
      obtain ⟨v, -, -, v3, v4, v5⟩ := hpl.val
      have h10 : ((10 : Nat) : Rat) = 10 := rfl
      have b1 : Bd .f32 (xs.getD i 0) 10 := by
        refine ⟨_, fin_val hpl.fin, ?_, ?_⟩ <;> rw [h10] <;> rcases v5 with e | e <;> rw [e] <;> grind
      have b2 : Bd .f32 (gain8 k) 2 := ⟨_, vg, by rw [show -((2 : Nat) : Rat) = ((-2 : Int) : Rat) from rfl]; exact g2, by rw [show ((2 : Nat) : Rat) = ((2 : Int) : Rat) from rfl]; exact g1⟩
      obtain ⟨w, w1, -, -⟩ := b1.mul b2 (by rw [binade32]; decide)
      rw [fne_feq, feq_self w1.num]; rfl
    obtain ⟨u, u1, u2, u3⟩ := mx_val hpl
    obtain ⟨w, w1, w2, w3, w4⟩ := min_val hv u1
    have hw : Mag w := by
      rcases w2 with rfl | rfl
      · exact hm
      · exact plain_mag hpl u2
    obtain ⟨lw', l', q1, q2, q3, q4, q5⟩ := ih (i + 1) m _ w (by omega) w1 hw (by omega)
    refine ⟨lw', l', ?_, q2, q3, Rat.le_trans q4 w3, ?_⟩
    · rw [f8_l_FnBent.l1, lt_dec h, in_dec h, Int.toNat_natCast, okAt_fls h, okAt_fls hlm, fAt_fls, fAt_fls, hg, hfin, wrap_succ (show i < 9223372036854775807 by omega)]
      exact q1
    · rw [hd]
      intro x hx v hv'
      rcases List.mem_cons.1 hx with rfl | hx
      · rw [← u2.inj hv']; exact Rat.le_trans q4 w4
      · exact q5 x hx v hv'
theorem one4 : ∃ c : Rat, Val .f64 4607182869159980145 c ∧ 1 + 1 / 16000 ≤ c ∧ c ≤ 2 := by
  have h := read_val (k := .f64) (x := 4607182869159980145) (s := false) (m := 4504049987333233) (e := -52) (by decide)
  rw [sg_false] at h
  refine ⟨_, h, ?_, ?_⟩ <;> unfold mv <;> rw [show (-52 : Int) = -((52 : Nat) : Int) from rfl, p2_inv 52 4503599627370496 (by decide), show ((4504049987333233 : Nat) : Rat) = 4504049987333233 from rfl, show ((4503599627370496 : Nat) : Rat) = 4503599627370496 from rfl] <;> grind
theorem peak_val (xs : List Nat) (hp : ∀ x ∈ xs, Plain x) : ∃ P, Val .f32 (peakM 0 xs) P ∧ Mag P ∧ P ≤ 10 ∧ ∀ x ∈ xs, ∃ u v, Val .f32 x u ∧ Val .f32 (size32 x) v ∧ 0 ≤ v ∧ v ≤ 10 ∧ v ≤ P ∧ u * u = v * v := by
  have hx : ∀ x ∈ xs, W32 x := fun x h => (hp x h).w32
  obtain ⟨f1, f2, f3, f4⟩ := peak_facts xs 0 w32_zero (by decide) (by decide) hx
  have hP : ∃ P, Val .f32 (peakM 0 xs) P ∧ Mag P ∧ P ≤ 10 := by
    rcases f4 with e | ⟨x, hx', -, e⟩
    · rw [e]; exact ⟨0, val_zero _, .inl rfl, by grind⟩
    · obtain ⟨v, v1, -, -, v4, -⟩ := (hp x hx').val
      rw [e]; exact ⟨v, v1, plain_mag (hp x hx') v1, v4⟩
  obtain ⟨P, P1, P2, P3⟩ := hP
  refine ⟨P, P1, P2, P3, fun x hx' => ?_⟩
  obtain ⟨v, v1, -, v3, v4, v5⟩ := (hp x hx').val
  have hu := fin_val (hp x hx').fin
  have hxn := hu.num
  refine ⟨_, v, hu, v1, v3, v4, ?_, by rcases v5 with e | e <;> rw [e] <;> grind⟩
  refine (fle_val v1 P1).1 ?_
  rw [fle_key]
  unfold num2
  rw [v1.num, f1, key_size32 (hx x hx').1 hxn]
  simpa using f3 x hx' hxn
theorem sq_mono {a b : Rat} (h0 : 0 ≤ a) (h : a ≤ b) : a * a ≤ b * b := by
  have h1 := Rat.mul_le_mul_of_nonneg_left h h0
  have h2 := Rat.mul_le_mul_of_nonneg_right h (show 0 ≤ b by grind)
  grind
theorem lower_fits {c Q l C : Rat} (hc : 1 + 1 / 16000 ≤ c) (hQ : 0 ≤ Q) (hl : 0 ≤ l) (hC : l * (1 - 1 / 16384) ≤ C) (hCQ : C ≤ Q) : l ≤ c * Q := by
  have h1 := Rat.mul_le_mul_of_nonneg_right hc hQ
  have h2 : (1 + 1 / 16000) * (l * (1 - 1 / 16384)) ≤ (1 + 1 / 16000) * Q := Rat.mul_le_mul_of_nonneg_left (by grind) (by grind)
  grind
theorem upper_fits {c Q P : Rat} (hc : 1 + 1 / 16000 ≤ c) (hP : 0 ≤ P) (hQ : Q ≤ P * (1 + 1 / 16384)) : Q ≤ c * P := by
  have h1 := Rat.mul_le_mul_of_nonneg_right hc hP
  grind
theorem i_rootmean (n : Nat) (xs : List Nat) (h1 : 1 ≤ xs.length) (hl : xs.length ≤ 256) (hn : 300 < n) : f47_i_RootMean (n + 4) xs.length (fls .f32 xs) = some (rootM xs, true) := by
  have q : ((xs.length : Int) == 0) = false := beq_eq_false_iff_ne.2 (by omega)
  rw [f47_i_RootMean]
  simp only [i_few, decide_eq_true (show (xs.length : Int) ≤ 256 by omega), bd_s, Bool.not_true, br_f, q, i_dotted (n + 2) xs xs rfl (by omega) (by omega), i_root]
  rfl
theorem bounds (k : Nat) (hk : k < 16) (n : Nat) (xs : List Nat) (hp : ∀ x ∈ xs, Plain x) (h1 : 1 ≤ xs.length) (h9 : xs.length ≤ 9) (hn : 100 < n) :
    fge .f32 (rootM xs) 0 = true ∧ fgt .f64 (wide (rootM xs)) (fmul .f64 4607182869159980145 (wide (peakM 0 xs))) = false ∧
    ∃ lw, f8_l_FnBent.l1 n n xs.length (fls .f32 xs) (rootM xs) (gain8 k) xs.length (fls .f32 (xs.map fun x => fmul .f32 x (gain8 k))) (peakM 0 xs) 0 = some (Sum.inr (rootM xs, lw)) ∧ fge .f64 (fmul .f64 4607182869159980145 (wide (rootM xs))) (wide lw) = true := by
  obtain ⟨P, P1, P2, P3, P4⟩ := peak_val xs hp
  have P0 := mag_le P2
  obtain ⟨A, C, a1, a2, a3, a4, a5, a6, a7⟩ := mag_high P2 P3
  obtain ⟨Q, Q1, Q2, Q3, Q4⟩ := root_both xs h1 h9 a1 a2 a3 a4 a5 (fun d hd => by
    obtain ⟨u, v, u1, -, v0, -, v2, e⟩ := P4 d hd
    exact ⟨u, u1, by rw [e]; exact Rat.le_trans (sq_mono v0 v2) a6⟩)
  obtain ⟨c, c1, c2, c3⟩ := one4
  have B1 := rep_nat .f64 (B := 1000) (by decide)
  have T1 := nat_top .f64 (B := 1000) (by decide)
  rw [show ((1000 : Nat) : Rat) = 1000 from rfl] at B1 T1
  have hQ20 : Q ≤ 20 := by grind
  have hcQ : c * Q ≤ 1000 := by
    have := Rat.mul_le_mul_of_nonneg_right c3 Q2
    grind
  have hcQ0 : 0 ≤ c * Q := Rat.mul_nonneg (by grind) Q2
  have hcP : c * P ≤ 1000 := by
    have := Rat.mul_le_mul_of_nonneg_right c3 P0
    grind
  have hcP0 : 0 ≤ c * P := Rat.mul_nonneg (by grind) P0
  have W1 := wide_val Q1
  have W2 := wide_val P1
  refine ⟨(fge_val Q1 (val_zero _)).2 Q2, ?_, ?_⟩
  · obtain ⟨R, r1, r2⟩ := mul_val c1 W2 B1 T1 hcP (by grind)
    have := (r2 _ W1.rep).2 (upper_fits c2 P0 (Rat.le_trans Q3 a7))
    cases hf : fgt .f64 (wide (rootM xs)) (fmul .f64 4607182869159980145 (wide (peakM 0 xs)))
    · rfl
    · have h := (fgt_val W1 r1).1 hf
      grind
  · obtain ⟨lw, l, e, l1, l2, l3, l4⟩ := low_loop n k hk (rootM xs) xs hp (by omega) xs.length 0 n (peakM 0 xs) P (by omega) P1 P2 (by omega)
    rw [List.drop_zero] at l4
    refine ⟨lw, e, ?_⟩
    have l0 := mag_le l2
    have W3 := wide_val l1
    obtain ⟨R, r1, r2⟩ := mul_val c1 W1 B1 T1 hcQ (by grind)
    refine (fge_val r1 W3).2 ((r2 _ W3.rep).2 ?_)
    by_cases hl : l = 0
    · rw [hl]; exact hcQ0
    · obtain ⟨A', C', b1, b2, b3, b4, b5, b6, b7⟩ := mag_low l2 hl
      have := Q4 A' C' b1 b2 b3 b4 b5 (fun d hd => by
        obtain ⟨u, v, u1, v1, v0, v10, v2, e⟩ := P4 d hd
        have h10 := sq_mono v0 v10
        have hlv := sq_mono l0 (l4 d hd v v1)
        exact ⟨u, u1, by rw [e]; grind, by rw [e]; exact Rat.le_trans b6 hlv⟩)
      exact lower_fits c2 Q2 l0 b7 this
theorem exact_ (cs : List Int) (hc : ∀ b ∈ cs, GoodI .u8 b) (lc : cs.length ≤ maxLen) (ms : List Int) (hm : ∀ b ∈ ms, GoodI .u8 b) (lm : ms.length ≤ maxLen) : ∃ n, f8_l_FnBent n cs.length (its .u8 cs) ms.length (its .u8 ms) = some true := by
  refine ⟨1000, ?_⟩
  suffices h : ∀ n, f8_l_FnBent (n + 500) cs.length (its .u8 cs) ms.length (its .u8 ms) = some true from h 500
  intro n
  rw [f8_l_FnBent, l_long]
  cases hlong : decide (48 < cs.length ∨ 48 < ms.length)
  case true => rfl
  obtain ⟨ws, hwl, hww, e1⟩ := s_r8samples (n + 492) (bytes_of hc) 3 (by omega) (by omega)
  have e1 : f22_s_R8Samples (n + 499) cs.length (its .u8 cs) 3 = some (ws.length, fls .f32 ws) := e1
  have e2 := bend_loop (n + 498) cs.length (its .u8 cs) ms.length (its .u8 ms) ws hww (by omega) ws.length 0 (n + 499) (by omega) (by omega)
  have e2 : f8_l_FnBent.l0 (n + 499) (n + 499) cs.length (its .u8 cs) ms.length (its .u8 ms) ws.length (fls .f32 ws) 0 = _ := e2
  obtain ⟨p, hp, e3⟩ := l_at (n + 498) (bytes_of hc) (i := 40) (k := 16) (by omega) (by omega)
  obtain ⟨p, rfl⟩ := Int.eq_ofNat_of_zero_le hp.1
  have w1 : IntKind.i64.wrap ((p : Int) - 8) = (p : Int) - 8 := by rw [wrap64] <;> omega
  have w2 : IntKind.i64.wrap ((p : Int) - 8 + 1) = (p : Int) - 8 + 1 := by rw [wrap64] <;> omega
  have e4 := eighth_tab p (by omega)
  obtain ⟨q, hq, e5⟩ := l_at (n + 498) (bytes_of hc) (i := 41) (k := 9) (by omega) (by omega)
  obtain ⟨q, rfl⟩ := Int.eq_ofNat_of_zero_le hq.1
  obtain ⟨xs, hxl, hxp, e6⟩ := s_r8plain (n + 494) (bytes_of hm) (1 + q) (by omega) (by omega)
  have e6 : f16_s_R8Plain (n + 499) ms.length (its .u8 ms) (xs.length : Int) = some (xs.length, fls .f32 xs) := by rw [hxl] at e6 ⊢; exact e6
  have w3 : IntKind.i64.wrap (1 + (q : Int)) = (xs.length : Int) := by rw [wrap64] <;> omega
  have e7 := i_rootmean (n + 495) xs (by omega) (by omega) (by omega)
  have e8 := i_peakof (n + 495) xs (fun x h => (hxp x h).w32) (by omega) (by omega)
  obtain ⟨g, hg, e9⟩ := l_at (n + 498) (bytes_of hc) (i := 42) (k := 16) (by omega) (by omega)
  obtain ⟨g, rfl⟩ := Int.eq_ofNat_of_zero_le hg.1
  have w4 : IntKind.i64.wrap (1 + (g : Int)) = 1 + (g : Int) := by rw [wrap64] <;> omega
  have hg8 : fdiv .f32 (FloatKind.f32.nearest (1 + (g : Int))) 1090519040 = gain8 g := rfl
  have eA := i_fade (n + 497) g (by omega) xs (by omega) (by omega)
  rw [List.length_map] at eA
  have hne : (((xs.length : Nat) : Int) != ((xs.length : Nat) : Int)) = false := by simp
  obtain ⟨f1, f2, lw, f3, f4⟩ := bounds g (by omega) (n + 499) xs hxp (by omega) (by omega) (by omega)
  simp only [br_f, bd_s, e1, e2, sm_r, e3, w1, w2, i_bend, e4, e5, w3, e6, e7, e8, e9, w4, hg8, eA, Bool.not_true, hne, f1, fltToFlt_wide, f2, f3, f4]
theorem law8 : ∀ args, LawArgs E Try.f8.params.toList args → ∃ N os, evalFn E N 8 args = some ⟨[⟨false, [.leaf], [.bool true]⟩], os⟩ := by
  intro args h0
  have hp : Try.f8.params.toList = [22, 22] := by kernel_rfl
  rw [hp] at h0
  obtain ⟨ts0, r0, rfl, hw0, h1⟩ := h0.cons_inv (d := ⟨false, 1, 24, [.sl .own [.leaf]], [.lst 0 []], .slc 5⟩) (by kernel_rfl)
  obtain ⟨n0, cs0, rfl, gl0, hs0⟩ := hw0.slc_inv (e := 5) (d := ⟨false, 1, 24, [.sl .own [.leaf]], [.lst 0 []], .slc 5⟩) (by kernel_rfl) rfl
  obtain ⟨a0, rfl, rfl, g0⟩ := hs0.ints (k := .u8) (d := ⟨false, 1, 1, [.leaf], [.int .u8 0], .int .u8⟩) (by kernel_rfl) rfl
  obtain ⟨ts1, r1, rfl, hw1, h2⟩ := h1.cons_inv (d := ⟨false, 1, 24, [.sl .own [.leaf]], [.lst 0 []], .slc 5⟩) (by kernel_rfl)
  obtain ⟨n1, cs1, rfl, gl1, hs1⟩ := hw1.slc_inv (e := 5) (d := ⟨false, 1, 24, [.sl .own [.leaf]], [.lst 0 []], .slc 5⟩) (by kernel_rfl) rfl
  obtain ⟨a1, rfl, rfl, g1⟩ := hs1.ints (k := .u8) (d := ⟨false, 1, 1, [.leaf], [.int .u8 0], .int .u8⟩) (by kernel_rfl) rfl
  obtain rfl := h2.nil_inv
  obtain ⟨N, hN⟩ := exact_ a0 g0 gl0 a1 g1 gl1
  exact ⟨N, _, f8_l_FnBent.ok N (a0.length, its .u8 a0, a1.length, its .u8 a1) true hN⟩


end Go.Proofs.Ytjkhhalnlodinaa.D
end
section
/- FnBent holds: for every input the law returns true, and its arguments read as before. -/
namespace Go.Proofs.Ytjkhhalnlodinaa.fnBent
open Go Go.ChangeShapes Go.WideShapes Go.ChangeAt Go.RowKit Go.Desk
set_option linter.unusedVariables false
theorem own : ownKnob Try.prog.godebug = none := by kernel_rfl
theorem laidOut : laidOutB Try.prog = true := by kernel_rfl
set_option maxRecDepth 100000 in
theorem lifted (os : Os) (started : os.Started) (H : Type) (enc : TypeId × Value → H) :
    ReturnsInHanded {} Try.checked os 8 .any (Rows.fnBentSpec.pre6 enc Try.prog Try.f8 Rows.fnBentRow.domain false) (Rows.fnBentSpec.post enc Try.prog Try.f8 false true false false) := by
  refine returnsInHanded_of_change (C := Try.checked) own started (by kernel_rfl) Try.func8
    (ChangeSpec.witness6 (enc := enc) (C := Try.checked) false ⟨#[], #[.slice none 0 0, .slice none 0 0], []⟩ 8 (by kernel_rfl) (by kernel_rfl) (by kernel_rfl) (by kernel_rfl)) ?_
  intro W base args ds gs before hval hW hcnd _
  exact law_contract (c := D.c8) Try.checked.mixed D.tysOk D.fnOk Try.func8 (by kernel_rfl) (by kernel_rfl) (by kernel_rfl) Try.underlying4 rfl
    (fun ds h => by
      rw [show Try.f8.params.toList.length = 2 by kernel_rfl] at h
      match ds, h with
      | [_, _], _ => rfl)
    laidOut (N := 8) (by kernel_rfl) (by kernel_rfl) D.law8 hval hW
theorem over : Rows.fnBentRow.holds Try.pinned (OpenSpec.ofChange Rows.fnBentSpec) :=
  OpenClaim.holds_of_wide 8 Try.f8 rfl rfl rfl rfl rfl rfl rfl ⟨rfl, rfl, rfl, rfl, rfl⟩ rfl rfl rfl rfl rfl (by kernel_rfl) Try.func8 (by kernel_rfl)
    (of_decide_eq_true (by kernel_rfl)) (by unfold Func.isWrapper; first | (rw [if_pos (by decide +kernel)]; kernel_rfl) | (rw [if_neg (by decide +kernel)]; exact ⟨rfl, rfl⟩))
    (fun os started H enc _ => lifted os started H enc)
theorem proved : Rows.FnBentSaid := over
#print axioms proved
end Go.Proofs.Ytjkhhalnlodinaa.fnBent
namespace Go.Proofs.Ytjkhhalnlodinaa
/-- The row, under a short name, for the claim. -/
theorem fnBent_holds : Rows.FnBentSaid := fnBent.proved
end Go.Proofs.Ytjkhhalnlodinaa
end
