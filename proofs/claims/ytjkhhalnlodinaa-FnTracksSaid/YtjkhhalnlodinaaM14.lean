/- FnTracks holds: for every input the law returns true, and its arguments read as before. -/
import Derived.Test.YtjkhhalnlodinaaChecked
import Derived.Test.YtjkhhalnlodinaaDeskF
import Derived.KernelRfl
import Derived.Test.YtjkhhalnlodinaaRows
import Derived.WalkKit
import Derived.ProofKit
import Derived.OpenShut
import Derived.ShutString
import Derived.ChangeOld
import Derived.Below
import Derived.SizedLaws
set_option linter.all false
section
/- What math.Abs owes: tables of its own, and the reading of its code. -/
namespace Go.Proofs.Ytjkhhalnlodinaa.DA
open Go Go.Desk
def bodyOf (f : Func) : Code := match f.body with
  | some c => c
  | none => .skip
def tyTab : List (Nat × TD) := [
  (34, ⟨false, 1, 8, [.leaf], [.flt .f64 0], .flt .f64⟩),
  (174, ⟨false, 1, 8, [.leaf], [.int .u64 0], .int .u64⟩)]
noncomputable def c179 : Code := bodyOf Try.f179
noncomputable def fnTab : List (Nat × FD) := [
  (178, .ext (pF64frombits)),
  (179, .code c179 [.val] [] [(2, none)] [(0, [0]), (1, [0])]),
  (189, .ext (pF64bits))]
noncomputable def E : Env := ⟨fun t => lookT tyTab t, lookF fnTab⟩
noncomputable def fdAt (n : Nat) : FD := match lookF fnTab n with
  | some d => d
  | none => .ext fun _ => none
noncomputable def keepAt (n : Nat) : List (Nat × List Nat) := match lookF fnTab n with
  | some d => d.keep
  | none => []
theorem tysOk : TysOk Try.prog E := tysOk_of (l := tyTab) (fun _ => rfl) (by kernel_rfl)
theorem ft178 : FnTab Try.prog E 178 (.ext (pF64frombits)) := ext_pF64frombits Try.func178 (by kernel_rfl) (by kernel_rfl) (by kernel_rfl) (by kernel_rfl)
theorem ft179 : FnTab Try.prog E 179 (fdAt 179) := fnTab_code (c := c179) (modes := (fdAt 179).ms) (outs := (fdAt 179).os) (results := (fdAt 179).rs) (keep := (fdAt 179).keep) Try.func179 (by kernel_rfl) (by kernel_rfl) (by kernel_rfl)
theorem ft189 : FnTab Try.prog E 189 (.ext (pF64bits)) := ext_pF64bits Try.func189 (by kernel_rfl) (by kernel_rfl) (by kernel_rfl) (by kernel_rfl)
theorem allFns : AllFns Try.prog E fnTab := .cons ft178 (.cons ft179 (.cons ft189 (.nil)))
theorem fnOk : ∀ f fd, E.fn f = some fd → FnTab Try.prog E f fd := fnTab_of (l := fnTab) (fun _ => rfl) allFns
end Go.Proofs.Ytjkhhalnlodinaa.DA
section
namespace Go.Proofs.Ytjkhhalnlodinaa.DA
open Go Go.Desk
set_option linter.unusedVariables false
noncomputable def x178.w : FnW E := xF64frombits.w 178 (by kernel_rfl)

noncomputable def x189.w : FnW E := xF64bits.w 189 (by kernel_rfl)

def f179_mathAbs : Nat → Nat → Option (Nat)
  | 0, _ => none
  | n + 1, x1 =>
    bd (xF64bits n x1) fun r2 =>
    let i3 : Int := r2
    bd (xF64frombits n (intBits BinOp.andNot IntKind.u64 i3 (9223372036854775808 : Int))) fun r4 =>
    let x5 : Nat := r4
    some x5
def sg_f : Sig (Nat) where
  pk := fun v => [.flt v]
  up := fun ls => match ls with
    | [.flt a0] => some a0
    | _ => none
  ok := by
    intro ls v h
    split at h
    · cases h; rfl
    · cases h

def f179_mathAbs.P : List Arg := [⟨.val, ⟨false, [.leaf], [.flt .f64 0]⟩⟩]
def f179_mathAbs.A : RAlt (Nat) := .one ⟨[⟨false, [.leaf], [.flt .f64 0]⟩], [none]⟩ sg_f
def f179_mathAbs.F (n : Nat) (v : Nat) := f179_mathAbs n v
noncomputable def f179_mathAbs.O (n : Nat) : Orc := orcOf (E := E) [x178.w, x189.w] [] n
theorem f179_mathAbs.ok : ∀ n v x, f179_mathAbs.F n v = some x → evalFn E n 179 (flAs f179_mathAbs.P (sg_f.pk v)) = some (f179_mathAbs.A.enc x) :=
  fn_pure (modes := (fdAt 179).ms) (outs := (fdAt 179).os) (results := (fdAt 179).rs) f179_mathAbs.O (c := c179) (keep := keepAt 179) (by kernel_rfl) (fun n => orcOf_cf _ _ n) (fun n => lpOk_of (bs := []) (by kernel_rfl) .nil) (fun _ => rfl) (fun _ _ => by kernel_rfl)
noncomputable def f179_mathAbs.w : FnW E := fnW 179 f179_mathAbs.P sg_f f179_mathAbs.A f179_mathAbs.F f179_mathAbs.ok
end Go.Proofs.Ytjkhhalnlodinaa.DA
end
namespace Go.Proofs.Ytjkhhalnlodinaa.DA
open Go Go.Desk
theorem absOk : ExtOk Try.prog 179 pAbs := ext_pAbs_of Try.checked.mixed tysOk fnOk
  (fun x hN hx => ⟨3, f179_mathAbs.ok 3 x _ (abs_plain 1 hN)⟩)
  ⟨5, by kernel_rfl⟩
end Go.Proofs.Ytjkhhalnlodinaa.DA
end
section
/- What math.Copysign owes: tables of its own, and the reading of its code. -/
namespace Go.Proofs.Ytjkhhalnlodinaa.DC
open Go Go.Desk
def bodyOf (f : Func) : Code := match f.body with
  | some c => c
  | none => .skip
def tyTab : List (Nat × TD) := [
  (34, ⟨false, 1, 8, [.leaf], [.flt .f64 0], .flt .f64⟩),
  (174, ⟨false, 1, 8, [.leaf], [.int .u64 0], .int .u64⟩)]
noncomputable def c196 : Code := bodyOf Try.f196
noncomputable def fnTab : List (Nat × FD) := [
  (178, .ext (pF64frombits)),
  (189, .ext (pF64bits)),
  (196, .code c196 [.val, .val] [] [(4, none)] [(0, [0, 1]), (1, [0, 1])])]
noncomputable def E : Env := ⟨fun t => lookT tyTab t, lookF fnTab⟩
noncomputable def fdAt (n : Nat) : FD := match lookF fnTab n with
  | some d => d
  | none => .ext fun _ => none
noncomputable def keepAt (n : Nat) : List (Nat × List Nat) := match lookF fnTab n with
  | some d => d.keep
  | none => []
theorem tysOk : TysOk Try.prog E := tysOk_of (l := tyTab) (fun _ => rfl) (by kernel_rfl)
theorem ft178 : FnTab Try.prog E 178 (.ext (pF64frombits)) := ext_pF64frombits Try.func178 (by kernel_rfl) (by kernel_rfl) (by kernel_rfl) (by kernel_rfl)
theorem ft189 : FnTab Try.prog E 189 (.ext (pF64bits)) := ext_pF64bits Try.func189 (by kernel_rfl) (by kernel_rfl) (by kernel_rfl) (by kernel_rfl)
theorem ft196 : FnTab Try.prog E 196 (fdAt 196) := fnTab_code (c := c196) (modes := (fdAt 196).ms) (outs := (fdAt 196).os) (results := (fdAt 196).rs) (keep := (fdAt 196).keep) Try.func196 (by kernel_rfl) (by kernel_rfl) (by kernel_rfl)
theorem allFns : AllFns Try.prog E fnTab := .cons ft178 (.cons ft189 (.cons ft196 (.nil)))
theorem fnOk : ∀ f fd, E.fn f = some fd → FnTab Try.prog E f fd := fnTab_of (l := fnTab) (fun _ => rfl) allFns
end Go.Proofs.Ytjkhhalnlodinaa.DC
section
namespace Go.Proofs.Ytjkhhalnlodinaa.DC
open Go Go.Desk
set_option linter.unusedVariables false
noncomputable def x178.w : FnW E := xF64frombits.w 178 (by kernel_rfl)

noncomputable def x189.w : FnW E := xF64bits.w 189 (by kernel_rfl)

def f196_mathCopysign : Nat → Nat → Nat → Option (Nat)
  | 0, _, _ => none
  | n + 1, x1, x2 =>
    bd (xF64bits n x1) fun r3 =>
    let i4 : Int := r3
    bd (xF64bits n x2) fun r5 =>
    let i6 : Int := r5
    bd (xF64frombits n (intBits BinOp.or IntKind.u64 (intBits BinOp.andNot IntKind.u64 i4 (9223372036854775808 : Int)) (intBits BinOp.and IntKind.u64 i6 (9223372036854775808 : Int)))) fun r7 =>
    let x8 : Nat := r7
    some x8
def sg_ff : Sig (Nat × Nat) where
  pk := fun v => [.flt v.1, .flt v.2]
  up := fun ls => match ls with
    | [.flt a0, .flt a1] => some (a0, a1)
    | _ => none
  ok := by
    intro ls v h
    split at h
    · cases h; rfl
    · cases h

def sg_f : Sig (Nat) where
  pk := fun v => [.flt v]
  up := fun ls => match ls with
    | [.flt a0] => some a0
    | _ => none
  ok := by
    intro ls v h
    split at h
    · cases h; rfl
    · cases h

def f196_mathCopysign.P : List Arg := [⟨.val, ⟨false, [.leaf], [.flt .f64 0]⟩⟩, ⟨.val, ⟨false, [.leaf], [.flt .f64 0]⟩⟩]
def f196_mathCopysign.A : RAlt (Nat) := .one ⟨[⟨false, [.leaf], [.flt .f64 0]⟩], [none, none]⟩ sg_f
def f196_mathCopysign.F (n : Nat) (v : Nat × Nat) := f196_mathCopysign n v.1 v.2
noncomputable def f196_mathCopysign.O (n : Nat) : Orc := orcOf (E := E) [x178.w, x189.w] [] n
theorem f196_mathCopysign.ok : ∀ n v x, f196_mathCopysign.F n v = some x → evalFn E n 196 (flAs f196_mathCopysign.P (sg_ff.pk v)) = some (f196_mathCopysign.A.enc x) :=
  fn_pure (modes := (fdAt 196).ms) (outs := (fdAt 196).os) (results := (fdAt 196).rs) f196_mathCopysign.O (c := c196) (keep := keepAt 196) (by kernel_rfl) (fun n => orcOf_cf _ _ n) (fun n => lpOk_of (bs := []) (by kernel_rfl) .nil) (fun _ => rfl) (fun _ _ => by kernel_rfl)
noncomputable def f196_mathCopysign.w : FnW E := fnW 196 f196_mathCopysign.P sg_ff f196_mathCopysign.A f196_mathCopysign.F f196_mathCopysign.ok
end Go.Proofs.Ytjkhhalnlodinaa.DC
end
namespace Go.Proofs.Ytjkhhalnlodinaa.DC
open Go Go.Desk
theorem signOk : ExtOk Try.prog 196 pCopysign := ext_pCopysign_of Try.checked.mixed tysOk fnOk
  (fun x s hx hs hx' hs' => ⟨3, f196_mathCopysign.ok 3 (x, s) _ (copysign_plain 1 hx hs hx' hs')⟩)
end Go.Proofs.Ytjkhhalnlodinaa.DC
end
section
/- The tables of the reading: types and functions of the translation, with what is kept at each region's beginning (written by a program of this workplace). -/
namespace Go.Proofs.Ytjkhhalnlodinaa.D
open Go Go.Desk
def bodyOf (f : Func) : Code := match f.body with
  | some c => c
  | none => .skip
def tyTab : List (Nat × TD) := [
  (2, ⟨false, 1, 8, [.leaf], [.int .i64 0], .int .i64⟩),
  (3, ⟨false, 1, 8, [.leaf], [.int .i64 0], .int .i64⟩),
  (4, ⟨false, 1, 1, [.leaf], [.bool false], .bool⟩),
  (5, ⟨false, 1, 1, [.leaf], [.int .u8 0], .int .u8⟩),
  (22, ⟨false, 1, 24, [.sl .own [.leaf]], [.lst 0 []], .slc 5⟩),
  (24, ⟨false, 1, 24, [.sl .own [.leaf]], [.lst 0 []], .slc 29⟩),
  (29, ⟨false, 1, 4, [.leaf], [.flt .f32 0], .flt .f32⟩),
  (34, ⟨false, 1, 8, [.leaf], [.flt .f64 0], .flt .f64⟩),
  (35, ⟨false, 1, 8, [.leaf], [.int .u64 0], .int .u64⟩),
  (36, ⟨false, 1, 24, [.sl .own [.leaf]], [.lst 0 []], .slc 2⟩),
  (110, ⟨false, 1, 24, [.sl .own [.sl .own [.leaf], .leaf, .leaf, .leaf, .leaf]], [.lst 0 []], .slc 116⟩),
  (116, ⟨true, 5, 40, [.sl .own [.leaf], .leaf, .leaf, .leaf, .leaf], [.lst 0 [], .int .i64 0, .flt .f32 0, .bool false, .bool false], .st [(0, 24), (1, 2), (2, 29), (3, 4), (4, 4)]⟩),
  (120, ⟨false, 1, 8, [.leaf], [.nil], .ptr 176⟩),
  (128, ⟨false, 1, 4, [.leaf], [.int .u32 0], .int .u32⟩),
  (144, ⟨false, 1, 24, [.sl .own [.leaf]], [.lst 0 []], .slc 4⟩),
  (174, ⟨false, 1, 8, [.leaf], [.int .u64 0], .int .u64⟩),
  (176, ⟨true, 3, 40, [.sl .own [.leaf], .leaf, .leaf], [.lst 0 [], .int .i64 0, .int .u64 0], .st [(0, 22), (1, 3), (2, 174)]⟩)]
noncomputable def c14 : Code := bodyOf Try.f14
noncomputable def c28 : Code := bodyOf Try.f28
noncomputable def c29 : Code := bodyOf Try.f29
noncomputable def c33 : Code := bodyOf Try.f33
noncomputable def c34 : Code := bodyOf Try.f34
noncomputable def c44 : Code := bodyOf Try.f44
noncomputable def c70 : Code := bodyOf Try.f70
noncomputable def c71 : Code := bodyOf Try.f71
noncomputable def c72 : Code := bodyOf Try.f72
noncomputable def c83 : Code := bodyOf Try.f83
noncomputable def c84 : Code := bodyOf Try.f84
noncomputable def c85 : Code := bodyOf Try.f85
noncomputable def c86 : Code := bodyOf Try.f86
noncomputable def c87 : Code := bodyOf Try.f87
noncomputable def c88 : Code := bodyOf Try.f88
noncomputable def c89 : Code := bodyOf Try.f89
noncomputable def c90 : Code := bodyOf Try.f90
noncomputable def c91 : Code := bodyOf Try.f91
noncomputable def c92 : Code := bodyOf Try.f92
noncomputable def c93 : Code := bodyOf Try.f93
noncomputable def c97 : Code := bodyOf Try.f97
noncomputable def c98 : Code := bodyOf Try.f98
noncomputable def c106 : Code := bodyOf Try.f106
noncomputable def c108 : Code := bodyOf Try.f108
noncomputable def c112 : Code := bodyOf Try.f112
noncomputable def c113 : Code := bodyOf Try.f113
noncomputable def c121 : Code := bodyOf Try.f121
noncomputable def c127 : Code := bodyOf Try.f127
noncomputable def c144 : Code := bodyOf Try.f144
noncomputable def c145 : Code := bodyOf Try.f145
noncomputable def c146 : Code := bodyOf Try.f146
noncomputable def c147 : Code := bodyOf Try.f147
noncomputable def c148 : Code := bodyOf Try.f148
noncomputable def c149 : Code := bodyOf Try.f149
noncomputable def c158 : Code := bodyOf Try.f158
noncomputable def c159 : Code := bodyOf Try.f159
noncomputable def c160 : Code := bodyOf Try.f160
noncomputable def c161 : Code := bodyOf Try.f161
noncomputable def c162 : Code := bodyOf Try.f162
noncomputable def c163 : Code := bodyOf Try.f163
noncomputable def c165 : Code := bodyOf Try.f165
noncomputable def c167 : Code := bodyOf Try.f167
noncomputable def c168 : Code := bodyOf Try.f168
noncomputable def c180 : Code := bodyOf Try.f180
noncomputable def c182 : Code := bodyOf Try.f182
noncomputable def c190 : Code := bodyOf Try.f190
noncomputable def c191 : Code := bodyOf Try.f191
noncomputable def c198 : Code := bodyOf Try.f198
noncomputable def c199 : Code := bodyOf Try.f199
noncomputable def fnTab : List (Nat × FD) := [
  (14, .code c14 [.val, .val] [] [(4, none)] [(0, [0, 1]), (1, [0, 1]), (2, []), (3, [0, 1]), (4, [0, 1, 5, 1000000005]), (5, [0, 1, 5, 6, 1000000005]), (6, [0, 1, 5, 6, 7, 8, 9, 1000000005]), (7, [0, 1, 5, 6, 7, 8, 9, 10, 11, 1000000005]), (8, []), (9, [0, 1, 5, 6, 7, 8, 10, 1000000005]), (10, [0, 1, 5, 6, 7, 8, 10, 12, 1000000005]), (11, [0, 1, 5, 6, 7, 8, 10, 12, 13, 1000000005]), (12, [0, 1, 5, 6, 7, 8, 10, 12, 13, 14, 1000000005, 2000000014]), (13, [0, 1, 5, 6, 7, 8, 10, 12, 13, 14, 84, 85, 1000000005, 2000000014]), (14, [0, 1, 5, 6, 7, 8, 10, 12, 13, 14, 84, 85, 1000000005, 2000000014]), (15, [0, 1, 5, 6, 7, 8, 10, 12, 13, 14, 15, 84, 85, 1000000005, 2000000014]), (16, []), (17, [0, 1, 5, 6, 7, 8, 10, 12, 13, 14, 15, 84, 85, 1000000005, 2000000014]), (18, [0, 1, 5, 6, 7, 8, 10, 12, 13, 14, 16, 84, 85, 1000000005, 2000000014]), (19, [0, 1, 5, 6, 7, 8, 10, 12, 13, 14, 16, 17, 18, 84, 85, 1000000005, 2000000014]), (20, [0, 1, 5, 6, 7, 8, 10, 12, 13, 14, 16, 17, 18, 19, 20, 21, 84, 85, 1000000005, 2000000014]), (21, []), (22, [0, 1, 5, 6, 7, 8, 10, 12, 13, 14, 16, 17, 19, 20, 84, 85, 1000000005, 2000000014]), (23, [0, 1, 5, 6, 7, 8, 10, 12, 13, 14, 16, 17, 19, 20, 22, 84, 85, 1000000005, 2000000014]), (24, [0, 1, 5, 6, 7, 8, 10, 12, 13, 14, 16, 17, 19, 20, 22, 84, 85, 1000000005, 2000000014]), (25, [0, 1, 5, 6, 7, 8, 10, 12, 13, 14, 16, 17, 19, 20, 22, 84, 85, 1000000005, 2000000014]), (26, [0, 1, 5, 6, 7, 8, 10, 12, 13, 14, 16, 17, 19, 20, 22, 23, 84, 85, 1000000005, 2000000014]), (27, [0, 1, 5, 6, 7, 8, 10, 12, 13, 14, 16, 17, 19, 20, 22, 23, 84, 85, 1000000005, 2000000014]), (28, [0, 1, 5, 6, 7, 8, 10, 12, 13, 14, 16, 84, 85, 1000000005, 2000000014]), (29, [0, 1, 5, 6, 7, 8, 10, 12, 13, 14, 84, 85, 1000000005, 2000000014]), (30, [0, 1, 6, 7, 8, 12, 13, 14, 2000000014]), (31, [0, 1, 6, 7, 8, 12, 13, 24, 25, 26]), (32, []), (33, [0, 1, 6]), (34, [1, 6, 27]), (35, [6, 27, 28]), (36, [6, 27, 28, 29, 30, 31]), (37, [6, 27, 28, 31, 32, 33, 34]), (38, []), (39, [6, 27, 28, 32, 33]), (40, [6, 27, 28, 32, 33, 35]), (41, [6, 27, 28, 32, 33, 35]), (42, [6, 27, 28, 32, 33, 35]), (43, []), (44, []), (1000013, [0, 1, 4, 6, 7, 8, 12, 13, 14, 2000000014]), (1000023, [0, 1, 5, 6, 7, 8, 10, 12, 13, 14, 16, 84, 85, 188, 1000000005, 2000000014]), (1000040, [4])]),
  (28, .code c28 [.val, .val] [] [(4, none)] [(0, [0, 1]), (1, [0, 1])]),
  (29, .code c29 [.val, .val, .val] [] [(6, none)] [(0, [0, 1, 2]), (1, [0, 1, 2]), (2, []), (3, [0, 1, 2]), (4, [0, 1, 2]), (5, [1, 2])]),
  (33, .code c33 [.val, .val] [] [(4, none)] [(0, [0, 1]), (1, [0, 1])]),
  (34, .code c34 [.val, .val, .val] [] [(6, none)] [(0, [0, 1, 2]), (1, [0, 1, 2]), (2, [1, 2, 7]), (3, [1, 2, 7, 8]), (4, [1, 2, 7, 8]), (5, [1, 2, 7, 8]), (6, [8]), (1000003, [8])]),
  (44, .code c44 [.val, .val] [] [(4, none)] [(0, [0, 1]), (1, [0, 1]), (2, []), (3, [0, 1]), (4, [0, 1, 5]), (5, [0, 1, 5]), (6, [0, 1, 5]), (7, []), (8, []), (1000004, [4])]),
  (70, .code c70 [.val] [] [(2, none)] [(0, [0]), (1, [0]), (2, [3]), (3, []), (4, [3]), (5, []), (6, [3])]),
  (71, .code c71 [.val, .val] [] [(4, none)] [(0, [0, 1]), (1, [0, 1]), (2, [0, 1]), (3, [0, 1])]),
  (72, .code c72 [.val] [] [(2, none), (3, none)] [(0, [0]), (1, [0]), (2, []), (3, [0])]),
  (83, .code c83 [.val] [] [(2, none)] [(0, [0]), (1, [0]), (2, [3]), (3, [3, 4]), (4, [3, 4, 5]), (5, [3, 4, 5]), (6, [3, 4, 5]), (7, [3, 4, 5, 6]), (8, [3, 4, 5, 6]), (9, [3, 4, 5, 6]), (10, [4]), (1000004, [4])]),
  (84, .code c84 [.val, .val] [] [(4, none), (5, none), (6, none)] [(0, [0, 1]), (1, [0, 1]), (2, []), (3, [0, 1]), (4, [7, 8])]),
  (85, .code c85 [.val] [] [(2, none), (3, none)] [(0, [0]), (1, [0]), (2, []), (3, [0]), (4, [0, 4]), (5, [4, 11, 12, 13]), (6, [4, 11, 12, 13]), (7, [4, 5, 6, 11, 12, 13]), (8, [4, 5, 11, 12, 13]), (9, [4, 11, 12, 13]), (10, [4]), (1000005, [4])]),
  (86, .code c86 [.val] [] [(2, none)] [(0, [0]), (1, [0]), (2, []), (3, [0]), (4, [0, 8, 9, 10]), (5, [0, 8, 9, 10]), (6, [0, 4, 8, 9, 10]), (7, []), (8, [0, 8, 9, 10]), (9, []), (1000004, [2])]),
  (87, .code c87 [.val] [] [(2, none), (3, none), (4, none)] [(0, [0]), (1, [0]), (2, []), (3, [0])]),
  (88, .code c88 [.val, .val] [] [(4, none), (5, none), (6, none)] [(0, [0, 1]), (1, [0, 1]), (2, [7, 8, 9]), (3, []), (4, [7, 8])]),
  (89, .code c89 [.val, .val] [] [(4, none), (5, none), (6, none)] [(0, [0, 1]), (1, [0, 1]), (2, []), (3, [0, 1]), (4, [0, 1, 7, 8]), (5, [0, 1, 7, 8, 21, 22, 23]), (6, [0, 1, 7, 8, 21, 22, 23]), (7, [0, 1, 7, 8, 9, 10, 21, 22, 23]), (8, [0, 1, 7, 8, 21, 22, 23]), (9, [7, 8]), (1000005, [7, 8])]),
  (90, .code c90 [.val] [] [(2, none)] [(0, [0]), (1, [0])]),
  (91, .code c91 [.iop] [0] [(2, none)] [(0, [0]), (1, [0]), (2, [0, 3]), (3, [0, 3]), (4, [0, 3])]),
  (92, .code c92 [.val] [] [(2, none)] [(0, [0]), (1, [0])]),
  (93, .code c93 [.val, .val, .val] [] [(6, none)] [(0, [0, 1, 2]), (1, [0, 1, 2])]),
  (96, .ext (pF32bits)),
  (97, .code c97 [.iop, .val] [0] [(4, none)] [(0, [0, 1]), (1, [0, 1]), (2, [0]), (3, [0, 1]), (4, [0, 1, 5]), (5, [0, 1, 5]), (6, [0, 1, 5])]),
  (98, .code c98 [.iop, .val] [0] [(4, none)] [(0, [0, 1]), (1, [0, 1]), (2, [0, 1, 5]), (3, [0, 1, 5, 6]), (4, [0, 1, 5, 6]), (5, [0, 1, 5, 6]), (6, [0, 1, 5, 6]), (7, [0, 1, 5, 6]), (8, [0, 5]), (1000003, [0, 5])]),
  (106, .code c106 [.val, .val] [] [(4, none)] [(0, [0, 1]), (1, [0, 1])]),
  (108, .code c108 [.val] [] [(2, none)] [(0, [0]), (1, [0])]),
  (112, .code c112 [.iop] [0] [(2, none)] [(0, [0]), (1, [0]), (2, [0]), (3, [0]), (4, [0, 10]), (5, [0]), (6, [0, 10]), (7, [0]), (8, [0, 3]), (9, [0, 10]), (10, [0]), (11, [0])]),
  (113, .code c113 [.val] [] [(2, none)] [(0, [0]), (1, [0])]),
  (121, .code c121 [.val] [] [(2, none)] [(0, [0]), (1, [0])]),
  (127, .code c127 [.val] [] [(2, none)] [(0, [0]), (1, [0])]),
  (144, .code c144 [] [] [(0, none)] [(0, []), (1, [])]),
  (145, .code c145 [.val] [] [(2, none)] [(0, [0]), (1, [0])]),
  (146, .code c146 [.val] [] [(2, none)] [(0, [0]), (1, [0]), (2, [3]), (3, [3, 4]), (4, [3, 4]), (5, [3, 4]), (6, [3, 4]), (7, [3, 4]), (8, [4, 5]), (9, [4, 5, 6]), (10, [4, 5, 6, 7]), (11, [4, 5, 6, 7, 8]), (12, [4, 5, 6, 7, 8]), (13, [4, 5, 6, 7, 8]), (14, [4, 5, 7]), (15, [5, 7]), (16, [5, 7]), (1000011, [4, 5, 7])]),
  (147, .code c147 [.val] [] [(2, none)] [(0, [0]), (1, [0])]),
  (148, .code c148 [.val] [] [(2, none)] [(0, [0]), (1, [0]), (2, []), (3, [0]), (4, []), (5, [0]), (6, [3, 4]), (7, [3, 4, 5]), (8, [3, 4, 5]), (9, [3, 4, 5]), (10, [4]), (11, [4, 6]), (12, [4, 6]), (13, [4, 6]), (14, [4]), (1000007, [4]), (1000011, [4])]),
  (149, .code c149 [.val] [] [(2, none)] [(0, [0]), (1, [0]), (2, [0]), (3, []), (4, []), (5, [3])]),
  (158, .code c158 [.iop, .val] [0] [(4, none)] [(0, [0, 1]), (1, [0, 1])]),
  (159, .code c159 [.val, .val] [] [(4, none), (5, none)] [(0, [0, 1]), (1, [0, 1]), (2, [0, 1, 6, 7]), (3, [0, 1, 6, 7, 8]), (4, [0, 1, 6, 7, 8, 25, 26, 27]), (5, [0, 1, 6, 7, 8, 25, 26, 27]), (6, [0, 1, 6, 7, 8, 9, 10, 25, 26, 27]), (7, [0, 1, 6, 7, 8, 10, 25, 26, 27]), (8, [0, 1, 6, 7, 8, 10, 11, 25, 26, 27]), (9, [0, 1, 6, 7, 8, 10, 11, 13, 14, 25, 26, 27]), (10, [0, 1, 6, 7, 8, 11, 13, 14, 25, 26, 27, 58, 59, 60]), (11, [0, 1, 6, 7, 8, 11, 13, 14, 25, 26, 27, 58, 59, 60]), (12, [0, 1, 6, 7, 8, 11, 13, 14, 16, 17, 25, 26, 27, 58, 59, 60]), (13, [0, 1, 6, 7, 8, 11, 13, 14, 16, 18, 25, 26, 27, 58, 59, 60]), (14, [0, 1, 6, 7, 8, 11, 13, 14, 16, 18, 25, 26, 27, 58, 59, 60]), (15, [0, 1, 6, 7, 8, 11, 13, 14, 25, 26, 27, 58, 59, 60]), (16, [0, 1, 6, 7, 8, 25, 26, 27]), (17, [6, 7]), (1000004, [6, 7]), (1000010, [0, 1, 6, 7, 8, 25, 26, 27, 86, 87])]),
  (160, .code c160 [.val] [] [(2, none)] [(0, [0]), (1, [0]), (2, [0, 3, 4]), (3, [0, 3, 4, 7, 8, 9]), (4, [0, 3, 4, 7, 8, 9]), (5, [0, 3, 4, 6, 7, 8, 9]), (6, [0, 3, 4, 7, 8, 9]), (7, [3, 4]), (1000003, [3, 4])]),
  (161, .code c161 [.val] [] [(2, none)] [(0, [0]), (1, [0])]),
  (162, .code c162 [.val, .val] [] [(4, none)] [(0, [0, 1]), (1, [0, 1]), (2, [0, 1, 5]), (3, [0, 1, 5, 8, 9, 10]), (4, [0, 1, 5, 8, 9, 10]), (5, [0, 1, 5, 7, 8, 9, 10]), (6, [0, 1, 5, 8, 9, 10]), (7, [5]), (1000003, [5])]),
  (163, .code c163 [.iop] [0] [(2, none)] [(0, [0]), (1, [0]), (2, [0, 3]), (3, [0]), (4, [0, 3]), (5, [0, 3]), (6, [0, 3]), (7, [0, 3]), (8, [0])]),
  (165, .code c165 [.val] [] [(2, none)] [(0, [0]), (1, [0]), (2, []), (3, [0])]),
  (167, .code c167 [.val] [] [(2, none)] [(0, [0]), (1, [0])]),
  (168, .code c168 [.iop, .io] [0, 1] [(4, none)] [(0, [0, 1]), (1, [0, 1])]),
  (178, .ext (pF64frombits)),
  (179, .ext (pAbs)),
  (180, .code c180 [.val] [] [(2, none)] [(0, [0]), (1, [0]), (2, [0, 3]), (3, [0]), (4, [0, 3]), (5, [4]), (6, [4]), (7, [4])]),
  (182, .code c182 [.val, .val] [] [(4, none)] [(0, [0, 1]), (1, [0, 1]), (2, [0, 1, 5]), (3, [0, 1, 5, 6]), (4, [0, 1, 5, 6, 11, 12, 13]), (5, [0, 1, 5, 6, 11, 12, 13]), (6, [0, 1, 5, 6, 7, 8, 11, 12, 13]), (7, [0, 1, 5, 6, 11, 12, 13]), (8, [6]), (1000004, [6])]),
  (183, .ext (pF32frombits)),
  (189, .ext (pF64bits)),
  (190, .code c190 [.val] [] [(2, none)] [(0, [0]), (1, [0]), (2, [0])]),
  (191, .code c191 [.val, .val] [] [(4, none)] [(0, [0, 1]), (1, [0, 1])]),
  (196, .ext (pCopysign)),
  (197, .ext (pIntegral .zero)),
  (198, .code c198 [.val] [] [(2, none)] [(0, [0]), (1, [0]), (2, [0]), (3, [0]), (4, [3]), (5, [3, 4]), (6, [3, 4]), (7, [3])]),
  (199, .code c199 [.val, .val] [] [(4, none)] [(0, [0, 1]), (1, [0, 1]), (2, [0, 1, 7, 8]), (3, [0, 1, 7, 8]), (4, [0, 1, 5, 7, 8]), (5, [5]), (6, [0, 1, 7, 8]), (7, []), (1000002, [4])])]
noncomputable def E : Env := ⟨fun t => lookT tyTab t, lookF fnTab⟩
noncomputable def fdAt (n : Nat) : FD := match lookF fnTab n with
  | some d => d
  | none => .ext fun _ => none
noncomputable def keepAt (n : Nat) : List (Nat × List Nat) := match lookF fnTab n with
  | some d => d.keep
  | none => []
theorem tysOk : TysOk Try.prog E := tysOk_of (l := tyTab) (fun _ => rfl) (by kernel_rfl)
theorem ft14 : FnTab Try.prog E 14 (fdAt 14) := fnTab_code (c := c14) (modes := (fdAt 14).ms) (outs := (fdAt 14).os) (results := (fdAt 14).rs) (keep := (fdAt 14).keep) Try.func14 (by kernel_rfl) (by kernel_rfl) (by kernel_rfl)
theorem ft28 : FnTab Try.prog E 28 (fdAt 28) := fnTab_code (c := c28) (modes := (fdAt 28).ms) (outs := (fdAt 28).os) (results := (fdAt 28).rs) (keep := (fdAt 28).keep) Try.func28 (by kernel_rfl) (by kernel_rfl) (by kernel_rfl)
theorem ft29 : FnTab Try.prog E 29 (fdAt 29) := fnTab_code (c := c29) (modes := (fdAt 29).ms) (outs := (fdAt 29).os) (results := (fdAt 29).rs) (keep := (fdAt 29).keep) Try.func29 (by kernel_rfl) (by kernel_rfl) (by kernel_rfl)
theorem ft33 : FnTab Try.prog E 33 (fdAt 33) := fnTab_code (c := c33) (modes := (fdAt 33).ms) (outs := (fdAt 33).os) (results := (fdAt 33).rs) (keep := (fdAt 33).keep) Try.func33 (by kernel_rfl) (by kernel_rfl) (by kernel_rfl)
theorem ft34 : FnTab Try.prog E 34 (fdAt 34) := fnTab_code (c := c34) (modes := (fdAt 34).ms) (outs := (fdAt 34).os) (results := (fdAt 34).rs) (keep := (fdAt 34).keep) Try.func34 (by kernel_rfl) (by kernel_rfl) (by kernel_rfl)
theorem ft44 : FnTab Try.prog E 44 (fdAt 44) := fnTab_code (c := c44) (modes := (fdAt 44).ms) (outs := (fdAt 44).os) (results := (fdAt 44).rs) (keep := (fdAt 44).keep) Try.func44 (by kernel_rfl) (by kernel_rfl) (by kernel_rfl)
theorem ft70 : FnTab Try.prog E 70 (fdAt 70) := fnTab_code (c := c70) (modes := (fdAt 70).ms) (outs := (fdAt 70).os) (results := (fdAt 70).rs) (keep := (fdAt 70).keep) Try.func70 (by kernel_rfl) (by kernel_rfl) (by kernel_rfl)
theorem ft71 : FnTab Try.prog E 71 (fdAt 71) := fnTab_code (c := c71) (modes := (fdAt 71).ms) (outs := (fdAt 71).os) (results := (fdAt 71).rs) (keep := (fdAt 71).keep) Try.func71 (by kernel_rfl) (by kernel_rfl) (by kernel_rfl)
theorem ft72 : FnTab Try.prog E 72 (fdAt 72) := fnTab_code (c := c72) (modes := (fdAt 72).ms) (outs := (fdAt 72).os) (results := (fdAt 72).rs) (keep := (fdAt 72).keep) Try.func72 (by kernel_rfl) (by kernel_rfl) (by kernel_rfl)
theorem ft83 : FnTab Try.prog E 83 (fdAt 83) := fnTab_code (c := c83) (modes := (fdAt 83).ms) (outs := (fdAt 83).os) (results := (fdAt 83).rs) (keep := (fdAt 83).keep) Try.func83 (by kernel_rfl) (by kernel_rfl) (by kernel_rfl)
theorem ft84 : FnTab Try.prog E 84 (fdAt 84) := fnTab_code (c := c84) (modes := (fdAt 84).ms) (outs := (fdAt 84).os) (results := (fdAt 84).rs) (keep := (fdAt 84).keep) Try.func84 (by kernel_rfl) (by kernel_rfl) (by kernel_rfl)
theorem ft85 : FnTab Try.prog E 85 (fdAt 85) := fnTab_code (c := c85) (modes := (fdAt 85).ms) (outs := (fdAt 85).os) (results := (fdAt 85).rs) (keep := (fdAt 85).keep) Try.func85 (by kernel_rfl) (by kernel_rfl) (by kernel_rfl)
theorem ft86 : FnTab Try.prog E 86 (fdAt 86) := fnTab_code (c := c86) (modes := (fdAt 86).ms) (outs := (fdAt 86).os) (results := (fdAt 86).rs) (keep := (fdAt 86).keep) Try.func86 (by kernel_rfl) (by kernel_rfl) (by kernel_rfl)
theorem ft87 : FnTab Try.prog E 87 (fdAt 87) := fnTab_code (c := c87) (modes := (fdAt 87).ms) (outs := (fdAt 87).os) (results := (fdAt 87).rs) (keep := (fdAt 87).keep) Try.func87 (by kernel_rfl) (by kernel_rfl) (by kernel_rfl)
theorem ft88 : FnTab Try.prog E 88 (fdAt 88) := fnTab_code (c := c88) (modes := (fdAt 88).ms) (outs := (fdAt 88).os) (results := (fdAt 88).rs) (keep := (fdAt 88).keep) Try.func88 (by kernel_rfl) (by kernel_rfl) (by kernel_rfl)
theorem ft89 : FnTab Try.prog E 89 (fdAt 89) := fnTab_code (c := c89) (modes := (fdAt 89).ms) (outs := (fdAt 89).os) (results := (fdAt 89).rs) (keep := (fdAt 89).keep) Try.func89 (by kernel_rfl) (by kernel_rfl) (by kernel_rfl)
theorem ft90 : FnTab Try.prog E 90 (fdAt 90) := fnTab_code (c := c90) (modes := (fdAt 90).ms) (outs := (fdAt 90).os) (results := (fdAt 90).rs) (keep := (fdAt 90).keep) Try.func90 (by kernel_rfl) (by kernel_rfl) (by kernel_rfl)
theorem ft91 : FnTab Try.prog E 91 (fdAt 91) := fnTab_code (c := c91) (modes := (fdAt 91).ms) (outs := (fdAt 91).os) (results := (fdAt 91).rs) (keep := (fdAt 91).keep) Try.func91 (by kernel_rfl) (by kernel_rfl) (by kernel_rfl)
theorem ft92 : FnTab Try.prog E 92 (fdAt 92) := fnTab_code (c := c92) (modes := (fdAt 92).ms) (outs := (fdAt 92).os) (results := (fdAt 92).rs) (keep := (fdAt 92).keep) Try.func92 (by kernel_rfl) (by kernel_rfl) (by kernel_rfl)
theorem ft93 : FnTab Try.prog E 93 (fdAt 93) := fnTab_code (c := c93) (modes := (fdAt 93).ms) (outs := (fdAt 93).os) (results := (fdAt 93).rs) (keep := (fdAt 93).keep) Try.func93 (by kernel_rfl) (by kernel_rfl) (by kernel_rfl)
theorem ft96 : FnTab Try.prog E 96 (.ext (pF32bits)) := ext_pF32bits Try.func96 (by kernel_rfl) (by kernel_rfl) (by kernel_rfl) (by kernel_rfl)
theorem ft97 : FnTab Try.prog E 97 (fdAt 97) := fnTab_code (c := c97) (modes := (fdAt 97).ms) (outs := (fdAt 97).os) (results := (fdAt 97).rs) (keep := (fdAt 97).keep) Try.func97 (by kernel_rfl) (by kernel_rfl) (by kernel_rfl)
theorem ft98 : FnTab Try.prog E 98 (fdAt 98) := fnTab_code (c := c98) (modes := (fdAt 98).ms) (outs := (fdAt 98).os) (results := (fdAt 98).rs) (keep := (fdAt 98).keep) Try.func98 (by kernel_rfl) (by kernel_rfl) (by kernel_rfl)
theorem ft106 : FnTab Try.prog E 106 (fdAt 106) := fnTab_code (c := c106) (modes := (fdAt 106).ms) (outs := (fdAt 106).os) (results := (fdAt 106).rs) (keep := (fdAt 106).keep) Try.func106 (by kernel_rfl) (by kernel_rfl) (by kernel_rfl)
theorem ft108 : FnTab Try.prog E 108 (fdAt 108) := fnTab_code (c := c108) (modes := (fdAt 108).ms) (outs := (fdAt 108).os) (results := (fdAt 108).rs) (keep := (fdAt 108).keep) Try.func108 (by kernel_rfl) (by kernel_rfl) (by kernel_rfl)
theorem ft112 : FnTab Try.prog E 112 (fdAt 112) := fnTab_code (c := c112) (modes := (fdAt 112).ms) (outs := (fdAt 112).os) (results := (fdAt 112).rs) (keep := (fdAt 112).keep) Try.func112 (by kernel_rfl) (by kernel_rfl) (by kernel_rfl)
theorem ft113 : FnTab Try.prog E 113 (fdAt 113) := fnTab_code (c := c113) (modes := (fdAt 113).ms) (outs := (fdAt 113).os) (results := (fdAt 113).rs) (keep := (fdAt 113).keep) Try.func113 (by kernel_rfl) (by kernel_rfl) (by kernel_rfl)
theorem ft121 : FnTab Try.prog E 121 (fdAt 121) := fnTab_code (c := c121) (modes := (fdAt 121).ms) (outs := (fdAt 121).os) (results := (fdAt 121).rs) (keep := (fdAt 121).keep) Try.func121 (by kernel_rfl) (by kernel_rfl) (by kernel_rfl)
theorem ft127 : FnTab Try.prog E 127 (fdAt 127) := fnTab_code (c := c127) (modes := (fdAt 127).ms) (outs := (fdAt 127).os) (results := (fdAt 127).rs) (keep := (fdAt 127).keep) Try.func127 (by kernel_rfl) (by kernel_rfl) (by kernel_rfl)
theorem ft144 : FnTab Try.prog E 144 (fdAt 144) := fnTab_code (c := c144) (modes := (fdAt 144).ms) (outs := (fdAt 144).os) (results := (fdAt 144).rs) (keep := (fdAt 144).keep) Try.func144 (by kernel_rfl) (by kernel_rfl) (by kernel_rfl)
theorem ft145 : FnTab Try.prog E 145 (fdAt 145) := fnTab_code (c := c145) (modes := (fdAt 145).ms) (outs := (fdAt 145).os) (results := (fdAt 145).rs) (keep := (fdAt 145).keep) Try.func145 (by kernel_rfl) (by kernel_rfl) (by kernel_rfl)
theorem ft146 : FnTab Try.prog E 146 (fdAt 146) := fnTab_code (c := c146) (modes := (fdAt 146).ms) (outs := (fdAt 146).os) (results := (fdAt 146).rs) (keep := (fdAt 146).keep) Try.func146 (by kernel_rfl) (by kernel_rfl) (by kernel_rfl)
theorem ft147 : FnTab Try.prog E 147 (fdAt 147) := fnTab_code (c := c147) (modes := (fdAt 147).ms) (outs := (fdAt 147).os) (results := (fdAt 147).rs) (keep := (fdAt 147).keep) Try.func147 (by kernel_rfl) (by kernel_rfl) (by kernel_rfl)
theorem ft148 : FnTab Try.prog E 148 (fdAt 148) := fnTab_code (c := c148) (modes := (fdAt 148).ms) (outs := (fdAt 148).os) (results := (fdAt 148).rs) (keep := (fdAt 148).keep) Try.func148 (by kernel_rfl) (by kernel_rfl) (by kernel_rfl)
theorem ft149 : FnTab Try.prog E 149 (fdAt 149) := fnTab_code (c := c149) (modes := (fdAt 149).ms) (outs := (fdAt 149).os) (results := (fdAt 149).rs) (keep := (fdAt 149).keep) Try.func149 (by kernel_rfl) (by kernel_rfl) (by kernel_rfl)
theorem ft158 : FnTab Try.prog E 158 (fdAt 158) := fnTab_code (c := c158) (modes := (fdAt 158).ms) (outs := (fdAt 158).os) (results := (fdAt 158).rs) (keep := (fdAt 158).keep) Try.func158 (by kernel_rfl) (by kernel_rfl) (by kernel_rfl)
theorem ft159 : FnTab Try.prog E 159 (fdAt 159) := fnTab_code (c := c159) (modes := (fdAt 159).ms) (outs := (fdAt 159).os) (results := (fdAt 159).rs) (keep := (fdAt 159).keep) Try.func159 (by kernel_rfl) (by kernel_rfl) (by kernel_rfl)
theorem ft160 : FnTab Try.prog E 160 (fdAt 160) := fnTab_code (c := c160) (modes := (fdAt 160).ms) (outs := (fdAt 160).os) (results := (fdAt 160).rs) (keep := (fdAt 160).keep) Try.func160 (by kernel_rfl) (by kernel_rfl) (by kernel_rfl)
theorem ft161 : FnTab Try.prog E 161 (fdAt 161) := fnTab_code (c := c161) (modes := (fdAt 161).ms) (outs := (fdAt 161).os) (results := (fdAt 161).rs) (keep := (fdAt 161).keep) Try.func161 (by kernel_rfl) (by kernel_rfl) (by kernel_rfl)
theorem ft162 : FnTab Try.prog E 162 (fdAt 162) := fnTab_code (c := c162) (modes := (fdAt 162).ms) (outs := (fdAt 162).os) (results := (fdAt 162).rs) (keep := (fdAt 162).keep) Try.func162 (by kernel_rfl) (by kernel_rfl) (by kernel_rfl)
theorem ft163 : FnTab Try.prog E 163 (fdAt 163) := fnTab_code (c := c163) (modes := (fdAt 163).ms) (outs := (fdAt 163).os) (results := (fdAt 163).rs) (keep := (fdAt 163).keep) Try.func163 (by kernel_rfl) (by kernel_rfl) (by kernel_rfl)
theorem ft165 : FnTab Try.prog E 165 (fdAt 165) := fnTab_code (c := c165) (modes := (fdAt 165).ms) (outs := (fdAt 165).os) (results := (fdAt 165).rs) (keep := (fdAt 165).keep) Try.func165 (by kernel_rfl) (by kernel_rfl) (by kernel_rfl)
theorem ft167 : FnTab Try.prog E 167 (fdAt 167) := fnTab_code (c := c167) (modes := (fdAt 167).ms) (outs := (fdAt 167).os) (results := (fdAt 167).rs) (keep := (fdAt 167).keep) Try.func167 (by kernel_rfl) (by kernel_rfl) (by kernel_rfl)
theorem ft168 : FnTab Try.prog E 168 (fdAt 168) := fnTab_code (c := c168) (modes := (fdAt 168).ms) (outs := (fdAt 168).os) (results := (fdAt 168).rs) (keep := (fdAt 168).keep) Try.func168 (by kernel_rfl) (by kernel_rfl) (by kernel_rfl)
theorem ft178 : FnTab Try.prog E 178 (.ext (pF64frombits)) := ext_pF64frombits Try.func178 (by kernel_rfl) (by kernel_rfl) (by kernel_rfl) (by kernel_rfl)
theorem ft179 : FnTab Try.prog E 179 (.ext (pAbs)) := DA.absOk
theorem ft180 : FnTab Try.prog E 180 (fdAt 180) := fnTab_code (c := c180) (modes := (fdAt 180).ms) (outs := (fdAt 180).os) (results := (fdAt 180).rs) (keep := (fdAt 180).keep) Try.func180 (by kernel_rfl) (by kernel_rfl) (by kernel_rfl)
theorem ft182 : FnTab Try.prog E 182 (fdAt 182) := fnTab_code (c := c182) (modes := (fdAt 182).ms) (outs := (fdAt 182).os) (results := (fdAt 182).rs) (keep := (fdAt 182).keep) Try.func182 (by kernel_rfl) (by kernel_rfl) (by kernel_rfl)
theorem ft183 : FnTab Try.prog E 183 (.ext (pF32frombits)) := ext_pF32frombits Try.func183 (by kernel_rfl) (by kernel_rfl) (by kernel_rfl) (by kernel_rfl)
theorem ft189 : FnTab Try.prog E 189 (.ext (pF64bits)) := ext_pF64bits Try.func189 (by kernel_rfl) (by kernel_rfl) (by kernel_rfl) (by kernel_rfl)
theorem ft190 : FnTab Try.prog E 190 (fdAt 190) := fnTab_code (c := c190) (modes := (fdAt 190).ms) (outs := (fdAt 190).os) (results := (fdAt 190).rs) (keep := (fdAt 190).keep) Try.func190 (by kernel_rfl) (by kernel_rfl) (by kernel_rfl)
theorem ft191 : FnTab Try.prog E 191 (fdAt 191) := fnTab_code (c := c191) (modes := (fdAt 191).ms) (outs := (fdAt 191).os) (results := (fdAt 191).rs) (keep := (fdAt 191).keep) Try.func191 (by kernel_rfl) (by kernel_rfl) (by kernel_rfl)
theorem ft196 : FnTab Try.prog E 196 (.ext (pCopysign)) := DC.signOk
theorem ft197 : FnTab Try.prog E 197 (.ext (pIntegral .zero)) := ext_pIntegral_zero Try.func197 (by kernel_rfl) (by kernel_rfl) (by kernel_rfl) (by kernel_rfl)
theorem ft198 : FnTab Try.prog E 198 (fdAt 198) := fnTab_code (c := c198) (modes := (fdAt 198).ms) (outs := (fdAt 198).os) (results := (fdAt 198).rs) (keep := (fdAt 198).keep) Try.func198 (by kernel_rfl) (by kernel_rfl) (by kernel_rfl)
theorem ft199 : FnTab Try.prog E 199 (fdAt 199) := fnTab_code (c := c199) (modes := (fdAt 199).ms) (outs := (fdAt 199).os) (results := (fdAt 199).rs) (keep := (fdAt 199).keep) Try.func199 (by kernel_rfl) (by kernel_rfl) (by kernel_rfl)
theorem allFns : AllFns Try.prog E fnTab := .cons ft14 (.cons ft28 (.cons ft29 (.cons ft33 (.cons ft34 (.cons ft44 (.cons ft70 (.cons ft71 (.cons ft72 (.cons ft83 (.cons ft84 (.cons ft85 (.cons ft86 (.cons ft87 (.cons ft88 (.cons ft89 (.cons ft90 (.cons ft91 (.cons ft92 (.cons ft93 (.cons ft96 (.cons ft97 (.cons ft98 (.cons ft106 (.cons ft108 (.cons ft112 (.cons ft113 (.cons ft121 (.cons ft127 (.cons ft144 (.cons ft145 (.cons ft146 (.cons ft147 (.cons ft148 (.cons ft149 (.cons ft158 (.cons ft159 (.cons ft160 (.cons ft161 (.cons ft162 (.cons ft163 (.cons ft165 (.cons ft167 (.cons ft168 (.cons ft178 (.cons ft179 (.cons ft180 (.cons ft182 (.cons ft183 (.cons ft189 (.cons ft190 (.cons ft191 (.cons ft196 (.cons ft197 (.cons ft198 (.cons ft199 (.nil))))))))))))))))))))))))))))))))))))))))))))))))))))))))
theorem fnOk : ∀ f fd, E.fn f = some fd → FnTab Try.prog E f fd := fnTab_of (l := fnTab) (fun _ => rfl) allFns
end Go.Proofs.Ytjkhhalnlodinaa.D
end
section
/- Plain functions for the law's Go functions, each tied to the reading by the kernel (printed by a program of this workplace). -/
namespace Go.Proofs.Ytjkhhalnlodinaa.D
open Go Go.Desk
set_option linter.unusedVariables false
noncomputable def x96.w : FnW E := xF32bits.w 96 (by kernel_rfl)

noncomputable def x178.w : FnW E := xF64frombits.w 178 (by kernel_rfl)

noncomputable def x183.w : FnW E := xF32frombits.w 183 (by kernel_rfl)

noncomputable def x179.w : FnW E := xAbs.w 179 (by kernel_rfl)

noncomputable def x197.w : FnW E := xIntegral_zero.w 197 (by kernel_rfl)

noncomputable def x189.w : FnW E := xF64bits.w 189 (by kernel_rfl)

noncomputable def x196.w : FnW E := xCopysign.w 196 (by kernel_rfl)

def f28_l_b10Long : Nat → Nat → List T → Nat → List T → Option (Bool)
  | 0, _, _, _, _ => none
  | n + 1, n1, l2, n3, l4 =>
    br (decide (((n1 : Nat) : Int) > (1048576 : Int))) (
     some true) (
     some (decide (((n3 : Nat) : Int) > (1048576 : Int))))
def sg_ll : Sig (Nat × List T × Nat × List T) where
  pk := fun v => [.lst v.1 v.2.1, .lst v.2.2.1 v.2.2.2]
  up := fun ls => match ls with
    | [.lst a0 a1, .lst a2 a3] => some (a0, a1, a2, a3)
    | _ => none
  ok := by
    intro ls v h
    split at h
    · cases h; rfl
    · cases h

def sg_b : Sig (Bool) where
  pk := fun v => [.bool v]
  up := fun ls => match ls with
    | [.bool a0] => some a0
    | _ => none
  ok := by
    intro ls v h
    split at h
    · cases h; rfl
    · cases h

def f28_l_b10Long.P : List Arg := [⟨.val, ⟨false, [.sl .shr [.leaf]], [.lst 0 []]⟩⟩, ⟨.val, ⟨false, [.sl .shr [.leaf]], [.lst 0 []]⟩⟩]
def f28_l_b10Long.A : RAlt (Bool) := .one ⟨[⟨false, [.leaf], [.bool false]⟩], [none, none]⟩ sg_b
def f28_l_b10Long.F (n : Nat) (v : Nat × List T × Nat × List T) := f28_l_b10Long n v.1 v.2.1 v.2.2.1 v.2.2.2
noncomputable def f28_l_b10Long.O (n : Nat) : Orc := orcOf (E := E) [] [] n
theorem f28_l_b10Long.ok : ∀ n v x, f28_l_b10Long.F n v = some x → evalFn E n 28 (flAs f28_l_b10Long.P (sg_ll.pk v)) = some (f28_l_b10Long.A.enc x) :=
  fn_pure (modes := (fdAt 28).ms) (outs := (fdAt 28).os) (results := (fdAt 28).rs) f28_l_b10Long.O (c := c28) (keep := keepAt 28) (by kernel_rfl) (fun n => orcOf_cf _ _ n) (fun n => lpOk_of (bs := []) (by kernel_rfl) .nil) (fun _ => rfl) (fun _ _ => by kernel_rfl)
noncomputable def f28_l_b10Long.w : FnW E := fnW 28 f28_l_b10Long.P sg_ll f28_l_b10Long.A f28_l_b10Long.F f28_l_b10Long.ok

def f90_s_l00From : Nat → Nat → List T → Option (Nat × List T × Int × Int)
  | 0, _, _ => none
  | n + 1, n1, l2 =>
    some (n1, l2, (0 : Int), (0 : Int))
def sg_l : Sig (Nat × List T) where
  pk := fun v => [.lst v.1 v.2]
  up := fun ls => match ls with
    | [.lst a0 a1] => some (a0, a1)
    | _ => none
  ok := by
    intro ls v h
    split at h
    · cases h; rfl
    · cases h

def sg_lii : Sig (Nat × List T × Int × Int) where
  pk := fun v => [.lst v.1 v.2.1, .int v.2.2.1, .int v.2.2.2]
  up := fun ls => match ls with
    | [.lst a0 a1, .int a2, .int a3] => some (a0, a1, a2, a3)
    | _ => none
  ok := by
    intro ls v h
    split at h
    · cases h; rfl
    · cases h

def f90_s_l00From.P : List Arg := [⟨.val, ⟨false, [.sl .shr [.leaf]], [.lst 0 []]⟩⟩]
def f90_s_l00From.A : RAlt (Nat × List T × Int × Int) := .one ⟨[⟨false, [.rf .own [.sl .shr [.leaf], .leaf, .leaf]], [.ref [.lst 0 [], .int .i64 0, .int .u64 0]]⟩], [none]⟩ sg_lii
def f90_s_l00From.F (n : Nat) (v : Nat × List T) := f90_s_l00From n v.1 v.2
noncomputable def f90_s_l00From.O (n : Nat) : Orc := orcOf (E := E) [] [] n
theorem f90_s_l00From.ok : ∀ n v x, f90_s_l00From.F n v = some x → evalFn E n 90 (flAs f90_s_l00From.P (sg_l.pk v)) = some (f90_s_l00From.A.enc x) :=
  fn_pure (modes := (fdAt 90).ms) (outs := (fdAt 90).os) (results := (fdAt 90).rs) f90_s_l00From.O (c := c90) (keep := keepAt 90) (by kernel_rfl) (fun n => orcOf_cf _ _ n) (fun n => lpOk_of (bs := []) (by kernel_rfl) .nil) (fun _ => rfl) (fun _ _ => by kernel_rfl)
noncomputable def f90_s_l00From.w : FnW E := fnW 90 f90_s_l00From.P sg_l f90_s_l00From.A f90_s_l00From.F f90_s_l00From.ok

def f163_s_l00Srcnext : Nat → Nat → List T → Int → Int → Option (Int × Nat × List T × Int × Int)
  | 0, _, _, _, _ => none
  | n + 1, n1, l2, i3, i4 =>
    br (decide (i3 < ((n1 : Nat) : Int))) (
     gd ((decide (((0 : Int) ≤ i3) ∧ (i3 < ((n1 : Nat) : Int)))) && (okAt [(CK.int IntKind.u8)] l2 (Int.toNat i3))) (
     let i5 : Int := (IntKind.i64.wrap (iAt l2 (Int.toNat i3)))
     let i6 : Int := (IntKind.i64.wrap (i3 + (1 : Int)))
     let i7 : Int := (IntKind.u64.wrap ((IntKind.u64.wrap ((IntKind.u64.wrap (i4 * (6364136223846793005 : Int))) + (IntKind.u64.wrap i5))) + (1442695040888963407 : Int)))
     br (decide (i6 ≤ ((n1 : Nat) : Int))) (
      some (i5, n1, l2, i6, i7)) (
      some ((IntKind.i64.wrap (intBits BinOp.and IntKind.u64 (Int.fdiv i7 (1099511627776 : Int)) (255 : Int))), n1, l2, i6, i7)))) (
     let i8 : Int := (IntKind.i64.wrap (i3 + (1 : Int)))
     let i9 : Int := (IntKind.u64.wrap ((IntKind.u64.wrap ((IntKind.u64.wrap (i4 * (6364136223846793005 : Int))) + (0 : Int))) + (1442695040888963407 : Int)))
     br (decide (i8 ≤ ((n1 : Nat) : Int))) (
      some ((0 : Int), n1, l2, i8, i9)) (
      some ((IntKind.i64.wrap (intBits BinOp.and IntKind.u64 (Int.fdiv i9 (1099511627776 : Int)) (255 : Int))), n1, l2, i8, i9)))
def sg_ilii : Sig (Int × Nat × List T × Int × Int) where
  pk := fun v => [.int v.1, .lst v.2.1 v.2.2.1, .int v.2.2.2.1, .int v.2.2.2.2]
  up := fun ls => match ls with
    | [.int a0, .lst a1 a2, .int a3, .int a4] => some (a0, a1, a2, a3, a4)
    | _ => none
  ok := by
    intro ls v h
    split at h
    · cases h; rfl
    · cases h

def f163_s_l00Srcnext.P : List Arg := [⟨.iop, ⟨false, [.rf .own [.sl .shr [.leaf], .leaf, .leaf]], [.ref [.lst 0 [], .int .i64 0, .int .u64 0]]⟩⟩]
def f163_s_l00Srcnext.A : RAlt (Int × Nat × List T × Int × Int) := .one ⟨[⟨false, [.leaf], [.int .i64 0]⟩], [some ⟨false, [.rf .own [.sl .shr [.leaf], .leaf, .leaf]], [.ref [.lst 0 [], .int .i64 0, .int .u64 0]]⟩]⟩ sg_ilii
def f163_s_l00Srcnext.F (n : Nat) (v : Nat × List T × Int × Int) := f163_s_l00Srcnext n v.1 v.2.1 v.2.2.1 v.2.2.2
noncomputable def f163_s_l00Srcnext.O (n : Nat) : Orc := orcOf (E := E) [] [] n
theorem f163_s_l00Srcnext.ok : ∀ n v x, f163_s_l00Srcnext.F n v = some x → evalFn E n 163 (flAs f163_s_l00Srcnext.P (sg_lii.pk v)) = some (f163_s_l00Srcnext.A.enc x) :=
  fn_pure (modes := (fdAt 163).ms) (outs := (fdAt 163).os) (results := (fdAt 163).rs) f163_s_l00Srcnext.O (c := c163) (keep := keepAt 163) (by kernel_rfl) (fun n => orcOf_cf _ _ n) (fun n => lpOk_of (bs := []) (by kernel_rfl) .nil) (fun _ => rfl) (fun _ _ => by kernel_rfl)
noncomputable def f163_s_l00Srcnext.w : FnW E := fnW 163 f163_s_l00Srcnext.P sg_lii f163_s_l00Srcnext.A f163_s_l00Srcnext.F f163_s_l00Srcnext.ok

def f97_s_l00Srcpick : Nat → Nat → List T → Int → Int → Int → Option (Int × Nat × List T × Int × Int)
  | 0, _, _, _, _, _ => none
  | n + 1, n1, l2, i3, i4, i5 =>
    br (decide (i5 ≤ (1 : Int))) (
     some ((0 : Int), n1, l2, i3, i4)) (
     bd (f163_s_l00Srcnext n n1 l2 i3 i4) fun r6 =>
     let i7 : Int := r6.1
     let n8 : Nat := r6.2.1
     let l9 : List T := r6.2.2.1
     let i10 : Int := r6.2.2.2.1
     let i11 : Int := r6.2.2.2.2
     br (decide (i5 > (200 : Int))) (
      bd (f163_s_l00Srcnext n n8 l9 i10 i11) fun r12 =>
      let i13 : Int := r12.1
      let n14 : Nat := r12.2.1
      let l15 : List T := r12.2.2.1
      let i16 : Int := r12.2.2.2.1
      let i17 : Int := r12.2.2.2.2
      let i18 : Int := (IntKind.i64.wrap ((IntKind.i64.wrap (i7 * (256 : Int))) + i13))
      gd (!(decide (i5 = (0 : Int)))) (
      some ((Int.tmod i18 i5), n14, l15, i16, i17))) (
      gd (!(decide (i5 = (0 : Int)))) (
      some ((Int.tmod i7 i5), n8, l9, i10, i11))))
def sg_liii : Sig (Nat × List T × Int × Int × Int) where
  pk := fun v => [.lst v.1 v.2.1, .int v.2.2.1, .int v.2.2.2.1, .int v.2.2.2.2]
  up := fun ls => match ls with
    | [.lst a0 a1, .int a2, .int a3, .int a4] => some (a0, a1, a2, a3, a4)
    | _ => none
  ok := by
    intro ls v h
    split at h
    · cases h; rfl
    · cases h

def f97_s_l00Srcpick.P : List Arg := [⟨.iop, ⟨false, [.rf .own [.sl .shr [.leaf], .leaf, .leaf]], [.ref [.lst 0 [], .int .i64 0, .int .u64 0]]⟩⟩, ⟨.val, ⟨false, [.leaf], [.int .i64 0]⟩⟩]
def f97_s_l00Srcpick.A : RAlt (Int × Nat × List T × Int × Int) := .one ⟨[⟨false, [.leaf], [.int .i64 0]⟩], [some ⟨false, [.rf .own [.sl .shr [.leaf], .leaf, .leaf]], [.ref [.lst 0 [], .int .i64 0, .int .u64 0]]⟩, none]⟩ sg_ilii
def f97_s_l00Srcpick.F (n : Nat) (v : Nat × List T × Int × Int × Int) := f97_s_l00Srcpick n v.1 v.2.1 v.2.2.1 v.2.2.2.1 v.2.2.2.2
noncomputable def f97_s_l00Srcpick.O (n : Nat) : Orc := orcOf (E := E) [f163_s_l00Srcnext.w] [] n
theorem f97_s_l00Srcpick.ok : ∀ n v x, f97_s_l00Srcpick.F n v = some x → evalFn E n 97 (flAs f97_s_l00Srcpick.P (sg_liii.pk v)) = some (f97_s_l00Srcpick.A.enc x) :=
  fn_pure (modes := (fdAt 97).ms) (outs := (fdAt 97).os) (results := (fdAt 97).rs) f97_s_l00Srcpick.O (c := c97) (keep := keepAt 97) (by kernel_rfl) (fun n => orcOf_cf _ _ n) (fun n => lpOk_of (bs := []) (by kernel_rfl) .nil) (fun _ => rfl) (fun _ _ => by kernel_rfl)
noncomputable def f97_s_l00Srcpick.w : FnW E := fnW 97 f97_s_l00Srcpick.P sg_liii f97_s_l00Srcpick.A f97_s_l00Srcpick.F f97_s_l00Srcpick.ok

def f158_s_l00Srcone : Nat → Nat → List T → Int → Int → Int → Option (Bool × Nat × List T × Int × Int)
  | 0, _, _, _, _, _ => none
  | n + 1, n1, l2, i3, i4, i5 =>
    bd (f97_s_l00Srcpick n n1 l2 i3 i4 i5) fun r6 =>
    let i7 : Int := r6.1
    let n8 : Nat := r6.2.1
    let l9 : List T := r6.2.2.1
    let i10 : Int := r6.2.2.2.1
    let i11 : Int := r6.2.2.2.2
    some ((i7 == (0 : Int)), n8, l9, i10, i11)
def sg_blii : Sig (Bool × Nat × List T × Int × Int) where
  pk := fun v => [.bool v.1, .lst v.2.1 v.2.2.1, .int v.2.2.2.1, .int v.2.2.2.2]
  up := fun ls => match ls with
    | [.bool a0, .lst a1 a2, .int a3, .int a4] => some (a0, a1, a2, a3, a4)
    | _ => none
  ok := by
    intro ls v h
    split at h
    · cases h; rfl
    · cases h

def f158_s_l00Srcone.P : List Arg := [⟨.iop, ⟨false, [.rf .own [.sl .shr [.leaf], .leaf, .leaf]], [.ref [.lst 0 [], .int .i64 0, .int .u64 0]]⟩⟩, ⟨.val, ⟨false, [.leaf], [.int .i64 0]⟩⟩]
def f158_s_l00Srcone.A : RAlt (Bool × Nat × List T × Int × Int) := .one ⟨[⟨false, [.leaf], [.bool false]⟩], [some ⟨false, [.rf .own [.sl .shr [.leaf], .leaf, .leaf]], [.ref [.lst 0 [], .int .i64 0, .int .u64 0]]⟩, none]⟩ sg_blii
def f158_s_l00Srcone.F (n : Nat) (v : Nat × List T × Int × Int × Int) := f158_s_l00Srcone n v.1 v.2.1 v.2.2.1 v.2.2.2.1 v.2.2.2.2
noncomputable def f158_s_l00Srcone.O (n : Nat) : Orc := orcOf (E := E) [f97_s_l00Srcpick.w] [] n
theorem f158_s_l00Srcone.ok : ∀ n v x, f158_s_l00Srcone.F n v = some x → evalFn E n 158 (flAs f158_s_l00Srcone.P (sg_liii.pk v)) = some (f158_s_l00Srcone.A.enc x) :=
  fn_pure (modes := (fdAt 158).ms) (outs := (fdAt 158).os) (results := (fdAt 158).rs) f158_s_l00Srcone.O (c := c158) (keep := keepAt 158) (by kernel_rfl) (fun n => orcOf_cf _ _ n) (fun n => lpOk_of (bs := []) (by kernel_rfl) .nil) (fun _ => rfl) (fun _ _ => by kernel_rfl)
noncomputable def f158_s_l00Srcone.w : FnW E := fnW 158 f158_s_l00Srcone.P sg_liii f158_s_l00Srcone.A f158_s_l00Srcone.F f158_s_l00Srcone.ok

def f91_s_l01DrawPlain : Nat → Nat → List T → Int → Int → Option (Nat × Nat × List T × Int × Int)
  | 0, _, _, _, _ => none
  | n + 1, n1, l2, i3, i4 =>
    bd (f97_s_l00Srcpick n n1 l2 i3 i4 (129 : Int)) fun r5 =>
    let i6 : Int := r5.1
    let n7 : Nat := r5.2.1
    let l8 : List T := r5.2.2.1
    let i9 : Int := r5.2.2.2.1
    let i10 : Int := r5.2.2.2.2
    let i11 : Int := (IntKind.i64.wrap (i6 - (64 : Int)))
    bd (f158_s_l00Srcone n n7 l8 i9 i10 (4 : Int)) fun r12 =>
    let b13 : Bool := r12.1
    let n14 : Nat := r12.2.1
    let l15 : List T := r12.2.2.1
    let i16 : Int := r12.2.2.2.1
    let i17 : Int := r12.2.2.2.2
    br b13 (
     some ((fdiv FloatKind.f32 (FloatKind.nearest FloatKind.f32 i11) 1088421888), n14, l15, i16, i17)) (
     some ((fdiv FloatKind.f32 (FloatKind.nearest FloatKind.f32 i11) 1098907648), n14, l15, i16, i17))
def sg_flii : Sig (Nat × Nat × List T × Int × Int) where
  pk := fun v => [.flt v.1, .lst v.2.1 v.2.2.1, .int v.2.2.2.1, .int v.2.2.2.2]
  up := fun ls => match ls with
    | [.flt a0, .lst a1 a2, .int a3, .int a4] => some (a0, a1, a2, a3, a4)
    | _ => none
  ok := by
    intro ls v h
    split at h
    · cases h; rfl
    · cases h

def f91_s_l01DrawPlain.P : List Arg := [⟨.iop, ⟨false, [.rf .own [.sl .shr [.leaf], .leaf, .leaf]], [.ref [.lst 0 [], .int .i64 0, .int .u64 0]]⟩⟩]
def f91_s_l01DrawPlain.A : RAlt (Nat × Nat × List T × Int × Int) := .one ⟨[⟨false, [.leaf], [.flt .f32 0]⟩], [some ⟨false, [.rf .own [.sl .shr [.leaf], .leaf, .leaf]], [.ref [.lst 0 [], .int .i64 0, .int .u64 0]]⟩]⟩ sg_flii
def f91_s_l01DrawPlain.F (n : Nat) (v : Nat × List T × Int × Int) := f91_s_l01DrawPlain n v.1 v.2.1 v.2.2.1 v.2.2.2
noncomputable def f91_s_l01DrawPlain.O (n : Nat) : Orc := orcOf (E := E) [f97_s_l00Srcpick.w, f158_s_l00Srcone.w] [] n
theorem f91_s_l01DrawPlain.ok : ∀ n v x, f91_s_l01DrawPlain.F n v = some x → evalFn E n 91 (flAs f91_s_l01DrawPlain.P (sg_lii.pk v)) = some (f91_s_l01DrawPlain.A.enc x) :=
  fn_pure (modes := (fdAt 91).ms) (outs := (fdAt 91).os) (results := (fdAt 91).rs) f91_s_l01DrawPlain.O (c := c91) (keep := keepAt 91) (by kernel_rfl) (fun n => orcOf_cf _ _ n) (fun n => lpOk_of (bs := []) (by kernel_rfl) .nil) (fun _ => rfl) (fun _ _ => by kernel_rfl)
noncomputable def f91_s_l01DrawPlain.w : FnW E := fnW 91 f91_s_l01DrawPlain.P sg_lii f91_s_l01DrawPlain.A f91_s_l01DrawPlain.F f91_s_l01DrawPlain.ok

def f168_s_l00Srcamong : Nat → Nat → List T → Int → Int → Nat → List T → Option (Int × Nat × List T × Int × Int × Nat × List T)
  | 0, _, _, _, _, _, _ => none
  | n + 1, n1, l2, i3, i4, n5, l6 =>
    bd (f97_s_l00Srcpick n n1 l2 i3 i4 ((n5 : Nat) : Int)) fun r7 =>
    let i8 : Int := r7.1
    let n9 : Nat := r7.2.1
    let l10 : List T := r7.2.2.1
    let i11 : Int := r7.2.2.2.1
    let i12 : Int := r7.2.2.2.2
    gd (decide (((0 : Int) ≤ i8) ∧ (i8 < ((n5 : Nat) : Int)))) (
    gd (okAt [(CK.int IntKind.i64)] l6 (Int.toNat i8)) (
    some ((iAt l6 (Int.toNat i8)), n9, l10, i11, i12, n5, l6)))
def sg_liil : Sig (Nat × List T × Int × Int × Nat × List T) where
  pk := fun v => [.lst v.1 v.2.1, .int v.2.2.1, .int v.2.2.2.1, .lst v.2.2.2.2.1 v.2.2.2.2.2]
  up := fun ls => match ls with
    | [.lst a0 a1, .int a2, .int a3, .lst a4 a5] => some (a0, a1, a2, a3, a4, a5)
    | _ => none
  ok := by
    intro ls v h
    split at h
    · cases h; rfl
    · cases h

def sg_iliil : Sig (Int × Nat × List T × Int × Int × Nat × List T) where
  pk := fun v => [.int v.1, .lst v.2.1 v.2.2.1, .int v.2.2.2.1, .int v.2.2.2.2.1, .lst v.2.2.2.2.2.1 v.2.2.2.2.2.2]
  up := fun ls => match ls with
    | [.int a0, .lst a1 a2, .int a3, .int a4, .lst a5 a6] => some (a0, a1, a2, a3, a4, a5, a6)
    | _ => none
  ok := by
    intro ls v h
    split at h
    · cases h; rfl
    · cases h

def f168_s_l00Srcamong.P : List Arg := [⟨.iop, ⟨false, [.rf .own [.sl .shr [.leaf], .leaf, .leaf]], [.ref [.lst 0 [], .int .i64 0, .int .u64 0]]⟩⟩, ⟨.io, ⟨false, [.sl .own [.leaf]], [.lst 0 []]⟩⟩]
def f168_s_l00Srcamong.A : RAlt (Int × Nat × List T × Int × Int × Nat × List T) := .one ⟨[⟨false, [.leaf], [.int .i64 0]⟩], [some ⟨false, [.rf .own [.sl .shr [.leaf], .leaf, .leaf]], [.ref [.lst 0 [], .int .i64 0, .int .u64 0]]⟩, some ⟨false, [.sl .own [.leaf]], [.lst 0 []]⟩]⟩ sg_iliil
def f168_s_l00Srcamong.F (n : Nat) (v : Nat × List T × Int × Int × Nat × List T) := f168_s_l00Srcamong n v.1 v.2.1 v.2.2.1 v.2.2.2.1 v.2.2.2.2.1 v.2.2.2.2.2
noncomputable def f168_s_l00Srcamong.O (n : Nat) : Orc := orcOf (E := E) [f97_s_l00Srcpick.w] [] n
theorem f168_s_l00Srcamong.ok : ∀ n v x, f168_s_l00Srcamong.F n v = some x → evalFn E n 168 (flAs f168_s_l00Srcamong.P (sg_liil.pk v)) = some (f168_s_l00Srcamong.A.enc x) :=
  fn_pure (modes := (fdAt 168).ms) (outs := (fdAt 168).os) (results := (fdAt 168).rs) f168_s_l00Srcamong.O (c := c168) (keep := keepAt 168) (by kernel_rfl) (fun n => orcOf_cf _ _ n) (fun n => lpOk_of (bs := []) (by kernel_rfl) .nil) (fun _ => rfl) (fun _ _ => by kernel_rfl)
noncomputable def f168_s_l00Srcamong.w : FnW E := fnW 168 f168_s_l00Srcamong.P sg_liil f168_s_l00Srcamong.A f168_s_l00Srcamong.F f168_s_l00Srcamong.ok

def f167_s_l01From : Nat → Int → Option (Nat)
  | 0, _ => none
  | n + 1, i1 =>
    bd (xF32frombits n (IntKind.u32.wrap i1)) fun r2 =>
    let x3 : Nat := r2
    some x3
def sg_i : Sig (Int) where
  pk := fun v => [.int v]
  up := fun ls => match ls with
    | [.int a0] => some a0
    | _ => none
  ok := by
    intro ls v h
    split at h
    · cases h; rfl
    · cases h

def sg_f : Sig (Nat) where
  pk := fun v => [.flt v]
  up := fun ls => match ls with
    | [.flt a0] => some a0
    | _ => none
  ok := by
    intro ls v h
    split at h
    · cases h; rfl
    · cases h

def f167_s_l01From.P : List Arg := [⟨.val, ⟨false, [.leaf], [.int .i64 0]⟩⟩]
def f167_s_l01From.A : RAlt (Nat) := .one ⟨[⟨false, [.leaf], [.flt .f32 0]⟩], [none]⟩ sg_f
def f167_s_l01From.F (n : Nat) (v : Int) := f167_s_l01From n v
noncomputable def f167_s_l01From.O (n : Nat) : Orc := orcOf (E := E) [x183.w] [] n
theorem f167_s_l01From.ok : ∀ n v x, f167_s_l01From.F n v = some x → evalFn E n 167 (flAs f167_s_l01From.P (sg_i.pk v)) = some (f167_s_l01From.A.enc x) :=
  fn_pure (modes := (fdAt 167).ms) (outs := (fdAt 167).os) (results := (fdAt 167).rs) f167_s_l01From.O (c := c167) (keep := keepAt 167) (by kernel_rfl) (fun n => orcOf_cf _ _ n) (fun n => lpOk_of (bs := []) (by kernel_rfl) .nil) (fun _ => rfl) (fun _ _ => by kernel_rfl)
noncomputable def f167_s_l01From.w : FnW E := fnW 167 f167_s_l01From.P sg_i f167_s_l01From.A f167_s_l01From.F f167_s_l01From.ok

def f112_s_l01DrawFloat : Nat → Nat → List T → Int → Int → Option (Nat × Nat × List T × Int × Int)
  | 0, _, _, _, _ => none
  | n + 1, n1, l2, i3, i4 =>
    bd (f158_s_l00Srcone n n1 l2 i3 i4 (12 : Int)) fun r5 =>
    let b6 : Bool := r5.1
    let n7 : Nat := r5.2.1
    let l8 : List T := r5.2.2.1
    let i9 : Int := r5.2.2.2.1
    let i10 : Int := r5.2.2.2.2
    br (!b6) (
     bd (f91_s_l01DrawPlain n n7 l8 i9 i10) fun r11 =>
     let x12 : Nat := r11.1
     let n13 : Nat := r11.2.1
     let l14 : List T := r11.2.2.1
     let i15 : Int := r11.2.2.2.1
     let i16 : Int := r11.2.2.2.2
     some (x12, n13, l14, i15, i16)) (
     bd (f97_s_l00Srcpick n n7 l8 i9 i10 (4 : Int)) fun r17 =>
     let i18 : Int := r17.1
     let n19 : Nat := r17.2.1
     let l20 : List T := r17.2.2.1
     let i21 : Int := r17.2.2.2.1
     let i22 : Int := r17.2.2.2.2
     br (i18 == (0 : Int)) (
      bd (f168_s_l00Srcamong n n19 l20 i21 i22 10 (setN (setN (setN (setN (setN (setN (setN (setN (setN (setN (reps 10 [(T.int IntKind.i64 (0 : Int))]) 0 [(T.int IntKind.i64 (0 : Int))]) 1 [(T.int IntKind.i64 (2147483648 : Int))]) 2 [(T.int IntKind.i64 (2139095040 : Int))]) 3 [(T.int IntKind.i64 (4286578688 : Int))]) 4 [(T.int IntKind.i64 (2143289344 : Int))]) 5 [(T.int IntKind.i64 (1 : Int))]) 6 [(T.int IntKind.i64 (2139095039 : Int))]) 7 [(T.int IntKind.i64 (8388608 : Int))]) 8 [(T.int IntKind.i64 (8388607 : Int))]) 9 [(T.int IntKind.i64 (2147483649 : Int))])) fun r23 =>
      let i24 : Int := r23.1
      let n25 : Nat := r23.2.1
      let l26 : List T := r23.2.2.1
      let i27 : Int := r23.2.2.2.1
      let i28 : Int := r23.2.2.2.2.1
      let n29 : Nat := r23.2.2.2.2.2.1
      let l30 : List T := r23.2.2.2.2.2.2
      bd (f167_s_l01From n i24) fun r31 =>
      let x32 : Nat := r31
      some (x32, n25, l26, i27, i28)) (
      br (i18 == (1 : Int)) (
       bd (f97_s_l00Srcpick n n19 l20 i21 i22 (65536 : Int)) fun r33 =>
       let i34 : Int := r33.1
       let n35 : Nat := r33.2.1
       let l36 : List T := r33.2.2.1
       let i37 : Int := r33.2.2.2.1
       let i38 : Int := r33.2.2.2.2
       let i39 : Int := (IntKind.i64.wrap (i34 * (65536 : Int)))
       bd (f97_s_l00Srcpick n n35 l36 i37 i38 (65536 : Int)) fun r40 =>
       let i41 : Int := r40.1
       let n42 : Nat := r40.2.1
       let l43 : List T := r40.2.2.1
       let i44 : Int := r40.2.2.2.1
       let i45 : Int := r40.2.2.2.2
       bd (f167_s_l01From n (IntKind.i64.wrap (i39 + i41))) fun r46 =>
       let x47 : Nat := r46
       some (x47, n42, l43, i44, i45)) (
       br (i18 == (2 : Int)) (
        bd (f97_s_l00Srcpick n n19 l20 i21 i22 (65536 : Int)) fun r48 =>
        let i49 : Int := r48.1
        let n50 : Nat := r48.2.1
        let l51 : List T := r48.2.2.1
        let i52 : Int := r48.2.2.2.1
        let i53 : Int := r48.2.2.2.2
        bd (f167_s_l01From n (IntKind.i64.wrap (i49 * (65536 : Int)))) fun r54 =>
        let x55 : Nat := r54
        some (x55, n50, l51, i52, i53)) (
        bd (f91_s_l01DrawPlain n n19 l20 i21 i22) fun r56 =>
        let x57 : Nat := r56.1
        let n58 : Nat := r56.2.1
        let l59 : List T := r56.2.2.1
        let i60 : Int := r56.2.2.2.1
        let i61 : Int := r56.2.2.2.2
        bd (f168_s_l00Srcamong n n58 l59 i60 i61 4 (setN (setN (setN (setN (reps 4 [(T.int IntKind.i64 (0 : Int))]) 0 [(T.int IntKind.i64 (8388608 : Int))]) 1 [(T.int IntKind.i64 (2130706432 : Int))]) 2 [(T.int IntKind.i64 (1610612736 : Int))]) 3 [(T.int IntKind.i64 (536870912 : Int))])) fun r62 =>
        let i63 : Int := r62.1
        let n64 : Nat := r62.2.1
        let l65 : List T := r62.2.2.1
        let i66 : Int := r62.2.2.2.1
        let i67 : Int := r62.2.2.2.2.1
        let n68 : Nat := r62.2.2.2.2.2.1
        let l69 : List T := r62.2.2.2.2.2.2
        bd (f167_s_l01From n i63) fun r70 =>
        let x71 : Nat := r70
        some ((fmul FloatKind.f32 x57 x71), n64, l65, i66, i67)))))
def f112_s_l01DrawFloat.P : List Arg := [⟨.iop, ⟨false, [.rf .own [.sl .shr [.leaf], .leaf, .leaf]], [.ref [.lst 0 [], .int .i64 0, .int .u64 0]]⟩⟩]
def f112_s_l01DrawFloat.A : RAlt (Nat × Nat × List T × Int × Int) := .one ⟨[⟨false, [.leaf], [.flt .f32 0]⟩], [some ⟨false, [.rf .own [.sl .shr [.leaf], .leaf, .leaf]], [.ref [.lst 0 [], .int .i64 0, .int .u64 0]]⟩]⟩ sg_flii
def f112_s_l01DrawFloat.F (n : Nat) (v : Nat × List T × Int × Int) := f112_s_l01DrawFloat n v.1 v.2.1 v.2.2.1 v.2.2.2
noncomputable def f112_s_l01DrawFloat.O (n : Nat) : Orc := orcOf (E := E) [f97_s_l00Srcpick.w, f158_s_l00Srcone.w, f91_s_l01DrawPlain.w, f168_s_l00Srcamong.w, f167_s_l01From.w] [] n
theorem f112_s_l01DrawFloat.ok : ∀ n v x, f112_s_l01DrawFloat.F n v = some x → evalFn E n 112 (flAs f112_s_l01DrawFloat.P (sg_lii.pk v)) = some (f112_s_l01DrawFloat.A.enc x) :=
  fn_pure (modes := (fdAt 112).ms) (outs := (fdAt 112).os) (results := (fdAt 112).rs) f112_s_l01DrawFloat.O (c := c112) (keep := keepAt 112) (by kernel_rfl) (fun n => orcOf_cf _ _ n) (fun n => lpOk_of (bs := []) (by kernel_rfl) .nil) (fun _ => rfl) (fun _ _ => by kernel_rfl)
noncomputable def f112_s_l01DrawFloat.w : FnW E := fnW 112 f112_s_l01DrawFloat.P sg_lii f112_s_l01DrawFloat.A f112_s_l01DrawFloat.F f112_s_l01DrawFloat.ok

def f98_s_l01DrawFloats.l0 (n : Nat) : Nat → Nat → List T → Int → Int → Int → Nat → List T → Bool → Option (Nat × List T × Int × Int × Nat × List T)
  | 0, _, _, _, _, _, _, _, _ => none
  | m + 1, n1, l2, i3, i4, i5, n6, l7, b8 =>
    br (decide (i5 > (0 : Int))) (
     br b8 (
      bd (f112_s_l01DrawFloat n n1 l2 i3 i4) fun r9 =>
      let x10 : Nat := r9.1
      let n11 : Nat := r9.2.1
      let l12 : List T := r9.2.2.1
      let i13 : Int := r9.2.2.2.1
      let i14 : Int := r9.2.2.2.2
      gd (Nat.ble (n6 + 1) 2147483648) (
      let n15 : Nat := (n6 + 1)
      let l16 : List T := (l7 ++ (setN (reps 1 [(T.flt FloatKind.f32 0)]) 0 [(T.flt FloatKind.f32 x10)]))
      f98_s_l01DrawFloats.l0 n m n11 l12 i13 i14 (IntKind.i64.wrap (i5 - (1 : Int))) n15 l16 b8)) (
      bd (f91_s_l01DrawPlain n n1 l2 i3 i4) fun r17 =>
      let x18 : Nat := r17.1
      let n19 : Nat := r17.2.1
      let l20 : List T := r17.2.2.1
      let i21 : Int := r17.2.2.2.1
      let i22 : Int := r17.2.2.2.2
      gd (Nat.ble (n6 + 1) 2147483648) (
      let n23 : Nat := (n6 + 1)
      let l24 : List T := (l7 ++ (setN (reps 1 [(T.flt FloatKind.f32 0)]) 0 [(T.flt FloatKind.f32 x18)]))
      f98_s_l01DrawFloats.l0 n m n19 l20 i21 i22 (IntKind.i64.wrap (i5 - (1 : Int))) n23 l24 b8))) (
     some (n1, l2, i3, i4, n6, l7))
def f98_s_l01DrawFloats : Nat → Nat → List T → Int → Int → Int → Option (Nat × List T × Nat × List T × Int × Int)
  | 0, _, _, _, _, _ => none
  | n + 1, n1, l2, i3, i4, i5 =>
    bd (f158_s_l00Srcone n n1 l2 i3 i4 (4 : Int)) fun r6 =>
    let b7 : Bool := r6.1
    let n8 : Nat := r6.2.1
    let l9 : List T := r6.2.2.1
    let i10 : Int := r6.2.2.2.1
    let i11 : Int := r6.2.2.2.2
    bd (f98_s_l01DrawFloats.l0 n n n8 l9 i10 i11 i5 0 (reps 0 [(T.flt FloatKind.f32 0)]) b7) fun r12 =>
    let n13 : Nat := r12.1
    let l14 : List T := r12.2.1
    let i15 : Int := r12.2.2.1
    let i16 : Int := r12.2.2.2.1
    let n17 : Nat := r12.2.2.2.2.1
    let l18 : List T := r12.2.2.2.2.2
    some (n17, l18, n13, l14, i15, i16)
def sg_llii : Sig (Nat × List T × Nat × List T × Int × Int) where
  pk := fun v => [.lst v.1 v.2.1, .lst v.2.2.1 v.2.2.2.1, .int v.2.2.2.2.1, .int v.2.2.2.2.2]
  up := fun ls => match ls with
    | [.lst a0 a1, .lst a2 a3, .int a4, .int a5] => some (a0, a1, a2, a3, a4, a5)
    | _ => none
  ok := by
    intro ls v h
    split at h
    · cases h; rfl
    · cases h

def sg_liiilb : Sig (Nat × List T × Int × Int × Int × Nat × List T × Bool) where
  pk := fun v => [.lst v.1 v.2.1, .int v.2.2.1, .int v.2.2.2.1, .int v.2.2.2.2.1, .lst v.2.2.2.2.2.1 v.2.2.2.2.2.2.1, .bool v.2.2.2.2.2.2.2]
  up := fun ls => match ls with
    | [.lst a0 a1, .int a2, .int a3, .int a4, .lst a5 a6, .bool a7] => some (a0, a1, a2, a3, a4, a5, a6, a7)
    | _ => none
  ok := by
    intro ls v h
    split at h
    · cases h; rfl
    · cases h

def f98_s_l01DrawFloats.l0.P : AS := ⟨[(0, .box [.sl .shr [.leaf], .leaf, .leaf] [.lst 0 [], .int .i64 0, .int .u64 0] [] 0), (1, .val false [.leaf] [.int .i64 0] [] 0), (5, .val false [.sl .own [.leaf]] [.lst 0 []] [] 0), (6, .val false [.leaf] [.bool false] [] 0)], 0⟩
def f98_s_l01DrawFloats.l0.A : Alt (Nat × List T × Int × Int × Nat × List T) := .one (.exit 0) ⟨[(0, .box [.sl .shr [.leaf], .leaf, .leaf] [.lst 0 [], .int .i64 0, .int .u64 0] [] 0), (5, .val false [.sl .own [.leaf]] [.lst 0 []] [] 0)], 0⟩ sg_liil
def f98_s_l01DrawFloats.l0.F (n m : Nat) (v : Nat × List T × Int × Int × Int × Nat × List T × Bool) := f98_s_l01DrawFloats.l0 n m v.1 v.2.1 v.2.2.1 v.2.2.2.1 v.2.2.2.2.1 v.2.2.2.2.2.1 v.2.2.2.2.2.2.1 v.2.2.2.2.2.2.2
def f98_s_l01DrawFloats.l0.W (n : Nat) : LpW := .of 48 f98_s_l01DrawFloats.l0.P sg_liiilb f98_s_l01DrawFloats.l0.A (f98_s_l01DrawFloats.l0.F n n)
def f98_s_l01DrawFloats.P : List Arg := [⟨.iop, ⟨false, [.rf .own [.sl .shr [.leaf], .leaf, .leaf]], [.ref [.lst 0 [], .int .i64 0, .int .u64 0]]⟩⟩, ⟨.val, ⟨false, [.leaf], [.int .i64 0]⟩⟩]
def f98_s_l01DrawFloats.A : RAlt (Nat × List T × Nat × List T × Int × Int) := .one ⟨[⟨false, [.sl .own [.leaf]], [.lst 0 []]⟩], [some ⟨false, [.rf .own [.sl .shr [.leaf], .leaf, .leaf]], [.ref [.lst 0 [], .int .i64 0, .int .u64 0]]⟩, none]⟩ sg_llii
def f98_s_l01DrawFloats.F (n : Nat) (v : Nat × List T × Int × Int × Int) := f98_s_l01DrawFloats n v.1 v.2.1 v.2.2.1 v.2.2.2.1 v.2.2.2.2
noncomputable def f98_s_l01DrawFloats.O (n : Nat) : Orc := orcOf (E := E) [f158_s_l00Srcone.w, f91_s_l01DrawPlain.w, f112_s_l01DrawFloat.w] [f98_s_l01DrawFloats.l0.W n] n
theorem f98_s_l01DrawFloats.l0.ok (n : Nat) : LpOk (f98_s_l01DrawFloats.O n) E (evalFn E n) n (keepAt 98) (.loop (loopAt c98 0)) :=
  lp_pure f98_s_l01DrawFloats.l0.P sg_liiilb f98_s_l01DrawFloats.l0.A (f98_s_l01DrawFloats.l0.F n) (orcOf_cf _ _ n) (lpOk_of (bs := []) (by kernel_rfl) .nil) (fun _ => rfl) (fun _ _ => by kernel_rfl) (fun _ _ _ => by kernel_rfl)
theorem f98_s_l01DrawFloats.ok : ∀ n v x, f98_s_l01DrawFloats.F n v = some x → evalFn E n 98 (flAs f98_s_l01DrawFloats.P (sg_liii.pk v)) = some (f98_s_l01DrawFloats.A.enc x) :=
  fn_pure (modes := (fdAt 98).ms) (outs := (fdAt 98).os) (results := (fdAt 98).rs) f98_s_l01DrawFloats.O (c := c98) (keep := keepAt 98) (by kernel_rfl) (fun n => orcOf_cf _ _ n) (fun n => lpOk_of (bs := [loopAt c98 0]) (by kernel_rfl) (.cons (f98_s_l01DrawFloats.l0.ok n) .nil)) (fun _ => rfl) (fun _ _ => by kernel_rfl)
noncomputable def f98_s_l01DrawFloats.w : FnW E := fnW 98 f98_s_l01DrawFloats.P sg_liii f98_s_l01DrawFloats.A f98_s_l01DrawFloats.F f98_s_l01DrawFloats.ok

def f83_s_B10Tracks.l0 (n : Nat) : Nat → Nat → List T → Int → Int → Nat → List T → Int → Option (Nat × List T)
  | 0, _, _, _, _, _, _, _ => none
  | m + 1, n1, l2, i3, i4, n5, l6, i7 =>
    br (decide (i7 > (0 : Int))) (
     bd (f97_s_l00Srcpick n n1 l2 i3 i4 (9 : Int)) fun r8 =>
     let i9 : Int := r8.1
     let n10 : Nat := r8.2.1
     let l11 : List T := r8.2.2.1
     let i12 : Int := r8.2.2.2.1
     let i13 : Int := r8.2.2.2.2
     bd (f98_s_l01DrawFloats n n10 l11 i12 i13 i9) fun r14 =>
     let n15 : Nat := r14.1
     let l16 : List T := r14.2.1
     let n17 : Nat := r14.2.2.1
     let l18 : List T := r14.2.2.2.1
     let i19 : Int := r14.2.2.2.2.1
     let i20 : Int := r14.2.2.2.2.2
     bd (f158_s_l00Srcone n n17 l18 i19 i20 (5 : Int)) fun r21 =>
     let b22 : Bool := r21.1
     let n23 : Nat := r21.2.1
     let l24 : List T := r21.2.2.1
     let i25 : Int := r21.2.2.2.1
     let i26 : Int := r21.2.2.2.2
     bd (f158_s_l00Srcone n n23 l24 i25 i26 (6 : Int)) fun r27 =>
     let b28 : Bool := r27.1
     let n29 : Nat := r27.2.1
     let l30 : List T := r27.2.2.1
     let i31 : Int := r27.2.2.2.1
     let i32 : Int := r27.2.2.2.2
     bd (f97_s_l00Srcpick n n29 l30 i31 i32 (300 : Int)) fun r33 =>
     let i34 : Int := r33.1
     let n35 : Nat := r33.2.1
     let l36 : List T := r33.2.2.1
     let i37 : Int := r33.2.2.2.1
     let i38 : Int := r33.2.2.2.2
     let i39 : Int := (IntKind.i64.wrap (i34 - (240 : Int)))
     bd (f97_s_l00Srcpick n n35 l36 i37 i38 (17 : Int)) fun r40 =>
     let i41 : Int := r40.1
     let n42 : Nat := r40.2.1
     let l43 : List T := r40.2.2.1
     let i44 : Int := r40.2.2.2.1
     let i45 : Int := r40.2.2.2.2
     let x46 : Nat := (fdiv FloatKind.f32 (FloatKind.nearest FloatKind.f32 i41) 1098907648)
     gd (Nat.ble (n5 + 1) 2147483648) (
     let n47 : Nat := (n5 + 1)
     let l48 : List T := (l6 ++ (setN (reps 1 [(T.lst 0 []), (T.int IntKind.i64 (0 : Int)), (T.flt FloatKind.f32 0), (T.bool false), (T.bool false)]) 0 [(T.lst n15 l16), (T.int IntKind.i64 i39), (T.flt FloatKind.f32 x46), (T.bool b22), (T.bool b28)]))
     f83_s_B10Tracks.l0 n m n42 l43 i44 i45 n47 l48 (IntKind.i64.wrap (i7 - (1 : Int))))) (
     some (n5, l6))
def f83_s_B10Tracks : Nat → Nat → List T → Option (Nat × List T)
  | 0, _, _ => none
  | n + 1, n1, l2 =>
    bd (f90_s_l00From n n1 l2) fun r3 =>
    let n4 : Nat := r3.1
    let l5 : List T := r3.2.1
    let i6 : Int := r3.2.2.1
    let i7 : Int := r3.2.2.2
    bd (f97_s_l00Srcpick n n4 l5 i6 i7 (5 : Int)) fun r8 =>
    let i9 : Int := r8.1
    let n10 : Nat := r8.2.1
    let l11 : List T := r8.2.2.1
    let i12 : Int := r8.2.2.2.1
    let i13 : Int := r8.2.2.2.2
    bd (f83_s_B10Tracks.l0 n n n10 l11 i12 i13 0 (reps 0 [(T.lst 0 []), (T.int IntKind.i64 (0 : Int)), (T.flt FloatKind.f32 0), (T.bool false), (T.bool false)]) i9) fun r14 =>
    let n15 : Nat := r14.1
    let l16 : List T := r14.2
    some (n15, l16)
def sg_liili : Sig (Nat × List T × Int × Int × Nat × List T × Int) where
  pk := fun v => [.lst v.1 v.2.1, .int v.2.2.1, .int v.2.2.2.1, .lst v.2.2.2.2.1 v.2.2.2.2.2.1, .int v.2.2.2.2.2.2]
  up := fun ls => match ls with
    | [.lst a0 a1, .int a2, .int a3, .lst a4 a5, .int a6] => some (a0, a1, a2, a3, a4, a5, a6)
    | _ => none
  ok := by
    intro ls v h
    split at h
    · cases h; rfl
    · cases h

def f83_s_B10Tracks.l0.P : AS := ⟨[(3, .box [.sl .shr [.leaf], .leaf, .leaf] [.lst 0 [], .int .i64 0, .int .u64 0] [] 0), (4, .val false [.sl .own [.sl .own [.leaf], .leaf, .leaf, .leaf, .leaf]] [.lst 0 []] [] 0), (5, .val false [.leaf] [.int .i64 0] [] 0)], 0⟩
def f83_s_B10Tracks.l0.A : Alt (Nat × List T) := .one (.exit 0) ⟨[(4, .val false [.sl .own [.sl .own [.leaf], .leaf, .leaf, .leaf, .leaf]] [.lst 0 []] [] 0)], 0⟩ sg_l
def f83_s_B10Tracks.l0.F (n m : Nat) (v : Nat × List T × Int × Int × Nat × List T × Int) := f83_s_B10Tracks.l0 n m v.1 v.2.1 v.2.2.1 v.2.2.2.1 v.2.2.2.2.1 v.2.2.2.2.2.1 v.2.2.2.2.2.2
def f83_s_B10Tracks.l0.W (n : Nat) : LpW := .of 64 f83_s_B10Tracks.l0.P sg_liili f83_s_B10Tracks.l0.A (f83_s_B10Tracks.l0.F n n)
def f83_s_B10Tracks.P : List Arg := [⟨.val, ⟨false, [.sl .shr [.leaf]], [.lst 0 []]⟩⟩]
def f83_s_B10Tracks.A : RAlt (Nat × List T) := .one ⟨[⟨false, [.sl .own [.sl .own [.leaf], .leaf, .leaf, .leaf, .leaf]], [.lst 0 []]⟩], [none]⟩ sg_l
def f83_s_B10Tracks.F (n : Nat) (v : Nat × List T) := f83_s_B10Tracks n v.1 v.2
noncomputable def f83_s_B10Tracks.O (n : Nat) : Orc := orcOf (E := E) [f90_s_l00From.w, f97_s_l00Srcpick.w, f158_s_l00Srcone.w, f98_s_l01DrawFloats.w] [f83_s_B10Tracks.l0.W n] n
theorem f83_s_B10Tracks.l0.ok (n : Nat) : LpOk (f83_s_B10Tracks.O n) E (evalFn E n) n (keepAt 83) (.loop (loopAt c83 0)) :=
  lp_pure f83_s_B10Tracks.l0.P sg_liili f83_s_B10Tracks.l0.A (f83_s_B10Tracks.l0.F n) (orcOf_cf _ _ n) (lpOk_of (bs := []) (by kernel_rfl) .nil) (fun _ => rfl) (fun _ _ => by kernel_rfl) (fun _ _ _ => by kernel_rfl)
theorem f83_s_B10Tracks.ok : ∀ n v x, f83_s_B10Tracks.F n v = some x → evalFn E n 83 (flAs f83_s_B10Tracks.P (sg_l.pk v)) = some (f83_s_B10Tracks.A.enc x) :=
  fn_pure (modes := (fdAt 83).ms) (outs := (fdAt 83).os) (results := (fdAt 83).rs) f83_s_B10Tracks.O (c := c83) (keep := keepAt 83) (by kernel_rfl) (fun n => orcOf_cf _ _ n) (fun n => lpOk_of (bs := [loopAt c83 0]) (by kernel_rfl) (.cons (f83_s_B10Tracks.l0.ok n) .nil)) (fun _ => rfl) (fun _ _ => by kernel_rfl)
noncomputable def f83_s_B10Tracks.w : FnW E := fnW 83 f83_s_B10Tracks.P sg_l f83_s_B10Tracks.A f83_s_B10Tracks.F f83_s_B10Tracks.ok

def f29_l_b10At : Nat → Nat → List T → Int → Int → Option (Int)
  | 0, _, _, _, _ => none
  | n + 1, n1, l2, i3, i4 =>
    br (decide (i4 ≤ (1 : Int))) (
     some (0 : Int)) (
     br (decide (i3 < ((n1 : Nat) : Int))) (
      gd ((decide (((0 : Int) ≤ i3) ∧ (i3 < ((n1 : Nat) : Int)))) && (okAt [(CK.int IntKind.u8)] l2 (Int.toNat i3))) (
      gd (!(decide (i4 = (0 : Int)))) (
      some (Int.tmod (IntKind.i64.wrap (iAt l2 (Int.toNat i3))) i4)))) (
      gd (!(decide (i4 = (0 : Int)))) (
      some (Int.tmod (IntKind.i64.wrap ((IntKind.i64.wrap (i3 * (37 : Int))) + (11 : Int))) i4))))
def f29_l_b10At.P : List Arg := [⟨.val, ⟨false, [.sl .shr [.leaf]], [.lst 0 []]⟩⟩, ⟨.val, ⟨false, [.leaf], [.int .i64 0]⟩⟩, ⟨.val, ⟨false, [.leaf], [.int .i64 0]⟩⟩]
def f29_l_b10At.A : RAlt (Int) := .one ⟨[⟨false, [.leaf], [.int .i64 0]⟩], [none, none, none]⟩ sg_i
def f29_l_b10At.F (n : Nat) (v : Nat × List T × Int × Int) := f29_l_b10At n v.1 v.2.1 v.2.2.1 v.2.2.2
noncomputable def f29_l_b10At.O (n : Nat) : Orc := orcOf (E := E) [] [] n
theorem f29_l_b10At.ok : ∀ n v x, f29_l_b10At.F n v = some x → evalFn E n 29 (flAs f29_l_b10At.P (sg_lii.pk v)) = some (f29_l_b10At.A.enc x) :=
  fn_pure (modes := (fdAt 29).ms) (outs := (fdAt 29).os) (results := (fdAt 29).rs) f29_l_b10At.O (c := c29) (keep := keepAt 29) (by kernel_rfl) (fun n => orcOf_cf _ _ n) (fun n => lpOk_of (bs := []) (by kernel_rfl) .nil) (fun _ => rfl) (fun _ _ => by kernel_rfl)
noncomputable def f29_l_b10At.w : FnW E := fnW 29 f29_l_b10At.P sg_lii f29_l_b10At.A f29_l_b10At.F f29_l_b10At.ok

def f92_i_areSamples : Nat → Nat → List T → Option (Bool)
  | 0, _, _ => none
  | n + 1, n1, l2 =>
    some (decide (((n1 : Nat) : Int) ≤ (256 : Int)))
def f92_i_areSamples.P : List Arg := [⟨.val, ⟨false, [.sl .shr [.leaf]], [.lst 0 []]⟩⟩]
def f92_i_areSamples.A : RAlt (Bool) := .one ⟨[⟨false, [.leaf], [.bool false]⟩], [none]⟩ sg_b
def f92_i_areSamples.F (n : Nat) (v : Nat × List T) := f92_i_areSamples n v.1 v.2
noncomputable def f92_i_areSamples.O (n : Nat) : Orc := orcOf (E := E) [] [] n
theorem f92_i_areSamples.ok : ∀ n v x, f92_i_areSamples.F n v = some x → evalFn E n 92 (flAs f92_i_areSamples.P (sg_l.pk v)) = some (f92_i_areSamples.A.enc x) :=
  fn_pure (modes := (fdAt 92).ms) (outs := (fdAt 92).os) (results := (fdAt 92).rs) f92_i_areSamples.O (c := c92) (keep := keepAt 92) (by kernel_rfl) (fun n => orcOf_cf _ _ n) (fun n => lpOk_of (bs := []) (by kernel_rfl) .nil) (fun _ => rfl) (fun _ _ => by kernel_rfl)
noncomputable def f92_i_areSamples.w : FnW E := fnW 92 f92_i_areSamples.P sg_l f92_i_areSamples.A f92_i_areSamples.F f92_i_areSamples.ok

def f93_i_within : Nat → Int → Int → Int → Option (Bool)
  | 0, _, _, _ => none
  | n + 1, i1, i2, i3 =>
    br (decide (i2 ≤ i1)) (
     some (decide (i1 ≤ i3))) (
     some false)
def sg_iii : Sig (Int × Int × Int) where
  pk := fun v => [.int v.1, .int v.2.1, .int v.2.2]
  up := fun ls => match ls with
    | [.int a0, .int a1, .int a2] => some (a0, a1, a2)
    | _ => none
  ok := by
    intro ls v h
    split at h
    · cases h; rfl
    · cases h

def f93_i_within.P : List Arg := [⟨.val, ⟨false, [.leaf], [.int .i64 0]⟩⟩, ⟨.val, ⟨false, [.leaf], [.int .i64 0]⟩⟩, ⟨.val, ⟨false, [.leaf], [.int .i64 0]⟩⟩]
def f93_i_within.A : RAlt (Bool) := .one ⟨[⟨false, [.leaf], [.bool false]⟩], [none, none, none]⟩ sg_b
def f93_i_within.F (n : Nat) (v : Int × Int × Int) := f93_i_within n v.1 v.2.1 v.2.2
noncomputable def f93_i_within.O (n : Nat) : Orc := orcOf (E := E) [] [] n
theorem f93_i_within.ok : ∀ n v x, f93_i_within.F n v = some x → evalFn E n 93 (flAs f93_i_within.P (sg_iii.pk v)) = some (f93_i_within.A.enc x) :=
  fn_pure (modes := (fdAt 93).ms) (outs := (fdAt 93).os) (results := (fdAt 93).rs) f93_i_within.O (c := c93) (keep := keepAt 93) (by kernel_rfl) (fun n => orcOf_cf _ _ n) (fun n => lpOk_of (bs := []) (by kernel_rfl) .nil) (fun _ => rfl) (fun _ _ => by kernel_rfl)
noncomputable def f93_i_within.w : FnW E := fnW 93 f93_i_within.P sg_iii f93_i_within.A f93_i_within.F f93_i_within.ok

def f147_i_isTenths : Nat → Int → Option (Bool)
  | 0, _ => none
  | n + 1, i1 =>
    bd (f93_i_within n i1 (-2000 : Int) (2000 : Int)) fun r2 =>
    let b3 : Bool := r2
    some b3
def f147_i_isTenths.P : List Arg := [⟨.val, ⟨false, [.leaf], [.int .i64 0]⟩⟩]
def f147_i_isTenths.A : RAlt (Bool) := .one ⟨[⟨false, [.leaf], [.bool false]⟩], [none]⟩ sg_b
def f147_i_isTenths.F (n : Nat) (v : Int) := f147_i_isTenths n v
noncomputable def f147_i_isTenths.O (n : Nat) : Orc := orcOf (E := E) [f93_i_within.w] [] n
theorem f147_i_isTenths.ok : ∀ n v x, f147_i_isTenths.F n v = some x → evalFn E n 147 (flAs f147_i_isTenths.P (sg_i.pk v)) = some (f147_i_isTenths.A.enc x) :=
  fn_pure (modes := (fdAt 147).ms) (outs := (fdAt 147).os) (results := (fdAt 147).rs) f147_i_isTenths.O (c := c147) (keep := keepAt 147) (by kernel_rfl) (fun n => orcOf_cf _ _ n) (fun n => lpOk_of (bs := []) (by kernel_rfl) .nil) (fun _ => rfl) (fun _ _ => by kernel_rfl)
noncomputable def f147_i_isTenths.w : FnW E := fnW 147 f147_i_isTenths.P sg_i f147_i_isTenths.A f147_i_isTenths.F f147_i_isTenths.ok

def f161_i_isPan : Nat → Nat → Option (Bool)
  | 0, _ => none
  | n + 1, x1 =>
    br (fge FloatKind.f32 x1 0) (
     some (fle FloatKind.f32 x1 1065353216)) (
     some false)
def f161_i_isPan.P : List Arg := [⟨.val, ⟨false, [.leaf], [.flt .f32 0]⟩⟩]
def f161_i_isPan.A : RAlt (Bool) := .one ⟨[⟨false, [.leaf], [.bool false]⟩], [none]⟩ sg_b
def f161_i_isPan.F (n : Nat) (v : Nat) := f161_i_isPan n v
noncomputable def f161_i_isPan.O (n : Nat) : Orc := orcOf (E := E) [] [] n
theorem f161_i_isPan.ok : ∀ n v x, f161_i_isPan.F n v = some x → evalFn E n 161 (flAs f161_i_isPan.P (sg_f.pk v)) = some (f161_i_isPan.A.enc x) :=
  fn_pure (modes := (fdAt 161).ms) (outs := (fdAt 161).os) (results := (fdAt 161).rs) f161_i_isPan.O (c := c161) (keep := keepAt 161) (by kernel_rfl) (fun n => orcOf_cf _ _ n) (fun n => lpOk_of (bs := []) (by kernel_rfl) .nil) (fun _ => rfl) (fun _ _ => by kernel_rfl)
noncomputable def f161_i_isPan.w : FnW E := fnW 161 f161_i_isPan.P sg_f f161_i_isPan.A f161_i_isPan.F f161_i_isPan.ok

def f86_i_AreTracks.l0 (n : Nat) : Nat → Nat → List T → Nat → List T → Int → Int → Option ((Bool) ⊕ (Unit))
  | 0, _, _, _, _, _, _ => none
  | m + 1, n1, l2, n3, l4, i5, i6 =>
    br (decide (i6 < i5)) (
     gd ((decide (((0 : Int) ≤ i6) ∧ (i6 < ((n3 : Nat) : Int)))) && (okAt [CK.lst, (CK.int IntKind.i64), (CK.flt FloatKind.f32), CK.bool, CK.bool] l4 (((Int.toNat i6) * 5) + 0))) (
     let n7 : Nat := (nAt l4 (((Int.toNat i6) * 5) + 0))
     let l8 : List T := (lAt l4 (((Int.toNat i6) * 5) + 0))
     let i9 : Int := (iAt l4 ((((Int.toNat i6) * 5) + 0) + 1))
     let x10 : Nat := (fAt l4 (((((Int.toNat i6) * 5) + 0) + 1) + 1))
     let b11 : Bool := (bAt l4 ((((((Int.toNat i6) * 5) + 0) + 1) + 1) + 1))
     let b12 : Bool := (bAt l4 (((((((Int.toNat i6) * 5) + 0) + 1) + 1) + 1) + 1))
     bd (f92_i_areSamples n n7 l8) fun r13 =>
     let b14 : Bool := r13
     br (!b14) (
      some (Sum.inl false)) (
      bd (f147_i_isTenths n i9) fun r15 =>
      let b16 : Bool := r15
      br (!b16) (
       some (Sum.inl false)) (
       bd (f161_i_isPan n x10) fun r17 =>
       let b18 : Bool := r17
       br (!b18) (
        some (Sum.inl false)) (
        f86_i_AreTracks.l0 n m n1 l2 n3 l4 i5 (IntKind.i64.wrap (i6 + (1 : Int)))))))) (
     some (Sum.inr ()))
def f86_i_AreTracks : Nat → Nat → List T → Option (Bool)
  | 0, _, _ => none
  | n + 1, n1, l2 =>
    br (decide (((n1 : Nat) : Int) > (8 : Int))) (
     some false) (
     bd (f86_i_AreTracks.l0 n n n1 l2 n1 l2 ((n1 : Nat) : Int) (0 : Int)) fun r3 =>
     sm r3 (fun u4 =>
      let b5 : Bool := u4
      some b5) (fun u6 =>
      some true))
def sg : Sig (Unit) where
  pk := fun v => []
  up := fun ls => match ls with
    | [] => some ()
    | _ => none
  ok := by
    intro ls v h
    split at h
    · cases h; rfl
    · cases h

def f86_i_AreTracks.l0.P : AS := ⟨[(0, .val false [.sl .shr [.sl .shr [.leaf], .leaf, .leaf, .leaf, .leaf]] [.lst 0 []] [] 0), (8, .val false [.sl .shr [.sl .shr [.leaf], .leaf, .leaf, .leaf, .leaf]] [.lst 0 []] [] 0), (9, .val false [.leaf] [.int .i64 0] [] 0), (10, .val false [.leaf] [.int .i64 0] [] 0)], 0⟩
def f86_i_AreTracks.l0.A : Alt ((Bool) ⊕ (Unit)) := .or (.one .ret ⟨[(2, .val false [.leaf] [.bool false] [] 0)], 0⟩ sg_b) (.one (.exit 0) ⟨[(2, .dead)], 0⟩ sg)
def f86_i_AreTracks.l0.F (n m : Nat) (v : Nat × List T × Nat × List T × Int × Int) := f86_i_AreTracks.l0 n m v.1 v.2.1 v.2.2.1 v.2.2.2.1 v.2.2.2.2.1 v.2.2.2.2.2
def f86_i_AreTracks.l0.W (n : Nat) : LpW := .of 64 f86_i_AreTracks.l0.P sg_llii f86_i_AreTracks.l0.A (f86_i_AreTracks.l0.F n n)
def f86_i_AreTracks.P : List Arg := [⟨.val, ⟨false, [.sl .shr [.sl .shr [.leaf], .leaf, .leaf, .leaf, .leaf]], [.lst 0 []]⟩⟩]
def f86_i_AreTracks.A : RAlt (Bool) := .one ⟨[⟨false, [.leaf], [.bool false]⟩], [none]⟩ sg_b
def f86_i_AreTracks.F (n : Nat) (v : Nat × List T) := f86_i_AreTracks n v.1 v.2
noncomputable def f86_i_AreTracks.O (n : Nat) : Orc := orcOf (E := E) [f92_i_areSamples.w, f147_i_isTenths.w, f161_i_isPan.w] [f86_i_AreTracks.l0.W n] n
theorem f86_i_AreTracks.l0.ok (n : Nat) : LpOk (f86_i_AreTracks.O n) E (evalFn E n) n (keepAt 86) (.loop (loopAt c86 0)) :=
  lp_pure f86_i_AreTracks.l0.P sg_llii f86_i_AreTracks.l0.A (f86_i_AreTracks.l0.F n) (orcOf_cf _ _ n) (lpOk_of (bs := []) (by kernel_rfl) .nil) (fun _ => rfl) (fun _ _ => by kernel_rfl) (fun _ _ _ => by kernel_rfl)
theorem f86_i_AreTracks.ok : ∀ n v x, f86_i_AreTracks.F n v = some x → evalFn E n 86 (flAs f86_i_AreTracks.P (sg_l.pk v)) = some (f86_i_AreTracks.A.enc x) :=
  fn_pure (modes := (fdAt 86).ms) (outs := (fdAt 86).os) (results := (fdAt 86).rs) f86_i_AreTracks.O (c := c86) (keep := keepAt 86) (by kernel_rfl) (fun n => orcOf_cf _ _ n) (fun n => lpOk_of (bs := [loopAt c86 0]) (by kernel_rfl) (.cons (f86_i_AreTracks.l0.ok n) .nil)) (fun _ => rfl) (fun _ _ => by kernel_rfl)
noncomputable def f86_i_AreTracks.w : FnW E := fnW 86 f86_i_AreTracks.P sg_l f86_i_AreTracks.A f86_i_AreTracks.F f86_i_AreTracks.ok

def f121_i_isCount : Nat → Int → Option (Bool)
  | 0, _ => none
  | n + 1, i1 =>
    bd (f93_i_within n i1 (0 : Int) (256 : Int)) fun r2 =>
    let b3 : Bool := r2
    some b3
def f121_i_isCount.P : List Arg := [⟨.val, ⟨false, [.leaf], [.int .i64 0]⟩⟩]
def f121_i_isCount.A : RAlt (Bool) := .one ⟨[⟨false, [.leaf], [.bool false]⟩], [none]⟩ sg_b
def f121_i_isCount.F (n : Nat) (v : Int) := f121_i_isCount n v
noncomputable def f121_i_isCount.O (n : Nat) : Orc := orcOf (E := E) [f93_i_within.w] [] n
theorem f121_i_isCount.ok : ∀ n v x, f121_i_isCount.F n v = some x → evalFn E n 121 (flAs f121_i_isCount.P (sg_i.pk v)) = some (f121_i_isCount.A.enc x) :=
  fn_pure (modes := (fdAt 121).ms) (outs := (fdAt 121).os) (results := (fdAt 121).rs) f121_i_isCount.O (c := c121) (keep := keepAt 121) (by kernel_rfl) (fun n => orcOf_cf _ _ n) (fun n => lpOk_of (bs := []) (by kernel_rfl) .nil) (fun _ => rfl) (fun _ _ => by kernel_rfl)
noncomputable def f121_i_isCount.w : FnW E := fnW 121 f121_i_isCount.P sg_i f121_i_isCount.A f121_i_isCount.F f121_i_isCount.ok

def f108_i_zeros : Nat → Int → Option (Nat × List T)
  | 0, _ => none
  | n + 1, i1 =>
    gd (decide (((0 : Int) ≤ i1) ∧ (i1 ≤ (2147483648 : Int)))) (
    some ((Int.toNat i1), (reps (Int.toNat i1) [(T.flt FloatKind.f32 0)])))
def f108_i_zeros.P : List Arg := [⟨.val, ⟨false, [.leaf], [.int .i64 0]⟩⟩]
def f108_i_zeros.A : RAlt (Nat × List T) := .one ⟨[⟨false, [.sl .own [.leaf]], [.lst 0 []]⟩], [none]⟩ sg_l
def f108_i_zeros.F (n : Nat) (v : Int) := f108_i_zeros n v
noncomputable def f108_i_zeros.O (n : Nat) : Orc := orcOf (E := E) [] [] n
theorem f108_i_zeros.ok : ∀ n v x, f108_i_zeros.F n v = some x → evalFn E n 108 (flAs f108_i_zeros.P (sg_i.pk v)) = some (f108_i_zeros.A.enc x) :=
  fn_pure (modes := (fdAt 108).ms) (outs := (fdAt 108).os) (results := (fdAt 108).rs) f108_i_zeros.O (c := c108) (keep := keepAt 108) (by kernel_rfl) (fun n => orcOf_cf _ _ n) (fun n => lpOk_of (bs := []) (by kernel_rfl) .nil) (fun _ => rfl) (fun _ _ => by kernel_rfl)
noncomputable def f108_i_zeros.w : FnW E := fnW 108 f108_i_zeros.P sg_i f108_i_zeros.A f108_i_zeros.F f108_i_zeros.ok

def f160_i_heardTracks.l0 (n : Nat) : Nat → Nat → List T → Nat → List T → Nat → List T → Nat → List T → Int → Int → Option (Nat × List T × Nat × List T)
  | 0, _, _, _, _, _, _, _, _, _, _ => none
  | m + 1, n1, l2, n3, l4, n5, l6, n7, l8, i9, i10 =>
    br (decide (i10 < i9)) (
     gd ((decide (((0 : Int) ≤ i10) ∧ (i10 < ((n7 : Nat) : Int)))) && (okAt [CK.lst, (CK.int IntKind.i64), (CK.flt FloatKind.f32), CK.bool, CK.bool] l8 (((Int.toNat i10) * 5) + 0))) (
     let n11 : Nat := (nAt l8 (((Int.toNat i10) * 5) + 0))
     let l12 : List T := (lAt l8 (((Int.toNat i10) * 5) + 0))
     let i13 : Int := (iAt l8 ((((Int.toNat i10) * 5) + 0) + 1))
     let x14 : Nat := (fAt l8 (((((Int.toNat i10) * 5) + 0) + 1) + 1))
     let b15 : Bool := (bAt l8 ((((((Int.toNat i10) * 5) + 0) + 1) + 1) + 1))
     let b16 : Bool := (bAt l8 (((((((Int.toNat i10) * 5) + 0) + 1) + 1) + 1) + 1))
     gd (Nat.ble (n3 + 1) 2147483648) (
     gd (Nat.ble (n5 + 1) 2147483648) (
     let n17 : Nat := (n3 + 1)
     let l18 : List T := (l4 ++ (setN (reps 1 [(T.bool false)]) 0 [(T.bool b15)]))
     let n19 : Nat := (n5 + 1)
     let l20 : List T := (l6 ++ (setN (reps 1 [(T.bool false)]) 0 [(T.bool b16)]))
     f160_i_heardTracks.l0 n m n1 l2 n17 l18 n19 l20 n7 l8 i9 (IntKind.i64.wrap (i10 + (1 : Int))))))) (
     some (n3, l4, n5, l6))
def f199_slicesIndexboolbool.l0 (n : Nat) : Nat → Nat → List T → Bool → Int → Int → Option ((Int) ⊕ (Unit))
  | 0, _, _, _, _, _ => none
  | m + 1, n1, l2, b3, i4, i5 =>
    br (decide (i5 < i4)) (
     gd ((decide (((0 : Int) ≤ i5) ∧ (i5 < ((n1 : Nat) : Int)))) && (okAt [CK.bool] l2 (Int.toNat i5))) (
     br (b3 == (bAt l2 (Int.toNat i5))) (
      some (Sum.inl i5)) (
      f199_slicesIndexboolbool.l0 n m n1 l2 b3 i4 (IntKind.i64.wrap (i5 + (1 : Int)))))) (
     some (Sum.inr ()))
def f199_slicesIndexboolbool : Nat → Nat → List T → Bool → Option (Int)
  | 0, _, _, _ => none
  | n + 1, n1, l2, b3 =>
    bd (f199_slicesIndexboolbool.l0 n n n1 l2 b3 ((n1 : Nat) : Int) (0 : Int)) fun r4 =>
    sm r4 (fun u5 =>
     let i6 : Int := u5
     some i6) (fun u7 =>
     some (-1 : Int))
def sg_lb : Sig (Nat × List T × Bool) where
  pk := fun v => [.lst v.1 v.2.1, .bool v.2.2]
  up := fun ls => match ls with
    | [.lst a0 a1, .bool a2] => some (a0, a1, a2)
    | _ => none
  ok := by
    intro ls v h
    split at h
    · cases h; rfl
    · cases h

def sg_lbii : Sig (Nat × List T × Bool × Int × Int) where
  pk := fun v => [.lst v.1 v.2.1, .bool v.2.2.1, .int v.2.2.2.1, .int v.2.2.2.2]
  up := fun ls => match ls with
    | [.lst a0 a1, .bool a2, .int a3, .int a4] => some (a0, a1, a2, a3, a4)
    | _ => none
  ok := by
    intro ls v h
    split at h
    · cases h; rfl
    · cases h

def f199_slicesIndexboolbool.l0.P : AS := ⟨[(0, .val false [.sl .shr [.leaf]] [.lst 0 []] [] 0), (1, .val false [.leaf] [.bool false] [] 0), (7, .val false [.leaf] [.int .i64 0] [] 0), (8, .val false [.leaf] [.int .i64 0] [] 0)], 0⟩
def f199_slicesIndexboolbool.l0.A : Alt ((Int) ⊕ (Unit)) := .or (.one .ret ⟨[(4, .val false [.leaf] [.int .i64 0] [] 0)], 0⟩ sg_i) (.one (.exit 0) ⟨[(4, .dead)], 0⟩ sg)
def f199_slicesIndexboolbool.l0.F (n m : Nat) (v : Nat × List T × Bool × Int × Int) := f199_slicesIndexboolbool.l0 n m v.1 v.2.1 v.2.2.1 v.2.2.2.1 v.2.2.2.2
def f199_slicesIndexboolbool.l0.W (n : Nat) : LpW := .of 32 f199_slicesIndexboolbool.l0.P sg_lbii f199_slicesIndexboolbool.l0.A (f199_slicesIndexboolbool.l0.F n n)
def f199_slicesIndexboolbool.P : List Arg := [⟨.val, ⟨false, [.sl .shr [.leaf]], [.lst 0 []]⟩⟩, ⟨.val, ⟨false, [.leaf], [.bool false]⟩⟩]
def f199_slicesIndexboolbool.A : RAlt (Int) := .one ⟨[⟨false, [.leaf], [.int .i64 0]⟩], [none, none]⟩ sg_i
def f199_slicesIndexboolbool.F (n : Nat) (v : Nat × List T × Bool) := f199_slicesIndexboolbool n v.1 v.2.1 v.2.2
noncomputable def f199_slicesIndexboolbool.O (n : Nat) : Orc := orcOf (E := E) [] [f199_slicesIndexboolbool.l0.W n] n
theorem f199_slicesIndexboolbool.l0.ok (n : Nat) : LpOk (f199_slicesIndexboolbool.O n) E (evalFn E n) n (keepAt 199) (.loop (loopAt c199 0)) :=
  lp_pure f199_slicesIndexboolbool.l0.P sg_lbii f199_slicesIndexboolbool.l0.A (f199_slicesIndexboolbool.l0.F n) (orcOf_cf _ _ n) (lpOk_of (bs := []) (by kernel_rfl) .nil) (fun _ => rfl) (fun _ _ => by kernel_rfl) (fun _ _ _ => by kernel_rfl)
theorem f199_slicesIndexboolbool.ok : ∀ n v x, f199_slicesIndexboolbool.F n v = some x → evalFn E n 199 (flAs f199_slicesIndexboolbool.P (sg_lb.pk v)) = some (f199_slicesIndexboolbool.A.enc x) :=
  fn_pure (modes := (fdAt 199).ms) (outs := (fdAt 199).os) (results := (fdAt 199).rs) f199_slicesIndexboolbool.O (c := c199) (keep := keepAt 199) (by kernel_rfl) (fun n => orcOf_cf _ _ n) (fun n => lpOk_of (bs := [loopAt c199 0]) (by kernel_rfl) (.cons (f199_slicesIndexboolbool.l0.ok n) .nil)) (fun _ => rfl) (fun _ _ => by kernel_rfl)
noncomputable def f199_slicesIndexboolbool.w : FnW E := fnW 199 f199_slicesIndexboolbool.P sg_lb f199_slicesIndexboolbool.A f199_slicesIndexboolbool.F f199_slicesIndexboolbool.ok

def f191_slicesContainsboolbool : Nat → Nat → List T → Bool → Option (Bool)
  | 0, _, _, _ => none
  | n + 1, n1, l2, b3 =>
    bd (f199_slicesIndexboolbool n n1 l2 b3) fun r4 =>
    let i5 : Int := r4
    some (decide (i5 ≥ (0 : Int)))
def f191_slicesContainsboolbool.P : List Arg := [⟨.val, ⟨false, [.sl .shr [.leaf]], [.lst 0 []]⟩⟩, ⟨.val, ⟨false, [.leaf], [.bool false]⟩⟩]
def f191_slicesContainsboolbool.A : RAlt (Bool) := .one ⟨[⟨false, [.leaf], [.bool false]⟩], [none, none]⟩ sg_b
def f191_slicesContainsboolbool.F (n : Nat) (v : Nat × List T × Bool) := f191_slicesContainsboolbool n v.1 v.2.1 v.2.2
noncomputable def f191_slicesContainsboolbool.O (n : Nat) : Orc := orcOf (E := E) [f199_slicesIndexboolbool.w] [] n
theorem f191_slicesContainsboolbool.ok : ∀ n v x, f191_slicesContainsboolbool.F n v = some x → evalFn E n 191 (flAs f191_slicesContainsboolbool.P (sg_lb.pk v)) = some (f191_slicesContainsboolbool.A.enc x) :=
  fn_pure (modes := (fdAt 191).ms) (outs := (fdAt 191).os) (results := (fdAt 191).rs) f191_slicesContainsboolbool.O (c := c191) (keep := keepAt 191) (by kernel_rfl) (fun n => orcOf_cf _ _ n) (fun n => lpOk_of (bs := []) (by kernel_rfl) .nil) (fun _ => rfl) (fun _ _ => by kernel_rfl)
noncomputable def f191_slicesContainsboolbool.w : FnW E := fnW 191 f191_slicesContainsboolbool.P sg_lb f191_slicesContainsboolbool.A f191_slicesContainsboolbool.F f191_slicesContainsboolbool.ok

def f182_i_heard.l0 (n : Nat) : Nat → Nat → List T → Nat → List T → Bool → Nat → List T → Nat → List T → Int → Int → Option (Nat × List T)
  | 0, _, _, _, _, _, _, _, _, _, _, _ => none
  | m + 1, n1, l2, n3, l4, b5, n6, l7, n8, l9, i10, i11 =>
    br (decide (i11 < i10)) (
     gd ((decide (((0 : Int) ≤ i11) ∧ (i11 < ((n8 : Nat) : Int)))) && (okAt [CK.bool] l9 (Int.toNat i11))) (
     let b12 : Bool := (bAt l9 (Int.toNat i11))
     br (!b12) (
      gd ((decide (((0 : Int) ≤ i11) ∧ (i11 < ((n3 : Nat) : Int)))) && (okAt [CK.bool] l4 (Int.toNat i11))) (
      br (bAt l4 (Int.toNat i11)) (
       gd (Nat.ble (n6 + 1) 2147483648) (
       let n13 : Nat := (n6 + 1)
       let l14 : List T := (l7 ++ (setN (reps 1 [(T.bool false)]) 0 [(T.bool true)]))
       f182_i_heard.l0 n m n1 l2 n3 l4 b5 n13 l14 n8 l9 i10 (IntKind.i64.wrap (i11 + (1 : Int))))) (
       gd (Nat.ble (n6 + 1) 2147483648) (
       let n15 : Nat := (n6 + 1)
       let l16 : List T := (l7 ++ (setN (reps 1 [(T.bool false)]) 0 [(T.bool (!b5))]))
       f182_i_heard.l0 n m n1 l2 n3 l4 b5 n15 l16 n8 l9 i10 (IntKind.i64.wrap (i11 + (1 : Int))))))) (
      gd (Nat.ble (n6 + 1) 2147483648) (
      let n17 : Nat := (n6 + 1)
      let l18 : List T := (l7 ++ (setN (reps 1 [(T.bool false)]) 0 [(T.bool false)]))
      f182_i_heard.l0 n m n1 l2 n3 l4 b5 n17 l18 n8 l9 i10 (IntKind.i64.wrap (i11 + (1 : Int))))))) (
     some (n6, l7))
def f182_i_heard : Nat → Nat → List T → Nat → List T → Option (Nat × List T)
  | 0, _, _, _, _ => none
  | n + 1, n1, l2, n3, l4 =>
    bd (f191_slicesContainsboolbool n n3 l4 true) fun r5 =>
    let b6 : Bool := r5
    bd (f182_i_heard.l0 n n n1 l2 n3 l4 b6 0 [] n1 l2 ((n1 : Nat) : Int) (0 : Int)) fun r7 =>
    let n8 : Nat := r7.1
    let l9 : List T := r7.2
    some (n8, l9)
def sg_llbllii : Sig (Nat × List T × Nat × List T × Bool × Nat × List T × Nat × List T × Int × Int) where
  pk := fun v => [.lst v.1 v.2.1, .lst v.2.2.1 v.2.2.2.1, .bool v.2.2.2.2.1, .lst v.2.2.2.2.2.1 v.2.2.2.2.2.2.1, .lst v.2.2.2.2.2.2.2.1 v.2.2.2.2.2.2.2.2.1, .int v.2.2.2.2.2.2.2.2.2.1, .int v.2.2.2.2.2.2.2.2.2.2]
  up := fun ls => match ls with
    | [.lst a0 a1, .lst a2 a3, .bool a4, .lst a5 a6, .lst a7 a8, .int a9, .int a10] => some (a0, a1, a2, a3, a4, a5, a6, a7, a8, a9, a10)
    | _ => none
  ok := by
    intro ls v h
    split at h
    · cases h; rfl
    · cases h

def f182_i_heard.l0.P : AS := ⟨[(0, .val false [.sl .shr [.leaf]] [.lst 0 []] [] 0), (1, .val false [.sl .shr [.leaf]] [.lst 0 []] [] 0), (5, .val false [.leaf] [.bool false] [] 0), (6, .val false [.sl .own [.leaf]] [.lst 0 []] [] 0), (11, .val false [.sl .shr [.leaf]] [.lst 0 []] [] 0), (12, .val false [.leaf] [.int .i64 0] [] 0), (13, .val false [.leaf] [.int .i64 0] [] 0)], 0⟩
def f182_i_heard.l0.A : Alt (Nat × List T) := .one (.exit 0) ⟨[(6, .val false [.sl .own [.leaf]] [.lst 0 []] [] 0)], 0⟩ sg_l
def f182_i_heard.l0.F (n m : Nat) (v : Nat × List T × Nat × List T × Bool × Nat × List T × Nat × List T × Int × Int) := f182_i_heard.l0 n m v.1 v.2.1 v.2.2.1 v.2.2.2.1 v.2.2.2.2.1 v.2.2.2.2.2.1 v.2.2.2.2.2.2.1 v.2.2.2.2.2.2.2.1 v.2.2.2.2.2.2.2.2.1 v.2.2.2.2.2.2.2.2.2.1 v.2.2.2.2.2.2.2.2.2.2
def f182_i_heard.l0.W (n : Nat) : LpW := .of 64 f182_i_heard.l0.P sg_llbllii f182_i_heard.l0.A (f182_i_heard.l0.F n n)
def f182_i_heard.P : List Arg := [⟨.val, ⟨false, [.sl .shr [.leaf]], [.lst 0 []]⟩⟩, ⟨.val, ⟨false, [.sl .shr [.leaf]], [.lst 0 []]⟩⟩]
def f182_i_heard.A : RAlt (Nat × List T) := .one ⟨[⟨false, [.sl .own [.leaf]], [.lst 0 []]⟩], [none, none]⟩ sg_l
def f182_i_heard.F (n : Nat) (v : Nat × List T × Nat × List T) := f182_i_heard n v.1 v.2.1 v.2.2.1 v.2.2.2
noncomputable def f182_i_heard.O (n : Nat) : Orc := orcOf (E := E) [f191_slicesContainsboolbool.w] [f182_i_heard.l0.W n] n
theorem f182_i_heard.l0.ok (n : Nat) : LpOk (f182_i_heard.O n) E (evalFn E n) n (keepAt 182) (.loop (loopAt c182 0)) :=
  lp_pure f182_i_heard.l0.P sg_llbllii f182_i_heard.l0.A (f182_i_heard.l0.F n) (orcOf_cf _ _ n) (lpOk_of (bs := []) (by kernel_rfl) .nil) (fun _ => rfl) (fun _ _ => by kernel_rfl) (fun _ _ _ => by kernel_rfl)
theorem f182_i_heard.ok : ∀ n v x, f182_i_heard.F n v = some x → evalFn E n 182 (flAs f182_i_heard.P (sg_ll.pk v)) = some (f182_i_heard.A.enc x) :=
  fn_pure (modes := (fdAt 182).ms) (outs := (fdAt 182).os) (results := (fdAt 182).rs) f182_i_heard.O (c := c182) (keep := keepAt 182) (by kernel_rfl) (fun n => orcOf_cf _ _ n) (fun n => lpOk_of (bs := [loopAt c182 0]) (by kernel_rfl) (.cons (f182_i_heard.l0.ok n) .nil)) (fun _ => rfl) (fun _ _ => by kernel_rfl)
noncomputable def f182_i_heard.w : FnW E := fnW 182 f182_i_heard.P sg_ll f182_i_heard.A f182_i_heard.F f182_i_heard.ok

def f160_i_heardTracks : Nat → Nat → List T → Option (Nat × List T)
  | 0, _, _ => none
  | n + 1, n1, l2 =>
    bd (f160_i_heardTracks.l0 n n n1 l2 0 [] 0 [] n1 l2 ((n1 : Nat) : Int) (0 : Int)) fun r3 =>
    let n4 : Nat := r3.1
    let l5 : List T := r3.2.1
    let n6 : Nat := r3.2.2.1
    let l7 : List T := r3.2.2.2
    bd (f182_i_heard n n4 l5 n6 l7) fun r8 =>
    let n9 : Nat := r8.1
    let l10 : List T := r8.2
    some (n9, l10)
def sg_llllii : Sig (Nat × List T × Nat × List T × Nat × List T × Nat × List T × Int × Int) where
  pk := fun v => [.lst v.1 v.2.1, .lst v.2.2.1 v.2.2.2.1, .lst v.2.2.2.2.1 v.2.2.2.2.2.1, .lst v.2.2.2.2.2.2.1 v.2.2.2.2.2.2.2.1, .int v.2.2.2.2.2.2.2.2.1, .int v.2.2.2.2.2.2.2.2.2]
  up := fun ls => match ls with
    | [.lst a0 a1, .lst a2 a3, .lst a4 a5, .lst a6 a7, .int a8, .int a9] => some (a0, a1, a2, a3, a4, a5, a6, a7, a8, a9)
    | _ => none
  ok := by
    intro ls v h
    split at h
    · cases h; rfl
    · cases h

def f160_i_heardTracks.l0.P : AS := ⟨[(0, .val false [.sl .shr [.sl .shr [.leaf], .leaf, .leaf, .leaf, .leaf]] [.lst 0 []] [] 0), (3, .val false [.sl .own [.leaf]] [.lst 0 []] [] 0), (4, .val false [.sl .own [.leaf]] [.lst 0 []] [] 0), (7, .val false [.sl .shr [.sl .shr [.leaf], .leaf, .leaf, .leaf, .leaf]] [.lst 0 []] [] 0), (8, .val false [.leaf] [.int .i64 0] [] 0), (9, .val false [.leaf] [.int .i64 0] [] 0)], 0⟩
def f160_i_heardTracks.l0.A : Alt (Nat × List T × Nat × List T) := .one (.exit 0) ⟨[(3, .val false [.sl .own [.leaf]] [.lst 0 []] [] 0), (4, .val false [.sl .own [.leaf]] [.lst 0 []] [] 0)], 0⟩ sg_ll
def f160_i_heardTracks.l0.F (n m : Nat) (v : Nat × List T × Nat × List T × Nat × List T × Nat × List T × Int × Int) := f160_i_heardTracks.l0 n m v.1 v.2.1 v.2.2.1 v.2.2.2.1 v.2.2.2.2.1 v.2.2.2.2.2.1 v.2.2.2.2.2.2.1 v.2.2.2.2.2.2.2.1 v.2.2.2.2.2.2.2.2.1 v.2.2.2.2.2.2.2.2.2
def f160_i_heardTracks.l0.W (n : Nat) : LpW := .of 48 f160_i_heardTracks.l0.P sg_llllii f160_i_heardTracks.l0.A (f160_i_heardTracks.l0.F n n)
def f160_i_heardTracks.P : List Arg := [⟨.val, ⟨false, [.sl .shr [.sl .shr [.leaf], .leaf, .leaf, .leaf, .leaf]], [.lst 0 []]⟩⟩]
def f160_i_heardTracks.A : RAlt (Nat × List T) := .one ⟨[⟨false, [.sl .own [.leaf]], [.lst 0 []]⟩], [none]⟩ sg_l
def f160_i_heardTracks.F (n : Nat) (v : Nat × List T) := f160_i_heardTracks n v.1 v.2
noncomputable def f160_i_heardTracks.O (n : Nat) : Orc := orcOf (E := E) [f182_i_heard.w] [f160_i_heardTracks.l0.W n] n
theorem f160_i_heardTracks.l0.ok (n : Nat) : LpOk (f160_i_heardTracks.O n) E (evalFn E n) n (keepAt 160) (.loop (loopAt c160 0)) :=
  lp_pure f160_i_heardTracks.l0.P sg_llllii f160_i_heardTracks.l0.A (f160_i_heardTracks.l0.F n) (orcOf_cf _ _ n) (lpOk_of (bs := []) (by kernel_rfl) .nil) (fun _ => rfl) (fun _ _ => by kernel_rfl) (fun _ _ _ => by kernel_rfl)
theorem f160_i_heardTracks.ok : ∀ n v x, f160_i_heardTracks.F n v = some x → evalFn E n 160 (flAs f160_i_heardTracks.P (sg_l.pk v)) = some (f160_i_heardTracks.A.enc x) :=
  fn_pure (modes := (fdAt 160).ms) (outs := (fdAt 160).os) (results := (fdAt 160).rs) f160_i_heardTracks.O (c := c160) (keep := keepAt 160) (by kernel_rfl) (fun n => orcOf_cf _ _ n) (fun n => lpOk_of (bs := [loopAt c160 0]) (by kernel_rfl) (.cons (f160_i_heardTracks.l0.ok n) .nil)) (fun _ => rfl) (fun _ _ => by kernel_rfl)
noncomputable def f160_i_heardTracks.w : FnW E := fnW 160 f160_i_heardTracks.P sg_l f160_i_heardTracks.A f160_i_heardTracks.F f160_i_heardTracks.ok

def f149_mathInf : Nat → Int → Option (Nat)
  | 0, _ => none
  | n + 1, i1 =>
    br (decide (i1 ≥ (0 : Int))) (
     bd (xF64frombits n (9218868437227405312 : Int)) fun r2 =>
     let x3 : Nat := r2
     some x3) (
     bd (xF64frombits n (18442240474082181120 : Int)) fun r4 =>
     let x5 : Nat := r4
     some x5)
def f149_mathInf.P : List Arg := [⟨.val, ⟨false, [.leaf], [.int .i64 0]⟩⟩]
def f149_mathInf.A : RAlt (Nat) := .one ⟨[⟨false, [.leaf], [.flt .f64 0]⟩], [none]⟩ sg_f
def f149_mathInf.F (n : Nat) (v : Int) := f149_mathInf n v
noncomputable def f149_mathInf.O (n : Nat) : Orc := orcOf (E := E) [x178.w] [] n
theorem f149_mathInf.ok : ∀ n v x, f149_mathInf.F n v = some x → evalFn E n 149 (flAs f149_mathInf.P (sg_i.pk v)) = some (f149_mathInf.A.enc x) :=
  fn_pure (modes := (fdAt 149).ms) (outs := (fdAt 149).os) (results := (fdAt 149).rs) f149_mathInf.O (c := c149) (keep := keepAt 149) (by kernel_rfl) (fun n => orcOf_cf _ _ n) (fun n => lpOk_of (bs := []) (by kernel_rfl) .nil) (fun _ => rfl) (fun _ _ => by kernel_rfl)
noncomputable def f149_mathInf.w : FnW E := fnW 149 f149_mathInf.P sg_i f149_mathInf.A f149_mathInf.F f149_mathInf.ok

def f148_i_exponential.l0 (n : Nat) : Nat → Nat → Nat → Nat → Option (Nat)
  | 0, _, _, _ => none
  | m + 1, x1, x2, x3 =>
    br (fge FloatKind.f64 x3 4607182418800017408) (
     let x4 : Nat := (fadd FloatKind.f64 4607182418800017408 (fdiv FloatKind.f64 (fmul FloatKind.f64 x1 x2) x3))
     f148_i_exponential.l0 n m x1 x4 (fsub FloatKind.f64 x3 4607182418800017408)) (
     some x2)
def f148_i_exponential.l1 (n : Nat) : Nat → Nat → Int → Option (Nat)
  | 0, _, _ => none
  | m + 1, x1, i2 =>
    br (decide (i2 < (8 : Int))) (
     let x3 : Nat := (fmul FloatKind.f64 x1 x1)
     f148_i_exponential.l1 n m x3 (IntKind.i64.wrap (i2 + (1 : Int)))) (
     some x1)
def f148_i_exponential : Nat → Nat → Option (Nat)
  | 0, _ => none
  | n + 1, x1 =>
    br (fgt FloatKind.f64 x1 4641240890982006784) (
     bd (f149_mathInf n (1 : Int)) fun r2 =>
     let x3 : Nat := r2
     some x3) (
     br (flt FloatKind.f64 x1 13864612927836782592) (
      some 0) (
      let x4 : Nat := (fdiv FloatKind.f64 x1 4643211215818981376)
      bd (f148_i_exponential.l0 n n x4 4607182418800017408 4622945017495814144) fun r5 =>
      let x6 : Nat := r5
      bd (f148_i_exponential.l1 n n x6 (0 : Int)) fun r7 =>
      let x8 : Nat := r7
      some x8))
def sg_fff : Sig (Nat × Nat × Nat) where
  pk := fun v => [.flt v.1, .flt v.2.1, .flt v.2.2]
  up := fun ls => match ls with
    | [.flt a0, .flt a1, .flt a2] => some (a0, a1, a2)
    | _ => none
  ok := by
    intro ls v h
    split at h
    · cases h; rfl
    · cases h

def sg_fi : Sig (Nat × Int) where
  pk := fun v => [.flt v.1, .int v.2]
  up := fun ls => match ls with
    | [.flt a0, .int a1] => some (a0, a1)
    | _ => none
  ok := by
    intro ls v h
    split at h
    · cases h; rfl
    · cases h

def f148_i_exponential.l0.P : AS := ⟨[(3, .val false [.leaf] [.flt .f64 0] [] 0), (4, .val false [.leaf] [.flt .f64 0] [] 0), (5, .val false [.leaf] [.flt .f64 0] [] 0)], 0⟩
def f148_i_exponential.l0.A : Alt (Nat) := .one (.exit 1) ⟨[(4, .val false [.leaf] [.flt .f64 0] [] 0)], 0⟩ sg_f
def f148_i_exponential.l0.F (n m : Nat) (v : Nat × Nat × Nat) := f148_i_exponential.l0 n m v.1 v.2.1 v.2.2
def f148_i_exponential.l0.W (n : Nat) : LpW := .of 112 f148_i_exponential.l0.P sg_fff f148_i_exponential.l0.A (f148_i_exponential.l0.F n n)
def f148_i_exponential.l1.P : AS := ⟨[(4, .val false [.leaf] [.flt .f64 0] [] 0), (6, .val false [.leaf] [.int .i64 0] [] 0)], 0⟩
def f148_i_exponential.l1.A : Alt (Nat) := .one (.exit 3) ⟨[(4, .val false [.leaf] [.flt .f64 0] [] 0)], 0⟩ sg_f
def f148_i_exponential.l1.F (n m : Nat) (v : Nat × Int) := f148_i_exponential.l1 n m v.1 v.2
def f148_i_exponential.l1.W (n : Nat) : LpW := .of 176 f148_i_exponential.l1.P sg_fi f148_i_exponential.l1.A (f148_i_exponential.l1.F n n)
def f148_i_exponential.P : List Arg := [⟨.val, ⟨false, [.leaf], [.flt .f64 0]⟩⟩]
def f148_i_exponential.A : RAlt (Nat) := .one ⟨[⟨false, [.leaf], [.flt .f64 0]⟩], [none]⟩ sg_f
def f148_i_exponential.F (n : Nat) (v : Nat) := f148_i_exponential n v
noncomputable def f148_i_exponential.O (n : Nat) : Orc := orcOf (E := E) [f149_mathInf.w] [f148_i_exponential.l0.W n, f148_i_exponential.l1.W n] n
theorem f148_i_exponential.l0.ok (n : Nat) : LpOk (f148_i_exponential.O n) E (evalFn E n) n (keepAt 148) (.loop (loopAt c148 0)) :=
  lp_pure f148_i_exponential.l0.P sg_fff f148_i_exponential.l0.A (f148_i_exponential.l0.F n) (orcOf_cf _ _ n) (lpOk_of (bs := []) (by kernel_rfl) .nil) (fun _ => rfl) (fun _ _ => by kernel_rfl) (fun _ _ _ => by kernel_rfl)
theorem f148_i_exponential.l1.ok (n : Nat) : LpOk (f148_i_exponential.O n) E (evalFn E n) n (keepAt 148) (.loop (loopAt c148 1)) :=
  lp_pure f148_i_exponential.l1.P sg_fi f148_i_exponential.l1.A (f148_i_exponential.l1.F n) (orcOf_cf _ _ n) (lpOk_of (bs := []) (by kernel_rfl) .nil) (fun _ => rfl) (fun _ _ => by kernel_rfl) (fun _ _ _ => by kernel_rfl)
theorem f148_i_exponential.ok : ∀ n v x, f148_i_exponential.F n v = some x → evalFn E n 148 (flAs f148_i_exponential.P (sg_f.pk v)) = some (f148_i_exponential.A.enc x) :=
  fn_pure (modes := (fdAt 148).ms) (outs := (fdAt 148).os) (results := (fdAt 148).rs) f148_i_exponential.O (c := c148) (keep := keepAt 148) (by kernel_rfl) (fun n => orcOf_cf _ _ n) (fun n => lpOk_of (bs := [loopAt c148 0, loopAt c148 1]) (by kernel_rfl) (.cons (f148_i_exponential.l0.ok n) (.cons (f148_i_exponential.l1.ok n) .nil))) (fun _ => rfl) (fun _ _ => by kernel_rfl)
noncomputable def f148_i_exponential.w : FnW E := fnW 148 f148_i_exponential.P sg_f f148_i_exponential.A f148_i_exponential.F f148_i_exponential.ok

def f72_i_GainOf : Nat → Int → Option (Nat × Bool)
  | 0, _ => none
  | n + 1, i1 =>
    bd (f147_i_isTenths n i1) fun r2 =>
    let b3 : Bool := r2
    br (!b3) (
     some (0, false)) (
     bd (f148_i_exponential n (fmul FloatKind.f64 (FloatKind.nearest FloatKind.f64 i1) 4577790371455803420)) fun r4 =>
     let x5 : Nat := r4
     bd ((fltToFlt FloatKind.f64 x5 FloatKind.f32)) fun y6 =>
     some (y6, true))
def sg_fb : Sig (Nat × Bool) where
  pk := fun v => [.flt v.1, .bool v.2]
  up := fun ls => match ls with
    | [.flt a0, .bool a1] => some (a0, a1)
    | _ => none
  ok := by
    intro ls v h
    split at h
    · cases h; rfl
    · cases h

def f72_i_GainOf.P : List Arg := [⟨.val, ⟨false, [.leaf], [.int .i64 0]⟩⟩]
def f72_i_GainOf.A : RAlt (Nat × Bool) := .one ⟨[⟨false, [.leaf], [.flt .f32 0]⟩, ⟨false, [.leaf], [.bool false]⟩], [none]⟩ sg_fb
def f72_i_GainOf.F (n : Nat) (v : Int) := f72_i_GainOf n v
noncomputable def f72_i_GainOf.O (n : Nat) : Orc := orcOf (E := E) [f147_i_isTenths.w, f148_i_exponential.w] [] n
theorem f72_i_GainOf.ok : ∀ n v x, f72_i_GainOf.F n v = some x → evalFn E n 72 (flAs f72_i_GainOf.P (sg_i.pk v)) = some (f72_i_GainOf.A.enc x) :=
  fn_pure (modes := (fdAt 72).ms) (outs := (fdAt 72).os) (results := (fdAt 72).rs) f72_i_GainOf.O (c := c72) (keep := keepAt 72) (by kernel_rfl) (fun n => orcOf_cf _ _ n) (fun n => lpOk_of (bs := []) (by kernel_rfl) .nil) (fun _ => rfl) (fun _ _ => by kernel_rfl)
noncomputable def f72_i_GainOf.w : FnW E := fnW 72 f72_i_GainOf.P sg_i f72_i_GainOf.A f72_i_GainOf.F f72_i_GainOf.ok

def f127_i_isFinite : Nat → Nat → Option (Bool)
  | 0, _ => none
  | n + 1, x1 =>
    some (feq FloatKind.f64 (fsub FloatKind.f64 x1 x1) 0)
def f127_i_isFinite.P : List Arg := [⟨.val, ⟨false, [.leaf], [.flt .f64 0]⟩⟩]
def f127_i_isFinite.A : RAlt (Bool) := .one ⟨[⟨false, [.leaf], [.bool false]⟩], [none]⟩ sg_b
def f127_i_isFinite.F (n : Nat) (v : Nat) := f127_i_isFinite n v
noncomputable def f127_i_isFinite.O (n : Nat) : Orc := orcOf (E := E) [] [] n
theorem f127_i_isFinite.ok : ∀ n v x, f127_i_isFinite.F n v = some x → evalFn E n 127 (flAs f127_i_isFinite.P (sg_f.pk v)) = some (f127_i_isFinite.A.enc x) :=
  fn_pure (modes := (fdAt 127).ms) (outs := (fdAt 127).os) (results := (fdAt 127).rs) f127_i_isFinite.O (c := c127) (keep := keepAt 127) (by kernel_rfl) (fun n => orcOf_cf _ _ n) (fun n => lpOk_of (bs := []) (by kernel_rfl) .nil) (fun _ => rfl) (fun _ _ => by kernel_rfl)
noncomputable def f127_i_isFinite.w : FnW E := fnW 127 f127_i_isFinite.P sg_f f127_i_isFinite.A f127_i_isFinite.F f127_i_isFinite.ok

def f144_mathNaN : Nat → Option (Nat)
  | 0 => none
  | n + 1 =>
    bd (xF64frombits n (9221120237041090561 : Int)) fun r1 =>
    let x2 : Nat := r1
    some x2
def f144_mathNaN.P : List Arg := []
def f144_mathNaN.A : RAlt (Nat) := .one ⟨[⟨false, [.leaf], [.flt .f64 0]⟩], []⟩ sg_f
def f144_mathNaN.F (n : Nat) (v : Unit) := f144_mathNaN n
noncomputable def f144_mathNaN.O (n : Nat) : Orc := orcOf (E := E) [x178.w] [] n
theorem f144_mathNaN.ok : ∀ n v x, f144_mathNaN.F n v = some x → evalFn E n 144 (flAs f144_mathNaN.P (sg.pk v)) = some (f144_mathNaN.A.enc x) :=
  fn_pure (modes := (fdAt 144).ms) (outs := (fdAt 144).os) (results := (fdAt 144).rs) f144_mathNaN.O (c := c144) (keep := keepAt 144) (by kernel_rfl) (fun n => orcOf_cf _ _ n) (fun n => lpOk_of (bs := []) (by kernel_rfl) .nil) (fun _ => rfl) (fun _ _ => by kernel_rfl)
noncomputable def f144_mathNaN.w : FnW E := fnW 144 f144_mathNaN.P sg f144_mathNaN.A f144_mathNaN.F f144_mathNaN.ok

def f145_i_isFar : Nat → Nat → Option (Bool)
  | 0, _ => none
  | n + 1, x1 =>
    bd (xAbs n x1) fun r2 =>
    let x3 : Nat := r2
    some (fge FloatKind.f64 x3 4841369599423283200)
def f145_i_isFar.P : List Arg := [⟨.val, ⟨false, [.leaf], [.flt .f64 0]⟩⟩]
def f145_i_isFar.A : RAlt (Bool) := .one ⟨[⟨false, [.leaf], [.bool false]⟩], [none]⟩ sg_b
def f145_i_isFar.F (n : Nat) (v : Nat) := f145_i_isFar n v
noncomputable def f145_i_isFar.O (n : Nat) : Orc := orcOf (E := E) [x179.w] [] n
theorem f145_i_isFar.ok : ∀ n v x, f145_i_isFar.F n v = some x → evalFn E n 145 (flAs f145_i_isFar.P (sg_f.pk v)) = some (f145_i_isFar.A.enc x) :=
  fn_pure (modes := (fdAt 145).ms) (outs := (fdAt 145).os) (results := (fdAt 145).rs) f145_i_isFar.O (c := c145) (keep := keepAt 145) (by kernel_rfl) (fun n => orcOf_cf _ _ n) (fun n => lpOk_of (bs := []) (by kernel_rfl) .nil) (fun _ => rfl) (fun _ _ => by kernel_rfl)
noncomputable def f145_i_isFar.w : FnW E := fnW 145 f145_i_isFar.P sg_f f145_i_isFar.A f145_i_isFar.F f145_i_isFar.ok

def f190_mathTrunc : Nat → Nat → Option (Nat)
  | 0, _ => none
  | n + 1, x1 =>
    bd (xIntegral_zero n x1) fun r2 =>
    let x3 : Nat := r2
    some x3
def f190_mathTrunc.P : List Arg := [⟨.val, ⟨false, [.leaf], [.flt .f64 0]⟩⟩]
def f190_mathTrunc.A : RAlt (Nat) := .one ⟨[⟨false, [.leaf], [.flt .f64 0]⟩], [none]⟩ sg_f
def f190_mathTrunc.F (n : Nat) (v : Nat) := f190_mathTrunc n v
noncomputable def f190_mathTrunc.O (n : Nat) : Orc := orcOf (E := E) [x197.w] [] n
theorem f190_mathTrunc.ok : ∀ n v x, f190_mathTrunc.F n v = some x → evalFn E n 190 (flAs f190_mathTrunc.P (sg_f.pk v)) = some (f190_mathTrunc.A.enc x) :=
  fn_pure (modes := (fdAt 190).ms) (outs := (fdAt 190).os) (results := (fdAt 190).rs) f190_mathTrunc.O (c := c190) (keep := keepAt 190) (by kernel_rfl) (fun n => orcOf_cf _ _ n) (fun n => lpOk_of (bs := []) (by kernel_rfl) .nil) (fun _ => rfl) (fun _ _ => by kernel_rfl)
noncomputable def f190_mathTrunc.w : FnW E := fnW 190 f190_mathTrunc.P sg_f f190_mathTrunc.A f190_mathTrunc.F f190_mathTrunc.ok

def f180_i_rest : Nat → Nat → Option (Nat)
  | 0, _ => none
  | n + 1, x1 =>
    bd (f190_mathTrunc n x1) fun r2 =>
    let x3 : Nat := r2
    br (feq FloatKind.f64 x3 0) (
     let x4 : Nat := (fsub FloatKind.f64 x1 0)
     br (flt FloatKind.f64 x4 0) (
      let x5 : Nat := (fadd FloatKind.f64 x4 4607182418800017408)
      some x5) (
      some x4)) (
     let x6 : Nat := (fsub FloatKind.f64 x1 x3)
     br (flt FloatKind.f64 x6 0) (
      let x7 : Nat := (fadd FloatKind.f64 x6 4607182418800017408)
      some x7) (
      some x6))
def f180_i_rest.P : List Arg := [⟨.val, ⟨false, [.leaf], [.flt .f64 0]⟩⟩]
def f180_i_rest.A : RAlt (Nat) := .one ⟨[⟨false, [.leaf], [.flt .f64 0]⟩], [none]⟩ sg_f
def f180_i_rest.F (n : Nat) (v : Nat) := f180_i_rest n v
noncomputable def f180_i_rest.O (n : Nat) : Orc := orcOf (E := E) [f190_mathTrunc.w] [] n
theorem f180_i_rest.ok : ∀ n v x, f180_i_rest.F n v = some x → evalFn E n 180 (flAs f180_i_rest.P (sg_f.pk v)) = some (f180_i_rest.A.enc x) :=
  fn_pure (modes := (fdAt 180).ms) (outs := (fdAt 180).os) (results := (fdAt 180).rs) f180_i_rest.O (c := c180) (keep := keepAt 180) (by kernel_rfl) (fun n => orcOf_cf _ _ n) (fun n => lpOk_of (bs := []) (by kernel_rfl) .nil) (fun _ => rfl) (fun _ _ => by kernel_rfl)
noncomputable def f180_i_rest.w : FnW E := fnW 180 f180_i_rest.P sg_f f180_i_rest.A f180_i_rest.F f180_i_rest.ok

def f146_i_sine.l0 (n : Nat) : Nat → Bool → Nat → Nat → Nat → Nat → Option (Bool × Nat × Nat)
  | 0, _, _, _, _, _ => none
  | m + 1, b1, x2, x3, x4, x5 =>
    br (fge FloatKind.f64 x5 4607182418800017408) (
     let x6 : Nat := (fsub FloatKind.f64 4607182418800017408 (fdiv FloatKind.f64 (fmul FloatKind.f64 x3 x4) (fmul FloatKind.f64 (fmul FloatKind.f64 4611686018427387904 x5) (fadd FloatKind.f64 (fmul FloatKind.f64 4611686018427387904 x5) 4607182418800017408))))
     f146_i_sine.l0 n m b1 x2 x3 x6 (fsub FloatKind.f64 x5 4607182418800017408)) (
     some (b1, x2, x4))
def f146_i_sine : Nat → Nat → Option (Nat)
  | 0, _ => none
  | n + 1, x1 =>
    bd (f180_i_rest n x1) fun r2 =>
    let x3 : Nat := r2
    let b4 : Bool := (fge FloatKind.f64 x3 4602678819172646912)
    br b4 (
     let x5 : Nat := (fsub FloatKind.f64 x3 4602678819172646912)
     br (fgt FloatKind.f64 x5 4598175219545276416) (
      let x6 : Nat := (fsub FloatKind.f64 4602678819172646912 x5)
      let x7 : Nat := (fmul FloatKind.f64 x6 4618760256179416344)
      let x8 : Nat := (fmul FloatKind.f64 x7 x7)
      bd (f146_i_sine.l0 n n b4 x7 x8 4607182418800017408 4620693217682128896) fun r9 =>
      let b10 : Bool := r9.1
      let x11 : Nat := r9.2.1
      let x12 : Nat := r9.2.2
      br b10 (
       some (negF FloatKind.f64 (fmul FloatKind.f64 x11 x12))) (
       some (fmul FloatKind.f64 x11 x12))) (
      let x13 : Nat := (fmul FloatKind.f64 x5 4618760256179416344)
      let x14 : Nat := (fmul FloatKind.f64 x13 x13)
      bd (f146_i_sine.l0 n n b4 x13 x14 4607182418800017408 4620693217682128896) fun r15 =>
      let b16 : Bool := r15.1
      let x17 : Nat := r15.2.1
      let x18 : Nat := r15.2.2
      br b16 (
       some (negF FloatKind.f64 (fmul FloatKind.f64 x17 x18))) (
       some (fmul FloatKind.f64 x17 x18)))) (
     br (fgt FloatKind.f64 x3 4598175219545276416) (
      let x19 : Nat := (fsub FloatKind.f64 4602678819172646912 x3)
      let x20 : Nat := (fmul FloatKind.f64 x19 4618760256179416344)
      let x21 : Nat := (fmul FloatKind.f64 x20 x20)
      bd (f146_i_sine.l0 n n b4 x20 x21 4607182418800017408 4620693217682128896) fun r22 =>
      let b23 : Bool := r22.1
      let x24 : Nat := r22.2.1
      let x25 : Nat := r22.2.2
      br b23 (
       some (negF FloatKind.f64 (fmul FloatKind.f64 x24 x25))) (
       some (fmul FloatKind.f64 x24 x25))) (
      let x26 : Nat := (fmul FloatKind.f64 x3 4618760256179416344)
      let x27 : Nat := (fmul FloatKind.f64 x26 x26)
      bd (f146_i_sine.l0 n n b4 x26 x27 4607182418800017408 4620693217682128896) fun r28 =>
      let b29 : Bool := r28.1
      let x30 : Nat := r28.2.1
      let x31 : Nat := r28.2.2
      br b29 (
       some (negF FloatKind.f64 (fmul FloatKind.f64 x30 x31))) (
       some (fmul FloatKind.f64 x30 x31))))
def sg_bffff : Sig (Bool × Nat × Nat × Nat × Nat) where
  pk := fun v => [.bool v.1, .flt v.2.1, .flt v.2.2.1, .flt v.2.2.2.1, .flt v.2.2.2.2]
  up := fun ls => match ls with
    | [.bool a0, .flt a1, .flt a2, .flt a3, .flt a4] => some (a0, a1, a2, a3, a4)
    | _ => none
  ok := by
    intro ls v h
    split at h
    · cases h; rfl
    · cases h

def sg_bff : Sig (Bool × Nat × Nat) where
  pk := fun v => [.bool v.1, .flt v.2.1, .flt v.2.2]
  up := fun ls => match ls with
    | [.bool a0, .flt a1, .flt a2] => some (a0, a1, a2)
    | _ => none
  ok := by
    intro ls v h
    split at h
    · cases h; rfl
    · cases h

def f146_i_sine.l0.P : AS := ⟨[(4, .val false [.leaf] [.bool false] [] 0), (5, .val false [.leaf] [.flt .f64 0] [] 0), (6, .val false [.leaf] [.flt .f64 0] [] 0), (7, .val false [.leaf] [.flt .f64 0] [] 0), (8, .val false [.leaf] [.flt .f64 0] [] 0)], 0⟩
def f146_i_sine.l0.A : Alt (Bool × Nat × Nat) := .one (.exit 0) ⟨[(4, .val false [.leaf] [.bool false] [] 0), (5, .val false [.leaf] [.flt .f64 0] [] 0), (7, .val false [.leaf] [.flt .f64 0] [] 0)], 0⟩ sg_bff
def f146_i_sine.l0.F (n m : Nat) (v : Bool × Nat × Nat × Nat × Nat) := f146_i_sine.l0 n m v.1 v.2.1 v.2.2.1 v.2.2.2.1 v.2.2.2.2
def f146_i_sine.l0.W (n : Nat) : LpW := .of 176 f146_i_sine.l0.P sg_bffff f146_i_sine.l0.A (f146_i_sine.l0.F n n)
def f146_i_sine.P : List Arg := [⟨.val, ⟨false, [.leaf], [.flt .f64 0]⟩⟩]
def f146_i_sine.A : RAlt (Nat) := .one ⟨[⟨false, [.leaf], [.flt .f64 0]⟩], [none]⟩ sg_f
def f146_i_sine.F (n : Nat) (v : Nat) := f146_i_sine n v
noncomputable def f146_i_sine.O (n : Nat) : Orc := orcOf (E := E) [f180_i_rest.w] [f146_i_sine.l0.W n] n
theorem f146_i_sine.l0.ok (n : Nat) : LpOk (f146_i_sine.O n) E (evalFn E n) n (keepAt 146) (.loop (loopAt c146 0)) :=
  lp_pure f146_i_sine.l0.P sg_bffff f146_i_sine.l0.A (f146_i_sine.l0.F n) (orcOf_cf _ _ n) (lpOk_of (bs := []) (by kernel_rfl) .nil) (fun _ => rfl) (fun _ _ => by kernel_rfl) (fun _ _ _ => by kernel_rfl)
theorem f146_i_sine.ok : ∀ n v x, f146_i_sine.F n v = some x → evalFn E n 146 (flAs f146_i_sine.P (sg_f.pk v)) = some (f146_i_sine.A.enc x) :=
  fn_pure (modes := (fdAt 146).ms) (outs := (fdAt 146).os) (results := (fdAt 146).rs) f146_i_sine.O (c := c146) (keep := keepAt 146) (by kernel_rfl) (fun n => orcOf_cf _ _ n) (fun n => lpOk_of (bs := [loopAt c146 0]) (by kernel_rfl) (.cons (f146_i_sine.l0.ok n) .nil)) (fun _ => rfl) (fun _ _ => by kernel_rfl)
noncomputable def f146_i_sine.w : FnW E := fnW 146 f146_i_sine.P sg_f f146_i_sine.A f146_i_sine.F f146_i_sine.ok

def f70_i_SineTurns : Nat → Nat → Option (Nat)
  | 0, _ => none
  | n + 1, x1 =>
    bd ((fltToFlt FloatKind.f32 x1 FloatKind.f64)) fun y2 =>
    bd (f127_i_isFinite n y2) fun r3 =>
    let b4 : Bool := r3
    br (!b4) (
     bd (f144_mathNaN n) fun r5 =>
     let x6 : Nat := r5
     bd ((fltToFlt FloatKind.f64 x6 FloatKind.f32)) fun y7 =>
     some y7) (
     bd (f145_i_isFar n y2) fun r8 =>
     let b9 : Bool := r8
     br b9 (
      some 0) (
      bd (f146_i_sine n y2) fun r10 =>
      let x11 : Nat := r10
      bd ((fltToFlt FloatKind.f64 x11 FloatKind.f32)) fun y12 =>
      some y12))
def f70_i_SineTurns.P : List Arg := [⟨.val, ⟨false, [.leaf], [.flt .f32 0]⟩⟩]
def f70_i_SineTurns.A : RAlt (Nat) := .one ⟨[⟨false, [.leaf], [.flt .f32 0]⟩], [none]⟩ sg_f
def f70_i_SineTurns.F (n : Nat) (v : Nat) := f70_i_SineTurns n v
noncomputable def f70_i_SineTurns.O (n : Nat) : Orc := orcOf (E := E) [f127_i_isFinite.w, f144_mathNaN.w, f145_i_isFar.w, f146_i_sine.w] [] n
theorem f70_i_SineTurns.ok : ∀ n v x, f70_i_SineTurns.F n v = some x → evalFn E n 70 (flAs f70_i_SineTurns.P (sg_f.pk v)) = some (f70_i_SineTurns.A.enc x) :=
  fn_pure (modes := (fdAt 70).ms) (outs := (fdAt 70).os) (results := (fdAt 70).rs) f70_i_SineTurns.O (c := c70) (keep := keepAt 70) (by kernel_rfl) (fun n => orcOf_cf _ _ n) (fun n => lpOk_of (bs := []) (by kernel_rfl) .nil) (fun _ => rfl) (fun _ _ => by kernel_rfl)
noncomputable def f70_i_SineTurns.w : FnW E := fnW 70 f70_i_SineTurns.P sg_f f70_i_SineTurns.A f70_i_SineTurns.F f70_i_SineTurns.ok

def f87_i_PanOf : Nat → Nat → Option (Nat × Nat × Bool)
  | 0, _ => none
  | n + 1, x1 =>
    bd (f161_i_isPan n x1) fun r2 =>
    let b3 : Bool := r2
    br (!b3) (
     some (0, 0, false)) (
     bd (f70_i_SineTurns n (fdiv FloatKind.f32 (fsub FloatKind.f32 1065353216 x1) 1082130432)) fun r4 =>
     let x5 : Nat := r4
     bd (f70_i_SineTurns n (fdiv FloatKind.f32 x1 1082130432)) fun r6 =>
     let x7 : Nat := r6
     some (x5, x7, true))
def sg_ffb : Sig (Nat × Nat × Bool) where
  pk := fun v => [.flt v.1, .flt v.2.1, .bool v.2.2]
  up := fun ls => match ls with
    | [.flt a0, .flt a1, .bool a2] => some (a0, a1, a2)
    | _ => none
  ok := by
    intro ls v h
    split at h
    · cases h; rfl
    · cases h

def f87_i_PanOf.P : List Arg := [⟨.val, ⟨false, [.leaf], [.flt .f32 0]⟩⟩]
def f87_i_PanOf.A : RAlt (Nat × Nat × Bool) := .one ⟨[⟨false, [.leaf], [.flt .f32 0]⟩, ⟨false, [.leaf], [.flt .f32 0]⟩, ⟨false, [.leaf], [.bool false]⟩], [none]⟩ sg_ffb
def f87_i_PanOf.F (n : Nat) (v : Nat) := f87_i_PanOf n v
noncomputable def f87_i_PanOf.O (n : Nat) : Orc := orcOf (E := E) [f161_i_isPan.w, f70_i_SineTurns.w] [] n
theorem f87_i_PanOf.ok : ∀ n v x, f87_i_PanOf.F n v = some x → evalFn E n 87 (flAs f87_i_PanOf.P (sg_f.pk v)) = some (f87_i_PanOf.A.enc x) :=
  fn_pure (modes := (fdAt 87).ms) (outs := (fdAt 87).os) (results := (fdAt 87).rs) f87_i_PanOf.O (c := c87) (keep := keepAt 87) (by kernel_rfl) (fun n => orcOf_cf _ _ n) (fun n => lpOk_of (bs := []) (by kernel_rfl) .nil) (fun _ => rfl) (fun _ _ => by kernel_rfl)
noncomputable def f87_i_PanOf.w : FnW E := fnW 87 f87_i_PanOf.P sg_f f87_i_PanOf.A f87_i_PanOf.F f87_i_PanOf.ok

def f113_i_size : Nat → Int → Option (Int)
  | 0, _ => none
  | n + 1, i1 =>
    some i1
def f113_i_size.P : List Arg := [⟨.val, ⟨false, [.leaf], [.int .i64 0]⟩⟩]
def f113_i_size.A : RAlt (Int) := .one ⟨[⟨false, [.leaf], [.int .i64 0]⟩], [none]⟩ sg_i
def f113_i_size.F (n : Nat) (v : Int) := f113_i_size n v
noncomputable def f113_i_size.O (n : Nat) : Orc := orcOf (E := E) [] [] n
theorem f113_i_size.ok : ∀ n v x, f113_i_size.F n v = some x → evalFn E n 113 (flAs f113_i_size.P (sg_i.pk v)) = some (f113_i_size.A.enc x) :=
  fn_pure (modes := (fdAt 113).ms) (outs := (fdAt 113).os) (results := (fdAt 113).rs) f113_i_size.O (c := c113) (keep := keepAt 113) (by kernel_rfl) (fun n => orcOf_cf _ _ n) (fun n => lpOk_of (bs := []) (by kernel_rfl) .nil) (fun _ => rfl) (fun _ _ => by kernel_rfl)
noncomputable def f113_i_size.w : FnW E := fnW 113 f113_i_size.P sg_i f113_i_size.A f113_i_size.F f113_i_size.ok

def f159_i_mixTracks.l1 (n : Nat) : Nat → Nat → List T → Int → Nat → List T → Nat → List T → Nat → List T → Nat → Nat → Nat → Nat → List T → Int → Int → Nat → List T → Int → Int → Option (Nat × List T × Int × Nat × List T × Nat × List T × Nat × List T × Nat × List T × Int × Int)
  | 0, _, _, _, _, _, _, _, _, _, _, _, _, _, _, _, _, _, _, _, _ => none
  | m + 1, n1, l2, i3, n4, l5, n6, l7, n8, l9, x10, x11, x12, n13, l14, i15, i16, n17, l18, i19, i20 =>
    br (decide (i20 < i19)) (
     gd ((decide (((0 : Int) ≤ i20) ∧ (i20 < ((n17 : Nat) : Int)))) && (okAt [(CK.flt FloatKind.f32)] l18 (Int.toNat i20))) (
     let x21 : Nat := (fAt l18 (Int.toNat i20))
     let x22 : Nat := (fmul FloatKind.f32 x21 x10)
     gd (decide (((0 : Int) ≤ i20) ∧ (i20 < ((n4 : Nat) : Int)))) (
     gd (okAt [(CK.flt FloatKind.f32)] l5 (Int.toNat i20)) (
     gd (decide (((0 : Int) ≤ i20) ∧ (i20 < ((n4 : Nat) : Int)))) (
     gd (Nat.ble ((Int.toNat i20) + 1) (List.length l5)) (
     let l23 : List T := (setN l5 (Int.toNat i20) [(T.flt FloatKind.f32 (fadd FloatKind.f32 (fAt l5 (Int.toNat i20)) (fmul FloatKind.f32 x22 x11)))])
     gd (decide (((0 : Int) ≤ i20) ∧ (i20 < ((n6 : Nat) : Int)))) (
     gd (okAt [(CK.flt FloatKind.f32)] l7 (Int.toNat i20)) (
     gd (decide (((0 : Int) ≤ i20) ∧ (i20 < ((n6 : Nat) : Int)))) (
     gd (Nat.ble ((Int.toNat i20) + 1) (List.length l7)) (
     let l24 : List T := (setN l7 (Int.toNat i20) [(T.flt FloatKind.f32 (fadd FloatKind.f32 (fAt l7 (Int.toNat i20)) (fmul FloatKind.f32 x22 x12)))])
     f159_i_mixTracks.l1 n m n1 l2 i3 n4 l23 n6 l24 n8 l9 x10 x11 x12 n13 l14 i15 i16 n17 l18 i19 (IntKind.i64.wrap (i20 + (1 : Int))))))))))))) (
     some (n1, l2, i3, n4, l5, n6, l7, n8, l9, n13, l14, i15, i16))
termination_by structural x => x
def f159_i_mixTracks.l0 (n : Nat) : Nat → Nat → List T → Int → Nat → List T → Nat → List T → Nat → List T → Nat → List T → Int → Int → Option (Nat × List T × Nat × List T)
  | 0, _, _, _, _, _, _, _, _, _, _, _, _, _ => none
  | m + 1, n1, l2, i3, n4, l5, n6, l7, n8, l9, n10, l11, i12, i13 =>
    br (decide (i13 < i12)) (
     gd ((decide (((0 : Int) ≤ i13) ∧ (i13 < ((n10 : Nat) : Int)))) && (okAt [CK.lst, (CK.int IntKind.i64), (CK.flt FloatKind.f32), CK.bool, CK.bool] l11 (((Int.toNat i13) * 5) + 0))) (
     let n14 : Nat := (nAt l11 (((Int.toNat i13) * 5) + 0))
     let l15 : List T := (lAt l11 (((Int.toNat i13) * 5) + 0))
     let i16 : Int := (iAt l11 ((((Int.toNat i13) * 5) + 0) + 1))
     let x17 : Nat := (fAt l11 (((((Int.toNat i13) * 5) + 0) + 1) + 1))
     let b18 : Bool := (bAt l11 ((((((Int.toNat i13) * 5) + 0) + 1) + 1) + 1))
     let b19 : Bool := (bAt l11 (((((((Int.toNat i13) * 5) + 0) + 1) + 1) + 1) + 1))
     gd (decide (((0 : Int) ≤ i13) ∧ (i13 < ((n8 : Nat) : Int)))) (
     gd (okAt [CK.bool] l9 (Int.toNat i13)) (
     br (!(bAt l9 (Int.toNat i13))) (
      f159_i_mixTracks.l0 n m n1 l2 i3 n4 l5 n6 l7 n8 l9 n10 l11 i12 (IntKind.i64.wrap (i13 + (1 : Int)))) (
      bd (f72_i_GainOf n i16) fun r20 =>
      let x21 : Nat := r20.1
      let b22 : Bool := r20.2
      bd (f87_i_PanOf n x17) fun r23 =>
      let x24 : Nat := r23.1
      let x25 : Nat := r23.2.1
      let b26 : Bool := r23.2.2
      bd (f113_i_size n ((n14 : Nat) : Int)) fun r27 =>
      let i28 : Int := r27
      gd (decide (((0 : Int) ≤ (0 : Int)) ∧ (((0 : Int) ≤ (if (i28 < i3) then i28 else i3)) ∧ ((if (i28 < i3) then i28 else i3) ≤ ((n14 : Nat) : Int))))) (
      bd (f159_i_mixTracks.l1 n n n1 l2 i3 n4 l5 n6 l7 n8 l9 x21 x24 x25 n10 l11 i12 i13 ((Int.toNat (if (i28 < i3) then i28 else i3)) - 0) (List.take ((Int.toNat (if (i28 < i3) then i28 else i3)) - 0) (List.drop 0 l15)) ((((Int.toNat (if (i28 < i3) then i28 else i3)) - 0) : Nat) : Int) (0 : Int)) fun r29 =>
      let n30 : Nat := r29.1
      let l31 : List T := r29.2.1
      let i32 : Int := r29.2.2.1
      let n33 : Nat := r29.2.2.2.1
      let l34 : List T := r29.2.2.2.2.1
      let n35 : Nat := r29.2.2.2.2.2.1
      let l36 : List T := r29.2.2.2.2.2.2.1
      let n37 : Nat := r29.2.2.2.2.2.2.2.1
      let l38 : List T := r29.2.2.2.2.2.2.2.2.1
      let n39 : Nat := r29.2.2.2.2.2.2.2.2.2.1
      let l40 : List T := r29.2.2.2.2.2.2.2.2.2.2.1
      let i41 : Int := r29.2.2.2.2.2.2.2.2.2.2.2.1
      let i42 : Int := r29.2.2.2.2.2.2.2.2.2.2.2.2
      f159_i_mixTracks.l0 n m n30 l31 i32 n33 l34 n35 l36 n37 l38 n39 l40 i41 (IntKind.i64.wrap (i42 + (1 : Int))))))))) (
     some (n4, l5, n6, l7))
termination_by structural x => x
def f159_i_mixTracks : Nat → Nat → List T → Int → Option (Nat × List T × Nat × List T)
  | 0, _, _, _ => none
  | n + 1, n1, l2, i3 =>
    bd (f108_i_zeros n i3) fun r4 =>
    let n5 : Nat := r4.1
    let l6 : List T := r4.2
    bd (f108_i_zeros n i3) fun r7 =>
    let n8 : Nat := r7.1
    let l9 : List T := r7.2
    bd (f160_i_heardTracks n n1 l2) fun r10 =>
    let n11 : Nat := r10.1
    let l12 : List T := r10.2
    bd (f159_i_mixTracks.l0 n n n1 l2 i3 n5 l6 n8 l9 n11 l12 n1 l2 ((n1 : Nat) : Int) (0 : Int)) fun r13 =>
    let n14 : Nat := r13.1
    let l15 : List T := r13.2.1
    let n16 : Nat := r13.2.2.1
    let l17 : List T := r13.2.2.2
    some (n14, l15, n16, l17)
def sg_li : Sig (Nat × List T × Int) where
  pk := fun v => [.lst v.1 v.2.1, .int v.2.2]
  up := fun ls => match ls with
    | [.lst a0 a1, .int a2] => some (a0, a1, a2)
    | _ => none
  ok := by
    intro ls v h
    split at h
    · cases h; rfl
    · cases h

def sg_lilllfffliilii : Sig (Nat × List T × Int × Nat × List T × Nat × List T × Nat × List T × Nat × Nat × Nat × Nat × List T × Int × Int × Nat × List T × Int × Int) where
  pk := fun v => [.lst v.1 v.2.1, .int v.2.2.1, .lst v.2.2.2.1 v.2.2.2.2.1, .lst v.2.2.2.2.2.1 v.2.2.2.2.2.2.1, .lst v.2.2.2.2.2.2.2.1 v.2.2.2.2.2.2.2.2.1, .flt v.2.2.2.2.2.2.2.2.2.1, .flt v.2.2.2.2.2.2.2.2.2.2.1, .flt v.2.2.2.2.2.2.2.2.2.2.2.1, .lst v.2.2.2.2.2.2.2.2.2.2.2.2.1 v.2.2.2.2.2.2.2.2.2.2.2.2.2.1, .int v.2.2.2.2.2.2.2.2.2.2.2.2.2.2.1, .int v.2.2.2.2.2.2.2.2.2.2.2.2.2.2.2.1, .lst v.2.2.2.2.2.2.2.2.2.2.2.2.2.2.2.2.1 v.2.2.2.2.2.2.2.2.2.2.2.2.2.2.2.2.2.1, .int v.2.2.2.2.2.2.2.2.2.2.2.2.2.2.2.2.2.2.1, .int v.2.2.2.2.2.2.2.2.2.2.2.2.2.2.2.2.2.2.2]
  up := fun ls => match ls with
    | [.lst a0 a1, .int a2, .lst a3 a4, .lst a5 a6, .lst a7 a8, .flt a9, .flt a10, .flt a11, .lst a12 a13, .int a14, .int a15, .lst a16 a17, .int a18, .int a19] => some (a0, a1, a2, a3, a4, a5, a6, a7, a8, a9, a10, a11, a12, a13, a14, a15, a16, a17, a18, a19)
    | _ => none
  ok := by
    intro ls v h
    split at h
    · cases h; rfl
    · cases h

def sg_lillllii : Sig (Nat × List T × Int × Nat × List T × Nat × List T × Nat × List T × Nat × List T × Int × Int) where
  pk := fun v => [.lst v.1 v.2.1, .int v.2.2.1, .lst v.2.2.2.1 v.2.2.2.2.1, .lst v.2.2.2.2.2.1 v.2.2.2.2.2.2.1, .lst v.2.2.2.2.2.2.2.1 v.2.2.2.2.2.2.2.2.1, .lst v.2.2.2.2.2.2.2.2.2.1 v.2.2.2.2.2.2.2.2.2.2.1, .int v.2.2.2.2.2.2.2.2.2.2.2.1, .int v.2.2.2.2.2.2.2.2.2.2.2.2]
  up := fun ls => match ls with
    | [.lst a0 a1, .int a2, .lst a3 a4, .lst a5 a6, .lst a7 a8, .lst a9 a10, .int a11, .int a12] => some (a0, a1, a2, a3, a4, a5, a6, a7, a8, a9, a10, a11, a12)
    | _ => none
  ok := by
    intro ls v h
    split at h
    · cases h; rfl
    · cases h

def f159_i_mixTracks.l1.P : AS := ⟨[(0, .val false [.sl .shr [.sl .shr [.leaf], .leaf, .leaf, .leaf, .leaf]] [.lst 0 []] [] 0), (1, .val false [.leaf] [.int .i64 0] [] 0), (6, .val false [.sl .own [.leaf]] [.lst 0 []] [] 0), (7, .val false [.sl .own [.leaf]] [.lst 0 []] [] 0), (8, .val false [.sl .own [.leaf]] [.lst 0 []] [] 0), (11, .val false [.leaf] [.flt .f32 0] [] 0), (13, .val false [.leaf] [.flt .f32 0] [] 0), (14, .val false [.leaf] [.flt .f32 0] [] 0), (25, .val false [.sl .shr [.sl .shr [.leaf], .leaf, .leaf, .leaf, .leaf]] [.lst 0 []] [] 0), (26, .val false [.leaf] [.int .i64 0] [] 0), (27, .val false [.leaf] [.int .i64 0] [] 0), (58, .val false [.sl .shr [.leaf]] [.lst 0 []] [] 0), (59, .val false [.leaf] [.int .i64 0] [] 0), (60, .val false [.leaf] [.int .i64 0] [] 0)], 0⟩
def f159_i_mixTracks.l1.A : Alt (Nat × List T × Int × Nat × List T × Nat × List T × Nat × List T × Nat × List T × Int × Int) := .one (.exit 2) ⟨[(0, .val false [.sl .shr [.sl .shr [.leaf], .leaf, .leaf, .leaf, .leaf]] [.lst 0 []] [] 0), (1, .val false [.leaf] [.int .i64 0] [] 0), (6, .val false [.sl .own [.leaf]] [.lst 0 []] [] 0), (7, .val false [.sl .own [.leaf]] [.lst 0 []] [] 0), (8, .val false [.sl .own [.leaf]] [.lst 0 []] [] 0), (25, .val false [.sl .shr [.sl .shr [.leaf], .leaf, .leaf, .leaf, .leaf]] [.lst 0 []] [] 0), (26, .val false [.leaf] [.int .i64 0] [] 0), (27, .val false [.leaf] [.int .i64 0] [] 0), (86, .dead), (87, .dead)], 0⟩ sg_lillllii
def f159_i_mixTracks.l1.F (n m : Nat) (v : Nat × List T × Int × Nat × List T × Nat × List T × Nat × List T × Nat × Nat × Nat × Nat × List T × Int × Int × Nat × List T × Int × Int) := f159_i_mixTracks.l1 n m v.1 v.2.1 v.2.2.1 v.2.2.2.1 v.2.2.2.2.1 v.2.2.2.2.2.1 v.2.2.2.2.2.2.1 v.2.2.2.2.2.2.2.1 v.2.2.2.2.2.2.2.2.1 v.2.2.2.2.2.2.2.2.2.1 v.2.2.2.2.2.2.2.2.2.2.1 v.2.2.2.2.2.2.2.2.2.2.2.1 v.2.2.2.2.2.2.2.2.2.2.2.2.1 v.2.2.2.2.2.2.2.2.2.2.2.2.2.1 v.2.2.2.2.2.2.2.2.2.2.2.2.2.2.1 v.2.2.2.2.2.2.2.2.2.2.2.2.2.2.2.1 v.2.2.2.2.2.2.2.2.2.2.2.2.2.2.2.2.1 v.2.2.2.2.2.2.2.2.2.2.2.2.2.2.2.2.2.1 v.2.2.2.2.2.2.2.2.2.2.2.2.2.2.2.2.2.2.1 v.2.2.2.2.2.2.2.2.2.2.2.2.2.2.2.2.2.2.2
def f159_i_mixTracks.l1.W (n : Nat) : LpW := .of 160 f159_i_mixTracks.l1.P sg_lilllfffliilii f159_i_mixTracks.l1.A (f159_i_mixTracks.l1.F n n)
def f159_i_mixTracks.l0.P : AS := ⟨[(0, .val false [.sl .shr [.sl .shr [.leaf], .leaf, .leaf, .leaf, .leaf]] [.lst 0 []] [] 0), (1, .val false [.leaf] [.int .i64 0] [] 0), (6, .val false [.sl .own [.leaf]] [.lst 0 []] [] 0), (7, .val false [.sl .own [.leaf]] [.lst 0 []] [] 0), (8, .val false [.sl .own [.leaf]] [.lst 0 []] [] 0), (25, .val false [.sl .shr [.sl .shr [.leaf], .leaf, .leaf, .leaf, .leaf]] [.lst 0 []] [] 0), (26, .val false [.leaf] [.int .i64 0] [] 0), (27, .val false [.leaf] [.int .i64 0] [] 0)], 0⟩
def f159_i_mixTracks.l0.A : Alt (Nat × List T × Nat × List T) := .one (.exit 0) ⟨[(6, .val false [.sl .own [.leaf]] [.lst 0 []] [] 0), (7, .val false [.sl .own [.leaf]] [.lst 0 []] [] 0)], 0⟩ sg_ll
def f159_i_mixTracks.l0.F (n m : Nat) (v : Nat × List T × Int × Nat × List T × Nat × List T × Nat × List T × Nat × List T × Int × Int) := f159_i_mixTracks.l0 n m v.1 v.2.1 v.2.2.1 v.2.2.2.1 v.2.2.2.2.1 v.2.2.2.2.2.1 v.2.2.2.2.2.2.1 v.2.2.2.2.2.2.2.1 v.2.2.2.2.2.2.2.2.1 v.2.2.2.2.2.2.2.2.2.1 v.2.2.2.2.2.2.2.2.2.2.1 v.2.2.2.2.2.2.2.2.2.2.2.1 v.2.2.2.2.2.2.2.2.2.2.2.2
def f159_i_mixTracks.l0.W (n : Nat) : LpW := .of 64 f159_i_mixTracks.l0.P sg_lillllii f159_i_mixTracks.l0.A (f159_i_mixTracks.l0.F n n)
def f159_i_mixTracks.P : List Arg := [⟨.val, ⟨false, [.sl .shr [.sl .shr [.leaf], .leaf, .leaf, .leaf, .leaf]], [.lst 0 []]⟩⟩, ⟨.val, ⟨false, [.leaf], [.int .i64 0]⟩⟩]
def f159_i_mixTracks.A : RAlt (Nat × List T × Nat × List T) := .one ⟨[⟨false, [.sl .own [.leaf]], [.lst 0 []]⟩, ⟨false, [.sl .own [.leaf]], [.lst 0 []]⟩], [none, none]⟩ sg_ll
def f159_i_mixTracks.F (n : Nat) (v : Nat × List T × Int) := f159_i_mixTracks n v.1 v.2.1 v.2.2
noncomputable def f159_i_mixTracks.O (n : Nat) : Orc := orcOf (E := E) [f108_i_zeros.w, f160_i_heardTracks.w, f72_i_GainOf.w, f87_i_PanOf.w, f113_i_size.w] [f159_i_mixTracks.l1.W n, f159_i_mixTracks.l0.W n] n
theorem f159_i_mixTracks.l1.ok (n : Nat) : LpOk (f159_i_mixTracks.O n) E (evalFn E n) n (keepAt 159) (.loop (loopAt c159 1)) :=
  lp_pure f159_i_mixTracks.l1.P sg_lilllfffliilii f159_i_mixTracks.l1.A (f159_i_mixTracks.l1.F n) (orcOf_cf _ _ n) (lpOk_of (bs := []) (by kernel_rfl) .nil) (fun _ => rfl) (fun _ _ => by kernel_rfl) (fun _ _ _ => by kernel_rfl)
theorem f159_i_mixTracks.l0.ok (n : Nat) : LpOk (f159_i_mixTracks.O n) E (evalFn E n) n (keepAt 159) (.loop (loopAt c159 0)) :=
  lp_pure f159_i_mixTracks.l0.P sg_lillllii f159_i_mixTracks.l0.A (f159_i_mixTracks.l0.F n) (orcOf_cf _ _ n) (lpOk_of (bs := [loopAt c159 1]) (by kernel_rfl) (.cons (f159_i_mixTracks.l1.ok n) .nil)) (fun _ => rfl) (fun _ _ => by kernel_rfl) (fun _ _ _ => by kernel_rfl)
theorem f159_i_mixTracks.ok : ∀ n v x, f159_i_mixTracks.F n v = some x → evalFn E n 159 (flAs f159_i_mixTracks.P (sg_li.pk v)) = some (f159_i_mixTracks.A.enc x) :=
  fn_pure (modes := (fdAt 159).ms) (outs := (fdAt 159).os) (results := (fdAt 159).rs) f159_i_mixTracks.O (c := c159) (keep := keepAt 159) (by kernel_rfl) (fun n => orcOf_cf _ _ n) (fun n => lpOk_of (bs := [loopAt c159 0]) (by kernel_rfl) (.cons (f159_i_mixTracks.l0.ok n) .nil)) (fun _ => rfl) (fun _ _ => by kernel_rfl)
noncomputable def f159_i_mixTracks.w : FnW E := fnW 159 f159_i_mixTracks.P sg_li f159_i_mixTracks.A f159_i_mixTracks.F f159_i_mixTracks.ok

def f84_i_MixTracks : Nat → Nat → List T → Int → Option (Nat × List T × Nat × List T × Bool)
  | 0, _, _, _ => none
  | n + 1, n1, l2, i3 =>
    bd (f86_i_AreTracks n n1 l2) fun r4 =>
    let b5 : Bool := r4
    br (!b5) (
     some (0, [], 0, [], false)) (
     bd (f121_i_isCount n i3) fun r6 =>
     let b7 : Bool := r6
     br (!b7) (
      some (0, [], 0, [], false)) (
      bd (f159_i_mixTracks n n1 l2 i3) fun r8 =>
      let n9 : Nat := r8.1
      let l10 : List T := r8.2.1
      let n11 : Nat := r8.2.2.1
      let l12 : List T := r8.2.2.2
      some (n9, l10, n11, l12, true)))
def sg_llb : Sig (Nat × List T × Nat × List T × Bool) where
  pk := fun v => [.lst v.1 v.2.1, .lst v.2.2.1 v.2.2.2.1, .bool v.2.2.2.2]
  up := fun ls => match ls with
    | [.lst a0 a1, .lst a2 a3, .bool a4] => some (a0, a1, a2, a3, a4)
    | _ => none
  ok := by
    intro ls v h
    split at h
    · cases h; rfl
    · cases h

def f84_i_MixTracks.P : List Arg := [⟨.val, ⟨false, [.sl .shr [.sl .shr [.leaf], .leaf, .leaf, .leaf, .leaf]], [.lst 0 []]⟩⟩, ⟨.val, ⟨false, [.leaf], [.int .i64 0]⟩⟩]
def f84_i_MixTracks.A : RAlt (Nat × List T × Nat × List T × Bool) := .one ⟨[⟨false, [.sl .own [.leaf]], [.lst 0 []]⟩, ⟨false, [.sl .own [.leaf]], [.lst 0 []]⟩, ⟨false, [.leaf], [.bool false]⟩], [none, none]⟩ sg_llb
def f84_i_MixTracks.F (n : Nat) (v : Nat × List T × Int) := f84_i_MixTracks n v.1 v.2.1 v.2.2
noncomputable def f84_i_MixTracks.O (n : Nat) : Orc := orcOf (E := E) [f86_i_AreTracks.w, f121_i_isCount.w, f159_i_mixTracks.w] [] n
theorem f84_i_MixTracks.ok : ∀ n v x, f84_i_MixTracks.F n v = some x → evalFn E n 84 (flAs f84_i_MixTracks.P (sg_li.pk v)) = some (f84_i_MixTracks.A.enc x) :=
  fn_pure (modes := (fdAt 84).ms) (outs := (fdAt 84).os) (results := (fdAt 84).rs) f84_i_MixTracks.O (c := c84) (keep := keepAt 84) (by kernel_rfl) (fun n => orcOf_cf _ _ n) (fun n => lpOk_of (bs := []) (by kernel_rfl) .nil) (fun _ => rfl) (fun _ _ => by kernel_rfl)
noncomputable def f84_i_MixTracks.w : FnW E := fnW 84 f84_i_MixTracks.P sg_li f84_i_MixTracks.A f84_i_MixTracks.F f84_i_MixTracks.ok

def f85_i_HeardTracks.l0 (n : Nat) : Nat → Nat → List T → Nat → List T → Int → Int → Option (Nat × List T)
  | 0, _, _, _, _, _, _ => none
  | m + 1, n1, l2, n3, l4, i5, i6 =>
    br (decide (i6 < i5)) (
     gd (decide (((0 : Int) ≤ i6) ∧ (i6 < ((n3 : Nat) : Int)))) (
     gd (okAt [CK.bool] l4 (Int.toNat i6)) (
     let b7 : Bool := (bAt l4 (Int.toNat i6))
     br b7 (
      gd (Nat.ble (n1 + 1) 2147483648) (
      let n8 : Nat := (n1 + 1)
      let l9 : List T := (l2 ++ (setN (reps 1 [(T.int IntKind.i64 (0 : Int))]) 0 [(T.int IntKind.i64 i6)]))
      f85_i_HeardTracks.l0 n m n8 l9 n3 l4 i5 (IntKind.i64.wrap (i6 + (1 : Int))))) (
      f85_i_HeardTracks.l0 n m n1 l2 n3 l4 i5 (IntKind.i64.wrap (i6 + (1 : Int))))))) (
     some (n1, l2))
def f85_i_HeardTracks : Nat → Nat → List T → Option (Nat × List T × Bool)
  | 0, _, _ => none
  | n + 1, n1, l2 =>
    bd (f86_i_AreTracks n n1 l2) fun r3 =>
    let b4 : Bool := r3
    br (!b4) (
     some (0, [], false)) (
     bd (f160_i_heardTracks n n1 l2) fun r5 =>
     let n6 : Nat := r5.1
     let l7 : List T := r5.2
     bd (f85_i_HeardTracks.l0 n n 0 [] n6 l7 ((n6 : Nat) : Int) (0 : Int)) fun r8 =>
     let n9 : Nat := r8.1
     let l10 : List T := r8.2
     some (n9, l10, true))
def f85_i_HeardTracks.l0.P : AS := ⟨[(4, .val false [.sl .own [.leaf]] [.lst 0 []] [] 0), (11, .val false [.sl .own [.leaf]] [.lst 0 []] [] 0), (12, .val false [.leaf] [.int .i64 0] [] 0), (13, .val false [.leaf] [.int .i64 0] [] 0)], 0⟩
def f85_i_HeardTracks.l0.A : Alt (Nat × List T) := .one (.exit 0) ⟨[(4, .val false [.sl .own [.leaf]] [.lst 0 []] [] 0)], 0⟩ sg_l
def f85_i_HeardTracks.l0.F (n m : Nat) (v : Nat × List T × Nat × List T × Int × Int) := f85_i_HeardTracks.l0 n m v.1 v.2.1 v.2.2.1 v.2.2.2.1 v.2.2.2.2.1 v.2.2.2.2.2
def f85_i_HeardTracks.l0.W (n : Nat) : LpW := .of 80 f85_i_HeardTracks.l0.P sg_llii f85_i_HeardTracks.l0.A (f85_i_HeardTracks.l0.F n n)
def f85_i_HeardTracks.P : List Arg := [⟨.val, ⟨false, [.sl .shr [.sl .shr [.leaf], .leaf, .leaf, .leaf, .leaf]], [.lst 0 []]⟩⟩]
def f85_i_HeardTracks.A : RAlt (Nat × List T × Bool) := .one ⟨[⟨false, [.sl .own [.leaf]], [.lst 0 []]⟩, ⟨false, [.leaf], [.bool false]⟩], [none]⟩ sg_lb
def f85_i_HeardTracks.F (n : Nat) (v : Nat × List T) := f85_i_HeardTracks n v.1 v.2
noncomputable def f85_i_HeardTracks.O (n : Nat) : Orc := orcOf (E := E) [f86_i_AreTracks.w, f160_i_heardTracks.w] [f85_i_HeardTracks.l0.W n] n
theorem f85_i_HeardTracks.l0.ok (n : Nat) : LpOk (f85_i_HeardTracks.O n) E (evalFn E n) n (keepAt 85) (.loop (loopAt c85 0)) :=
  lp_pure f85_i_HeardTracks.l0.P sg_llii f85_i_HeardTracks.l0.A (f85_i_HeardTracks.l0.F n) (orcOf_cf _ _ n) (lpOk_of (bs := []) (by kernel_rfl) .nil) (fun _ => rfl) (fun _ _ => by kernel_rfl) (fun _ _ _ => by kernel_rfl)
theorem f85_i_HeardTracks.ok : ∀ n v x, f85_i_HeardTracks.F n v = some x → evalFn E n 85 (flAs f85_i_HeardTracks.P (sg_l.pk v)) = some (f85_i_HeardTracks.A.enc x) :=
  fn_pure (modes := (fdAt 85).ms) (outs := (fdAt 85).os) (results := (fdAt 85).rs) f85_i_HeardTracks.O (c := c85) (keep := keepAt 85) (by kernel_rfl) (fun n => orcOf_cf _ _ n) (fun n => lpOk_of (bs := [loopAt c85 0]) (by kernel_rfl) (.cons (f85_i_HeardTracks.l0.ok n) .nil)) (fun _ => rfl) (fun _ _ => by kernel_rfl)
noncomputable def f85_i_HeardTracks.w : FnW E := fnW 85 f85_i_HeardTracks.P sg_l f85_i_HeardTracks.A f85_i_HeardTracks.F f85_i_HeardTracks.ok

def f71_l_b10Gap : Nat → Nat → Nat → Option (Nat)
  | 0, _, _ => none
  | n + 1, x1, x2 =>
    br (flt FloatKind.f64 x1 x2) (
     some (fsub FloatKind.f64 x2 x1)) (
     some (fsub FloatKind.f64 x1 x2))
def sg_ff : Sig (Nat × Nat) where
  pk := fun v => [.flt v.1, .flt v.2]
  up := fun ls => match ls with
    | [.flt a0, .flt a1] => some (a0, a1)
    | _ => none
  ok := by
    intro ls v h
    split at h
    · cases h; rfl
    · cases h

def f71_l_b10Gap.P : List Arg := [⟨.val, ⟨false, [.leaf], [.flt .f64 0]⟩⟩, ⟨.val, ⟨false, [.leaf], [.flt .f64 0]⟩⟩]
def f71_l_b10Gap.A : RAlt (Nat) := .one ⟨[⟨false, [.leaf], [.flt .f64 0]⟩], [none, none]⟩ sg_f
def f71_l_b10Gap.F (n : Nat) (v : Nat × Nat) := f71_l_b10Gap n v.1 v.2
noncomputable def f71_l_b10Gap.O (n : Nat) : Orc := orcOf (E := E) [] [] n
theorem f71_l_b10Gap.ok : ∀ n v x, f71_l_b10Gap.F n v = some x → evalFn E n 71 (flAs f71_l_b10Gap.P (sg_ff.pk v)) = some (f71_l_b10Gap.A.enc x) :=
  fn_pure (modes := (fdAt 71).ms) (outs := (fdAt 71).os) (results := (fdAt 71).rs) f71_l_b10Gap.O (c := c71) (keep := keepAt 71) (by kernel_rfl) (fun n => orcOf_cf _ _ n) (fun n => lpOk_of (bs := []) (by kernel_rfl) .nil) (fun _ => rfl) (fun _ _ => by kernel_rfl)
noncomputable def f71_l_b10Gap.w : FnW E := fnW 71 f71_l_b10Gap.P sg_ff f71_l_b10Gap.A f71_l_b10Gap.F f71_l_b10Gap.ok

def f14_l_FnTracks.l1 (n : Nat) : Nat → Nat → List T → Nat → List T → Nat → List T → Int → Nat → List T → Nat → List T → Nat → List T → Nat → List T → Nat → List T → Nat → List T → Nat → List T → Int → Nat → Bool → Bool → Nat → Nat → Nat → Int → Int → Int → Option (Nat × List T × Nat × List T × Nat × List T × Int × Nat × List T × Nat × List T × Nat × List T × Nat × List T × Nat × List T × Nat × List T × Nat × List T × Int × Nat × Bool × Bool × Int × Int)
  | 0, _, _, _, _, _, _, _, _, _, _, _, _, _, _, _, _, _, _, _, _, _, _, _, _, _, _, _, _, _, _, _ => none
  | m + 1, n1, l2, n3, l4, n5, l6, i7, n8, l9, n10, l11, n12, l13, n14, l15, n16, l17, n18, l19, n20, l21, i22, x23, b24, b25, x26, x27, x28, i29, i30, i31 =>
    br (decide (i29 < i7)) (
     br (decide (i29 < ((n20 : Nat) : Int))) (
      gd ((decide (((0 : Int) ≤ i29) ∧ (i29 < ((n20 : Nat) : Int)))) && (okAt [(CK.flt FloatKind.f32)] l21 (Int.toNat i29))) (
      let x32 : Nat := (fmul FloatKind.f32 (fAt l21 (Int.toNat i29)) x26)
      gd (decide (((0 : Int) ≤ i29) ∧ (i29 < ((n14 : Nat) : Int)))) (
      gd (okAt [(CK.flt FloatKind.f32)] l15 (Int.toNat i29)) (
      gd (decide (((0 : Int) ≤ i29) ∧ (i29 < ((n14 : Nat) : Int)))) (
      gd (Nat.ble ((Int.toNat i29) + 1) (List.length l15)) (
      let l33 : List T := (setN l15 (Int.toNat i29) [(T.flt FloatKind.f32 (fadd FloatKind.f32 (fAt l15 (Int.toNat i29)) (fmul FloatKind.f32 x32 x27)))])
      gd (decide (((0 : Int) ≤ i29) ∧ (i29 < ((n16 : Nat) : Int)))) (
      gd (okAt [(CK.flt FloatKind.f32)] l17 (Int.toNat i29)) (
      gd (decide (((0 : Int) ≤ i29) ∧ (i29 < ((n16 : Nat) : Int)))) (
      gd (Nat.ble ((Int.toNat i29) + 1) (List.length l17)) (
      let l34 : List T := (setN l17 (Int.toNat i29) [(T.flt FloatKind.f32 (fadd FloatKind.f32 (fAt l17 (Int.toNat i29)) (fmul FloatKind.f32 x32 x28)))])
      f14_l_FnTracks.l1 n m n1 l2 n3 l4 n5 l6 i7 n8 l9 n10 l11 n12 l13 n14 l33 n16 l34 n18 l19 n20 l21 i22 x23 b24 b25 x26 x27 x28 (IntKind.i64.wrap (i29 + (1 : Int))) i30 i31)))))))))) (
      some (n1, l2, n3, l4, n5, l6, i7, n8, l9, n10, l11, n12, l13, n14, l15, n16, l17, n18, l19, n20, l21, i22, x23, b24, b25, i30, i31))) (
     some (n1, l2, n3, l4, n5, l6, i7, n8, l9, n10, l11, n12, l13, n14, l15, n16, l17, n18, l19, n20, l21, i22, x23, b24, b25, i30, i31))
termination_by structural x => x
def f14_l_FnTracks.l0 (n : Nat) : Nat → Nat → List T → Nat → List T → Nat → List T → Int → Nat → List T → Nat → List T → Nat → List T → Nat → List T → Nat → List T → Nat → List T → Int → Int → Option ((Bool) ⊕ (Nat × List T × Nat × List T × Int × Nat × List T × Nat × List T × Nat × List T × Nat × List T × Nat × List T))
  | 0, _, _, _, _, _, _, _, _, _, _, _, _, _, _, _, _, _, _, _, _, _ => none
  | m + 1, n1, l2, n3, l4, n5, l6, i7, n8, l9, n10, l11, n12, l13, n14, l15, n16, l17, n18, l19, i20, i21 =>
    br (decide (i21 < i20)) (
     gd (decide (((0 : Int) ≤ i21) ∧ (i21 < ((n12 : Nat) : Int)))) (
     gd (okAt [(CK.int IntKind.i64)] l13 (Int.toNat i21)) (
     br (decide ((iAt l13 (Int.toNat i21)) < (0 : Int))) (
      some (Sum.inl false)) (
      gd (decide (((0 : Int) ≤ i21) ∧ (i21 < ((n12 : Nat) : Int)))) (
      gd (okAt [(CK.int IntKind.i64)] l13 (Int.toNat i21)) (
      br (decide ((iAt l13 (Int.toNat i21)) ≥ ((n5 : Nat) : Int))) (
       some (Sum.inl false)) (
       gd (decide (((0 : Int) ≤ i21) ∧ (i21 < ((n12 : Nat) : Int)))) (
       gd (okAt [(CK.int IntKind.i64)] l13 (Int.toNat i21)) (
       gd ((decide (((0 : Int) ≤ (iAt l13 (Int.toNat i21))) ∧ ((iAt l13 (Int.toNat i21)) < ((n5 : Nat) : Int)))) && (okAt [CK.lst, (CK.int IntKind.i64), (CK.flt FloatKind.f32), CK.bool, CK.bool] l6 (((Int.toNat (iAt l13 (Int.toNat i21))) * 5) + 0))) (
       let n22 : Nat := (nAt l6 (((Int.toNat (iAt l13 (Int.toNat i21))) * 5) + 0))
       let l23 : List T := (lAt l6 (((Int.toNat (iAt l13 (Int.toNat i21))) * 5) + 0))
       let i24 : Int := (iAt l6 ((((Int.toNat (iAt l13 (Int.toNat i21))) * 5) + 0) + 1))
       let x25 : Nat := (fAt l6 (((((Int.toNat (iAt l13 (Int.toNat i21))) * 5) + 0) + 1) + 1))
       let b26 : Bool := (bAt l6 ((((((Int.toNat (iAt l13 (Int.toNat i21))) * 5) + 0) + 1) + 1) + 1))
       let b27 : Bool := (bAt l6 (((((((Int.toNat (iAt l13 (Int.toNat i21))) * 5) + 0) + 1) + 1) + 1) + 1))
       bd (f72_i_GainOf n i24) fun r28 =>
       let x29 : Nat := r28.1
       let b30 : Bool := r28.2
       bd (f87_i_PanOf n x25) fun r31 =>
       let x32 : Nat := r31.1
       let x33 : Nat := r31.2.1
       let b34 : Bool := r31.2.2
       br (!b30) (
        some (Sum.inl false)) (
        br (!b34) (
         some (Sum.inl false)) (
         br b26 (
          some (Sum.inl false)) (
          bd ((fltToFlt FloatKind.f32 x32 FloatKind.f64)) fun y35 =>
          bd ((fltToFlt FloatKind.f32 x32 FloatKind.f64)) fun y36 =>
          bd ((fltToFlt FloatKind.f32 x33 FloatKind.f64)) fun y37 =>
          bd ((fltToFlt FloatKind.f32 x33 FloatKind.f64)) fun y38 =>
          bd (f71_l_b10Gap n (fadd FloatKind.f64 (fmul FloatKind.f64 y35 y36) (fmul FloatKind.f64 y37 y38)) 4607182418800017408) fun r39 =>
          let x40 : Nat := r39
          br (fgt FloatKind.f64 x40 4547007122018943789) (
           some (Sum.inl false)) (
           bd (f14_l_FnTracks.l1 n n n1 l2 n3 l4 n5 l6 i7 n8 l9 n10 l11 n12 l13 n14 l15 n16 l17 n18 l19 n22 l23 i24 x25 b26 b27 x29 x32 x33 (0 : Int) i20 i21) fun r41 =>
           let n42 : Nat := r41.1
           let l43 : List T := r41.2.1
           let n44 : Nat := r41.2.2.1
           let l45 : List T := r41.2.2.2.1
           let n46 : Nat := r41.2.2.2.2.1
           let l47 : List T := r41.2.2.2.2.2.1
           let i48 : Int := r41.2.2.2.2.2.2.1
           let n49 : Nat := r41.2.2.2.2.2.2.2.1
           let l50 : List T := r41.2.2.2.2.2.2.2.2.1
           let n51 : Nat := r41.2.2.2.2.2.2.2.2.2.1
           let l52 : List T := r41.2.2.2.2.2.2.2.2.2.2.1
           let n53 : Nat := r41.2.2.2.2.2.2.2.2.2.2.2.1
           let l54 : List T := r41.2.2.2.2.2.2.2.2.2.2.2.2.1
           let n55 : Nat := r41.2.2.2.2.2.2.2.2.2.2.2.2.2.1
           let l56 : List T := r41.2.2.2.2.2.2.2.2.2.2.2.2.2.2.1
           let n57 : Nat := r41.2.2.2.2.2.2.2.2.2.2.2.2.2.2.2.1
           let l58 : List T := r41.2.2.2.2.2.2.2.2.2.2.2.2.2.2.2.2.1
           let n59 : Nat := r41.2.2.2.2.2.2.2.2.2.2.2.2.2.2.2.2.2.1
           let l60 : List T := r41.2.2.2.2.2.2.2.2.2.2.2.2.2.2.2.2.2.2.1
           let n61 : Nat := r41.2.2.2.2.2.2.2.2.2.2.2.2.2.2.2.2.2.2.2.1
           let l62 : List T := r41.2.2.2.2.2.2.2.2.2.2.2.2.2.2.2.2.2.2.2.2.1
           let i63 : Int := r41.2.2.2.2.2.2.2.2.2.2.2.2.2.2.2.2.2.2.2.2.2.1
           let x64 : Nat := r41.2.2.2.2.2.2.2.2.2.2.2.2.2.2.2.2.2.2.2.2.2.2.1
           let b65 : Bool := r41.2.2.2.2.2.2.2.2.2.2.2.2.2.2.2.2.2.2.2.2.2.2.2.1
           let b66 : Bool := r41.2.2.2.2.2.2.2.2.2.2.2.2.2.2.2.2.2.2.2.2.2.2.2.2.1
           let i67 : Int := r41.2.2.2.2.2.2.2.2.2.2.2.2.2.2.2.2.2.2.2.2.2.2.2.2.2.1
           let i68 : Int := r41.2.2.2.2.2.2.2.2.2.2.2.2.2.2.2.2.2.2.2.2.2.2.2.2.2.2
           gd (Nat.ble (n59 + 1) 2147483648) (
           let n69 : Nat := (n59 + 1)
           let l70 : List T := (l60 ++ (setN (reps 1 [(T.lst 0 []), (T.int IntKind.i64 (0 : Int)), (T.flt FloatKind.f32 0), (T.bool false), (T.bool false)]) 0 [(T.lst n61 l62), (T.int IntKind.i64 i63), (T.flt FloatKind.f32 x64), (T.bool b65), (T.bool b66)]))
           f14_l_FnTracks.l0 n m n42 l43 n44 l45 n46 l47 i48 n49 l50 n51 l52 n53 l54 n55 l56 n57 l58 n69 l70 i67 (IntKind.i64.wrap (i68 + (1 : Int)))))))))))))))))) (
     some (Sum.inr (n1, l2, n3, l4, i7, n8, l9, n10, l11, n14, l15, n16, l17, n18, l19)))
termination_by structural x => x
def f165_s_l01Bits : Nat → Nat → Option (Int)
  | 0, _ => none
  | n + 1, x1 =>
    br (fne FloatKind.f32 x1 x1) (
     some (2143289344 : Int)) (
     bd (xF32bits n x1) fun r2 =>
     let i3 : Int := r2
     some (IntKind.i64.wrap i3))
def f165_s_l01Bits.P : List Arg := [⟨.val, ⟨false, [.leaf], [.flt .f32 0]⟩⟩]
def f165_s_l01Bits.A : RAlt (Int) := .one ⟨[⟨false, [.leaf], [.int .i64 0]⟩], [none]⟩ sg_i
def f165_s_l01Bits.F (n : Nat) (v : Nat) := f165_s_l01Bits n v
noncomputable def f165_s_l01Bits.O (n : Nat) : Orc := orcOf (E := E) [x96.w] [] n
theorem f165_s_l01Bits.ok : ∀ n v x, f165_s_l01Bits.F n v = some x → evalFn E n 165 (flAs f165_s_l01Bits.P (sg_f.pk v)) = some (f165_s_l01Bits.A.enc x) :=
  fn_pure (modes := (fdAt 165).ms) (outs := (fdAt 165).os) (results := (fdAt 165).rs) f165_s_l01Bits.O (c := c165) (keep := keepAt 165) (by kernel_rfl) (fun n => orcOf_cf _ _ n) (fun n => lpOk_of (bs := []) (by kernel_rfl) .nil) (fun _ => rfl) (fun _ _ => by kernel_rfl)
noncomputable def f165_s_l01Bits.w : FnW E := fnW 165 f165_s_l01Bits.P sg_f f165_s_l01Bits.A f165_s_l01Bits.F f165_s_l01Bits.ok

def f106_s_l01Same : Nat → Nat → Nat → Option (Bool)
  | 0, _, _ => none
  | n + 1, x1, x2 =>
    bd (f165_s_l01Bits n x1) fun r3 =>
    let i4 : Int := r3
    bd (f165_s_l01Bits n x2) fun r5 =>
    let i6 : Int := r5
    some (i4 == i6)
def f106_s_l01Same.P : List Arg := [⟨.val, ⟨false, [.leaf], [.flt .f32 0]⟩⟩, ⟨.val, ⟨false, [.leaf], [.flt .f32 0]⟩⟩]
def f106_s_l01Same.A : RAlt (Bool) := .one ⟨[⟨false, [.leaf], [.bool false]⟩], [none, none]⟩ sg_b
def f106_s_l01Same.F (n : Nat) (v : Nat × Nat) := f106_s_l01Same n v.1 v.2
noncomputable def f106_s_l01Same.O (n : Nat) : Orc := orcOf (E := E) [f165_s_l01Bits.w] [] n
theorem f106_s_l01Same.ok : ∀ n v x, f106_s_l01Same.F n v = some x → evalFn E n 106 (flAs f106_s_l01Same.P (sg_ff.pk v)) = some (f106_s_l01Same.A.enc x) :=
  fn_pure (modes := (fdAt 106).ms) (outs := (fdAt 106).os) (results := (fdAt 106).rs) f106_s_l01Same.O (c := c106) (keep := keepAt 106) (by kernel_rfl) (fun n => orcOf_cf _ _ n) (fun n => lpOk_of (bs := []) (by kernel_rfl) .nil) (fun _ => rfl) (fun _ _ => by kernel_rfl)
noncomputable def f106_s_l01Same.w : FnW E := fnW 106 f106_s_l01Same.P sg_ff f106_s_l01Same.A f106_s_l01Same.F f106_s_l01Same.ok

def f33_s_SameNumber : Nat → Nat → Nat → Option (Bool)
  | 0, _, _ => none
  | n + 1, x1, x2 =>
    bd (f106_s_l01Same n x1 x2) fun r3 =>
    let b4 : Bool := r3
    some b4
def f33_s_SameNumber.P : List Arg := [⟨.val, ⟨false, [.leaf], [.flt .f32 0]⟩⟩, ⟨.val, ⟨false, [.leaf], [.flt .f32 0]⟩⟩]
def f33_s_SameNumber.A : RAlt (Bool) := .one ⟨[⟨false, [.leaf], [.bool false]⟩], [none, none]⟩ sg_b
def f33_s_SameNumber.F (n : Nat) (v : Nat × Nat) := f33_s_SameNumber n v.1 v.2
noncomputable def f33_s_SameNumber.O (n : Nat) : Orc := orcOf (E := E) [f106_s_l01Same.w] [] n
theorem f33_s_SameNumber.ok : ∀ n v x, f33_s_SameNumber.F n v = some x → evalFn E n 33 (flAs f33_s_SameNumber.P (sg_ff.pk v)) = some (f33_s_SameNumber.A.enc x) :=
  fn_pure (modes := (fdAt 33).ms) (outs := (fdAt 33).os) (results := (fdAt 33).rs) f33_s_SameNumber.O (c := c33) (keep := keepAt 33) (by kernel_rfl) (fun n => orcOf_cf _ _ n) (fun n => lpOk_of (bs := []) (by kernel_rfl) .nil) (fun _ => rfl) (fun _ _ => by kernel_rfl)
noncomputable def f33_s_SameNumber.w : FnW E := fnW 33 f33_s_SameNumber.P sg_ff f33_s_SameNumber.A f33_s_SameNumber.F f33_s_SameNumber.ok

def f44_l_b10Same.l0 (n : Nat) : Nat → Nat → List T → Nat → List T → Int → Option ((Bool) ⊕ (Unit))
  | 0, _, _, _, _, _ => none
  | m + 1, n1, l2, n3, l4, i5 =>
    br (decide (i5 < ((n1 : Nat) : Int))) (
     gd ((decide (((0 : Int) ≤ i5) ∧ (i5 < ((n1 : Nat) : Int)))) && (okAt [(CK.flt FloatKind.f32)] l2 (Int.toNat i5))) (
     gd ((decide (((0 : Int) ≤ i5) ∧ (i5 < ((n3 : Nat) : Int)))) && (okAt [(CK.flt FloatKind.f32)] l4 (Int.toNat i5))) (
     bd (f33_s_SameNumber n (fAt l2 (Int.toNat i5)) (fAt l4 (Int.toNat i5))) fun r6 =>
     let b7 : Bool := r6
     br (!b7) (
      some (Sum.inl false)) (
      f44_l_b10Same.l0 n m n1 l2 n3 l4 (IntKind.i64.wrap (i5 + (1 : Int))))))) (
     some (Sum.inr ()))
def f44_l_b10Same : Nat → Nat → List T → Nat → List T → Option (Bool)
  | 0, _, _, _, _ => none
  | n + 1, n1, l2, n3, l4 =>
    br (((n1 : Nat) : Int) != ((n3 : Nat) : Int)) (
     some false) (
     bd (f44_l_b10Same.l0 n n n1 l2 n3 l4 (0 : Int)) fun r5 =>
     sm r5 (fun u6 =>
      let b7 : Bool := u6
      some b7) (fun u8 =>
      some true))
def sg_lli : Sig (Nat × List T × Nat × List T × Int) where
  pk := fun v => [.lst v.1 v.2.1, .lst v.2.2.1 v.2.2.2.1, .int v.2.2.2.2]
  up := fun ls => match ls with
    | [.lst a0 a1, .lst a2 a3, .int a4] => some (a0, a1, a2, a3, a4)
    | _ => none
  ok := by
    intro ls v h
    split at h
    · cases h; rfl
    · cases h

def f44_l_b10Same.l0.P : AS := ⟨[(0, .val false [.sl .shr [.leaf]] [.lst 0 []] [] 0), (1, .val false [.sl .shr [.leaf]] [.lst 0 []] [] 0), (5, .val false [.leaf] [.int .i64 0] [] 0)], 0⟩
def f44_l_b10Same.l0.A : Alt ((Bool) ⊕ (Unit)) := .or (.one .ret ⟨[(4, .val false [.leaf] [.bool false] [] 0)], 0⟩ sg_b) (.one (.exit 0) ⟨[(4, .dead)], 0⟩ sg)
def f44_l_b10Same.l0.F (n m : Nat) (v : Nat × List T × Nat × List T × Int) := f44_l_b10Same.l0 n m v.1 v.2.1 v.2.2.1 v.2.2.2.1 v.2.2.2.2
def f44_l_b10Same.l0.W (n : Nat) : LpW := .of 64 f44_l_b10Same.l0.P sg_lli f44_l_b10Same.l0.A (f44_l_b10Same.l0.F n n)
def f44_l_b10Same.P : List Arg := [⟨.val, ⟨false, [.sl .shr [.leaf]], [.lst 0 []]⟩⟩, ⟨.val, ⟨false, [.sl .shr [.leaf]], [.lst 0 []]⟩⟩]
def f44_l_b10Same.A : RAlt (Bool) := .one ⟨[⟨false, [.leaf], [.bool false]⟩], [none, none]⟩ sg_b
def f44_l_b10Same.F (n : Nat) (v : Nat × List T × Nat × List T) := f44_l_b10Same n v.1 v.2.1 v.2.2.1 v.2.2.2
noncomputable def f44_l_b10Same.O (n : Nat) : Orc := orcOf (E := E) [f33_s_SameNumber.w] [f44_l_b10Same.l0.W n] n
theorem f44_l_b10Same.l0.ok (n : Nat) : LpOk (f44_l_b10Same.O n) E (evalFn E n) n (keepAt 44) (.loop (loopAt c44 0)) :=
  lp_pure f44_l_b10Same.l0.P sg_lli f44_l_b10Same.l0.A (f44_l_b10Same.l0.F n) (orcOf_cf _ _ n) (lpOk_of (bs := []) (by kernel_rfl) .nil) (fun _ => rfl) (fun _ _ => by kernel_rfl) (fun _ _ _ => by kernel_rfl)
theorem f44_l_b10Same.ok : ∀ n v x, f44_l_b10Same.F n v = some x → evalFn E n 44 (flAs f44_l_b10Same.P (sg_ll.pk v)) = some (f44_l_b10Same.A.enc x) :=
  fn_pure (modes := (fdAt 44).ms) (outs := (fdAt 44).os) (results := (fdAt 44).rs) f44_l_b10Same.O (c := c44) (keep := keepAt 44) (by kernel_rfl) (fun n => orcOf_cf _ _ n) (fun n => lpOk_of (bs := [loopAt c44 0]) (by kernel_rfl) (.cons (f44_l_b10Same.l0.ok n) .nil)) (fun _ => rfl) (fun _ _ => by kernel_rfl)
noncomputable def f44_l_b10Same.w : FnW E := fnW 44 f44_l_b10Same.P sg_ll f44_l_b10Same.A f44_l_b10Same.F f44_l_b10Same.ok

def f34_s_B10Whole.l0 (n : Nat) : Nat → Int → Int → Nat → List T → Int → Int → Nat → List T → Option (Nat × List T)
  | 0, _, _, _, _, _, _, _, _ => none
  | m + 1, i1, i2, n3, l4, i5, i6, n7, l8 =>
    br (decide (i1 > (0 : Int))) (
     bd (f97_s_l00Srcpick n n3 l4 i5 i6 (IntKind.i64.wrap ((IntKind.i64.wrap ((2 : Int) * i2)) + (1 : Int)))) fun r9 =>
     let i10 : Int := r9.1
     let n11 : Nat := r9.2.1
     let l12 : List T := r9.2.2.1
     let i13 : Int := r9.2.2.2.1
     let i14 : Int := r9.2.2.2.2
     gd (Nat.ble (n7 + 1) 2147483648) (
     let n15 : Nat := (n7 + 1)
     let l16 : List T := (l8 ++ (setN (reps 1 [(T.flt FloatKind.f32 0)]) 0 [(T.flt FloatKind.f32 (FloatKind.nearest FloatKind.f32 (IntKind.i64.wrap (i10 - i2))))]))
     f34_s_B10Whole.l0 n m (IntKind.i64.wrap (i1 - (1 : Int))) i2 n11 l12 i13 i14 n15 l16)) (
     some (n7, l8))
def f34_s_B10Whole : Nat → Nat → List T → Int → Int → Option (Nat × List T)
  | 0, _, _, _, _ => none
  | n + 1, n1, l2, i3, i4 =>
    bd (f90_s_l00From n n1 l2) fun r5 =>
    let n6 : Nat := r5.1
    let l7 : List T := r5.2.1
    let i8 : Int := r5.2.2.1
    let i9 : Int := r5.2.2.2
    bd (f34_s_B10Whole.l0 n n i3 i4 n6 l7 i8 i9 0 (reps 0 [(T.flt FloatKind.f32 0)])) fun r10 =>
    let n11 : Nat := r10.1
    let l12 : List T := r10.2
    some (n11, l12)
def sg_iiliil : Sig (Int × Int × Nat × List T × Int × Int × Nat × List T) where
  pk := fun v => [.int v.1, .int v.2.1, .lst v.2.2.1 v.2.2.2.1, .int v.2.2.2.2.1, .int v.2.2.2.2.2.1, .lst v.2.2.2.2.2.2.1 v.2.2.2.2.2.2.2]
  up := fun ls => match ls with
    | [.int a0, .int a1, .lst a2 a3, .int a4, .int a5, .lst a6 a7] => some (a0, a1, a2, a3, a4, a5, a6, a7)
    | _ => none
  ok := by
    intro ls v h
    split at h
    · cases h; rfl
    · cases h

def f34_s_B10Whole.l0.P : AS := ⟨[(1, .val false [.leaf] [.int .i64 0] [] 0), (2, .val false [.leaf] [.int .i64 0] [] 0), (7, .box [.sl .shr [.leaf], .leaf, .leaf] [.lst 0 [], .int .i64 0, .int .u64 0] [] 0), (8, .val false [.sl .own [.leaf]] [.lst 0 []] [] 0)], 0⟩
def f34_s_B10Whole.l0.A : Alt (Nat × List T) := .one (.exit 0) ⟨[(8, .val false [.sl .own [.leaf]] [.lst 0 []] [] 0)], 0⟩ sg_l
def f34_s_B10Whole.l0.F (n m : Nat) (v : Int × Int × Nat × List T × Int × Int × Nat × List T) := f34_s_B10Whole.l0 n m v.1 v.2.1 v.2.2.1 v.2.2.2.1 v.2.2.2.2.1 v.2.2.2.2.2.1 v.2.2.2.2.2.2.1 v.2.2.2.2.2.2.2
def f34_s_B10Whole.l0.W (n : Nat) : LpW := .of 48 f34_s_B10Whole.l0.P sg_iiliil f34_s_B10Whole.l0.A (f34_s_B10Whole.l0.F n n)
def f34_s_B10Whole.P : List Arg := [⟨.val, ⟨false, [.sl .shr [.leaf]], [.lst 0 []]⟩⟩, ⟨.val, ⟨false, [.leaf], [.int .i64 0]⟩⟩, ⟨.val, ⟨false, [.leaf], [.int .i64 0]⟩⟩]
def f34_s_B10Whole.A : RAlt (Nat × List T) := .one ⟨[⟨false, [.sl .own [.leaf]], [.lst 0 []]⟩], [none, none, none]⟩ sg_l
def f34_s_B10Whole.F (n : Nat) (v : Nat × List T × Int × Int) := f34_s_B10Whole n v.1 v.2.1 v.2.2.1 v.2.2.2
noncomputable def f34_s_B10Whole.O (n : Nat) : Orc := orcOf (E := E) [f90_s_l00From.w, f97_s_l00Srcpick.w] [f34_s_B10Whole.l0.W n] n
theorem f34_s_B10Whole.l0.ok (n : Nat) : LpOk (f34_s_B10Whole.O n) E (evalFn E n) n (keepAt 34) (.loop (loopAt c34 0)) :=
  lp_pure f34_s_B10Whole.l0.P sg_iiliil f34_s_B10Whole.l0.A (f34_s_B10Whole.l0.F n) (orcOf_cf _ _ n) (lpOk_of (bs := []) (by kernel_rfl) .nil) (fun _ => rfl) (fun _ _ => by kernel_rfl) (fun _ _ _ => by kernel_rfl)
theorem f34_s_B10Whole.ok : ∀ n v x, f34_s_B10Whole.F n v = some x → evalFn E n 34 (flAs f34_s_B10Whole.P (sg_lii.pk v)) = some (f34_s_B10Whole.A.enc x) :=
  fn_pure (modes := (fdAt 34).ms) (outs := (fdAt 34).os) (results := (fdAt 34).rs) f34_s_B10Whole.O (c := c34) (keep := keepAt 34) (by kernel_rfl) (fun n => orcOf_cf _ _ n) (fun n => lpOk_of (bs := [loopAt c34 0]) (by kernel_rfl) (.cons (f34_s_B10Whole.l0.ok n) .nil)) (fun _ => rfl) (fun _ _ => by kernel_rfl)
noncomputable def f34_s_B10Whole.w : FnW E := fnW 34 f34_s_B10Whole.P sg_lii f34_s_B10Whole.A f34_s_B10Whole.F f34_s_B10Whole.ok

def f89_i_LeftAndRight.l0 (n : Nat) : Nat → Nat → List T → Nat → List T → Nat → List T → Nat → List T → Nat → List T → Int → Int → Option (Nat × List T × Nat × List T)
  | 0, _, _, _, _, _, _, _, _, _, _, _, _ => none
  | m + 1, n1, l2, n3, l4, n5, l6, n7, l8, n9, l10, i11, i12 =>
    br (decide (i12 < i11)) (
     gd ((decide (((0 : Int) ≤ i12) ∧ (i12 < ((n9 : Nat) : Int)))) && (okAt [(CK.flt FloatKind.f32)] l10 (Int.toNat i12))) (
     let x13 : Nat := (fAt l10 (Int.toNat i12))
     gd ((decide (((0 : Int) ≤ i12) ∧ (i12 < ((n3 : Nat) : Int)))) && (okAt [(CK.flt FloatKind.f32)] l4 (Int.toNat i12))) (
     gd (Nat.ble (n5 + 1) 2147483648) (
     gd ((decide (((0 : Int) ≤ i12) ∧ (i12 < ((n3 : Nat) : Int)))) && (okAt [(CK.flt FloatKind.f32)] l4 (Int.toNat i12))) (
     gd (Nat.ble (n7 + 1) 2147483648) (
     let n14 : Nat := (n5 + 1)
     let l15 : List T := (l6 ++ (setN (reps 1 [(T.flt FloatKind.f32 0)]) 0 [(T.flt FloatKind.f32 (fadd FloatKind.f32 x13 (fAt l4 (Int.toNat i12))))]))
     let n16 : Nat := (n7 + 1)
     let l17 : List T := (l8 ++ (setN (reps 1 [(T.flt FloatKind.f32 0)]) 0 [(T.flt FloatKind.f32 (fsub FloatKind.f32 x13 (fAt l4 (Int.toNat i12))))]))
     f89_i_LeftAndRight.l0 n m n1 l2 n3 l4 n14 l15 n16 l17 n9 l10 i11 (IntKind.i64.wrap (i12 + (1 : Int))))))))) (
     some (n5, l6, n7, l8))
termination_by structural x => x
def f89_i_LeftAndRight : Nat → Nat → List T → Nat → List T → Option (Nat × List T × Nat × List T × Bool)
  | 0, _, _, _, _ => none
  | n + 1, n1, l2, n3, l4 =>
    bd (f92_i_areSamples n n1 l2) fun r5 =>
    let b6 : Bool := r5
    br (!b6) (
     some (0, [], 0, [], false)) (
     br (((n3 : Nat) : Int) != ((n1 : Nat) : Int)) (
      some (0, [], 0, [], false)) (
      bd (f89_i_LeftAndRight.l0 n n n1 l2 n3 l4 0 [] 0 [] n1 l2 ((n1 : Nat) : Int) (0 : Int)) fun r7 =>
      let n8 : Nat := r7.1
      let l9 : List T := r7.2.1
      let n10 : Nat := r7.2.2.1
      let l11 : List T := r7.2.2.2
      some (n8, l9, n10, l11, true)))
def sg_lllllii : Sig (Nat × List T × Nat × List T × Nat × List T × Nat × List T × Nat × List T × Int × Int) where
  pk := fun v => [.lst v.1 v.2.1, .lst v.2.2.1 v.2.2.2.1, .lst v.2.2.2.2.1 v.2.2.2.2.2.1, .lst v.2.2.2.2.2.2.1 v.2.2.2.2.2.2.2.1, .lst v.2.2.2.2.2.2.2.2.1 v.2.2.2.2.2.2.2.2.2.1, .int v.2.2.2.2.2.2.2.2.2.2.1, .int v.2.2.2.2.2.2.2.2.2.2.2]
  up := fun ls => match ls with
    | [.lst a0 a1, .lst a2 a3, .lst a4 a5, .lst a6 a7, .lst a8 a9, .int a10, .int a11] => some (a0, a1, a2, a3, a4, a5, a6, a7, a8, a9, a10, a11)
    | _ => none
  ok := by
    intro ls v h
    split at h
    · cases h; rfl
    · cases h

def f89_i_LeftAndRight.l0.P : AS := ⟨[(0, .val false [.sl .shr [.leaf]] [.lst 0 []] [] 0), (1, .val false [.sl .shr [.leaf]] [.lst 0 []] [] 0), (7, .val false [.sl .own [.leaf]] [.lst 0 []] [] 0), (8, .val false [.sl .own [.leaf]] [.lst 0 []] [] 0), (21, .val false [.sl .shr [.leaf]] [.lst 0 []] [] 0), (22, .val false [.leaf] [.int .i64 0] [] 0), (23, .val false [.leaf] [.int .i64 0] [] 0)], 0⟩
def f89_i_LeftAndRight.l0.A : Alt (Nat × List T × Nat × List T) := .one (.exit 0) ⟨[(7, .val false [.sl .own [.leaf]] [.lst 0 []] [] 0), (8, .val false [.sl .own [.leaf]] [.lst 0 []] [] 0)], 0⟩ sg_ll
def f89_i_LeftAndRight.l0.F (n m : Nat) (v : Nat × List T × Nat × List T × Nat × List T × Nat × List T × Nat × List T × Int × Int) := f89_i_LeftAndRight.l0 n m v.1 v.2.1 v.2.2.1 v.2.2.2.1 v.2.2.2.2.1 v.2.2.2.2.2.1 v.2.2.2.2.2.2.1 v.2.2.2.2.2.2.2.1 v.2.2.2.2.2.2.2.2.1 v.2.2.2.2.2.2.2.2.2.1 v.2.2.2.2.2.2.2.2.2.2.1 v.2.2.2.2.2.2.2.2.2.2.2
def f89_i_LeftAndRight.l0.W (n : Nat) : LpW := .of 80 f89_i_LeftAndRight.l0.P sg_lllllii f89_i_LeftAndRight.l0.A (f89_i_LeftAndRight.l0.F n n)
def f89_i_LeftAndRight.P : List Arg := [⟨.val, ⟨false, [.sl .shr [.leaf]], [.lst 0 []]⟩⟩, ⟨.val, ⟨false, [.sl .shr [.leaf]], [.lst 0 []]⟩⟩]
def f89_i_LeftAndRight.A : RAlt (Nat × List T × Nat × List T × Bool) := .one ⟨[⟨false, [.sl .own [.leaf]], [.lst 0 []]⟩, ⟨false, [.sl .own [.leaf]], [.lst 0 []]⟩, ⟨false, [.leaf], [.bool false]⟩], [none, none]⟩ sg_llb
def f89_i_LeftAndRight.F (n : Nat) (v : Nat × List T × Nat × List T) := f89_i_LeftAndRight n v.1 v.2.1 v.2.2.1 v.2.2.2
noncomputable def f89_i_LeftAndRight.O (n : Nat) : Orc := orcOf (E := E) [f92_i_areSamples.w] [f89_i_LeftAndRight.l0.W n] n
theorem f89_i_LeftAndRight.l0.ok (n : Nat) : LpOk (f89_i_LeftAndRight.O n) E (evalFn E n) n (keepAt 89) (.loop (loopAt c89 0)) :=
  lp_pure f89_i_LeftAndRight.l0.P sg_lllllii f89_i_LeftAndRight.l0.A (f89_i_LeftAndRight.l0.F n) (orcOf_cf _ _ n) (lpOk_of (bs := []) (by kernel_rfl) .nil) (fun _ => rfl) (fun _ _ => by kernel_rfl) (fun _ _ _ => by kernel_rfl)
theorem f89_i_LeftAndRight.ok : ∀ n v x, f89_i_LeftAndRight.F n v = some x → evalFn E n 89 (flAs f89_i_LeftAndRight.P (sg_ll.pk v)) = some (f89_i_LeftAndRight.A.enc x) :=
  fn_pure (modes := (fdAt 89).ms) (outs := (fdAt 89).os) (results := (fdAt 89).rs) f89_i_LeftAndRight.O (c := c89) (keep := keepAt 89) (by kernel_rfl) (fun n => orcOf_cf _ _ n) (fun n => lpOk_of (bs := [loopAt c89 0]) (by kernel_rfl) (.cons (f89_i_LeftAndRight.l0.ok n) .nil)) (fun _ => rfl) (fun _ _ => by kernel_rfl)
noncomputable def f89_i_LeftAndRight.w : FnW E := fnW 89 f89_i_LeftAndRight.P sg_ll f89_i_LeftAndRight.A f89_i_LeftAndRight.F f89_i_LeftAndRight.ok

def f162_i_scaled.l0 (n : Nat) : Nat → Nat → List T → Nat → Nat → List T → Nat → List T → Int → Int → Option (Nat × List T)
  | 0, _, _, _, _, _, _, _, _, _ => none
  | m + 1, n1, l2, x3, n4, l5, n6, l7, i8, i9 =>
    br (decide (i9 < i8)) (
     gd ((decide (((0 : Int) ≤ i9) ∧ (i9 < ((n6 : Nat) : Int)))) && (okAt [(CK.flt FloatKind.f32)] l7 (Int.toNat i9))) (
     let x10 : Nat := (fAt l7 (Int.toNat i9))
     gd (Nat.ble (n4 + 1) 2147483648) (
     let n11 : Nat := (n4 + 1)
     let l12 : List T := (l5 ++ (setN (reps 1 [(T.flt FloatKind.f32 0)]) 0 [(T.flt FloatKind.f32 (fmul FloatKind.f32 x10 x3))]))
     f162_i_scaled.l0 n m n1 l2 x3 n11 l12 n6 l7 i8 (IntKind.i64.wrap (i9 + (1 : Int)))))) (
     some (n4, l5))
def f162_i_scaled : Nat → Nat → List T → Nat → Option (Nat × List T)
  | 0, _, _, _ => none
  | n + 1, n1, l2, x3 =>
    bd (f162_i_scaled.l0 n n n1 l2 x3 0 [] n1 l2 ((n1 : Nat) : Int) (0 : Int)) fun r4 =>
    let n5 : Nat := r4.1
    let l6 : List T := r4.2
    some (n5, l6)
def sg_lf : Sig (Nat × List T × Nat) where
  pk := fun v => [.lst v.1 v.2.1, .flt v.2.2]
  up := fun ls => match ls with
    | [.lst a0 a1, .flt a2] => some (a0, a1, a2)
    | _ => none
  ok := by
    intro ls v h
    split at h
    · cases h; rfl
    · cases h

def sg_lfllii : Sig (Nat × List T × Nat × Nat × List T × Nat × List T × Int × Int) where
  pk := fun v => [.lst v.1 v.2.1, .flt v.2.2.1, .lst v.2.2.2.1 v.2.2.2.2.1, .lst v.2.2.2.2.2.1 v.2.2.2.2.2.2.1, .int v.2.2.2.2.2.2.2.1, .int v.2.2.2.2.2.2.2.2]
  up := fun ls => match ls with
    | [.lst a0 a1, .flt a2, .lst a3 a4, .lst a5 a6, .int a7, .int a8] => some (a0, a1, a2, a3, a4, a5, a6, a7, a8)
    | _ => none
  ok := by
    intro ls v h
    split at h
    · cases h; rfl
    · cases h

def f162_i_scaled.l0.P : AS := ⟨[(0, .val false [.sl .shr [.leaf]] [.lst 0 []] [] 0), (1, .val false [.leaf] [.flt .f32 0] [] 0), (5, .val false [.sl .own [.leaf]] [.lst 0 []] [] 0), (8, .val false [.sl .shr [.leaf]] [.lst 0 []] [] 0), (9, .val false [.leaf] [.int .i64 0] [] 0), (10, .val false [.leaf] [.int .i64 0] [] 0)], 0⟩
def f162_i_scaled.l0.A : Alt (Nat × List T) := .one (.exit 0) ⟨[(5, .val false [.sl .own [.leaf]] [.lst 0 []] [] 0)], 0⟩ sg_l
def f162_i_scaled.l0.F (n m : Nat) (v : Nat × List T × Nat × Nat × List T × Nat × List T × Int × Int) := f162_i_scaled.l0 n m v.1 v.2.1 v.2.2.1 v.2.2.2.1 v.2.2.2.2.1 v.2.2.2.2.2.1 v.2.2.2.2.2.2.1 v.2.2.2.2.2.2.2.1 v.2.2.2.2.2.2.2.2
def f162_i_scaled.l0.W (n : Nat) : LpW := .of 48 f162_i_scaled.l0.P sg_lfllii f162_i_scaled.l0.A (f162_i_scaled.l0.F n n)
def f162_i_scaled.P : List Arg := [⟨.val, ⟨false, [.sl .shr [.leaf]], [.lst 0 []]⟩⟩, ⟨.val, ⟨false, [.leaf], [.flt .f32 0]⟩⟩]
def f162_i_scaled.A : RAlt (Nat × List T) := .one ⟨[⟨false, [.sl .own [.leaf]], [.lst 0 []]⟩], [none, none]⟩ sg_l
def f162_i_scaled.F (n : Nat) (v : Nat × List T × Nat) := f162_i_scaled n v.1 v.2.1 v.2.2
noncomputable def f162_i_scaled.O (n : Nat) : Orc := orcOf (E := E) [] [f162_i_scaled.l0.W n] n
theorem f162_i_scaled.l0.ok (n : Nat) : LpOk (f162_i_scaled.O n) E (evalFn E n) n (keepAt 162) (.loop (loopAt c162 0)) :=
  lp_pure f162_i_scaled.l0.P sg_lfllii f162_i_scaled.l0.A (f162_i_scaled.l0.F n) (orcOf_cf _ _ n) (lpOk_of (bs := []) (by kernel_rfl) .nil) (fun _ => rfl) (fun _ _ => by kernel_rfl) (fun _ _ _ => by kernel_rfl)
theorem f162_i_scaled.ok : ∀ n v x, f162_i_scaled.F n v = some x → evalFn E n 162 (flAs f162_i_scaled.P (sg_lf.pk v)) = some (f162_i_scaled.A.enc x) :=
  fn_pure (modes := (fdAt 162).ms) (outs := (fdAt 162).os) (results := (fdAt 162).rs) f162_i_scaled.O (c := c162) (keep := keepAt 162) (by kernel_rfl) (fun n => orcOf_cf _ _ n) (fun n => lpOk_of (bs := [loopAt c162 0]) (by kernel_rfl) (.cons (f162_i_scaled.l0.ok n) .nil)) (fun _ => rfl) (fun _ _ => by kernel_rfl)
noncomputable def f162_i_scaled.w : FnW E := fnW 162 f162_i_scaled.P sg_lf f162_i_scaled.A f162_i_scaled.F f162_i_scaled.ok

def f88_i_MiddleAndSide : Nat → Nat → List T → Nat → List T → Option (Nat × List T × Nat × List T × Bool)
  | 0, _, _, _, _ => none
  | n + 1, n1, l2, n3, l4 =>
    bd (f89_i_LeftAndRight n n1 l2 n3 l4) fun r5 =>
    let n6 : Nat := r5.1
    let l7 : List T := r5.2.1
    let n8 : Nat := r5.2.2.1
    let l9 : List T := r5.2.2.2.1
    let b10 : Bool := r5.2.2.2.2
    br (!b10) (
     some (0, [], 0, [], false)) (
     bd (f162_i_scaled n n6 l7 1056964608) fun r11 =>
     let n12 : Nat := r11.1
     let l13 : List T := r11.2
     bd (f162_i_scaled n n8 l9 1056964608) fun r14 =>
     let n15 : Nat := r14.1
     let l16 : List T := r14.2
     some (n12, l13, n15, l16, true))
def f88_i_MiddleAndSide.P : List Arg := [⟨.val, ⟨false, [.sl .shr [.leaf]], [.lst 0 []]⟩⟩, ⟨.val, ⟨false, [.sl .shr [.leaf]], [.lst 0 []]⟩⟩]
def f88_i_MiddleAndSide.A : RAlt (Nat × List T × Nat × List T × Bool) := .one ⟨[⟨false, [.sl .own [.leaf]], [.lst 0 []]⟩, ⟨false, [.sl .own [.leaf]], [.lst 0 []]⟩, ⟨false, [.leaf], [.bool false]⟩], [none, none]⟩ sg_llb
def f88_i_MiddleAndSide.F (n : Nat) (v : Nat × List T × Nat × List T) := f88_i_MiddleAndSide n v.1 v.2.1 v.2.2.1 v.2.2.2
noncomputable def f88_i_MiddleAndSide.O (n : Nat) : Orc := orcOf (E := E) [f89_i_LeftAndRight.w, f162_i_scaled.w] [] n
theorem f88_i_MiddleAndSide.ok : ∀ n v x, f88_i_MiddleAndSide.F n v = some x → evalFn E n 88 (flAs f88_i_MiddleAndSide.P (sg_ll.pk v)) = some (f88_i_MiddleAndSide.A.enc x) :=
  fn_pure (modes := (fdAt 88).ms) (outs := (fdAt 88).os) (results := (fdAt 88).rs) f88_i_MiddleAndSide.O (c := c88) (keep := keepAt 88) (by kernel_rfl) (fun n => orcOf_cf _ _ n) (fun n => lpOk_of (bs := []) (by kernel_rfl) .nil) (fun _ => rfl) (fun _ _ => by kernel_rfl)
noncomputable def f88_i_MiddleAndSide.w : FnW E := fnW 88 f88_i_MiddleAndSide.P sg_ll f88_i_MiddleAndSide.A f88_i_MiddleAndSide.F f88_i_MiddleAndSide.ok

def f14_l_FnTracks.l2 (n : Nat) : Nat → Int → Nat → List T → Nat → List T → Nat → List T → Nat → List T → Int → Option ((Bool) ⊕ (Unit))
  | 0, _, _, _, _, _, _, _, _, _, _ => none
  | m + 1, i1, n2, l3, n4, l5, n6, l7, n8, l9, i10 =>
    br (decide (i10 < i1)) (
     gd (decide (((0 : Int) ≤ i10) ∧ (i10 < ((n6 : Nat) : Int)))) (
     gd (okAt [(CK.flt FloatKind.f32)] l7 (Int.toNat i10)) (
     gd (decide (((0 : Int) ≤ i10) ∧ (i10 < ((n2 : Nat) : Int)))) (
     gd (okAt [(CK.flt FloatKind.f32)] l3 (Int.toNat i10)) (
     br (fne FloatKind.f32 (fAt l7 (Int.toNat i10)) (fAt l3 (Int.toNat i10))) (
      some (Sum.inl false)) (
      gd (decide (((0 : Int) ≤ i10) ∧ (i10 < ((n8 : Nat) : Int)))) (
      gd (okAt [(CK.flt FloatKind.f32)] l9 (Int.toNat i10)) (
      gd (decide (((0 : Int) ≤ i10) ∧ (i10 < ((n4 : Nat) : Int)))) (
      gd (okAt [(CK.flt FloatKind.f32)] l5 (Int.toNat i10)) (
      br (fne FloatKind.f32 (fAt l9 (Int.toNat i10)) (fAt l5 (Int.toNat i10))) (
       some (Sum.inl false)) (
       f14_l_FnTracks.l2 n m i1 n2 l3 n4 l5 n6 l7 n8 l9 (IntKind.i64.wrap (i10 + (1 : Int)))))))))))))) (
     some (Sum.inr ()))
def f14_l_FnTracks : Nat → Nat → List T → Nat → List T → Option (Bool)
  | 0, _, _, _, _ => none
  | n + 1, n1, l2, n3, l4 =>
    bd (f28_l_b10Long n n1 l2 n3 l4) fun r5 =>
    let b6 : Bool := r5
    br b6 (
     some true) (
     bd (f83_s_B10Tracks n n1 l2) fun r7 =>
     let n8 : Nat := r7.1
     let l9 : List T := r7.2
     bd (f29_l_b10At n n3 l4 (0 : Int) (12 : Int)) fun r10 =>
     let i11 : Int := r10
     bd (f84_i_MixTracks n n8 l9 i11) fun r12 =>
     let n13 : Nat := r12.1
     let l14 : List T := r12.2.1
     let n15 : Nat := r12.2.2.1
     let l16 : List T := r12.2.2.2.1
     let b17 : Bool := r12.2.2.2.2
     bd (f85_i_HeardTracks n n8 l9) fun r18 =>
     let n19 : Nat := r18.1
     let l20 : List T := r18.2.1
     let b21 : Bool := r18.2.2
     br (!b17) (
      some false) (
      br (!b21) (
       some false) (
       br (((n13 : Nat) : Int) != i11) (
        some false) (
        br (((n15 : Nat) : Int) != i11) (
         some false) (
         bd (f86_i_AreTracks n n8 l9) fun r22 =>
         let b23 : Bool := r22
         br (!b23) (
          some false) (
          gd (decide (((0 : Int) ≤ i11) ∧ (i11 ≤ (2147483648 : Int)))) (
          let n24 : Nat := (Int.toNat i11)
          let l25 : List T := (reps (Int.toNat i11) [(T.flt FloatKind.f32 0)])
          gd (decide (((0 : Int) ≤ i11) ∧ (i11 ≤ (2147483648 : Int)))) (
          let n26 : Nat := (Int.toNat i11)
          let l27 : List T := (reps (Int.toNat i11) [(T.flt FloatKind.f32 0)])
          bd (f14_l_FnTracks.l0 n n n1 l2 n3 l4 n8 l9 i11 n13 l14 n15 l16 n19 l20 n24 l25 n26 l27 0 (reps 0 [(T.lst 0 []), (T.int IntKind.i64 (0 : Int)), (T.flt FloatKind.f32 0), (T.bool false), (T.bool false)]) ((n19 : Nat) : Int) (0 : Int)) fun r28 =>
          sm r28 (fun u29 =>
           let b30 : Bool := u29
           some b30) (fun u31 =>
           let n32 : Nat := u31.1
           let l33 : List T := u31.2.1
           let n34 : Nat := u31.2.2.1
           let l35 : List T := u31.2.2.2.1
           let i36 : Int := u31.2.2.2.2.1
           let n37 : Nat := u31.2.2.2.2.2.1
           let l38 : List T := u31.2.2.2.2.2.2.1
           let n39 : Nat := u31.2.2.2.2.2.2.2.1
           let l40 : List T := u31.2.2.2.2.2.2.2.2.1
           let n41 : Nat := u31.2.2.2.2.2.2.2.2.2.1
           let l42 : List T := u31.2.2.2.2.2.2.2.2.2.2.1
           let n43 : Nat := u31.2.2.2.2.2.2.2.2.2.2.2.1
           let l44 : List T := u31.2.2.2.2.2.2.2.2.2.2.2.2.1
           let n45 : Nat := u31.2.2.2.2.2.2.2.2.2.2.2.2.2.1
           let l46 : List T := u31.2.2.2.2.2.2.2.2.2.2.2.2.2.2
           bd (f84_i_MixTracks n n45 l46 i36) fun r47 =>
           let n48 : Nat := r47.1
           let l49 : List T := r47.2.1
           let n50 : Nat := r47.2.2.1
           let l51 : List T := r47.2.2.2.1
           let b52 : Bool := r47.2.2.2.2
           br (!b52) (
            some false) (
            bd (f44_l_b10Same n n41 l42 n37 l38) fun r53 =>
            let b54 : Bool := r53
            br (!b54) (
             some false) (
             bd (f44_l_b10Same n n43 l44 n39 l40) fun r55 =>
             let b56 : Bool := r55
             br (!b56) (
              some false) (
              bd (f44_l_b10Same n n48 l49 n37 l38) fun r57 =>
              let b58 : Bool := r57
              br (!b58) (
               some false) (
               bd (f44_l_b10Same n n50 l51 n39 l40) fun r59 =>
               let b60 : Bool := r59
               br (!b60) (
                some false) (
                bd (f34_s_B10Whole n n32 l33 i36 (1000000 : Int)) fun r61 =>
                let n62 : Nat := r61.1
                let l63 : List T := r61.2
                bd (f34_s_B10Whole n n34 l35 i36 (1000000 : Int)) fun r64 =>
                let n65 : Nat := r64.1
                let l66 : List T := r64.2
                bd (f88_i_MiddleAndSide n n62 l63 n65 l66) fun r67 =>
                let n68 : Nat := r67.1
                let l69 : List T := r67.2.1
                let n70 : Nat := r67.2.2.1
                let l71 : List T := r67.2.2.2.1
                let b72 : Bool := r67.2.2.2.2
                bd (f89_i_LeftAndRight n n68 l69 n70 l71) fun r73 =>
                let n74 : Nat := r73.1
                let l75 : List T := r73.2.1
                let n76 : Nat := r73.2.2.1
                let l77 : List T := r73.2.2.2.1
                let b78 : Bool := r73.2.2.2.2
                br (!b72) (
                 some false) (
                 br (!b78) (
                  some false) (
                  br (((n74 : Nat) : Int) != i36) (
                   some false) (
                   br (((n76 : Nat) : Int) != i36) (
                    some false) (
                    bd (f14_l_FnTracks.l2 n n i36 n62 l63 n65 l66 n74 l75 n76 l77 (0 : Int)) fun r79 =>
                    sm r79 (fun u80 =>
                     let b81 : Bool := u80
                     some b81) (fun u82 =>
                     some true)))))))))))))))))))
def sg_lllilllllllifbbfffiii : Sig (Nat × List T × Nat × List T × Nat × List T × Int × Nat × List T × Nat × List T × Nat × List T × Nat × List T × Nat × List T × Nat × List T × Nat × List T × Int × Nat × Bool × Bool × Nat × Nat × Nat × Int × Int × Int) where
  pk := fun v => [.lst v.1 v.2.1, .lst v.2.2.1 v.2.2.2.1, .lst v.2.2.2.2.1 v.2.2.2.2.2.1, .int v.2.2.2.2.2.2.1, .lst v.2.2.2.2.2.2.2.1 v.2.2.2.2.2.2.2.2.1, .lst v.2.2.2.2.2.2.2.2.2.1 v.2.2.2.2.2.2.2.2.2.2.1, .lst v.2.2.2.2.2.2.2.2.2.2.2.1 v.2.2.2.2.2.2.2.2.2.2.2.2.1, .lst v.2.2.2.2.2.2.2.2.2.2.2.2.2.1 v.2.2.2.2.2.2.2.2.2.2.2.2.2.2.1, .lst v.2.2.2.2.2.2.2.2.2.2.2.2.2.2.2.1 v.2.2.2.2.2.2.2.2.2.2.2.2.2.2.2.2.1, .lst v.2.2.2.2.2.2.2.2.2.2.2.2.2.2.2.2.2.1 v.2.2.2.2.2.2.2.2.2.2.2.2.2.2.2.2.2.2.1, .lst v.2.2.2.2.2.2.2.2.2.2.2.2.2.2.2.2.2.2.2.1 v.2.2.2.2.2.2.2.2.2.2.2.2.2.2.2.2.2.2.2.2.1, .int v.2.2.2.2.2.2.2.2.2.2.2.2.2.2.2.2.2.2.2.2.2.1, .flt v.2.2.2.2.2.2.2.2.2.2.2.2.2.2.2.2.2.2.2.2.2.2.1, .bool v.2.2.2.2.2.2.2.2.2.2.2.2.2.2.2.2.2.2.2.2.2.2.2.1, .bool v.2.2.2.2.2.2.2.2.2.2.2.2.2.2.2.2.2.2.2.2.2.2.2.2.1, .flt v.2.2.2.2.2.2.2.2.2.2.2.2.2.2.2.2.2.2.2.2.2.2.2.2.2.1, .flt v.2.2.2.2.2.2.2.2.2.2.2.2.2.2.2.2.2.2.2.2.2.2.2.2.2.2.1, .flt v.2.2.2.2.2.2.2.2.2.2.2.2.2.2.2.2.2.2.2.2.2.2.2.2.2.2.2.1, .int v.2.2.2.2.2.2.2.2.2.2.2.2.2.2.2.2.2.2.2.2.2.2.2.2.2.2.2.2.1, .int v.2.2.2.2.2.2.2.2.2.2.2.2.2.2.2.2.2.2.2.2.2.2.2.2.2.2.2.2.2.1, .int v.2.2.2.2.2.2.2.2.2.2.2.2.2.2.2.2.2.2.2.2.2.2.2.2.2.2.2.2.2.2]
  up := fun ls => match ls with
    | [.lst a0 a1, .lst a2 a3, .lst a4 a5, .int a6, .lst a7 a8, .lst a9 a10, .lst a11 a12, .lst a13 a14, .lst a15 a16, .lst a17 a18, .lst a19 a20, .int a21, .flt a22, .bool a23, .bool a24, .flt a25, .flt a26, .flt a27, .int a28, .int a29, .int a30] => some (a0, a1, a2, a3, a4, a5, a6, a7, a8, a9, a10, a11, a12, a13, a14, a15, a16, a17, a18, a19, a20, a21, a22, a23, a24, a25, a26, a27, a28, a29, a30)
    | _ => none
  ok := by
    intro ls v h
    split at h
    · cases h; rfl
    · cases h

def sg_lllilllllllifbbii : Sig (Nat × List T × Nat × List T × Nat × List T × Int × Nat × List T × Nat × List T × Nat × List T × Nat × List T × Nat × List T × Nat × List T × Nat × List T × Int × Nat × Bool × Bool × Int × Int) where
  pk := fun v => [.lst v.1 v.2.1, .lst v.2.2.1 v.2.2.2.1, .lst v.2.2.2.2.1 v.2.2.2.2.2.1, .int v.2.2.2.2.2.2.1, .lst v.2.2.2.2.2.2.2.1 v.2.2.2.2.2.2.2.2.1, .lst v.2.2.2.2.2.2.2.2.2.1 v.2.2.2.2.2.2.2.2.2.2.1, .lst v.2.2.2.2.2.2.2.2.2.2.2.1 v.2.2.2.2.2.2.2.2.2.2.2.2.1, .lst v.2.2.2.2.2.2.2.2.2.2.2.2.2.1 v.2.2.2.2.2.2.2.2.2.2.2.2.2.2.1, .lst v.2.2.2.2.2.2.2.2.2.2.2.2.2.2.2.1 v.2.2.2.2.2.2.2.2.2.2.2.2.2.2.2.2.1, .lst v.2.2.2.2.2.2.2.2.2.2.2.2.2.2.2.2.2.1 v.2.2.2.2.2.2.2.2.2.2.2.2.2.2.2.2.2.2.1, .lst v.2.2.2.2.2.2.2.2.2.2.2.2.2.2.2.2.2.2.2.1 v.2.2.2.2.2.2.2.2.2.2.2.2.2.2.2.2.2.2.2.2.1, .int v.2.2.2.2.2.2.2.2.2.2.2.2.2.2.2.2.2.2.2.2.2.1, .flt v.2.2.2.2.2.2.2.2.2.2.2.2.2.2.2.2.2.2.2.2.2.2.1, .bool v.2.2.2.2.2.2.2.2.2.2.2.2.2.2.2.2.2.2.2.2.2.2.2.1, .bool v.2.2.2.2.2.2.2.2.2.2.2.2.2.2.2.2.2.2.2.2.2.2.2.2.1, .int v.2.2.2.2.2.2.2.2.2.2.2.2.2.2.2.2.2.2.2.2.2.2.2.2.2.1, .int v.2.2.2.2.2.2.2.2.2.2.2.2.2.2.2.2.2.2.2.2.2.2.2.2.2.2]
  up := fun ls => match ls with
    | [.lst a0 a1, .lst a2 a3, .lst a4 a5, .int a6, .lst a7 a8, .lst a9 a10, .lst a11 a12, .lst a13 a14, .lst a15 a16, .lst a17 a18, .lst a19 a20, .int a21, .flt a22, .bool a23, .bool a24, .int a25, .int a26] => some (a0, a1, a2, a3, a4, a5, a6, a7, a8, a9, a10, a11, a12, a13, a14, a15, a16, a17, a18, a19, a20, a21, a22, a23, a24, a25, a26)
    | _ => none
  ok := by
    intro ls v h
    split at h
    · cases h; rfl
    · cases h

def sg_lllillllllii : Sig (Nat × List T × Nat × List T × Nat × List T × Int × Nat × List T × Nat × List T × Nat × List T × Nat × List T × Nat × List T × Nat × List T × Int × Int) where
  pk := fun v => [.lst v.1 v.2.1, .lst v.2.2.1 v.2.2.2.1, .lst v.2.2.2.2.1 v.2.2.2.2.2.1, .int v.2.2.2.2.2.2.1, .lst v.2.2.2.2.2.2.2.1 v.2.2.2.2.2.2.2.2.1, .lst v.2.2.2.2.2.2.2.2.2.1 v.2.2.2.2.2.2.2.2.2.2.1, .lst v.2.2.2.2.2.2.2.2.2.2.2.1 v.2.2.2.2.2.2.2.2.2.2.2.2.1, .lst v.2.2.2.2.2.2.2.2.2.2.2.2.2.1 v.2.2.2.2.2.2.2.2.2.2.2.2.2.2.1, .lst v.2.2.2.2.2.2.2.2.2.2.2.2.2.2.2.1 v.2.2.2.2.2.2.2.2.2.2.2.2.2.2.2.2.1, .lst v.2.2.2.2.2.2.2.2.2.2.2.2.2.2.2.2.2.1 v.2.2.2.2.2.2.2.2.2.2.2.2.2.2.2.2.2.2.1, .int v.2.2.2.2.2.2.2.2.2.2.2.2.2.2.2.2.2.2.2.1, .int v.2.2.2.2.2.2.2.2.2.2.2.2.2.2.2.2.2.2.2.2]
  up := fun ls => match ls with
    | [.lst a0 a1, .lst a2 a3, .lst a4 a5, .int a6, .lst a7 a8, .lst a9 a10, .lst a11 a12, .lst a13 a14, .lst a15 a16, .lst a17 a18, .int a19, .int a20] => some (a0, a1, a2, a3, a4, a5, a6, a7, a8, a9, a10, a11, a12, a13, a14, a15, a16, a17, a18, a19, a20)
    | _ => none
  ok := by
    intro ls v h
    split at h
    · cases h; rfl
    · cases h

def sg_llilllll : Sig (Nat × List T × Nat × List T × Int × Nat × List T × Nat × List T × Nat × List T × Nat × List T × Nat × List T) where
  pk := fun v => [.lst v.1 v.2.1, .lst v.2.2.1 v.2.2.2.1, .int v.2.2.2.2.1, .lst v.2.2.2.2.2.1 v.2.2.2.2.2.2.1, .lst v.2.2.2.2.2.2.2.1 v.2.2.2.2.2.2.2.2.1, .lst v.2.2.2.2.2.2.2.2.2.1 v.2.2.2.2.2.2.2.2.2.2.1, .lst v.2.2.2.2.2.2.2.2.2.2.2.1 v.2.2.2.2.2.2.2.2.2.2.2.2.1, .lst v.2.2.2.2.2.2.2.2.2.2.2.2.2.1 v.2.2.2.2.2.2.2.2.2.2.2.2.2.2]
  up := fun ls => match ls with
    | [.lst a0 a1, .lst a2 a3, .int a4, .lst a5 a6, .lst a7 a8, .lst a9 a10, .lst a11 a12, .lst a13 a14] => some (a0, a1, a2, a3, a4, a5, a6, a7, a8, a9, a10, a11, a12, a13, a14)
    | _ => none
  ok := by
    intro ls v h
    split at h
    · cases h; rfl
    · cases h

def sg_illlli : Sig (Int × Nat × List T × Nat × List T × Nat × List T × Nat × List T × Int) where
  pk := fun v => [.int v.1, .lst v.2.1 v.2.2.1, .lst v.2.2.2.1 v.2.2.2.2.1, .lst v.2.2.2.2.2.1 v.2.2.2.2.2.2.1, .lst v.2.2.2.2.2.2.2.1 v.2.2.2.2.2.2.2.2.1, .int v.2.2.2.2.2.2.2.2.2]
  up := fun ls => match ls with
    | [.int a0, .lst a1 a2, .lst a3 a4, .lst a5 a6, .lst a7 a8, .int a9] => some (a0, a1, a2, a3, a4, a5, a6, a7, a8, a9)
    | _ => none
  ok := by
    intro ls v h
    split at h
    · cases h; rfl
    · cases h

def f14_l_FnTracks.l1.P : AS := ⟨[(0, .val false [.sl .shr [.leaf]] [.lst 0 []] [] 0), (1, .val false [.sl .shr [.leaf]] [.lst 0 []] [] 0), (5, .val false [.sl .shr [.sl .shr [.leaf], .leaf, .leaf, .leaf, .leaf]] [.lst 0 []] [] 0), (6, .val false [.leaf] [.int .i64 0] [] 0), (7, .val false [.sl .own [.leaf]] [.lst 0 []] [] 0), (8, .val false [.sl .own [.leaf]] [.lst 0 []] [] 0), (10, .val false [.sl .own [.leaf]] [.lst 0 []] [] 0), (12, .val false [.sl .own [.leaf]] [.lst 0 []] [] 0), (13, .val false [.sl .own [.leaf]] [.lst 0 []] [] 0), (14, .val false [.sl .own [.sl .shr [.leaf], .leaf, .leaf, .leaf, .leaf]] [.lst 0 []] [] 0), (16, .box [.sl .shr [.leaf], .leaf, .leaf, .leaf, .leaf] [.lst 0 [], .int .i64 0, .flt .f32 0, .bool false, .bool false] [] 0), (17, .val false [.leaf] [.flt .f32 0] [] 0), (19, .val false [.leaf] [.flt .f32 0] [] 0), (20, .val false [.leaf] [.flt .f32 0] [] 0), (22, .val false [.leaf] [.int .i64 0] [] 0), (84, .val false [.leaf] [.int .i64 0] [] 0), (85, .val false [.leaf] [.int .i64 0] [] 0)], 0⟩
def f14_l_FnTracks.l1.A : Alt (Nat × List T × Nat × List T × Nat × List T × Int × Nat × List T × Nat × List T × Nat × List T × Nat × List T × Nat × List T × Nat × List T × Nat × List T × Int × Nat × Bool × Bool × Int × Int) := .one (.exit 2) ⟨[(0, .val false [.sl .shr [.leaf]] [.lst 0 []] [] 0), (1, .val false [.sl .shr [.leaf]] [.lst 0 []] [] 0), (5, .val false [.sl .shr [.sl .shr [.leaf], .leaf, .leaf, .leaf, .leaf]] [.lst 0 []] [] 0), (6, .val false [.leaf] [.int .i64 0] [] 0), (7, .val false [.sl .own [.leaf]] [.lst 0 []] [] 0), (8, .val false [.sl .own [.leaf]] [.lst 0 []] [] 0), (10, .val false [.sl .own [.leaf]] [.lst 0 []] [] 0), (12, .val false [.sl .own [.leaf]] [.lst 0 []] [] 0), (13, .val false [.sl .own [.leaf]] [.lst 0 []] [] 0), (14, .val false [.sl .own [.sl .shr [.leaf], .leaf, .leaf, .leaf, .leaf]] [.lst 0 []] [] 0), (16, .box [.sl .shr [.leaf], .leaf, .leaf, .leaf, .leaf] [.lst 0 [], .int .i64 0, .flt .f32 0, .bool false, .bool false] [] 0), (84, .val false [.leaf] [.int .i64 0] [] 0), (85, .val false [.leaf] [.int .i64 0] [] 0), (188, .dead)], 0⟩ sg_lllilllllllifbbii
def f14_l_FnTracks.l1.F (n m : Nat) (v : Nat × List T × Nat × List T × Nat × List T × Int × Nat × List T × Nat × List T × Nat × List T × Nat × List T × Nat × List T × Nat × List T × Nat × List T × Int × Nat × Bool × Bool × Nat × Nat × Nat × Int × Int × Int) := f14_l_FnTracks.l1 n m v.1 v.2.1 v.2.2.1 v.2.2.2.1 v.2.2.2.2.1 v.2.2.2.2.2.1 v.2.2.2.2.2.2.1 v.2.2.2.2.2.2.2.1 v.2.2.2.2.2.2.2.2.1 v.2.2.2.2.2.2.2.2.2.1 v.2.2.2.2.2.2.2.2.2.2.1 v.2.2.2.2.2.2.2.2.2.2.2.1 v.2.2.2.2.2.2.2.2.2.2.2.2.1 v.2.2.2.2.2.2.2.2.2.2.2.2.2.1 v.2.2.2.2.2.2.2.2.2.2.2.2.2.2.1 v.2.2.2.2.2.2.2.2.2.2.2.2.2.2.2.1 v.2.2.2.2.2.2.2.2.2.2.2.2.2.2.2.2.1 v.2.2.2.2.2.2.2.2.2.2.2.2.2.2.2.2.2.1 v.2.2.2.2.2.2.2.2.2.2.2.2.2.2.2.2.2.2.1 v.2.2.2.2.2.2.2.2.2.2.2.2.2.2.2.2.2.2.2.1 v.2.2.2.2.2.2.2.2.2.2.2.2.2.2.2.2.2.2.2.2.1 v.2.2.2.2.2.2.2.2.2.2.2.2.2.2.2.2.2.2.2.2.2.1 v.2.2.2.2.2.2.2.2.2.2.2.2.2.2.2.2.2.2.2.2.2.2.1 v.2.2.2.2.2.2.2.2.2.2.2.2.2.2.2.2.2.2.2.2.2.2.2.1 v.2.2.2.2.2.2.2.2.2.2.2.2.2.2.2.2.2.2.2.2.2.2.2.2.1 v.2.2.2.2.2.2.2.2.2.2.2.2.2.2.2.2.2.2.2.2.2.2.2.2.2.1 v.2.2.2.2.2.2.2.2.2.2.2.2.2.2.2.2.2.2.2.2.2.2.2.2.2.2.1 v.2.2.2.2.2.2.2.2.2.2.2.2.2.2.2.2.2.2.2.2.2.2.2.2.2.2.2.1 v.2.2.2.2.2.2.2.2.2.2.2.2.2.2.2.2.2.2.2.2.2.2.2.2.2.2.2.2.1 v.2.2.2.2.2.2.2.2.2.2.2.2.2.2.2.2.2.2.2.2.2.2.2.2.2.2.2.2.2.1 v.2.2.2.2.2.2.2.2.2.2.2.2.2.2.2.2.2.2.2.2.2.2.2.2.2.2.2.2.2.2
def f14_l_FnTracks.l1.W (n : Nat) : LpW := .of 368 f14_l_FnTracks.l1.P sg_lllilllllllifbbfffiii f14_l_FnTracks.l1.A (f14_l_FnTracks.l1.F n n)
def f14_l_FnTracks.l0.P : AS := ⟨[(0, .val false [.sl .shr [.leaf]] [.lst 0 []] [] 0), (1, .val false [.sl .shr [.leaf]] [.lst 0 []] [] 0), (5, .val false [.sl .shr [.sl .shr [.leaf], .leaf, .leaf, .leaf, .leaf]] [.lst 0 []] [] 0), (6, .val false [.leaf] [.int .i64 0] [] 0), (7, .val false [.sl .own [.leaf]] [.lst 0 []] [] 0), (8, .val false [.sl .own [.leaf]] [.lst 0 []] [] 0), (10, .val false [.sl .own [.leaf]] [.lst 0 []] [] 0), (12, .val false [.sl .own [.leaf]] [.lst 0 []] [] 0), (13, .val false [.sl .own [.leaf]] [.lst 0 []] [] 0), (14, .val false [.sl .own [.sl .shr [.leaf], .leaf, .leaf, .leaf, .leaf]] [.lst 0 []] [] 0), (84, .val false [.leaf] [.int .i64 0] [] 0), (85, .val false [.leaf] [.int .i64 0] [] 0)], 0⟩
def f14_l_FnTracks.l0.A : Alt ((Bool) ⊕ (Nat × List T × Nat × List T × Int × Nat × List T × Nat × List T × Nat × List T × Nat × List T × Nat × List T)) := .or (.one .ret ⟨[(0, .dead), (1, .dead), (4, .val false [.leaf] [.bool false] [] 0), (6, .dead), (7, .dead), (8, .dead), (12, .dead), (13, .dead), (14, .dead)], 0⟩ sg_b) (.one (.exit 0) ⟨[(0, .val false [.sl .shr [.leaf]] [.lst 0 []] [] 0), (1, .val false [.sl .shr [.leaf]] [.lst 0 []] [] 0), (4, .dead), (6, .val false [.leaf] [.int .i64 0] [] 0), (7, .val false [.sl .own [.leaf]] [.lst 0 []] [] 0), (8, .val false [.sl .own [.leaf]] [.lst 0 []] [] 0), (12, .val false [.sl .own [.leaf]] [.lst 0 []] [] 0), (13, .val false [.sl .own [.leaf]] [.lst 0 []] [] 0), (14, .val false [.sl .own [.sl .shr [.leaf], .leaf, .leaf, .leaf, .leaf]] [.lst 0 []] [] 0)], 0⟩ sg_llilllll)
def f14_l_FnTracks.l0.F (n m : Nat) (v : Nat × List T × Nat × List T × Nat × List T × Int × Nat × List T × Nat × List T × Nat × List T × Nat × List T × Nat × List T × Nat × List T × Int × Int) := f14_l_FnTracks.l0 n m v.1 v.2.1 v.2.2.1 v.2.2.2.1 v.2.2.2.2.1 v.2.2.2.2.2.1 v.2.2.2.2.2.2.1 v.2.2.2.2.2.2.2.1 v.2.2.2.2.2.2.2.2.1 v.2.2.2.2.2.2.2.2.2.1 v.2.2.2.2.2.2.2.2.2.2.1 v.2.2.2.2.2.2.2.2.2.2.2.1 v.2.2.2.2.2.2.2.2.2.2.2.2.1 v.2.2.2.2.2.2.2.2.2.2.2.2.2.1 v.2.2.2.2.2.2.2.2.2.2.2.2.2.2.1 v.2.2.2.2.2.2.2.2.2.2.2.2.2.2.2.1 v.2.2.2.2.2.2.2.2.2.2.2.2.2.2.2.2.1 v.2.2.2.2.2.2.2.2.2.2.2.2.2.2.2.2.2.1 v.2.2.2.2.2.2.2.2.2.2.2.2.2.2.2.2.2.2.1 v.2.2.2.2.2.2.2.2.2.2.2.2.2.2.2.2.2.2.2.1 v.2.2.2.2.2.2.2.2.2.2.2.2.2.2.2.2.2.2.2.2
def f14_l_FnTracks.l0.W (n : Nat) : LpW := .of 208 f14_l_FnTracks.l0.P sg_lllillllllii f14_l_FnTracks.l0.A (f14_l_FnTracks.l0.F n n)
def f14_l_FnTracks.l2.P : AS := ⟨[(6, .val false [.leaf] [.int .i64 0] [] 0), (27, .val false [.sl .own [.leaf]] [.lst 0 []] [] 0), (28, .val false [.sl .own [.leaf]] [.lst 0 []] [] 0), (32, .val false [.sl .own [.leaf]] [.lst 0 []] [] 0), (33, .val false [.sl .own [.leaf]] [.lst 0 []] [] 0), (35, .val false [.leaf] [.int .i64 0] [] 0)], 0⟩
def f14_l_FnTracks.l2.A : Alt ((Bool) ⊕ (Unit)) := .or (.one .ret ⟨[(4, .val false [.leaf] [.bool false] [] 0)], 0⟩ sg_b) (.one (.exit 4) ⟨[(4, .dead)], 0⟩ sg)
def f14_l_FnTracks.l2.F (n m : Nat) (v : Int × Nat × List T × Nat × List T × Nat × List T × Nat × List T × Int) := f14_l_FnTracks.l2 n m v.1 v.2.1 v.2.2.1 v.2.2.2.1 v.2.2.2.2.1 v.2.2.2.2.2.1 v.2.2.2.2.2.2.1 v.2.2.2.2.2.2.2.1 v.2.2.2.2.2.2.2.2.1 v.2.2.2.2.2.2.2.2.2
def f14_l_FnTracks.l2.W (n : Nat) : LpW := .of 640 f14_l_FnTracks.l2.P sg_illlli f14_l_FnTracks.l2.A (f14_l_FnTracks.l2.F n n)
def f14_l_FnTracks.P : List Arg := [⟨.val, ⟨false, [.sl .shr [.leaf]], [.lst 0 []]⟩⟩, ⟨.val, ⟨false, [.sl .shr [.leaf]], [.lst 0 []]⟩⟩]
def f14_l_FnTracks.A : RAlt (Bool) := .one ⟨[⟨false, [.leaf], [.bool false]⟩], [none, none]⟩ sg_b
def f14_l_FnTracks.F (n : Nat) (v : Nat × List T × Nat × List T) := f14_l_FnTracks n v.1 v.2.1 v.2.2.1 v.2.2.2
noncomputable def f14_l_FnTracks.O (n : Nat) : Orc := orcOf (E := E) [f28_l_b10Long.w, f83_s_B10Tracks.w, f29_l_b10At.w, f86_i_AreTracks.w, f72_i_GainOf.w, f87_i_PanOf.w, f84_i_MixTracks.w, f85_i_HeardTracks.w, f71_l_b10Gap.w, f44_l_b10Same.w, f34_s_B10Whole.w, f89_i_LeftAndRight.w, f88_i_MiddleAndSide.w] [f14_l_FnTracks.l1.W n, f14_l_FnTracks.l0.W n, f14_l_FnTracks.l2.W n] n
theorem f14_l_FnTracks.l1.ok (n : Nat) : LpOk (f14_l_FnTracks.O n) E (evalFn E n) n (keepAt 14) (.loop (loopAt c14 1)) :=
  lp_pure f14_l_FnTracks.l1.P sg_lllilllllllifbbfffiii f14_l_FnTracks.l1.A (f14_l_FnTracks.l1.F n) (orcOf_cf _ _ n) (lpOk_of (bs := []) (by kernel_rfl) .nil) (fun _ => rfl) (fun _ _ => by kernel_rfl) (fun _ _ _ => by kernel_rfl)
theorem f14_l_FnTracks.l0.ok (n : Nat) : LpOk (f14_l_FnTracks.O n) E (evalFn E n) n (keepAt 14) (.loop (loopAt c14 0)) :=
  lp_pure f14_l_FnTracks.l0.P sg_lllillllllii f14_l_FnTracks.l0.A (f14_l_FnTracks.l0.F n) (orcOf_cf _ _ n) (lpOk_of (bs := [loopAt c14 1]) (by kernel_rfl) (.cons (f14_l_FnTracks.l1.ok n) .nil)) (fun _ => rfl) (fun _ _ => by kernel_rfl) (fun _ _ _ => by kernel_rfl)
theorem f14_l_FnTracks.l2.ok (n : Nat) : LpOk (f14_l_FnTracks.O n) E (evalFn E n) n (keepAt 14) (.loop (loopAt c14 2)) :=
  lp_pure f14_l_FnTracks.l2.P sg_illlli f14_l_FnTracks.l2.A (f14_l_FnTracks.l2.F n) (orcOf_cf _ _ n) (lpOk_of (bs := []) (by kernel_rfl) .nil) (fun _ => rfl) (fun _ _ => by kernel_rfl) (fun _ _ _ => by kernel_rfl)
theorem f14_l_FnTracks.ok : ∀ n v x, f14_l_FnTracks.F n v = some x → evalFn E n 14 (flAs f14_l_FnTracks.P (sg_ll.pk v)) = some (f14_l_FnTracks.A.enc x) :=
  fn_pure (modes := (fdAt 14).ms) (outs := (fdAt 14).os) (results := (fdAt 14).rs) f14_l_FnTracks.O (c := c14) (keep := keepAt 14) (by kernel_rfl) (fun n => orcOf_cf _ _ n) (fun n => lpOk_of (bs := [loopAt c14 0, loopAt c14 2]) (by kernel_rfl) (.cons (f14_l_FnTracks.l0.ok n) (.cons (f14_l_FnTracks.l2.ok n) .nil))) (fun _ => rfl) (fun _ _ => by kernel_rfl)
noncomputable def f14_l_FnTracks.w : FnW E := fnW 14 f14_l_FnTracks.P sg_ll f14_l_FnTracks.A f14_l_FnTracks.F f14_l_FnTracks.ok
end Go.Proofs.Ytjkhhalnlodinaa.D
end
section
/- FnTracks, in plain Lean. -/
namespace Go.Proofs.Ytjkhhalnlodinaa.D
open Go Go.Desk
set_option linter.unusedVariables false
theorem s_from (n l : Nat) (c : List T) : f90_s_l00From (n + 1) l c = some (l, c, 0, 0) := by rw [f90_s_l00From]
theorem s_next (n : Nat) {bs : List Int} (hb : Bytes bs) {a : Int} (h0 : 0 ≤ a) (h1 : a ≤ 1125899906842624) (sd : Int) :
    ∃ r sd', (0 ≤ r ∧ r ≤ 255) ∧ f163_s_l00Srcnext (n + 1) bs.length (its .u8 bs) a sd = some (r, bs.length, its .u8 bs, a + 1, sd') := by
  rw [f163_s_l00Srcnext]
  rw [show IntKind.i64.wrap (a + 1) = a + 1 by rw [wrap64] <;> omega]
  cases h : decide (a < (bs.length : Int))
  · simp only [br_f]
    cases decide (a + 1 ≤ (bs.length : Int))
    · exact ⟨_, _, and255 _, rfl⟩
    · exact ⟨0, _, by omega, rfl⟩
  · simp only [decide_eq_true_eq] at h
    obtain ⟨i, rfl⟩ := Int.eq_ofNat_of_zero_le h0
    have hi : i < bs.length := by omega
    have hr := hb (bs[i]) (List.getElem_mem _)
    simp only [br_t, in_dec hi, Int.toNat_natCast, okAt_its hi, Bool.and_self, gd_t, iAt_its]
    rw [show bs.getD i 0 = bs[i] by simp [List.getD, hi], show IntKind.i64.wrap bs[i] = bs[i] by rw [wrap64] <;> omega]
    cases decide ((i : Int) + 1 ≤ (bs.length : Int))
    · exact ⟨_, _, and255 _, rfl⟩
    · exact ⟨_, _, hr, rfl⟩
theorem s_pick (n : Nat) {bs : List Int} (hb : Bytes bs) {a : Int} (h0 : 0 ≤ a) (h1 : a ≤ 1125899906842622) (sd k : Int) :
    ∃ r a' sd', (0 ≤ r ∧ (1 < k → r < k) ∧ (k ≤ 1 → r = 0)) ∧ (a ≤ a' ∧ a' ≤ a + 2) ∧ f97_s_l00Srcpick (n + 2) bs.length (its .u8 bs) a sd k = some (r, bs.length, its .u8 bs, a', sd') := by
  rw [f97_s_l00Srcpick]
  by_cases hk : k ≤ 1
  · rw [decide_eq_true hk]; exact ⟨0, a, sd, by omega, by omega, rfl⟩
  rw [decide_eq_false hk]
  obtain ⟨r, s1, hr, e1⟩ := s_next n hb h0 (by omega) sd
  simp only [br_f, e1, bd_s]
  have hk0 : (!decide (k = 0)) = true := by simp; omega
  by_cases hk2 : k > 200
  · rw [decide_eq_true hk2]
    obtain ⟨r', s2, hr', e2⟩ := s_next n hb (a := a + 1) (by omega) (by omega) s1
    simp only [br_t, e2, bd_s, hk0, gd_t]
    rw [show IntKind.i64.wrap (r * 256) = r * 256 by rw [wrap64] <;> omega, show IntKind.i64.wrap (r * 256 + r') = r * 256 + r' by rw [wrap64] <;> omega]
    refine ⟨_, _, _, ?_, ?_, rfl⟩
    · rw [Int.tmod_eq_emod_of_nonneg (by omega)]
      have := Int.emod_nonneg (r * 256 + r') (show k ≠ 0 by omega)
      have := Int.emod_lt_of_pos (r * 256 + r') (show 0 < k by omega)
      omega
    · omega
  · rw [decide_eq_false hk2]
    simp only [br_f, hk0, gd_t]
    refine ⟨_, _, _, ?_, ?_, rfl⟩
    · rw [Int.tmod_eq_emod_of_nonneg (by omega)]
      have := Int.emod_nonneg r (show k ≠ 0 by omega)
      have := Int.emod_lt_of_pos r (show 0 < k by omega)
      omega
    · omega
theorem s_one (n : Nat) {bs : List Int} (hb : Bytes bs) {a : Int} (h0 : 0 ≤ a) (h1 : a ≤ 1125899906842622) (sd k : Int) :
    ∃ r a' sd', (a ≤ a' ∧ a' ≤ a + 2) ∧ f158_s_l00Srcone (n + 3) bs.length (its .u8 bs) a sd k = some (r, bs.length, its .u8 bs, a', sd') := by
  obtain ⟨r, a', s', -, ha, e⟩ := s_pick n hb h0 h1 sd k
  rw [f158_s_l00Srcone, e]
  exact ⟨_, _, _, ha, rfl⟩
theorem s_plain (n : Nat) {bs : List Int} (hb : Bytes bs) {a : Int} (h0 : 0 ≤ a) (h1 : a ≤ 1125899906842620) (sd : Int) :
    ∃ x a' sd', Plain x ∧ (a ≤ a' ∧ a' ≤ a + 4) ∧ f91_s_l01DrawPlain (n + 4) bs.length (its .u8 bs) a sd = some (x, bs.length, its .u8 bs, a', sd') := by
  obtain ⟨r, a1, s1, hr, ha, e⟩ := s_pick (n + 1) hb h0 (by omega) sd 129
  obtain ⟨b, a2, s2, ha2, e2⟩ := s_one n hb (a := a1) (by omega) (by omega) s1 4
  rw [f91_s_l01DrawPlain, e]
  simp only [bd_s, e2]
  rw [show IntKind.i64.wrap (r - 64) = r - 64 by rw [wrap64] <;> omega]
  cases b
  · exact ⟨_, a2, s2, ⟨r - 64, by omega, .inr rfl⟩, by omega, rfl⟩
  · exact ⟨_, a2, s2, ⟨r - 64, by omega, .inl rfl⟩, by omega, rfl⟩
theorem s_among (n : Nat) {bs : List Int} (hb : Bytes bs) {a : Int} (h0 : 0 ≤ a) (h1 : a ≤ 1125899906842622) (sd : Int) (L : List Int) (hL : 0 < L.length) :
    ∃ r a' sd', r ∈ L ∧ (a ≤ a' ∧ a' ≤ a + 2) ∧ f168_s_l00Srcamong (n + 3) bs.length (its .u8 bs) a sd L.length (its .i64 L) = some (r, bs.length, its .u8 bs, a', sd', L.length, its .i64 L) := by
  obtain ⟨r, a1, s1, hr, ha, e⟩ := s_pick n hb h0 h1 sd (L.length : Int)
  rw [f168_s_l00Srcamong, e]
  obtain ⟨i, rfl⟩ := Int.eq_ofNat_of_zero_le hr.1
  have hi : i < L.length := by
    by_cases h : (L.length : Int) ≤ 1
    · have := hr.2.2 h; omega
    · have := hr.2.1 (by omega); omega
  simp only [bd_s, in_dec hi, Int.toNat_natCast, okAt_its hi, Bool.and_self, gd_t, iAt_its]
  refine ⟨_, _, _, ?_, ha, rfl⟩
  rw [show L.getD i 0 = L[i] by simp [List.getD, hi]]
  exact List.getElem_mem _
theorem s_from32 (n : Nat) {i : Int} (h0 : 0 ≤ i) (h1 : i < 4294967296) : ∃ x, W32 x ∧ f167_s_l01From (n + 2) i = some x := by
  rw [f167_s_l01From]
  refine ⟨canon .f32 i.toNat, w32_canon (by omega), ?_⟩
  rw [u32_wrap h0 h1]
  show bd (if 0 ≤ i then some (canon .f32 i.toNat) else none) _ = _
  rw [if_pos h0]; rfl
theorem s_float (n : Nat) {bs : List Int} (hb : Bytes bs) {a : Int} (h0 : 0 ≤ a) (h1 : a ≤ 1125899906842600) (sd : Int) :
    ∃ x a' sd', W32 x ∧ (a ≤ a' ∧ a' ≤ a + 16) ∧ f112_s_l01DrawFloat (n + 5) bs.length (its .u8 bs) a sd = some (x, bs.length, its .u8 bs, a', sd') := by
  obtain ⟨b, a1, s1, ha1, e1⟩ := s_one (n + 1) hb h0 (by omega) sd 12
  rw [f112_s_l01DrawFloat, e1]
  simp only [bd_s, br_not]
  cases b
  · obtain ⟨x, a2, s2, hx, ha2, e2⟩ := s_plain n hb (a := a1) (by omega) (by omega) s1
    simp only [br_f, e2, bd_s]
    exact ⟨_, _, _, hx.w32, by omega, rfl⟩
  obtain ⟨q, a2, s2, -, ha2, e2⟩ := s_pick (n + 2) hb (a := a1) (by omega) (by omega) s1 4
  simp only [br_t, e2, bd_s]
  cases q == 0
  case true =>
    obtain ⟨r, a3, s3, hr, ha3, e3⟩ := s_among (n + 1) hb (a := a2) (by omega) (by omega) s2 [0, 2147483648, 2139095040, 4286578688, 2143289344, 1, 2139095039, 8388608, 8388607, 2147483649] (by decide)
    have hr' : 0 ≤ r ∧ r < 4294967296 := by simp only [List.mem_cons, List.not_mem_nil, or_false] at hr; omega
    obtain ⟨x, hx, e4⟩ := s_from32 (n + 2) hr'.1 hr'.2
    rw [br_t]
    refine ⟨x, a3, s3, hx, by omega, ?_⟩
    refine Eq.trans (congrArg (fun o => bd o _) e3) ?_
    simp only [bd_s, e4]
  cases q == 1
  case true =>
    obtain ⟨r, a3, s3, hr, ha3, e3⟩ := s_pick (n + 2) hb (a := a2) (by omega) (by omega) s2 65536
    obtain ⟨r', a4, s4, hr', ha4, e4⟩ := s_pick (n + 2) hb (a := a3) (by omega) (by omega) s3 65536
    obtain ⟨x, hx, e5⟩ := s_from32 (n + 2) (i := r * 65536 + r') (by omega) (by omega)
    simp only [br_f, br_t, e3, e4, bd_s]
    rw [show IntKind.i64.wrap (r * 65536) = r * 65536 by rw [wrap64] <;> omega, show IntKind.i64.wrap (r * 65536 + r') = r * 65536 + r' by rw [wrap64] <;> omega, e5]
    exact ⟨x, _, _, hx, by omega, rfl⟩
  cases q == 2
  case true =>
    obtain ⟨r, a3, s3, hr, ha3, e3⟩ := s_pick (n + 2) hb (a := a2) (by omega) (by omega) s2 65536
    obtain ⟨x, hx, e5⟩ := s_from32 (n + 2) (i := r * 65536) (by omega) (by omega)
    simp only [br_f, br_t, e3, bd_s]
    rw [show IntKind.i64.wrap (r * 65536) = r * 65536 by rw [wrap64] <;> omega, e5]
    exact ⟨x, _, _, hx, by omega, rfl⟩
  obtain ⟨x, a3, s3, hx, ha3, e3⟩ := s_plain n hb (a := a2) (by omega) (by omega) s2
  obtain ⟨r, a4, s4, hr, ha4, e4⟩ := s_among (n + 1) hb (a := a3) (by omega) (by omega) s3 [8388608, 2130706432, 1610612736, 536870912] (by decide)
  have hr' : 0 ≤ r ∧ r < 4294967296 := by simp only [List.mem_cons, List.not_mem_nil, or_false] at hr; omega
  obtain ⟨y, hy, e5⟩ := s_from32 (n + 2) hr'.1 hr'.2
  simp only [br_f, e3, bd_s]
  refine ⟨_, a4, s4, w32_fmul x y, by omega, ?_⟩
  refine Eq.trans (congrArg (fun o => bd o _) e4) ?_
  simp only [bd_s, e5]
theorem s_floats_loop (n : Nat) {bs : List Int} (hb : Bytes bs) (str : Bool) : ∀ (j m : Nat) (a sd : Int) (acc : List Nat), 0 ≤ a → a + 16 * (j : Int) ≤ 1125899906842000 → acc.length + j ≤ 2147483647 → j < m → (∀ x ∈ acc, W32 x) →
    ∃ ys a' sd', ys.length = acc.length + j ∧ (∀ x ∈ ys, W32 x) ∧ (a ≤ a' ∧ a' ≤ a + 16 * (j : Int)) ∧
      f98_s_l01DrawFloats.l0 (n + 5) m bs.length (its .u8 bs) a sd (j : Int) acc.length (fls .f32 acc) str = some (bs.length, its .u8 bs, a', sd', ys.length, fls .f32 ys) := by
  intro j
  induction j with
  | zero =>
    intro m a sd acc h0 h1 hl hm hw
    obtain ⟨m, rfl⟩ : ∃ k, m = k + 1 := ⟨m - 1, by omega⟩
    rw [f98_s_l01DrawFloats.l0]
    exact ⟨acc, a, sd, by omega, hw, by omega, rfl⟩
  | succ j ih =>
    intro m a sd acc h0 h1 hl hm hw
    obtain ⟨m, rfl⟩ : ∃ k, m = k + 1 := ⟨m - 1, by omega⟩
    rw [f98_s_l01DrawFloats.l0, decide_eq_true (show (((j + 1 : Nat) : Int) > 0) by omega), show IntKind.i64.wrap (((j + 1 : Nat) : Int) - 1) = (j : Int) by rw [wrap64] <;> omega]
    have key : ∀ x a1 s1, W32 x → a ≤ a1 → a1 ≤ a + 16 → ∃ ys a' sd', ys.length = acc.length + (j + 1) ∧ (∀ x ∈ ys, W32 x) ∧ (a ≤ a' ∧ a' ≤ a + 16 * ((j + 1 : Nat) : Int)) ∧
        f98_s_l01DrawFloats.l0 (n + 5) m bs.length (its .u8 bs) a1 s1 (j : Int) (acc ++ [x]).length (fls .f32 (acc ++ [x])) str = some (bs.length, its .u8 bs, a', sd', ys.length, fls .f32 ys) := by
      intro x a1 s1 hx h2 h3
      obtain ⟨ys, a', sd', hy, hyw, ha, e⟩ := ih m a1 s1 (acc ++ [x]) (by omega) (by omega) (by simp; omega) (by omega) (by
        intro y hy; simp only [List.mem_append, List.mem_singleton] at hy; rcases hy with hy | rfl
        · exact hw y hy
        · exact hx)
      exact ⟨ys, a', sd', by simp at hy; omega, hyw, by omega, e⟩
    simp only [br_t]
    cases str
    · obtain ⟨x, a1, s1, hx, ha, e⟩ := s_plain (n + 1) hb h0 (by omega) sd
      simp only [br_f, e, bd_s, push_ok (show acc.length < 2147483648 by omega), gd_t, push_fls]
      rw [show acc.length + 1 = (acc ++ [x]).length by simp]
      exact key x a1 s1 hx.w32 (by omega) (by omega)
    · obtain ⟨x, a1, s1, hx, ha, e⟩ := s_float n hb h0 (by omega) sd
      simp only [br_t, e, bd_s, push_ok (show acc.length < 2147483648 by omega), gd_t, push_fls]
      rw [show acc.length + 1 = (acc ++ [x]).length by simp]
      exact key x a1 s1 hx (by omega) (by omega)
theorem s_floats (n : Nat) {bs : List Int} (hb : Bytes bs) {a : Int} (h0 : 0 ≤ a) (j : Nat) (h1 : a + 16 * (j : Int) ≤ 1125899906841000) (hj : j ≤ 2147483647) (hn : j < n) (sd : Int) :
    ∃ ys a' sd', ys.length = j ∧ (∀ x ∈ ys, W32 x) ∧ (a ≤ a' ∧ a' ≤ a + 2 + 16 * (j : Int)) ∧ f98_s_l01DrawFloats (n + 6) bs.length (its .u8 bs) a sd (j : Int) = some (ys.length, fls .f32 ys, bs.length, its .u8 bs, a', sd') := by
  obtain ⟨b, a1, s1, ha1, e1⟩ := s_one (n + 2) hb h0 (by omega) sd 4
  obtain ⟨ys, a2, s2, hy, hw, ha2, e2⟩ := s_floats_loop n hb b j (n + 5) a1 s1 [] (by omega) (by omega) (by simp; omega) (by omega) (by simp)
  rw [f98_s_l01DrawFloats, e1]
  refine ⟨ys, a2, s2, by simpa using hy, hw, by omega, ?_⟩
  have e2 : f98_s_l01DrawFloats.l0 (n + 5) (n + 5) bs.length (its .u8 bs) a1 s1 (j : Int) 0 (reps 0 [(T.flt FloatKind.f32 0)]) b = some (bs.length, its .u8 bs, a2, s2, ys.length, fls .f32 ys) := e2
  simp only [bd_s, e2]

theorem l_long10 (n : Nat) (bs cs : List Int) : f28_l_b10Long (n + 1) bs.length (its .u8 bs) cs.length (its .u8 cs) = some (decide (1048576 < bs.length ∨ 1048576 < cs.length)) := by
  rw [f28_l_b10Long]
  by_cases h : 1048576 < bs.length
  · rw [decide_eq_true (show (bs.length : Int) > 1048576 by omega), decide_eq_true (Or.inl h)]; rfl
  · rw [decide_eq_false (show ¬ (bs.length : Int) > 1048576 by omega), br_f]
    congr 1
    simp [h]; omega
theorem l_at10 (n : Nat) {bs : List Int} (hb : Bytes bs) {i k : Int} (hi : 0 ≤ i) (hi2 : i ≤ 1000000) (hk : 1 ≤ k) : ∃ r, (0 ≤ r ∧ r < k) ∧ f29_l_b10At (n + 1) bs.length (its .u8 bs) i k = some r := by
  rw [f29_l_b10At]
  by_cases h : k ≤ 1
  · rw [decide_eq_true h]; exact ⟨0, by omega, rfl⟩
  rw [decide_eq_false h]
  have hk0 : (!decide (k = 0)) = true := by simp; omega
  by_cases h2 : i < (bs.length : Int)
  · rw [decide_eq_true h2]
    obtain ⟨i, rfl⟩ := Int.eq_ofNat_of_zero_le hi
    have hi : i < bs.length := by omega
    have hr := hb (bs[i]) (List.getElem_mem _)
    simp only [br_f, br_t, in_dec hi, Int.toNat_natCast, okAt_its hi, Bool.and_self, gd_t, iAt_its, hk0]
    rw [show bs.getD i 0 = bs[i] by simp [List.getD, hi], show IntKind.i64.wrap bs[i] = bs[i] by rw [wrap64] <;> omega]
    refine ⟨_, ?_, rfl⟩
    rw [Int.tmod_eq_emod_of_nonneg (by omega)]
    have := Int.emod_nonneg bs[i] (show k ≠ 0 by omega)
    have := Int.emod_lt_of_pos bs[i] (show 0 < k by omega)
    omega
  · rw [decide_eq_false h2]
    simp only [br_f, hk0, gd_t]
    rw [show IntKind.i64.wrap (i * 37) = i * 37 by rw [wrap64] <;> omega, show IntKind.i64.wrap (i * 37 + 11) = i * 37 + 11 by rw [wrap64] <;> omega]
    refine ⟨_, ?_, rfl⟩
    rw [Int.tmod_eq_emod_of_nonneg (by omega)]
    have := Int.emod_nonneg (i * 37 + 11) (show k ≠ 0 by omega)
    have := Int.emod_lt_of_pos (i * 37 + 11) (show 0 < k by omega)
    omega
theorem s_bits (n : Nat) {x : Nat} (h : W32 x) : f165_s_l01Bits (n + 2) x = some (x : Int) := by
  rw [f165_s_l01Bits, fne_nan]
  cases hn : isNaN .f32 x
  · have : xF32bits (n + 1) x = some (x : Int) := by simp [xF32bits, hn]
    have hx := h.1
    simp only [br_f, this, bd_s]
    rw [wrap64] <;> omega
  · rw [br_t, ← h.2, canon_nan hn]; rfl
theorem s_same1 (n : Nat) {x y : Nat} (hx : W32 x) (hy : W32 y) : f106_s_l01Same (n + 3) x y = some (x == y) := by
  rw [f106_s_l01Same, s_bits n hx]
  simp only [bd_s, s_bits n hy]
  congr 1
  rw [Bool.eq_iff_iff]; simp; constructor <;> omega
theorem s_same (n : Nat) {x y : Nat} (hx : W32 x) (hy : W32 y) : f33_s_SameNumber (n + 4) x y = some (x == y) := by
  rw [f33_s_SameNumber, s_same1 n hx hy]; rfl
theorem l_same10_loop (n : Nat) : ∀ (zs ys p q : List Nat) (m : Nat), ys.length = zs.length → p.length = q.length → (∀ x ∈ zs, W32 x) → (∀ x ∈ ys, W32 x) → p.length + zs.length ≤ 1048576 → zs.length < m →
    f44_l_b10Same.l0 (n + 4) m (p ++ zs).length (fls .f32 (p ++ zs)) (q ++ ys).length (fls .f32 (q ++ ys)) (p.length : Int) = some (if zs = ys then .inr () else .inl false) := by
  intro zs
  induction zs with
  | nil =>
    intro ys p q m hl hpq _ _ _ hm
    obtain ⟨m, rfl⟩ : ∃ k, m = k + 1 := ⟨m - 1, by omega⟩
    obtain rfl : ys = [] := List.length_eq_zero_iff.1 (by simpa using hl)
    rw [f44_l_b10Same.l0, lt_end]
    rfl
  | cons z zs ih =>
    intro ys p q m hl hpq hz hy hb hm
    obtain ⟨m, rfl⟩ : ∃ k, m = k + 1 := ⟨m - 1, by omega⟩
    cases ys with
    | nil => simp at hl
    | cons y ys =>
      rw [f44_l_b10Same.l0, lt_mid, in_mid]
      simp only [hpq, in_mid, toNat_len, okAt_mid]
      rw [← hpq]
      simp only [okAt_mid, fAt_mid, Bool.and_self, gd_t, br_t]
      rw [hpq]
      simp only [fAt_mid]
      rw [s_same n (hz z (by simp)) (hy y (by simp)), ← hpq]
      simp only [bd_s, br_not]
      cases h : z == y
      · simp only [beq_eq_false_iff_ne, ne_eq] at h
        simp [br_f, h]
      · simp only [beq_iff_eq] at h
        subst h
        rw [br_t, wrap_len (z := z) (by simp at hb; omega)]
        have := ih ys (p ++ [z]) (q ++ [z]) m (by simpa using hl) (by simp [hpq]) (fun x hx => hz x (by simp [hx])) (fun x hx => hy x (by simp [hx])) (by simp at hb ⊢; omega) (by simp at hm; omega)
        simpa using this
/-- two lists of numbers -/
theorem l_same10 (n : Nat) (xs ys : List Nat) (hx : ∀ x ∈ xs, W32 x) (hy : ∀ x ∈ ys, W32 x) (hl : xs.length ≤ 1048576) (hn : xs.length < n) : f44_l_b10Same (n + 5) xs.length (fls .f32 xs) ys.length (fls .f32 ys) = some (decide (xs = ys)) := by
  rw [f44_l_b10Same]
  by_cases h : ys.length = xs.length
  · rw [show (((xs.length : Nat) : Int) != ((ys.length : Nat) : Int)) = false by simp [h], br_f]
    have := l_same10_loop n xs ys [] [] (n + 4) h rfl hx hy (by simpa using hl) (by omega)
    simp only [List.nil_append, List.length_nil] at this
    rw [show ((0 : Nat) : Int) = 0 from rfl] at this
    rw [this, bd_s]
    by_cases e : xs = ys
    · rw [if_pos e, decide_eq_true e]; rfl
    · rw [if_neg e, decide_eq_false e]; rfl
  · rw [show (((xs.length : Nat) : Int) != ((ys.length : Nat) : Int)) = true by simp; omega, decide_eq_false (fun e => h (by rw [e]))]
    rfl

theorem i_in (n : Nat) (a b c : Int) : f93_i_within (n + 1) a b c = some (decide (b ≤ a ∧ a ≤ c)) := by
  rw [f93_i_within]
  by_cases h : b ≤ a <;> simp [br, h]

theorem i_few (n k : Nat) (l : List T) : f92_i_areSamples (n + 1) k l = some (decide ((k : Int) ≤ 256)) := by rw [f92_i_areSamples]

theorem i_zeroed (n k : Nat) (h : k ≤ 2147483648) : f108_i_zeros (n + 1) (k : Int) = some (k, fls .f32 (List.replicate k 0)) := by
  rw [f108_i_zeros, decide_eq_true (show (0 : Int) ≤ (k : Int) ∧ (k : Int) ≤ 2147483648 by omega), gd_t, Int.toNat_natCast, reps_fls]

theorem s_b10whole_loop (n : Nat) {bs : List Int} (hb : Bytes bs) (most : Nat) (hmost : most ≤ 1000000) : ∀ (j m : Nat) (a sd : Int) (acc : List Int), 0 ≤ a → a + 2 * (j : Int) ≤ 1125899906842000 → acc.length + j ≤ 1000000 → j < m → (∀ x ∈ acc, -(most : Int) ≤ x ∧ x ≤ (most : Int)) →
    ∃ ks : List Int, ks.length = acc.length + j ∧ (∀ x ∈ ks, -(most : Int) ≤ x ∧ x ≤ (most : Int)) ∧ f34_s_B10Whole.l0 (n + 2) m (j : Int) (most : Int) bs.length (its .u8 bs) a sd (nears acc).length (fls .f32 (nears acc)) = some ((nears ks).length, fls .f32 (nears ks)) := by
  intro j
  induction j with
  | zero =>
    intro m a sd acc _ _ _ hm hw
    obtain ⟨m, rfl⟩ : ∃ k, m = k + 1 := ⟨m - 1, by omega⟩
    rw [f34_s_B10Whole.l0]
    exact ⟨acc, by omega, hw, rfl⟩
  | succ j ih =>
    intro m a sd acc h0 h1 hl hm hw
    obtain ⟨m, rfl⟩ : ∃ k, m = k + 1 := ⟨m - 1, by omega⟩
    obtain ⟨r, a1, s1, hr, ha1, e1⟩ := s_pick n hb h0 (by omega) sd (2 * (most : Int) + 1)
    have w1 : IntKind.i64.wrap (IntKind.i64.wrap (2 * (most : Int)) + 1) = 2 * (most : Int) + 1 := by rw [wrap64 (x := 2 * (most : Int)) (by omega) (by omega), wrap64] <;> omega
    have hr0 := hr.1
    have hr1 : r < 2 * (most : Int) + 1 := by
      by_cases h : 1 < 2 * (most : Int) + 1
      · exact hr.2.1 h
      · have := hr.2.2 (by omega); omega
    have w2 : IntKind.i64.wrap (r - (most : Int)) = r - (most : Int) := by rw [wrap64] <;> omega
    have hpush : nears acc ++ [FloatKind.f32.nearest (r - (most : Int))] = nears (acc ++ [r - (most : Int)]) := by simp [nears]
    rw [f34_s_B10Whole.l0, decide_eq_true (show (((j + 1 : Nat) : Int) > 0) by omega), show IntKind.i64.wrap (((j + 1 : Nat) : Int) - 1) = (j : Int) by rw [wrap64] <;> omega, w1]
    simp only [br_t, e1, bd_s, w2, push_ok (show (nears acc).length < 2147483648 by rw [nears_length]; omega), gd_t, push_fls]
    rw [push_len (z := FloatKind.f32.nearest (r - (most : Int))), hpush]
    obtain ⟨ks, q1, q2, q3⟩ := ih m a1 s1 (acc ++ [r - (most : Int)]) (by omega) (by omega) (by simp; omega) (by omega) (by
      intro x hx; simp only [List.mem_append, List.mem_singleton] at hx
      rcases hx with hx | rfl
      · exact hw x hx
      · omega)
    exact ⟨ks, by simp at q1; omega, q2, q3⟩
theorem s_b10whole (n : Nat) {bs : List Int} (hb : Bytes bs) (k most : Nat) (hk : k ≤ 1000) (hmost : most ≤ 1000000) (hn : k < n) : ∃ ks : List Int, ks.length = k ∧ (∀ x ∈ ks, -(most : Int) ≤ x ∧ x ≤ (most : Int)) ∧ f34_s_B10Whole (n + 3) bs.length (its .u8 bs) (k : Int) (most : Int) = some (ks.length, fls .f32 (nears ks)) := by
  obtain ⟨ks, h1, h2, e⟩ := s_b10whole_loop n hb most hmost k (n + 2) 0 0 [] (by omega) (by omega) (by simp; omega) (by omega) (by simp)
  have e : f34_s_B10Whole.l0 (n + 2) (n + 2) (k : Int) (most : Int) bs.length (its .u8 bs) 0 0 0 (reps 0 [(T.flt FloatKind.f32 0)]) = some ((nears ks).length, fls .f32 (nears ks)) := e
  refine ⟨ks, by simpa using h1, h2, ?_⟩
  rw [f34_s_B10Whole, s_from]
  simp only [bd_s, e, nears_length]


theorem s_fromx (n : Nat) {i : Int} (h0 : 0 ≤ i) (h1 : i < 4294967296) : f167_s_l01From (n + 2) i = some (canon .f32 i.toNat) := by
  rw [f167_s_l01From, u32_wrap h0 h1]
  show bd (if 0 ≤ i then some (canon .f32 i.toNat) else none) _ = _
  rw [if_pos h0]; rfl
theorem i_scale_loop (n : Nat) (N : Nat) (cs : List T) (by_ : Nat) : ∀ (zs p acc : List Nat) (m : Nat), acc.length + zs.length < 1048576 → p.length + zs.length < 1048576 → zs.length < m →
    f162_i_scaled.l0 n m N cs by_ acc.length (fls .f32 acc) (p ++ zs).length (fls .f32 (p ++ zs)) ((p ++ zs).length : Int) (p.length : Int) = some ((acc ++ zs.map fun z => fmul .f32 z by_).length, fls .f32 (acc ++ zs.map fun z => fmul .f32 z by_)) := by
  intro zs
  induction zs with
  | nil =>
    intro p acc m _ _ hm
    obtain ⟨m, rfl⟩ : ∃ k, m = k + 1 := ⟨m - 1, by omega⟩
    rw [f162_i_scaled.l0, lt_end]
    simp [br_f]
  | cons z zs ih =>
    intro p acc m ha hp hm
    obtain ⟨m, rfl⟩ : ∃ k, m = k + 1 := ⟨m - 1, by omega⟩
    have ha' : acc.length < 1048576 := by simp at ha; omega
    rw [f162_i_scaled.l0, lt_mid, in_mid, toNat_len, okAt_mid, fAt_mid]
    have := ih (p ++ [z]) (acc ++ [fmul .f32 z by_]) m (by simp at ha ⊢; omega) (by simp at hp ⊢; omega) (by simp at hm; omega)
    simp only [br_t, gd_t, Bool.and_self, push_fls, push_ok (show acc.length < 2147483648 by omega), wrap_len (z := z) (show p.length < 4611686018427387904 by simp at hp; omega)]
    simpa using this
theorem i_scaledq (n : Nat) (xs : List Nat) (by_ : Nat) (hx : xs.length < 1048576) (hn : xs.length < n) : f162_i_scaled (n + 1) xs.length (fls .f32 xs) by_ = some ((xs.map fun z => fmul .f32 z by_).length, fls .f32 (xs.map fun z => fmul .f32 z by_)) := by
  rw [f162_i_scaled]
  have e := i_scale_loop n xs.length (fls .f32 xs) by_ xs [] [] n (by simpa using hx) (by simpa using hx) (by omega)
  have e : f162_i_scaled.l0 n n xs.length (fls .f32 xs) by_ 0 [] xs.length (fls .f32 xs) (xs.length : Int) 0 = some ((xs.map fun z => fmul .f32 z by_).length, fls .f32 (xs.map fun z => fmul .f32 z by_)) := e
  rw [e]; rfl



theorem i_sized (n : Nat) (x : Int) : f113_i_size (n + 1) x = some x := by rw [f113_i_size]

def pw (k : Nat) : Nat := fdiv .f32 (FloatKind.f32.nearest (k : Int)) 1098907648
structure Trk where
  xs : List Nat
  ten : Int
  pan : Nat
  mute : Bool
  solo : Bool
def trkC (t : Trk) : List T := [.lst t.xs.length (fls .f32 t.xs), .int .i64 t.ten, .flt .f32 (pw t.pan), .bool t.mute, .bool t.solo]
def trks (ts : List Trk) : List T := ts.flatMap trkC
def TrkOk (t : Trk) : Prop := t.xs.length ≤ 8 ∧ (-240 ≤ t.ten ∧ t.ten ≤ 59) ∧ t.pan < 17
def tAt (ts : List Trk) (i : Nat) : Trk := ts.getD i ⟨[], 0, 0, false, false⟩
theorem trk_get {c : Nat} (hc : c < 5) : ∀ (ts : List Trk) (i : Nat), i < ts.length → (trks ts)[i * 5 + c]? = (trkC (tAt ts i))[c]?
  | [], i, h => by simp at h
  | t :: ts, 0, _ => by
    show (trkC t ++ trks ts)[0 * 5 + c]? = _
    rw [List.getElem?_append_left (by simp [trkC]; omega), Nat.zero_mul, Nat.zero_add]; rfl
  | t :: ts, i + 1, h => by
    show (trkC t ++ trks ts)[(i + 1) * 5 + c]? = _
    rw [List.getElem?_append_right (by simp [trkC]; omega), show (i + 1) * 5 + c - (trkC t).length = i * 5 + c by simp [trkC]; omega, trk_get hc ts i (by simpa using h)]
    rfl
section
variable {ts : List Trk} {i : Nat} (h : i < ts.length)
include h
theorem okT : okAt [.lst, .int .i64, .flt .f32, .bool, .bool] (trks ts) (i * 5 + 0) = true := by
  have h0 := trk_get (c := 0) (by decide) ts i h
  have h1 := trk_get (c := 1) (by decide) ts i h
  have h2 := trk_get (c := 2) (by decide) ts i h
  have h3 := trk_get (c := 3) (by decide) ts i h
  have h4 := trk_get (c := 4) (by decide) ts i h
  simp only [trkC, List.getElem?_cons_zero, List.getElem?_cons_succ] at h0 h1 h2 h3 h4
  simp [okAt, Nat.add_assoc, h1, h2, h3, h4, isCK]
  rw [show i * 5 = i * 5 + 0 from rfl, h0]
theorem nT : nAt (trks ts) (i * 5 + 0) = (tAt ts i).xs.length := by unfold nAt; rw [trk_get (c := 0) (by decide) ts i h]; rfl
theorem lT : lAt (trks ts) (i * 5 + 0) = fls .f32 (tAt ts i).xs := by unfold lAt; rw [trk_get (c := 0) (by decide) ts i h]; rfl
theorem iT : iAt (trks ts) (i * 5 + 0 + 1) = (tAt ts i).ten := by unfold iAt; rw [show i * 5 + 0 + 1 = i * 5 + 1 from rfl, trk_get (c := 1) (by decide) ts i h]; rfl
theorem fT : fAt (trks ts) (i * 5 + 0 + 1 + 1) = pw (tAt ts i).pan := by unfold fAt; rw [show i * 5 + 0 + 1 + 1 = i * 5 + 2 from rfl, trk_get (c := 2) (by decide) ts i h]; rfl
theorem bT : bAt (trks ts) (i * 5 + 0 + 1 + 1 + 1) = (tAt ts i).mute := by unfold bAt; rw [show i * 5 + 0 + 1 + 1 + 1 = i * 5 + 3 from rfl, trk_get (c := 3) (by decide) ts i h]; rfl
theorem cT : bAt (trks ts) (i * 5 + 0 + 1 + 1 + 1 + 1) = (tAt ts i).solo := by unfold bAt; rw [show i * 5 + 0 + 1 + 1 + 1 + 1 = i * 5 + 4 from rfl, trk_get (c := 4) (by decide) ts i h]; rfl
theorem drop_at : ts.drop i = tAt ts i :: ts.drop (i + 1) := by
  rw [List.drop_eq_getElem_cons h]
  simp [tAt, List.getD, h]
theorem tAt_mem : tAt ts i ∈ ts := by
  have : tAt ts i = ts[i] := by simp [tAt, List.getD, h]
  rw [this]; exact List.getElem_mem h
end
theorem push_trk (acc : List Trk) (t : Trk) : trks acc ++ setN (reps 1 [(T.lst 0 []), (T.int .i64 (0 : Int)), (T.flt .f32 0), (T.bool false), (T.bool false)]) 0 (trkC t) = trks (acc ++ [t]) := by
  unfold trks
  rw [List.flatMap_append, List.flatMap_singleton]; rfl
/-! ### lists of truths -/
def bls (bs : List Bool) : List T := bs.map .bool
theorem push_bls (p : List Bool) (b : Bool) : bls p ++ setN (reps 1 [T.bool false]) 0 [T.bool b] = bls (p ++ [b]) := by simp [bls, setN, reps]
theorem bAt_bls {bs : List Bool} {i : Nat} : bAt (bls bs) i = bs.getD i false := by
  unfold bAt bls
  rw [List.getElem?_map]
  cases h : bs[i]? <;> simp [List.getD, h]
theorem okAt_bls {bs : List Bool} {i : Nat} (h : i < bs.length) : okAt [.bool] (bls bs) i = true := by
  unfold bls
  simp [okAt, h, isCK]
/-! ### draws -/
theorem s_tracks_loop (n : Nat) {bs : List Int} (hb : Bytes bs) (hn : 100 < n) : ∀ (j m : Nat) (a sd : Int) (acc : List Trk), 0 ≤ a → a + 1000 * (j : Int) ≤ 1125899906840000 → acc.length + j ≤ 1000 → j < m → (∀ t ∈ acc, TrkOk t) →
    ∃ ts : List Trk, ts.length = acc.length + j ∧ (∀ t ∈ ts, TrkOk t) ∧ f83_s_B10Tracks.l0 (n + 6) m bs.length (its .u8 bs) a sd acc.length (trks acc) (j : Int) = some (ts.length, trks ts) := by
  intro j
  induction j with
  | zero =>
    intro m a sd acc _ _ _ hm hw
    obtain ⟨m, rfl⟩ : ∃ k, m = k + 1 := ⟨m - 1, by omega⟩
    rw [f83_s_B10Tracks.l0]
    exact ⟨acc, by omega, hw, rfl⟩
  | succ j ih =>
    intro m a sd acc h0 h1 hl hm hw
    obtain ⟨m, rfl⟩ : ∃ k, m = k + 1 := ⟨m - 1, by omega⟩
    obtain ⟨r1, a1, s1, hr1, ha1, e1⟩ := s_pick (n + 4) hb h0 (by omega) sd 9
    obtain ⟨r1, rfl⟩ := Int.eq_ofNat_of_zero_le hr1.1
    have hr8 : r1 < 9 := by have := hr1.2.1 (by omega); omega
    obtain ⟨ys, a2, s2, hy, hyw, ha2, e2⟩ := s_floats n hb (a := a1) (by omega) r1 (by omega) (by omega) (by omega) s1
    obtain ⟨b1, a3, s3, ha3, e3⟩ := s_one (n + 3) hb (a := a2) (by omega) (by omega) s2 5
    obtain ⟨b2, a4, s4, ha4, e4⟩ := s_one (n + 3) hb (a := a3) (by omega) (by omega) s3 6
    obtain ⟨r2, a5, s5, hr2, ha5, e5⟩ := s_pick (n + 4) hb (a := a4) (by omega) (by omega) s4 300
    obtain ⟨r3, a6, s6, hr3, ha6, e6⟩ := s_pick (n + 4) hb (a := a5) (by omega) (by omega) s5 17
    obtain ⟨r3, rfl⟩ := Int.eq_ofNat_of_zero_le hr3.1
    have hr2' := hr2.2.1 (by omega)
    have hr3' := hr3.2.1 (by omega)
    have w : IntKind.i64.wrap (r2 - 240) = r2 - 240 := by rw [wrap64] <;> omega
    rw [f83_s_B10Tracks.l0, decide_eq_true (show (((j + 1 : Nat) : Int) > 0) by omega), show IntKind.i64.wrap (((j + 1 : Nat) : Int) - 1) = (j : Int) by rw [wrap64] <;> omega]
    obtain ⟨ts, q1, q2, q3⟩ := ih m a6 s6 (acc ++ [⟨ys, r2 - 240, r3, b1, b2⟩]) (by omega) (by omega) (by simp; omega) (by omega) (by
      intro t ht; simp only [List.mem_append, List.mem_singleton] at ht
      rcases ht with ht | rfl
      · exact hw t ht
      · exact ⟨by show ys.length ≤ 8; omega, by show -240 ≤ r2 - 240 ∧ r2 - 240 ≤ 59; omega, by show r3 < 17; omega⟩)
    refine ⟨ts, by simp at q1; omega, q2, ?_⟩
    have hp := push_trk acc ⟨ys, r2 - 240, r3, b1, b2⟩
    unfold trkC pw at hp
    simp only [br_t, e1, e2, e3, e4, e5, e6, bd_s, w, push_ok (show acc.length < 2147483648 by omega), gd_t]
    rw [hp, push_len (z := (⟨ys, r2 - 240, r3, b1, b2⟩ : Trk))]
    exact q3
theorem s_b10tracks (n : Nat) {bs : List Int} (hb : Bytes bs) (hn : 100 < n) : ∃ ts : List Trk, ts.length ≤ 4 ∧ (∀ t ∈ ts, TrkOk t) ∧ f83_s_B10Tracks (n + 7) bs.length (its .u8 bs) = some (ts.length, trks ts) := by
  obtain ⟨r1, a1, s1, hr1, ha1, e1⟩ := s_pick (n + 4) hb (a := 0) (by omega) (by omega) 0 5
  obtain ⟨r1, rfl⟩ := Int.eq_ofNat_of_zero_le hr1.1
  have hr4 := hr1.2.1 (by omega)
  obtain ⟨ts, q1, q2, q3⟩ := s_tracks_loop n hb hn r1 (n + 6) a1 s1 [] (by omega) (by omega) (by simp; omega) (by omega) (by simp)
  have q3 : f83_s_B10Tracks.l0 (n + 6) (n + 6) bs.length (its .u8 bs) a1 s1 0 (reps 0 [(T.lst 0 []), (T.int .i64 (0 : Int)), (T.flt .f32 0), (T.bool false), (T.bool false)]) (r1 : Int) = _ := q3
  refine ⟨ts, by simp at q1; omega, q2, ?_⟩
  rw [f83_s_B10Tracks, s_from]
  simp only [bd_s, e1, q3]
/-! ### tracks -/
theorem pan_ok : ∀ k, k < 17 → (fge .f32 (pw k) 0 && fle .f32 (pw k) 1065353216) = true := by decide +kernel
theorem i_ispan (n k : Nat) (h : k < 17) : f161_i_isPan (n + 1) (pw k) = some true := by
  have := pan_ok k h
  simp only [Bool.and_eq_true] at this
  rw [f161_i_isPan, this.1, this.2]; rfl
theorem i_istenths (n : Nat) {k : Int} (h : -240 ≤ k ∧ k ≤ 59) : f147_i_isTenths (n + 2) k = some true := by
  rw [f147_i_isTenths, i_in, decide_eq_true (by omega)]; rfl
theorem i_aretracks_loop (n : Nat) (N : Nat) (cs : List T) (ts : List Trk) (hl : ts.length ≤ 100) (ht : ∀ t ∈ ts, TrkOk t) : ∀ (j i m : Nat), i + j = ts.length → j < m →
    f86_i_AreTracks.l0 (n + 3) m N cs ts.length (trks ts) (ts.length : Int) (i : Int) = some (Sum.inr ()) := by
  intro j
  induction j with
  | zero =>
    intro i m hi hm
    obtain ⟨m, rfl⟩ : ∃ k, m = k + 1 := ⟨m - 1, by omega⟩
    rw [f86_i_AreTracks.l0, nlt_dec (by omega)]; rfl
  | succ j ih =>
    intro i m hi hm
    obtain ⟨m, rfl⟩ : ∃ k, m = k + 1 := ⟨m - 1, by omega⟩
    have h : i < ts.length := by omega
    obtain ⟨t1, t2, t3⟩ := ht _ (tAt_mem h)
    rw [f86_i_AreTracks.l0, lt_dec h, in_dec h, Int.toNat_natCast, okT h]
    simp only [br_t, Bool.and_self, gd_t, i_few, decide_eq_true (show ((tAt ts i).xs.length : Int) ≤ 256 by omega), bd_s, Bool.not_true, br_f, nT h, iT h, fT h, i_istenths (n + 1) t2, i_ispan (n + 2) _ t3, wrap_succ (show i < 9223372036854775807 by omega)]
    exact ih (i + 1) m (by omega) (by omega)
theorem i_aretracks (n : Nat) (ts : List Trk) (hl : ts.length ≤ 8) (ht : ∀ t ∈ ts, TrkOk t) (hn : 100 < n) : f86_i_AreTracks (n + 4) ts.length (trks ts) = some true := by
  have e := i_aretracks_loop n ts.length (trks ts) ts (by omega) ht ts.length 0 (n + 3) (by omega) (by omega)
  have e : f86_i_AreTracks.l0 (n + 3) (n + 3) ts.length (trks ts) ts.length (trks ts) (ts.length : Int) 0 = _ := e
  rw [f86_i_AreTracks, decide_eq_false (by omega)]
  simp only [br_f, e, bd_s, sm_r]
/-! ### tracks that are heard -/
def hf (a : Bool) (t : Trk) : Bool := if t.mute then false else if t.solo then true else !a
theorem heards_loop (n : Nat) (N : Nat) (cs : List T) (ts : List Trk) (hl : ts.length ≤ 100) : ∀ (j i m : Nat) (P Q : List Bool), i + j = ts.length → P.length ≤ i → Q.length ≤ i → j < m →
    f160_i_heardTracks.l0 n m N cs P.length (bls P) Q.length (bls Q) ts.length (trks ts) (ts.length : Int) (i : Int) = some ((P ++ (ts.drop i).map (·.mute)).length, bls (P ++ (ts.drop i).map (·.mute)), (Q ++ (ts.drop i).map (·.solo)).length, bls (Q ++ (ts.drop i).map (·.solo))) := by
  intro j
  induction j with
  | zero =>
    intro i m P Q hi hP hQ hm
    obtain ⟨m, rfl⟩ : ∃ k, m = k + 1 := ⟨m - 1, by omega⟩
    rw [f160_i_heardTracks.l0, nlt_dec (by omega), List.drop_eq_nil_of_le (by omega)]
    simp [br]
  | succ j ih =>
    intro i m P Q hi hP hQ hm
    obtain ⟨m, rfl⟩ : ∃ k, m = k + 1 := ⟨m - 1, by omega⟩
    have h : i < ts.length := by omega
    rw [f160_i_heardTracks.l0, lt_dec h, in_dec h, Int.toNat_natCast, okT h]
    simp only [br_t, Bool.and_self, gd_t, bT h, cT h, push_ok (show P.length < 2147483648 by omega), push_ok (show Q.length < 2147483648 by omega), push_bls, wrap_succ (show i < 9223372036854775807 by omega)]
    rw [push_len (z := (tAt ts i).mute), push_len (p := Q) (z := (tAt ts i).solo), ih (i + 1) m _ _ (by omega) (by simp; omega) (by simp; omega) (by omega), drop_at h]
    simp
theorem index_loop (n : Nat) (bs : List Bool) (hl : bs.length ≤ 100) : ∀ (j i m : Nat), i + j = bs.length → j < m →
    ((bs.drop i).any id = true → ∃ k : Nat, f199_slicesIndexboolbool.l0 n m bs.length (bls bs) true (bs.length : Int) (i : Int) = some (Sum.inl (k : Int))) ∧ ((bs.drop i).any id = false → f199_slicesIndexboolbool.l0 n m bs.length (bls bs) true (bs.length : Int) (i : Int) = some (Sum.inr ())) := by
  intro j
  induction j with
  | zero =>
    intro i m hi hm
    obtain ⟨m, rfl⟩ : ∃ k, m = k + 1 := ⟨m - 1, by omega⟩
    rw [List.drop_eq_nil_of_le (by omega), f199_slicesIndexboolbool.l0, nlt_dec (by omega)]
    exact ⟨fun h => by simp at h, fun _ => rfl⟩
  | succ j ih =>
    intro i m hi hm
    obtain ⟨m, rfl⟩ : ∃ k, m = k + 1 := ⟨m - 1, by omega⟩
    have h : i < bs.length := by omega
    have hd : bs.drop i = bs.getD i false :: bs.drop (i + 1) := by
      rw [List.drop_eq_getElem_cons h]; simp [List.getD, h]
    rw [f199_slicesIndexboolbool.l0, lt_dec h, in_dec h, Int.toNat_natCast, okAt_bls h, bAt_bls, hd, wrap_succ (show i < 9223372036854775807 by omega)]
    obtain ⟨i1, i2⟩ := ih (i + 1) m (by omega) (by omega)
    cases hb : bs.getD i false
    · simp only [List.any_cons, id, Bool.false_or]
      exact ⟨fun q => i1 q, fun q => i2 q⟩
    · simp only [List.any_cons, id, Bool.true_or]
      exact ⟨fun _ => ⟨i, rfl⟩, fun q => by cases q⟩
theorem contains_true (n : Nat) (bs : List Bool) (hl : bs.length ≤ 100) (hn : 200 < n) : f191_slicesContainsboolbool (n + 2) bs.length (bls bs) true = some (bs.any id) := by
  obtain ⟨h1, h2⟩ := index_loop n bs hl bs.length 0 n (by omega) (by omega)
  rw [List.drop_zero] at h1 h2
  rw [f191_slicesContainsboolbool, f199_slicesIndexboolbool]
  cases h : bs.any id
  · have e := h2 h
    have e : f199_slicesIndexboolbool.l0 n n bs.length (bls bs) true (bs.length : Int) 0 = _ := e
    rw [e]; rfl
  · obtain ⟨k, e⟩ := h1 h
    have e : f199_slicesIndexboolbool.l0 n n bs.length (bls bs) true (bs.length : Int) 0 = _ := e
    rw [e]
    simp only [bd_s, sm_l]
    rw [decide_eq_true (by omega)]
theorem map_at {α : Type} (f : Trk → Bool) {ts : List Trk} {i : Nat} (h : i < ts.length) : (ts.map f).getD i false = f (tAt ts i) := by simp [List.getD, tAt, h]
theorem heard_loop (n : Nat) (N : Nat) (a : Bool) (ts : List Trk) (hl : ts.length ≤ 100) : ∀ (j i m : Nat) (P : List Bool), i + j = ts.length → P.length ≤ i → j < m →
    f182_i_heard.l0 n m ts.length (bls (ts.map (·.mute))) ts.length (bls (ts.map (·.solo))) a P.length (bls P) ts.length (bls (ts.map (·.mute))) (ts.length : Int) (i : Int) = some ((P ++ (ts.drop i).map (hf a)).length, bls (P ++ (ts.drop i).map (hf a))) := by
  intro j
  induction j with
  | zero =>
    intro i m P hi hP hm
    obtain ⟨m, rfl⟩ : ∃ k, m = k + 1 := ⟨m - 1, by omega⟩
    rw [f182_i_heard.l0, nlt_dec (by omega), List.drop_eq_nil_of_le (by omega)]
    simp [br]
  | succ j ih =>
    intro i m P hi hP hm
    obtain ⟨m, rfl⟩ : ∃ k, m = k + 1 := ⟨m - 1, by omega⟩
    have h : i < ts.length := by omega
    rw [f182_i_heard.l0, lt_dec h, in_dec h, Int.toNat_natCast, okAt_bls (show i < (ts.map (·.mute)).length by simpa using h), okAt_bls (show i < (ts.map (·.solo)).length by simpa using h), bAt_bls, bAt_bls, map_at (α := Unit) (·.mute) h, map_at (α := Unit) (·.solo) h]
    simp only [br_t, Bool.and_self, gd_t, push_ok (show P.length < 2147483648 by omega), push_bls, wrap_succ (show i < 9223372036854775807 by omega)]
    have key : ∀ b, hf a (tAt ts i) = b → f182_i_heard.l0 n m ts.length (bls (ts.map (·.mute))) ts.length (bls (ts.map (·.solo))) a (P.length + 1) (bls (P ++ [b])) ts.length (bls (ts.map (·.mute))) (ts.length : Int) ((i + 1 : Nat) : Int) = some ((P ++ (ts.drop i).map (hf a)).length, bls (P ++ (ts.drop i).map (hf a))) := by
      intro b hb
      rw [push_len (z := b), ih (i + 1) m _ (by omega) (by simp; omega) (by omega), drop_at h, List.map_cons, hb]
      simp
    unfold hf at key
    cases hm' : (tAt ts i).mute
    · cases hs : (tAt ts i).solo
      · simp only [Bool.not_false, br_t, br_f]
        exact key _ (by simp [hm', hs])
      · simp only [Bool.not_false, br_t]
        exact key _ (by simp [hm', hs])
    · simp only [Bool.not_true, br_f]
      exact key _ (by simp [hm'])
def anyS (ts : List Trk) : Bool := ts.any (·.solo)
theorem i_heardtracks (n : Nat) (ts : List Trk) (hl : ts.length ≤ 100) (hn : 300 < n) : f160_i_heardTracks (n + 4) ts.length (trks ts) = some ((ts.map (hf (anyS ts))).length, bls (ts.map (hf (anyS ts)))) := by
  have e := heards_loop (n + 3) ts.length (trks ts) ts hl ts.length 0 (n + 3) [] [] (by omega) (by simp) (by simp) (by omega)
  simp only [List.drop_zero, List.nil_append] at e
  have e : f160_i_heardTracks.l0 (n + 3) (n + 3) ts.length (trks ts) 0 [] 0 [] ts.length (trks ts) (ts.length : Int) 0 = _ := e
  have e2 := contains_true n (ts.map (·.solo)) (by simpa using hl) (by omega)
  have ha : (ts.map (·.solo)).any id = anyS ts := by unfold anyS; rw [List.any_map]; rfl
  rw [ha, List.length_map] at e2
  have e3 := heard_loop (n + 2) ts.length (anyS ts) ts hl ts.length 0 (n + 2) [] (by omega) (by simp) (by omega)
  simp only [List.drop_zero, List.nil_append] at e3
  have e3 : f182_i_heard.l0 (n + 2) (n + 2) ts.length (bls (ts.map (·.mute))) ts.length (bls (ts.map (·.solo))) (anyS ts) 0 [] ts.length (bls (ts.map (·.mute))) (ts.length : Int) 0 = _ := e3
  rw [f160_i_heardTracks, e]
  simp only [bd_s, List.length_map]
  rw [f182_i_heard]
  simp only [e2, bd_s, e3, List.length_map]
def hixGo (a : Bool) : Nat → List Trk → List Nat
  | _, [] => []
  | i, t :: ts => if hf a t then i :: hixGo a (i + 1) ts else hixGo a (i + 1) ts
def ints (ks : List Nat) : List Int := List.map (fun k : Nat => (k : Int)) ks
theorem hix_loop (n : Nat) (a : Bool) (ts : List Trk) (hl : ts.length ≤ 100) : ∀ (j i m : Nat) (P : List Nat), i + j = ts.length → P.length ≤ i → j < m →
    f85_i_HeardTracks.l0 n m P.length (its .i64 (ints P)) ts.length (bls (ts.map (hf a))) (ts.length : Int) (i : Int) = some ((P ++ hixGo a i (ts.drop i)).length, its .i64 (ints (P ++ hixGo a i (ts.drop i)))) := by
  intro j
  induction j with
  | zero =>
    intro i m P hi hP hm
    obtain ⟨m, rfl⟩ : ∃ k, m = k + 1 := ⟨m - 1, by omega⟩
    rw [f85_i_HeardTracks.l0, nlt_dec (by omega), List.drop_eq_nil_of_le (by omega)]
    simp [br, hixGo]
  | succ j ih =>
    intro i m P hi hP hm
    obtain ⟨m, rfl⟩ : ∃ k, m = k + 1 := ⟨m - 1, by omega⟩
    have h : i < ts.length := by omega
    rw [f85_i_HeardTracks.l0, lt_dec h, in_dec h, Int.toNat_natCast, okAt_bls (show i < (ts.map (hf a)).length by simpa using h), bAt_bls, map_at (α := Unit) (hf a) h, drop_at h]
    simp only [br_t, gd_t, push_ok (show P.length < 2147483648 by omega), push_its, wrap_succ (show i < 9223372036854775807 by omega)]
    unfold hixGo
    cases hb : hf a (tAt ts i)
    · simp only [br_f, Bool.false_eq_true, if_false]
      exact ih (i + 1) m P (by omega) (by omega) (by omega)
    · simp only [br_t, if_true]
      have := ih (i + 1) m (P ++ [i]) (by omega) (by simp; omega) (by omega)
      rw [show its .i64 (ints P ++ [(i : Int)]) = its .i64 (ints (P ++ [i])) by simp [ints], push_len (z := i), this]
      simp
theorem i_HeardTracks_ (n : Nat) (ts : List Trk) (hl : ts.length ≤ 8) (ht : ∀ t ∈ ts, TrkOk t) (hn : 300 < n) : f85_i_HeardTracks (n + 5) ts.length (trks ts) = some ((hixGo (anyS ts) 0 ts).length, its .i64 (ints (hixGo (anyS ts) 0 ts)), true) := by
  have e := hix_loop (n + 4) (anyS ts) ts (by omega) ts.length 0 (n + 4) [] (by omega) (by simp) (by omega)
  simp only [List.drop_zero, List.nil_append] at e
  have e : f85_i_HeardTracks.l0 (n + 4) (n + 4) 0 [] ts.length (bls (ts.map (hf (anyS ts)))) (ts.length : Int) 0 = _ := e
  rw [f85_i_HeardTracks, i_aretracks n ts hl ht (by omega)]
  simp only [bd_s, Bool.not_true, br_f, i_heardtracks n ts (by omega) hn, List.length_map, e]
theorem hix_facts (a : Bool) (ts : List Trk) : ∀ (j i : Nat), i + j = ts.length → (hixGo a i (ts.drop i)).map (tAt ts) = (ts.drop i).filter (hf a) ∧ ∀ k ∈ hixGo a i (ts.drop i), k < ts.length ∧ (tAt ts k).mute = false := by
  intro j
  induction j with
  | zero =>
    intro i hi
    rw [List.drop_eq_nil_of_le (by omega)]
    exact ⟨rfl, fun k hk => by cases hk⟩
  | succ j ih =>
    intro i hi
    have h : i < ts.length := by omega
    obtain ⟨i1, i2⟩ := ih (i + 1) (by omega)
    rw [drop_at h]
    unfold hixGo
    cases hb : hf a (tAt ts i)
    · simp only [Bool.false_eq_true, if_false]
      rw [List.filter_cons_of_neg (by rw [hb]; decide)]
      exact ⟨i1, i2⟩
    · simp only [if_true]
      rw [List.filter_cons_of_pos hb, List.map_cons, i1]
      refine ⟨rfl, fun k hk => ?_⟩
      rcases List.mem_cons.1 hk with rfl | hk
      · refine ⟨h, ?_⟩
        unfold hf at hb
        cases hm : (tAt ts k).mute
        · rfl
        · rw [hm] at hb; simp at hb
      · exact i2 k hk
theorem hf_open {a : Bool} {t : Trk} (h : t.mute = false) : hf a t = (t.solo || !a) := by
  unfold hf
  rw [h]
  cases t.solo <;> rfl
theorem hf_mute {a : Bool} {t : Trk} (h : hf a t = true) : t.mute = false := by
  unfold hf at h
  cases hm : t.mute
  · rfl
  · rw [hm] at h; simp at h
theorem heard_again (a : Bool) (ts : List Trk) (ha : a = anyS ts) : (ts.filter (hf a)).filter (hf (anyS (ts.filter (hf a)))) = ts.filter (hf a) := by
  rw [List.filter_eq_self]
  intro t ht
  obtain ⟨h1, h2⟩ := List.mem_filter.1 ht
  have hm := hf_mute h2
  rw [hf_open hm] at h2 ⊢
  cases hs : t.solo
  · rw [hs] at h2
    have h2 : a = false := by simpa using h2
    have : anyS (ts.filter (hf a)) = false := by
      rw [h2] at ha
      unfold anyS
      rw [List.any_eq_false]
      intro u hu
      have hu' := (List.mem_filter.1 hu).1
      unfold anyS at ha
      exact List.any_eq_false.1 ha.symm u hu'
    rw [this]; rfl
  · rfl
/-! ### gains and pans -/
def expGo (x : Nat) : List Nat → Nat → Nat
  | [], a => a
  | k :: ks, a => expGo x ks (fadd .f64 4607182418800017408 (fdiv .f64 (fmul .f64 x a) k))
def downB : Nat → List Nat → Bool
  | w, [] => !fge .f64 w 4607182418800017408
  | w, k :: ks => (w == k) && fge .f64 w 4607182418800017408 && downB (fsub .f64 w 4607182418800017408) ks
def downs : List Nat := [12, 11, 10, 9, 8, 7, 6, 5, 4, 3, 2, 1].map fun k : Int => FloatKind.f64.nearest k
theorem down_ok : downB 4622945017495814144 downs = true := by decide +kernel
theorem exp_l0 (n x : Nat) : ∀ (ks : List Nat) (w a m : Nat), downB w ks = true → ks.length < m → f148_i_exponential.l0 n m x a w = some (expGo x ks a)
  | [], w, a, m, h, hm => by
    obtain ⟨m, rfl⟩ : ∃ k, m = k + 1 := ⟨m - 1, by simp at hm; omega⟩
    unfold downB at h
    rw [f148_i_exponential.l0, show fge .f64 w 4607182418800017408 = false by simpa using h]; rfl
  | k :: ks, w, a, m, h, hm => by
    obtain ⟨m, rfl⟩ : ∃ k, m = k + 1 := ⟨m - 1, by simp at hm; omega⟩
    unfold downB at h
    simp only [Bool.and_eq_true, beq_iff_eq] at h
    obtain ⟨⟨rfl, h2⟩, h3⟩ := h
    rw [f148_i_exponential.l0, h2]
    exact exp_l0 n x ks _ _ m h3 (by simp at hm; omega)
def sqN : Nat → Nat → Nat
  | 0, x => x
  | j + 1, x => sqN j (fmul .f64 x x)
theorem exp_l1 (n : Nat) : ∀ (j i m x : Nat), i + j = 8 → j < m → f148_i_exponential.l1 n m x (i : Int) = some (sqN j x)
  | 0, i, m, x, hi, hm => by
    obtain ⟨m, rfl⟩ : ∃ k, m = k + 1 := ⟨m - 1, by omega⟩
    rw [f148_i_exponential.l1, decide_eq_false (by omega)]; rfl
  | j + 1, i, m, x, hi, hm => by
    obtain ⟨m, rfl⟩ : ∃ k, m = k + 1 := ⟨m - 1, by omega⟩
    rw [f148_i_exponential.l1, decide_eq_true (by omega), wrap_succ (show i < 9223372036854775807 by omega)]
    exact exp_l1 n j (i + 1) m _ (by omega) (by omega)
def gainE (i : Int) : Option Nat :=
  if fgt .f64 (fmul .f64 (FloatKind.f64.nearest i) 4577790371455803420) 4641240890982006784 then none
  else if flt .f64 (fmul .f64 (FloatKind.f64.nearest i) 4577790371455803420) 13864612927836782592 then none
  else fltToFlt .f64 (sqN 8 (expGo (fdiv .f64 (fmul .f64 (FloatKind.f64.nearest i) 4577790371455803420) 4643211215818981376) downs 4607182418800017408)) .f32
def gT (i : Int) : Nat := (gainE i).getD 0
theorem gain_tab0 : ∀ i : Nat, i < 60 → (gainE (((i + 0 : Nat) : Int) - 240)).isSome = true := by decide +kernel
theorem gain_tab1 : ∀ i : Nat, i < 60 → (gainE (((i + 60 : Nat) : Int) - 240)).isSome = true := by decide +kernel
theorem gain_tab2 : ∀ i : Nat, i < 60 → (gainE (((i + 120 : Nat) : Int) - 240)).isSome = true := by decide +kernel
theorem gain_tab3 : ∀ i : Nat, i < 60 → (gainE (((i + 180 : Nat) : Int) - 240)).isSome = true := by decide +kernel
theorem gain_tab4 : ∀ i : Nat, i < 60 → (gainE (((i + 240 : Nat) : Int) - 240)).isSome = true := by decide +kernel
theorem gain_some {k : Int} (h : -240 ≤ k ∧ k ≤ 59) : (gainE k).isSome = true := by
  obtain ⟨i, hi⟩ := Int.eq_ofNat_of_zero_le (show 0 ≤ k + 240 by omega)
  have hk : k = (i : Int) - 240 := by omega
  have key : ∀ c, c ≤ i → (gainE (((i - c + c : Nat) : Int) - 240)).isSome = true → (gainE k).isSome = true := by
    intro c hc e
    rw [show ((i - c + c : Nat) : Int) - 240 = k by omega] at e
    exact e
  by_cases h1 : i < 60
  · exact key 0 (by omega) (gain_tab0 (i - 0) (by omega))
  by_cases h2 : i < 120
  · exact key 60 (by omega) (gain_tab1 (i - 60) (by omega))
  by_cases h3 : i < 180
  · exact key 120 (by omega) (gain_tab2 (i - 120) (by omega))
  by_cases h4 : i < 240
  · exact key 180 (by omega) (gain_tab3 (i - 180) (by omega))
  · exact key 240 (by omega) (gain_tab4 (i - 240) (by omega))
theorem i_gain (n : Nat) {k : Int} (h : -240 ≤ k ∧ k ≤ 59) : f72_i_GainOf (n + 30) k = some (gT k, true) := by
  have hs := gain_some h
  unfold gT
  rw [f72_i_GainOf, i_istenths (n + 27) h]
  simp only [bd_s, Bool.not_true, br_f]
  rw [f148_i_exponential]
  unfold gainE at hs ⊢
  cases h1 : fgt .f64 (fmul .f64 (FloatKind.f64.nearest k) 4577790371455803420) 4641240890982006784
  · cases h2 : flt .f64 (fmul .f64 (FloatKind.f64.nearest k) 4577790371455803420) 13864612927836782592
    · rw [h1, h2] at hs
      have e := exp_l1 (n + 28) 8 0 (n + 28) (expGo (fdiv .f64 (fmul .f64 (FloatKind.f64.nearest k) 4577790371455803420) 4643211215818981376) downs 4607182418800017408) (by omega) (by omega)
      have e : f148_i_exponential.l1 (n + 28) (n + 28) (expGo (fdiv .f64 (fmul .f64 (FloatKind.f64.nearest k) 4577790371455803420) 4643211215818981376) downs 4607182418800017408) 0 = _ := e
      simp only [br_f, exp_l0 (n + 28) _ downs 4622945017495814144 4607182418800017408 (n + 28) down_ok (by show 12 < n + 28; omega), bd_s, e, Bool.false_eq_true, if_false] at hs ⊢
      obtain ⟨y, hy⟩ := Option.isSome_iff_exists.1 hs
      rw [hy]; rfl
    · rw [h1, h2] at hs; simp at hs
  · rw [h1] at hs; simp at hs
def gapM (x y : Nat) : Nat := if flt .f64 x y = true then fsub .f64 y x else fsub .f64 x y
theorem l_gap (n x y : Nat) : f71_l_b10Gap (n + 1) x y = some (gapM x y) := by
  rw [f71_l_b10Gap]
  unfold gapM
  cases flt .f64 x y <;> rfl
def panL (k : Nat) : Nat := match f87_i_PanOf 997 (pw k) with
  | some (a, _, _) => a
  | none => 0
def panR (k : Nat) : Nat := match f87_i_PanOf 997 (pw k) with
  | some (_, a, _) => a
  | none => 0
def panOk (k : Nat) : Bool := (f87_i_PanOf 997 (pw k) == some (panL k, panR k, true)) && (f87_i_PanOf 999 (pw k) == some (panL k, panR k, true)) && !fgt .f64 (gapM (fadd .f64 (fmul .f64 (wide (panL k)) (wide (panL k))) (fmul .f64 (wide (panR k)) (wide (panR k)))) 4607182418800017408) 4547007122018943789
theorem pan_tab : ∀ k : Nat, k < 17 → panOk k = true := by decide +kernel
theorem pan_at {k : Nat} (h : k < 17) : f87_i_PanOf 997 (pw k) = some (panL k, panR k, true) ∧ f87_i_PanOf 999 (pw k) = some (panL k, panR k, true) ∧ fgt .f64 (gapM (fadd .f64 (fmul .f64 (wide (panL k)) (wide (panL k))) (fmul .f64 (wide (panR k)) (wide (panR k)))) 4607182418800017408) 4547007122018943789 = false := by
  have := pan_tab k h
  unfold panOk at this
  simp only [Bool.and_eq_true, beq_iff_eq, Bool.not_eq_true'] at this
  exact ⟨this.1.1, this.1.2, this.2⟩
/-! ### mixing -/
def addN (g p : Nat) (xs : List Nat) : Nat → Nat → List Nat → List Nat
  | 0, _, L => L
  | j + 1, i, L => addN g p xs j (i + 1) (L.set i (fadd .f32 (L.getD i 0) (fmul .f32 (fmul .f32 (xs.getD i 0) g) p)))
theorem addN_length (g p : Nat) (xs : List Nat) : ∀ (j i : Nat) (L : List Nat), (addN g p xs j i L).length = L.length
  | 0, _, _ => rfl
  | j + 1, i, L => by
    show (addN g p xs j (i + 1) _).length = _
    rw [addN_length g p xs j (i + 1), List.length_set]
theorem addN_w32 (g p : Nat) (xs : List Nat) : ∀ (j i : Nat) (L : List Nat), (∀ x ∈ L, W32 x) → ∀ x ∈ addN g p xs j i L, W32 x
  | 0, _, _, h => h
  | j + 1, i, L, h => addN_w32 g p xs j (i + 1) _ (by
    intro x hx
    rcases List.mem_or_eq_of_mem_set hx with h' | rfl
    · exact h x h'
    · exact w32_fadd _ _)
theorem set_fls {k : FloatKind} {L : List Nat} {i v : Nat} : setN (fls k L) i [T.flt k v] = fls k (L.set i v) := by
  rw [setN_one]; simp [fls, List.map_set]
theorem ble_fls {k : FloatKind} {L : List Nat} {i : Nat} (h : i < L.length) : Nat.ble (i + 1) (fls k L).length = true := by
  rw [Nat.ble_eq]; simp [fls]; omega
theorem take_at {xs : List Nat} {i k : Nat} (h : i < k) : (xs.take k).getD i 0 = xs.getD i 0 := by
  simp [List.getD, List.getElem?_take, h]
theorem mix_inner (n n1 : Nat) (l2 : List T) (N n8 : Nat) (l9 : List T) (g p q n13 : Nat) (l14 : List T) (i15 i16 : Int) (xs : List Nat) (k : Nat) (hk : k ≤ xs.length) (hkN : k ≤ N) (hN : N ≤ 1000) : ∀ (j i m : Nat) (L R : List Nat), i + j = k → L.length = N → R.length = N → j < m →
    f159_i_mixTracks.l1 n m n1 l2 (N : Int) N (fls .f32 L) N (fls .f32 R) n8 l9 g p q n13 l14 i15 i16 k (fls .f32 (xs.take k)) (k : Int) (i : Int) = some (n1, l2, (N : Int), N, fls .f32 (addN g p xs j i L), N, fls .f32 (addN g q xs j i R), n8, l9, n13, l14, i15, i16) := by
  intro j
  induction j with
  | zero =>
    intro i m L R hi hL hR hm
    obtain ⟨m, rfl⟩ : ∃ k, m = k + 1 := ⟨m - 1, by omega⟩
    rw [f159_i_mixTracks.l1, nlt_dec (by omega)]; rfl
  | succ j ih =>
    intro i m L R hi hL hR hm
    obtain ⟨m, rfl⟩ : ∃ k, m = k + 1 := ⟨m - 1, by omega⟩
    have hik : i < k := by omega
    have ht : i < (xs.take k).length := by rw [List.length_take]; omega
    rw [f159_i_mixTracks.l1, lt_dec hik, in_dec hik, in_dec (show i < N by omega), Int.toNat_natCast, okAt_fls ht, okAt_fls (show i < L.length by omega), okAt_fls (show i < R.length by omega), ble_fls (show i < L.length by omega), ble_fls (show i < R.length by omega), wrap_succ (show i < 9223372036854775807 by omega)]
    simp only [br_t, Bool.and_self, gd_t, fAt_fls, take_at hik, set_fls]
    exact ih (i + 1) m _ _ (by omega) (by rw [List.length_set]; exact hL) (by rw [List.length_set]; exact hR) (by omega)
def addT (N : Nat) (s : List Nat × List Nat) (t : Trk) : List Nat × List Nat := (addN (gT t.ten) (panL t.pan) t.xs (min t.xs.length N) 0 s.1, addN (gT t.ten) (panR t.pan) t.xs (min t.xs.length N) 0 s.2)
theorem addT_length {N : Nat} {s : List Nat × List Nat} {t : Trk} : (addT N s t).1.length = s.1.length ∧ (addT N s t).2.length = s.2.length := ⟨addN_length .., addN_length ..⟩
theorem addTs_facts (N : Nat) : ∀ (ts : List Trk) (s : List Nat × List Nat), (∀ x ∈ s.1, W32 x) → (∀ x ∈ s.2, W32 x) → (ts.foldl (addT N) s).1.length = s.1.length ∧ (ts.foldl (addT N) s).2.length = s.2.length ∧ (∀ x ∈ (ts.foldl (addT N) s).1, W32 x) ∧ (∀ x ∈ (ts.foldl (addT N) s).2, W32 x)
  | [], s, h1, h2 => ⟨rfl, rfl, h1, h2⟩
  | t :: ts, s, h1, h2 => by
    obtain ⟨a, b, c, d⟩ := addTs_facts N ts (addT N s t) (addN_w32 _ _ _ _ _ _ h1) (addN_w32 _ _ _ _ _ _ h2)
    exact ⟨a.trans addT_length.1, b.trans addT_length.2, c, d⟩
theorem mix_loop (n n1 : Nat) (l2 : List T) (N : Nat) (hN : N ≤ 1000) (a : Bool) (ts : List Trk) (hl : ts.length ≤ 100) (ht : ∀ t ∈ ts, TrkOk t) (hn : 100 < n) (hp : ∀ k, k < 17 → f87_i_PanOf (n + 30) (pw k) = some (panL k, panR k, true)) : ∀ (j i m : Nat) (s : List Nat × List Nat), i + j = ts.length → s.1.length = N → s.2.length = N → j < m →
    f159_i_mixTracks.l0 (n + 30) m n1 l2 (N : Int) N (fls .f32 s.1) N (fls .f32 s.2) ts.length (bls (ts.map (hf a))) ts.length (trks ts) (ts.length : Int) (i : Int) = some (N, fls .f32 (((ts.drop i).filter (hf a)).foldl (addT N) s).1, N, fls .f32 (((ts.drop i).filter (hf a)).foldl (addT N) s).2) := by
  intro j
  induction j with
  | zero =>
    intro i m s hi h1 h2 hm
    obtain ⟨m, rfl⟩ : ∃ k, m = k + 1 := ⟨m - 1, by omega⟩
    rw [f159_i_mixTracks.l0, nlt_dec (by omega), List.drop_eq_nil_of_le (by omega)]; rfl
  | succ j ih =>
    intro i m s hi h1 h2 hm
    obtain ⟨m, rfl⟩ : ∃ k, m = k + 1 := ⟨m - 1, by omega⟩
    have h : i < ts.length := by omega
    obtain ⟨t1, t2, t3⟩ := ht _ (tAt_mem h)
    rw [f159_i_mixTracks.l0, lt_dec h, in_dec h, Int.toNat_natCast, okT h, okAt_bls (show i < (ts.map (hf a)).length by simpa using h), bAt_bls, map_at (α := Unit) (hf a) h, drop_at h, wrap_succ (show i < 9223372036854775807 by omega)]
    simp only [br_t, Bool.and_self, gd_t]
    cases hb : hf a (tAt ts i)
    · rw [List.filter_cons_of_neg (by rw [hb]; decide)]
      simp only [Bool.not_false, br_t]
      exact ih (i + 1) m s (by omega) h1 h2 (by omega)
    · rw [List.filter_cons_of_pos hb, List.foldl_cons]
      have hmin : (if (((tAt ts i).xs.length : Nat) : Int) < (N : Int) then (((tAt ts i).xs.length : Nat) : Int) else (N : Int)) = ((min (tAt ts i).xs.length N : Nat) : Int) := by
        split <;> omega
      have hin : decide ((0 : Int) ≤ 0 ∧ ((0 : Int) ≤ ((min (tAt ts i).xs.length N : Nat) : Int)) ∧ (((min (tAt ts i).xs.length N : Nat) : Int) ≤ (((tAt ts i).xs.length : Nat) : Int))) = true := decide_eq_true (by omega)
      have e := mix_inner (n + 30) n1 l2 N ts.length (bls (ts.map (hf a))) (gT (tAt ts i).ten) (panL (tAt ts i).pan) (panR (tAt ts i).pan) ts.length (trks ts) (ts.length : Int) (i : Int) (tAt ts i).xs (min (tAt ts i).xs.length N) (Nat.min_le_left _ _) (Nat.min_le_right _ _) hN (min (tAt ts i).xs.length N) 0 (n + 30) s.1 s.2 (by omega) h1 h2 (by omega)
      have e : f159_i_mixTracks.l1 (n + 30) (n + 30) n1 l2 (N : Int) N (fls .f32 s.1) N (fls .f32 s.2) ts.length (bls (ts.map (hf a))) (gT (tAt ts i).ten) (panL (tAt ts i).pan) (panR (tAt ts i).pan) ts.length (trks ts) (ts.length : Int) (i : Int) (min (tAt ts i).xs.length N) (fls .f32 ((tAt ts i).xs.take (min (tAt ts i).xs.length N))) ((min (tAt ts i).xs.length N : Nat) : Int) 0 = _ := e
      simp only [Bool.not_true, br_f, nT h, lT h, iT h, fT h, i_gain n t2, bd_s, hp _ t3, i_sized (n + 29), hmin, hin, gd_t, Int.toNat_natCast, Nat.sub_zero, List.drop_zero, fls_take, e, wrap_succ (show i < 9223372036854775807 by omega)]
      exact ih (i + 1) m (addT N s (tAt ts i)) (by omega) (addT_length.1.trans h1) (addT_length.2.trans h2) (by omega)
def zs_ (N : Nat) : List Nat × List Nat := (List.replicate N 0, List.replicate N 0)
def mixM (N : Nat) (ts : List Trk) : List Nat × List Nat := (ts.filter (hf (anyS ts))).foldl (addT N) (zs_ N)
theorem i_mix (n N : Nat) (hN : N ≤ 200) (ts : List Trk) (hl : ts.length ≤ 8) (ht : ∀ t ∈ ts, TrkOk t) (hn : 400 < n) (hp : ∀ k, k < 17 → f87_i_PanOf (n + 30) (pw k) = some (panL k, panR k, true)) :
    f84_i_MixTracks (n + 32) ts.length (trks ts) (N : Int) = some (N, fls .f32 (mixM N ts).1, N, fls .f32 (mixM N ts).2, true) := by
  have hc : f121_i_isCount (n + 31) (N : Int) = some true := by rw [f121_i_isCount, i_in, decide_eq_true (by omega)]; rfl
  have e := mix_loop n ts.length (trks ts) N (by omega) (anyS ts) ts (by omega) ht (by omega) hp ts.length 0 (n + 30) (zs_ N) (by omega) (by simp [zs_]) (by simp [zs_]) (by omega)
  rw [List.drop_zero] at e
  have e : f159_i_mixTracks.l0 (n + 30) (n + 30) ts.length (trks ts) (N : Int) N (fls .f32 (List.replicate N 0)) N (fls .f32 (List.replicate N 0)) ts.length (bls (ts.map (hf (anyS ts)))) ts.length (trks ts) (ts.length : Int) 0 = some (N, fls .f32 (mixM N ts).1, N, fls .f32 (mixM N ts).2) := e
  rw [f84_i_MixTracks, i_aretracks (n + 27) ts hl ht (by omega), hc, f159_i_mixTracks]
  simp only [bd_s, Bool.not_true, br_f, i_zeroed (n + 29) N (by omega), i_heardtracks (n + 26) ts (by omega) (by omega), List.length_map, e]
/-! ### the law's own mix -/
theorem law_inner (n n1 : Nat) (l2 : List T) (n3 : Nat) (l4 : List T) (n5 : Nat) (l6 : List T) (N n8 : Nat) (l9 : List T) (n10 : Nat) (l11 : List T) (n12 : Nat) (l13 : List T) (n18 : Nat) (l19 : List T) (i22 : Int) (x23 : Nat) (b24 b25 : Bool) (g p q : Nat) (i30 i31 : Int) (xs : List Nat) (hN : N ≤ 1000) : ∀ (j i m : Nat) (A B : List Nat), i + j = min xs.length N → A.length = N → B.length = N → j < m →
    f14_l_FnTracks.l1 n m n1 l2 n3 l4 n5 l6 (N : Int) n8 l9 n10 l11 n12 l13 N (fls .f32 A) N (fls .f32 B) n18 l19 xs.length (fls .f32 xs) i22 x23 b24 b25 g p q (i : Int) i30 i31 = some (n1, l2, n3, l4, n5, l6, (N : Int), n8, l9, n10, l11, n12, l13, N, fls .f32 (addN g p xs j i A), N, fls .f32 (addN g q xs j i B), n18, l19, xs.length, fls .f32 xs, i22, x23, b24, b25, i30, i31) := by
  intro j
  induction j with
  | zero =>
    intro i m A B hi hA hB hm
    obtain ⟨m, rfl⟩ : ∃ k, m = k + 1 := ⟨m - 1, by omega⟩
    rw [f14_l_FnTracks.l1]
    by_cases h1 : i < N
    · rw [lt_dec h1, nlt_dec (show xs.length ≤ i by omega)]; rfl
    · rw [nlt_dec (show N ≤ i by omega)]; rfl
  | succ j ih =>
    intro i m A B hi hA hB hm
    obtain ⟨m, rfl⟩ : ∃ k, m = k + 1 := ⟨m - 1, by omega⟩
    have hx : i < xs.length := by omega
    have hn : i < N := by omega
    rw [f14_l_FnTracks.l1, lt_dec hn, lt_dec hx, in_dec hx, in_dec hn, Int.toNat_natCast, okAt_fls hx, okAt_fls (show i < A.length by omega), okAt_fls (show i < B.length by omega), ble_fls (show i < A.length by omega), ble_fls (show i < B.length by omega), wrap_succ (show i < 9223372036854775807 by omega)]
    simp only [br_t, Bool.and_self, gd_t, fAt_fls, set_fls]
    exact ih (i + 1) m _ _ (by omega) (by rw [List.length_set]; exact hA) (by rw [List.length_set]; exact hB) (by omega)
theorem law_outer (n n1 : Nat) (l2 : List T) (n3 : Nat) (l4 : List T) (N n8 : Nat) (l9 : List T) (n10 : Nat) (l11 : List T) (hN : N ≤ 1000) (ts : List Trk) (hl : ts.length ≤ 100) (ht : ∀ t ∈ ts, TrkOk t) (hn : 100 < n) (hp : ∀ k, k < 17 → f87_i_PanOf (n + 30) (pw k) = some (panL k, panR k, true)) (ks : List Nat) (hk : ∀ k ∈ ks, k < ts.length ∧ (tAt ts k).mute = false) (hkl : ks.length ≤ 1000) : ∀ (j i m : Nat) (s : List Nat × List Nat) (O : List Trk), i + j = ks.length → O.length ≤ i → s.1.length = N → s.2.length = N → j < m →
    f14_l_FnTracks.l0 (n + 30) m n1 l2 n3 l4 ts.length (trks ts) (N : Int) n8 l9 n10 l11 ks.length (its .i64 (ints ks)) N (fls .f32 s.1) N (fls .f32 s.2) O.length (trks O) (ks.length : Int) (i : Int) =
      some (Sum.inr (n1, l2, n3, l4, (N : Int), n8, l9, n10, l11, N, fls .f32 (((ks.drop i).map (tAt ts)).foldl (addT N) s).1, N, fls .f32 (((ks.drop i).map (tAt ts)).foldl (addT N) s).2, (O ++ (ks.drop i).map (tAt ts)).length, trks (O ++ (ks.drop i).map (tAt ts)))) := by
  intro j
  induction j with
  | zero =>
    intro i m s O hi hO h1 h2 hm
    obtain ⟨m, rfl⟩ : ∃ k, m = k + 1 := ⟨m - 1, by omega⟩
    rw [f14_l_FnTracks.l0, nlt_dec (by omega), List.drop_eq_nil_of_le (by omega)]
    simp [br]
  | succ j ih =>
    intro i m s O hi hO h1 h2 hm
    obtain ⟨m, rfl⟩ : ∃ k, m = k + 1 := ⟨m - 1, by omega⟩
    have h : i < ks.length := by omega
    have hd : ks.drop i = ks.getD i 0 :: ks.drop (i + 1) := by
      rw [List.drop_eq_getElem_cons h]; simp [List.getD, h]
    have hmem : ks.getD i 0 ∈ ks := by
      have : ks.getD i 0 = ks[i] := by simp [List.getD, h]
      rw [this]; exact List.getElem_mem h
    have hil : i < (ints ks).length := by simpa [ints] using h
    have hv : (ints ks).getD i 0 = ((ks.getD i 0 : Nat) : Int) := by simp [ints, List.getD, h]
    obtain ⟨k1, k2⟩ := hk _ hmem
    rw [hd]
    generalize ks.getD i 0 = k at hv k1 k2 hmem
    obtain ⟨t1, t2, t3⟩ := ht _ (tAt_mem k1)
    have q1 : decide ((k : Int) < 0) = false := decide_eq_false (by omega)
    have q2 : decide ((k : Int) ≥ (ts.length : Int)) = false := decide_eq_false (by omega)
    rw [f14_l_FnTracks.l0, lt_dec h, in_dec h, Int.toNat_natCast, okAt_its hil, iAt_its, hv, Int.toNat_natCast, q1, q2, in_dec k1, okT k1]
    have e := law_inner (n + 30) n1 l2 n3 l4 ts.length (trks ts) N n8 l9 n10 l11 ks.length (its .i64 (ints ks)) O.length (trks O) (tAt ts k).ten (pw (tAt ts k).pan) false (tAt ts k).solo (gT (tAt ts k).ten) (panL (tAt ts k).pan) (panR (tAt ts k).pan) (ks.length : Int) (i : Int) (tAt ts k).xs hN (min (tAt ts k).xs.length N) 0 (n + 30) s.1 s.2 (by omega) h1 h2 (by omega)
    have e : f14_l_FnTracks.l1 (n + 30) (n + 30) n1 l2 n3 l4 ts.length (trks ts) (N : Int) n8 l9 n10 l11 ks.length (its .i64 (ints ks)) N (fls .f32 s.1) N (fls .f32 s.2) O.length (trks O) (tAt ts k).xs.length (fls .f32 (tAt ts k).xs) (tAt ts k).ten (pw (tAt ts k).pan) false (tAt ts k).solo (gT (tAt ts k).ten) (panL (tAt ts k).pan) (panR (tAt ts k).pan) 0 (ks.length : Int) (i : Int) = _ := e
    have hpush := push_trk O (tAt ts k)
    unfold trkC at hpush
    rw [k2] at hpush
    simp only [br_t, br_f, Bool.and_self, gd_t, nT k1, lT k1, iT k1, fT k1, bT k1, cT k1, k2, i_gain n t2, bd_s, hp _ t3, Bool.not_true, fltToFlt_wide, l_gap (n + 29), (pan_at t3).2.2, e, push_ok (show O.length < 2147483648 by omega), hpush, wrap_succ (show i < 9223372036854775807 by omega)]
    rw [push_len (z := tAt ts k)]
    refine (ih (i + 1) m (addT N s (tAt ts k)) (O ++ [tAt ts k]) (by omega) (by simp; omega) (addT_length.1.trans h1) (addT_length.2.trans h2) (by omega)).trans ?_
    rw [List.map_cons, List.foldl_cons, List.append_assoc, List.singleton_append]
/-! ### the middle and the side -/
def overM (f : Nat → Nat → Nat) (xs ys : List Nat) (i j : Nat) : List Nat := (List.range' i j).map fun i => f (xs.getD i 0) (ys.getD i 0)
theorem overM_length {f : Nat → Nat → Nat} {xs ys : List Nat} {i j : Nat} : (overM f xs ys i j).length = j := by simp [overM]
theorem overM_at {f : Nat → Nat → Nat} {xs ys : List Nat} {i j : Nat} (h : i < j) : (overM f xs ys 0 j).getD i 0 = f (xs.getD i 0) (ys.getD i 0) := by simp [overM, List.getD, h]
theorem lr_loop (n N : Nat) (cs : List T) (xs ys : List Nat) (hy : ys.length = xs.length) (hl : xs.length ≤ 1000) : ∀ (j i m : Nat) (P Q : List Nat), i + j = xs.length → P.length ≤ i → Q.length ≤ i → j < m →
    f89_i_LeftAndRight.l0 n m N cs ys.length (fls .f32 ys) P.length (fls .f32 P) Q.length (fls .f32 Q) xs.length (fls .f32 xs) (xs.length : Int) (i : Int) = some ((P ++ overM (fadd .f32) xs ys i j).length, fls .f32 (P ++ overM (fadd .f32) xs ys i j), (Q ++ overM (fsub .f32) xs ys i j).length, fls .f32 (Q ++ overM (fsub .f32) xs ys i j)) := by
  intro j
  induction j with
  | zero =>
    intro i m P Q hi hP hQ hm
    obtain ⟨m, rfl⟩ : ∃ k, m = k + 1 := ⟨m - 1, by omega⟩
    rw [f89_i_LeftAndRight.l0, nlt_dec (by omega)]
    simp [br, overM]
  | succ j ih =>
    intro i m P Q hi hP hQ hm
    obtain ⟨m, rfl⟩ : ∃ k, m = k + 1 := ⟨m - 1, by omega⟩
    have hx : i < xs.length := by omega
    have hy' : i < ys.length := by omega
    rw [f89_i_LeftAndRight.l0, lt_dec hx, in_dec hx, in_dec hy', Int.toNat_natCast, okAt_fls hx, okAt_fls hy']
    simp only [br_t, Bool.and_self, gd_t, fAt_fls, push_ok (show P.length < 2147483648 by omega), push_ok (show Q.length < 2147483648 by omega), push_fls, wrap_succ (show i < 9223372036854775807 by omega)]
    rw [push_len (z := fadd .f32 (xs.getD i 0) (ys.getD i 0)), push_len (p := Q) (z := fsub .f32 (xs.getD i 0) (ys.getD i 0)), ih (i + 1) m _ _ (by omega) (by simp; omega) (by simp; omega) (by omega)]
    unfold overM
    rw [List.range'_succ]
    simp
theorem i_lr (n : Nat) (xs ys : List Nat) (hy : ys.length = xs.length) (hl : xs.length ≤ 256) (hn : 300 < n) : f89_i_LeftAndRight (n + 2) xs.length (fls .f32 xs) ys.length (fls .f32 ys) = some ((overM (fadd .f32) xs ys 0 xs.length).length, fls .f32 (overM (fadd .f32) xs ys 0 xs.length), (overM (fsub .f32) xs ys 0 xs.length).length, fls .f32 (overM (fsub .f32) xs ys 0 xs.length), true) := by
  have e := lr_loop (n + 1) xs.length (fls .f32 xs) xs ys hy (by omega) xs.length 0 (n + 1) [] [] (by omega) (by simp) (by simp) (by omega)
  simp only [List.nil_append] at e
  have e : f89_i_LeftAndRight.l0 (n + 1) (n + 1) xs.length (fls .f32 xs) ys.length (fls .f32 ys) 0 [] 0 [] xs.length (fls .f32 xs) (xs.length : Int) 0 = _ := e
  have q : (((ys.length : Nat) : Int) != ((xs.length : Nat) : Int)) = false := by rw [hy]; simp
  rw [f89_i_LeftAndRight]
  simp only [i_few, decide_eq_true (show (xs.length : Int) ≤ 256 by omega), bd_s, Bool.not_true, br_f, q, e]
def halves (xs : List Nat) : List Nat := xs.map fun z => fmul .f32 z 1056964608
theorem halves_at {xs : List Nat} {i : Nat} (h : i < xs.length) : (halves xs).getD i 0 = fmul .f32 (xs.getD i 0) 1056964608 := by simp [halves, List.getD, h]
theorem halves_length {xs : List Nat} : (halves xs).length = xs.length := by simp [halves]
theorem i_ms (n : Nat) (xs ys : List Nat) (hy : ys.length = xs.length) (hl : xs.length ≤ 256) (hn : 300 < n) : f88_i_MiddleAndSide (n + 3) xs.length (fls .f32 xs) ys.length (fls .f32 ys) = some ((halves (overM (fadd .f32) xs ys 0 xs.length)).length, fls .f32 (halves (overM (fadd .f32) xs ys 0 xs.length)), (halves (overM (fsub .f32) xs ys 0 xs.length)).length, fls .f32 (halves (overM (fsub .f32) xs ys 0 xs.length)), true) := by
  rw [f88_i_MiddleAndSide, i_lr n xs ys hy hl hn]
  simp only [bd_s, Bool.not_true, br_f]
  rw [i_scaledq (n + 1) _ _ (by rw [overM_length]; omega) (by rw [overM_length]; omega), i_scaledq (n + 1) _ _ (by rw [overM_length]; omega) (by rw [overM_length]; omega)]
  rfl
theorem p2_m1 : p2 (-1) = 1 / 2 := by
  have h := p2_add 1 (-1)
  rw [show (1 : Int) + -1 = 0 from rfl, p2_zero, p2_one] at h
  grind
theorem val_half : Val .f32 1056964608 (1 / 2) := by
  have h := read_val (k := .f32) (x := 1056964608) (s := false) (m := 8388608) (e := -24) (by decide)
  rw [sg_false] at h
  have e : mv 8388608 (-24) = 1 / 2 := by
    unfold mv
    have h := p2_add 23 (-24)
    rw [show (23 : Int) + -24 = -1 from rfl, p2_m1] at h
    rw [show ((8388608 : Nat) : Rat) = p2 ((23 : Nat) : Int) by rw [p2_nat]]
    exact h.symm
  rwa [e] at h
theorem rep_half (d : Int) (h : d.natAbs ≤ 8000000) : Rep .f32 ((d : Rat) / 2) := by
  have := rep_int (k := .f32) (M := d) (e := -1) (by rw [binade32]; omega) (by rw [least32]; decide)
  rw [p2_m1] at this
  rwa [show (d : Rat) * (1 / 2) = (d : Rat) / 2 by grind] at this
theorem rep8 : Rep0 .f32 ((8000000 : Nat) : Rat) := rep_nat .f32 (B := 8000000) (by rw [binade32]; decide)
theorem top8 : ((8000000 : Nat) : Rat) < p2 (topE .f32) := nat_top .f32 (B := 8000000) (by rw [binade32]; decide)
theorem int_le {d : Int} {B : Nat} (h : d.natAbs ≤ B) : -(B : Rat) ≤ (d : Rat) ∧ (d : Rat) ≤ (B : Rat) := by
  have h1 : ((-(B : Int) : Int) : Rat) ≤ ((d : Int) : Rat) := Rat.intCast_le_intCast.2 (by omega)
  have h2 : ((d : Int) : Rat) ≤ (((B : Int) : Int) : Rat) := Rat.intCast_le_intCast.2 (by omega)
  rw [Rat.intCast_neg, Rat.intCast_natCast] at h1
  rw [Rat.intCast_natCast] at h2
  exact ⟨h1, h2⟩
theorem half_in {d B : Rat} (h0 : 0 ≤ B) (h1 : -B ≤ d) (h2 : d ≤ B) : d / 2 ≤ B ∧ -B ≤ d / 2 := by grind
theorem nat_pos (B : Nat) : (0 : Rat) ≤ (B : Rat) := by exact_mod_cast Nat.zero_le _
theorem half_val {d : Int} (h : d.natAbs ≤ 2000000) : Val .f32 (fmul .f32 (FloatKind.f32.nearest d) 1056964608) ((d : Rat) / 2) := by
  have b32 := binade32
  obtain ⟨d1, d2⟩ := int_le (d := d) (B := 8000000) (by omega)
  obtain ⟨c1, c2⟩ := half_in (nat_pos 8000000) d1 d2
  have e1 : (d : Rat) * (1 / 2) = (d : Rat) / 2 := by grind
  obtain ⟨R, r1, r2⟩ := mul_val (int_val (k := .f32) (n := d) (by omega)) val_half rep8 top8 (by rw [e1]; exact c1) (by rw [e1]; exact c2)
  rw [e1] at r2
  exact r1.near_eq r2 (rep_half d (by omega))
theorem back_val {a b : Int} (ha : a.natAbs ≤ 1000000) (hb : b.natAbs ≤ 1000000) :
    fne .f32 (fadd .f32 (fmul .f32 (fadd .f32 (FloatKind.f32.nearest a) (FloatKind.f32.nearest b)) 1056964608) (fmul .f32 (fsub .f32 (FloatKind.f32.nearest a) (FloatKind.f32.nearest b)) 1056964608)) (FloatKind.f32.nearest a) = false ∧
    fne .f32 (fsub .f32 (fmul .f32 (fadd .f32 (FloatKind.f32.nearest a) (FloatKind.f32.nearest b)) 1056964608) (fmul .f32 (fsub .f32 (FloatKind.f32.nearest a) (FloatKind.f32.nearest b)) 1056964608)) (FloatKind.f32.nearest b) = false := by
  have b32 := binade32
  rw [int_sub (by omega) (by omega) (by omega), int_add (by omega) (by omega) (by omega)]
  have m1 := half_val (d := a + b) (by omega)
  have m2 := half_val (d := a - b) (by omega)
  obtain ⟨a1, a2⟩ := int_le (d := a) (B := 8000000) (by omega)
  obtain ⟨b1, b2⟩ := int_le (d := b) (B := 8000000) (by omega)
  have e1 : ((a + b : Int) : Rat) / 2 + ((a - b : Int) : Rat) / 2 = (a : Rat) := by rw [Rat.intCast_sub, Rat.intCast_add]; grind
  have e2 : ((a + b : Int) : Rat) / 2 - ((a - b : Int) : Rat) / 2 = (b : Rat) := by rw [Rat.intCast_sub, Rat.intCast_add]; grind
  have va := int_val (k := .f32) (n := a) (by omega)
  have vb := int_val (k := .f32) (n := b) (by omega)
  obtain ⟨R, r1, r2⟩ := add_val m1 m2 rep8 top8 (by rw [e1]; exact a2) (by rw [e1]; exact a1)
  rw [e1] at r2
  obtain ⟨S, s1, s2⟩ := sub_val m1 m2 rep8 top8 (by rw [e2]; exact b2) (by rw [e2]; exact b1)
  rw [e2] at s2
  have v1 := r1.near_eq r2 va.rep
  have v2 := s1.near_eq s2 vb.rep
  rw [fne_feq, fne_feq, (feq_val v1 va).2 rfl, (feq_val v2 vb).2 rfl]
  exact ⟨rfl, rfl⟩
theorem last_loop (n N : Nat) (xs ys us vs : List Nat) (hx : xs.length = N) (hy : ys.length = N) (hu : us.length = N) (hv : vs.length = N) (hN : N ≤ 1000) (h1 : ∀ i, i < N → fne .f32 (us.getD i 0) (xs.getD i 0) = false) (h2 : ∀ i, i < N → fne .f32 (vs.getD i 0) (ys.getD i 0) = false) : ∀ (j i m : Nat), i + j = N → j < m →
    f14_l_FnTracks.l2 n m (N : Int) xs.length (fls .f32 xs) ys.length (fls .f32 ys) us.length (fls .f32 us) vs.length (fls .f32 vs) (i : Int) = some (Sum.inr ()) := by
  intro j
  induction j with
  | zero =>
    intro i m hi hm
    obtain ⟨m, rfl⟩ : ∃ k, m = k + 1 := ⟨m - 1, by omega⟩
    rw [f14_l_FnTracks.l2, nlt_dec (by omega)]; rfl
  | succ j ih =>
    intro i m hi hm
    obtain ⟨m, rfl⟩ : ∃ k, m = k + 1 := ⟨m - 1, by omega⟩
    rw [f14_l_FnTracks.l2, lt_dec (show i < N by omega), in_dec (show i < us.length by omega), in_dec (show i < xs.length by omega), in_dec (show i < vs.length by omega), in_dec (show i < ys.length by omega), Int.toNat_natCast, okAt_fls (show i < us.length by omega), okAt_fls (show i < xs.length by omega), okAt_fls (show i < vs.length by omega), okAt_fls (show i < ys.length by omega), fAt_fls, fAt_fls, fAt_fls, fAt_fls, h1 i (by omega), h2 i (by omega), wrap_succ (show i < 9223372036854775807 by omega)]
    exact ih (i + 1) m (by omega) (by omega)
theorem main_ (n : Nat) (h997 : ∀ k, k < 17 → f87_i_PanOf (n + 497) (pw k) = some (panL k, panR k, true)) (h999 : ∀ k, k < 17 → f87_i_PanOf (n + 499) (pw k) = some (panL k, panR k, true)) (hn : 500 ≤ n)
    (cs : List Int) (hc : ∀ b ∈ cs, GoodI .u8 b) (ms : List Int) (hm : ∀ b ∈ ms, GoodI .u8 b) : f14_l_FnTracks (n + 500) cs.length (its .u8 cs) ms.length (its .u8 ms) = some true := by
  rw [f14_l_FnTracks, l_long10]
  cases hlong : decide (1048576 < cs.length ∨ 1048576 < ms.length)
  case true => rfl
  obtain ⟨ts, ht4, hts, e1⟩ := s_b10tracks (n + 492) (bytes_of hc) (by omega)
  have e1 : f83_s_B10Tracks (n + 499) cs.length (its .u8 cs) = _ := e1
  obtain ⟨N, hN, e2⟩ := l_at10 (n + 498) (bytes_of hm) (i := 0) (k := 12) (by omega) (by omega) (by omega)
  obtain ⟨N, rfl⟩ := Int.eq_ofNat_of_zero_le hN.1
  have hN' : N < 12 := by omega
  have e3 := i_mix (n + 467) N (by omega) ts (by omega) hts (by omega) h997
  have e3 : f84_i_MixTracks (n + 499) ts.length (trks ts) (N : Int) = _ := e3
  have e4 := i_HeardTracks_ (n + 494) ts (by omega) hts (by omega)
  have e4 : f85_i_HeardTracks (n + 499) ts.length (trks ts) = _ := e4
  have e5 := i_aretracks (n + 495) ts (by omega) hts (by omega)
  have e5 : f86_i_AreTracks (n + 499) ts.length (trks ts) = _ := e5
  obtain ⟨x1, x2⟩ := hix_facts (anyS ts) ts ts.length 0 (by omega)
  rw [List.drop_zero] at x1 x2
  have hkl : (hixGo (anyS ts) 0 ts).length ≤ ts.length := by
    have : (hixGo (anyS ts) 0 ts).length = (ts.filter (hf (anyS ts))).length := by rw [← x1, List.length_map]
    rw [this]; exact List.length_filter_le _ _
  have e6 := law_outer (n + 469) cs.length (its .u8 cs) ms.length (its .u8 ms) N N (fls .f32 (mixM N ts).1) N (fls .f32 (mixM N ts).2) (by omega) ts (by omega) hts (by omega) h999 (hixGo (anyS ts) 0 ts) x2 (by omega) (hixGo (anyS ts) 0 ts).length 0 (n + 499) (zs_ N) [] (by omega) (by simp) (by simp [zs_]) (by simp [zs_]) (by omega)
  rw [List.drop_zero, x1, List.nil_append] at e6
  have e6 : f14_l_FnTracks.l0 (n + 499) (n + 499) cs.length (its .u8 cs) ms.length (its .u8 ms) ts.length (trks ts) (N : Int) N (fls .f32 (mixM N ts).1) N (fls .f32 (mixM N ts).2) (hixGo (anyS ts) 0 ts).length (its .i64 (ints (hixGo (anyS ts) 0 ts))) N (fls .f32 (List.replicate N 0)) N (fls .f32 (List.replicate N 0)) 0 (reps 0 [(T.lst 0 []), (T.int .i64 (0 : Int)), (T.flt .f32 0), (T.bool false), (T.bool false)]) ((hixGo (anyS ts) 0 ts).length : Int) 0 =
    some (Sum.inr (cs.length, its .u8 cs, ms.length, its .u8 ms, (N : Int), N, fls .f32 (mixM N ts).1, N, fls .f32 (mixM N ts).2, N, fls .f32 (mixM N ts).1, N, fls .f32 (mixM N ts).2, (ts.filter (hf (anyS ts))).length, trks (ts.filter (hf (anyS ts))))) := e6
  have hO : ∀ t ∈ ts.filter (hf (anyS ts)), TrkOk t := fun t h => hts t (List.mem_filter.1 h).1
  have hOl : (ts.filter (hf (anyS ts))).length ≤ 4 := Nat.le_trans (List.length_filter_le _ _) ht4
  have e7 := i_mix (n + 467) N (by omega) (ts.filter (hf (anyS ts))) (by omega) hO (by omega) h997
  have hsame : mixM N (ts.filter (hf (anyS ts))) = mixM N ts := by
    unfold mixM
    rw [heard_again (anyS ts) ts rfl]
  rw [hsame] at e7
  have e7 : f84_i_MixTracks (n + 499) (ts.filter (hf (anyS ts))).length (trks (ts.filter (hf (anyS ts)))) (N : Int) = _ := e7
  have hz1 : ∀ x ∈ (zs_ N).1, W32 x := fun x hx => by
    obtain ⟨-, rfl⟩ := List.mem_replicate.1 hx
    exact w32_zero
  have hz2 : ∀ x ∈ (zs_ N).2, W32 x := fun x hx => by
    obtain ⟨-, rfl⟩ := List.mem_replicate.1 hx
    exact w32_zero
  obtain ⟨f1, f2, f3, f4⟩ := addTs_facts N (ts.filter (hf (anyS ts))) (zs_ N) hz1 hz2
  have f1 : (mixM N ts).1.length = N := f1.trans (by simp [zs_])
  have f2 : (mixM N ts).2.length = N := f2.trans (by simp [zs_])
  have e8 := l_same10 (n + 494) (mixM N ts).1 (mixM N ts).1 f3 f3 (by omega) (by omega)
  have e9 := l_same10 (n + 494) (mixM N ts).2 (mixM N ts).2 f4 f4 (by omega) (by omega)
  rw [f1, decide_eq_true rfl] at e8
  rw [f2, decide_eq_true rfl] at e9
  have e8 : f44_l_b10Same (n + 499) N (fls .f32 (mixM N ts).1) N (fls .f32 (mixM N ts).1) = some true := e8
  have e9 : f44_l_b10Same (n + 499) N (fls .f32 (mixM N ts).2) N (fls .f32 (mixM N ts).2) = some true := e9
  obtain ⟨xs, hxl, hxb, eA⟩ := s_b10whole (n + 496) (bytes_of hc) N 1000000 (by omega) (by omega) (by omega)
  obtain ⟨ys, hyl, hyb, eB⟩ := s_b10whole (n + 496) (bytes_of hm) N 1000000 (by omega) (by omega) (by omega)
  rw [hxl] at eA
  rw [hyl] at eB
  have eA : f34_s_B10Whole (n + 499) cs.length (its .u8 cs) (N : Int) 1000000 = some (N, fls .f32 (nears xs)) := eA
  have eB : f34_s_B10Whole (n + 499) ms.length (its .u8 ms) (N : Int) 1000000 = some (N, fls .f32 (nears ys)) := eB
  have hxn : (nears xs).length = N := by rw [nears_length]; exact hxl
  have hyn : (nears ys).length = N := by rw [nears_length]; exact hyl
  have eC := i_ms (n + 496) (nears xs) (nears ys) (by omega) (by omega) (by omega)
  have hs1 : (halves (overM (fadd .f32) (nears xs) (nears ys) 0 N)).length = N := by rw [halves_length, overM_length]
  have hs2 : (halves (overM (fsub .f32) (nears xs) (nears ys) 0 N)).length = N := by rw [halves_length, overM_length]
  rw [hxn, hyn, hs1, hs2] at eC
  have eC : f88_i_MiddleAndSide (n + 499) N (fls .f32 (nears xs)) N (fls .f32 (nears ys)) = _ := eC
  generalize hM : halves (overM (fadd .f32) (nears xs) (nears ys) 0 N) = M at eC hs1
  generalize hS : halves (overM (fsub .f32) (nears xs) (nears ys) 0 N) = S at eC hs2
  have eD := i_lr (n + 497) M S (by omega) (by omega) (by omega)
  rw [hs1, hs2, overM_length, overM_length] at eD
  have eD : f89_i_LeftAndRight (n + 499) N (fls .f32 M) N (fls .f32 S) = _ := eD
  have hget : ∀ (ks : List Int) (i : Nat), (∀ x ∈ ks, -(1000000 : Int) ≤ x ∧ x ≤ 1000000) → (ks.getD i 0).natAbs ≤ 1000000 := by
    intro ks i hks
    by_cases hi : i < ks.length
    · have : ks.getD i 0 = ks[i] := by simp [List.getD, hi]
      rw [this]
      have := hks _ (List.getElem_mem hi)
      omega
    · have : ks.getD i 0 = 0 := by simp [List.getD, Nat.le_of_not_lt hi]
      rw [this]; decide
  have hb : ∀ i, i < N → fne .f32 ((overM (fadd .f32) M S 0 N).getD i 0) ((nears xs).getD i 0) = false ∧ fne .f32 ((overM (fsub .f32) M S 0 N).getD i 0) ((nears ys).getD i 0) = false := by
    intro i hi
    rw [overM_at hi, overM_at hi, ← hM, ← hS, halves_at (by rw [overM_length]; exact hi), halves_at (by rw [overM_length]; exact hi), overM_at hi, overM_at hi, nears_get, nears_get]
    exact back_val (hget xs i hxb) (hget ys i hyb)
  have eE := last_loop (n + 499) N (nears xs) (nears ys) (overM (fadd .f32) M S 0 N) (overM (fsub .f32) M S 0 N) hxn hyn overM_length overM_length (by omega) (fun i hi => (hb i hi).1) (fun i hi => (hb i hi).2) N 0 (n + 499) (by omega) (by omega)
  rw [hxn, hyn, overM_length, overM_length] at eE
  have eE : f14_l_FnTracks.l2 (n + 499) (n + 499) (N : Int) N (fls .f32 (nears xs)) N (fls .f32 (nears ys)) N (fls .f32 (overM (fadd .f32) M S 0 N)) N (fls .f32 (overM (fsub .f32) M S 0 N)) 0 = _ := eE
  have hne : (((N : Nat) : Int) != ((N : Nat) : Int)) = false := by simp
  have hg : decide ((0 : Int) ≤ (N : Int) ∧ (N : Int) ≤ (2147483648 : Int)) = true := decide_eq_true (by omega)
  simp only [br_f, bd_s, e1, e2, e3, e4, Bool.not_true, hne, e5, hg, gd_t, Int.toNat_natCast, reps_fls, e6, sm_r, e7, e8, e9, eA, eB, eC, eD, eE]
theorem exact_ (cs : List Int) (hc : ∀ b ∈ cs, GoodI .u8 b) (lc : cs.length ≤ maxLen) (ms : List Int) (hm : ∀ b ∈ ms, GoodI .u8 b) (lm : ms.length ≤ maxLen) : ∃ n, f14_l_FnTracks n cs.length (its .u8 cs) ms.length (its .u8 ms) = some true := by
  refine ⟨1000, ?_⟩
  exact main_ 500 (fun k hk => (pan_at hk).1) (fun k hk => (pan_at hk).2.1) (by omega) cs hc ms hm
theorem law14 : ∀ args, LawArgs E Try.f14.params.toList args → ∃ N os, evalFn E N 14 args = some ⟨[⟨false, [.leaf], [.bool true]⟩], os⟩ := by
  intro args h0
  have hp : Try.f14.params.toList = [22, 22] := by kernel_rfl
  rw [hp] at h0
  obtain ⟨ts0, r0, rfl, hw0, h1⟩ := h0.cons_inv (d := ⟨false, 1, 24, [.sl .own [.leaf]], [.lst 0 []], .slc 5⟩) (by kernel_rfl)
  obtain ⟨n0, cs0, rfl, gl0, hs0⟩ := hw0.slc_inv (e := 5) (d := ⟨false, 1, 24, [.sl .own [.leaf]], [.lst 0 []], .slc 5⟩) (by kernel_rfl) rfl
  obtain ⟨a0, rfl, rfl, g0⟩ := hs0.ints (k := .u8) (d := ⟨false, 1, 1, [.leaf], [.int .u8 0], .int .u8⟩) (by kernel_rfl) rfl
  obtain ⟨ts1, r1, rfl, hw1, h2⟩ := h1.cons_inv (d := ⟨false, 1, 24, [.sl .own [.leaf]], [.lst 0 []], .slc 5⟩) (by kernel_rfl)
  obtain ⟨n1, cs1, rfl, gl1, hs1⟩ := hw1.slc_inv (e := 5) (d := ⟨false, 1, 24, [.sl .own [.leaf]], [.lst 0 []], .slc 5⟩) (by kernel_rfl) rfl
  obtain ⟨a1, rfl, rfl, g1⟩ := hs1.ints (k := .u8) (d := ⟨false, 1, 1, [.leaf], [.int .u8 0], .int .u8⟩) (by kernel_rfl) rfl
  obtain rfl := h2.nil_inv
  obtain ⟨N, hN⟩ := exact_ a0 g0 gl0 a1 g1 gl1
  exact ⟨N, _, f14_l_FnTracks.ok N (a0.length, its .u8 a0, a1.length, its .u8 a1) true hN⟩


end Go.Proofs.Ytjkhhalnlodinaa.D
end
section
/- FnTracks holds: for every input the law returns true, and its arguments read as before. -/
namespace Go.Proofs.Ytjkhhalnlodinaa.fnTracks
open Go Go.ChangeShapes Go.WideShapes Go.ChangeAt Go.RowKit Go.Desk
set_option linter.unusedVariables false
theorem own : ownKnob Try.prog.godebug = none := by kernel_rfl
theorem laidOut : laidOutB Try.prog = true := by kernel_rfl
set_option maxRecDepth 100000 in
theorem lifted (os : Os) (started : os.Started) (H : Type) (enc : TypeId × Value → H) :
    ReturnsInHanded {} Try.checked os 14 .any (Rows.fnTracksSpec.pre6 enc Try.prog Try.f14 Rows.fnTracksRow.domain false) (Rows.fnTracksSpec.post enc Try.prog Try.f14 false true false false) := by
  refine returnsInHanded_of_change (C := Try.checked) own started (by kernel_rfl) Try.func14
    (ChangeSpec.witness6 (enc := enc) (C := Try.checked) false ⟨#[], #[.slice none 0 0, .slice none 0 0], []⟩ 8 (by kernel_rfl) (by kernel_rfl) (by kernel_rfl) (by kernel_rfl)) ?_
  intro W base args ds gs before hval hW hcnd _
  exact law_contract (c := D.c14) Try.checked.mixed D.tysOk D.fnOk Try.func14 (by kernel_rfl) (by kernel_rfl) (by kernel_rfl) Try.underlying4 rfl
    (fun ds h => by
      rw [show Try.f14.params.toList.length = 2 by kernel_rfl] at h
      match ds, h with
      | [_, _], _ => rfl)
    laidOut (N := 8) (by kernel_rfl) (by kernel_rfl) D.law14 hval hW
theorem over : Rows.fnTracksRow.holds Try.pinned (OpenSpec.ofChange Rows.fnTracksSpec) :=
  OpenClaim.holds_of_wide 14 Try.f14 rfl rfl rfl rfl rfl rfl rfl ⟨rfl, rfl, rfl, rfl, rfl⟩ rfl rfl rfl rfl rfl (by kernel_rfl) Try.func14 (by kernel_rfl)
    (of_decide_eq_true (by kernel_rfl)) (by unfold Func.isWrapper; first | (rw [if_pos (by decide +kernel)]; kernel_rfl) | (rw [if_neg (by decide +kernel)]; exact ⟨rfl, rfl⟩))
    (fun os started H enc _ => lifted os started H enc)
theorem proved : Rows.FnTracksSaid := over
#print axioms proved
end Go.Proofs.Ytjkhhalnlodinaa.fnTracks
namespace Go.Proofs.Ytjkhhalnlodinaa
/-- The row, under a short name, for the claim. -/
theorem fnTracks_holds : Rows.FnTracksSaid := fnTracks.proved
end Go.Proofs.Ytjkhhalnlodinaa
end
