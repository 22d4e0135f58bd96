/- FnPlaces holds: for every input the law returns true, and its arguments read as before. -/
import Derived.Test.YtjkhhalnlodinaaChecked
import Derived.Test.YtjkhhalnlodinaaDeskF
import Derived.KernelRfl
import Derived.Test.YtjkhhalnlodinaaRows
import Derived.WalkKit
import Derived.ProofKit
import Derived.OpenShut
import Derived.ShutString
import Derived.ChangeOld
import Derived.Below
import Derived.SizedLaws
set_option linter.all false
section
/- What math.Abs owes: tables of its own, and the reading of its code. -/
namespace Go.Proofs.Ytjkhhalnlodinaa.DA
open Go Go.Desk
def bodyOf (f : Func) : Code := match f.body with
  | some c => c
  | none => .skip
def tyTab : List (Nat × TD) := [
  (34, ⟨false, 1, 8, [.leaf], [.flt .f64 0], .flt .f64⟩),
  (174, ⟨false, 1, 8, [.leaf], [.int .u64 0], .int .u64⟩)]
noncomputable def c179 : Code := bodyOf Try.f179
noncomputable def fnTab : List (Nat × FD) := [
  (178, .ext (pF64frombits)),
  (179, .code c179 [.val] [] [(2, none)] [(0, [0]), (1, [0])]),
  (189, .ext (pF64bits))]
noncomputable def E : Env := ⟨fun t => lookT tyTab t, lookF fnTab⟩
noncomputable def fdAt (n : Nat) : FD := match lookF fnTab n with
  | some d => d
  | none => .ext fun _ => none
noncomputable def keepAt (n : Nat) : List (Nat × List Nat) := match lookF fnTab n with
  | some d => d.keep
  | none => []
theorem tysOk : TysOk Try.prog E := tysOk_of (l := tyTab) (fun _ => rfl) (by kernel_rfl)
theorem ft178 : FnTab Try.prog E 178 (.ext (pF64frombits)) := ext_pF64frombits Try.func178 (by kernel_rfl) (by kernel_rfl) (by kernel_rfl) (by kernel_rfl)
theorem ft179 : FnTab Try.prog E 179 (fdAt 179) := fnTab_code (c := c179) (modes := (fdAt 179).ms) (outs := (fdAt 179).os) (results := (fdAt 179).rs) (keep := (fdAt 179).keep) Try.func179 (by kernel_rfl) (by kernel_rfl) (by kernel_rfl)
theorem ft189 : FnTab Try.prog E 189 (.ext (pF64bits)) := ext_pF64bits Try.func189 (by kernel_rfl) (by kernel_rfl) (by kernel_rfl) (by kernel_rfl)
theorem allFns : AllFns Try.prog E fnTab := .cons ft178 (.cons ft179 (.cons ft189 (.nil)))
theorem fnOk : ∀ f fd, E.fn f = some fd → FnTab Try.prog E f fd := fnTab_of (l := fnTab) (fun _ => rfl) allFns
end Go.Proofs.Ytjkhhalnlodinaa.DA
section
namespace Go.Proofs.Ytjkhhalnlodinaa.DA
open Go Go.Desk
set_option linter.unusedVariables false
noncomputable def x178.w : FnW E := xF64frombits.w 178 (by kernel_rfl)

noncomputable def x189.w : FnW E := xF64bits.w 189 (by kernel_rfl)

def f179_mathAbs : Nat → Nat → Option (Nat)
  | 0, _ => none
  | n + 1, x1 =>
    bd (xF64bits n x1) fun r2 =>
    let i3 : Int := r2
    bd (xF64frombits n (intBits BinOp.andNot IntKind.u64 i3 (9223372036854775808 : Int))) fun r4 =>
    let x5 : Nat := r4
    some x5
def sg_f : Sig (Nat) where
  pk := fun v => [.flt v]
  up := fun ls => match ls with
    | [.flt a0] => some a0
    | _ => none
  ok := by
    intro ls v h
    split at h
    · cases h; rfl
    · cases h

def f179_mathAbs.P : List Arg := [⟨.val, ⟨false, [.leaf], [.flt .f64 0]⟩⟩]
def f179_mathAbs.A : RAlt (Nat) := .one ⟨[⟨false, [.leaf], [.flt .f64 0]⟩], [none]⟩ sg_f
def f179_mathAbs.F (n : Nat) (v : Nat) := f179_mathAbs n v
noncomputable def f179_mathAbs.O (n : Nat) : Orc := orcOf (E := E) [x178.w, x189.w] [] n
theorem f179_mathAbs.ok : ∀ n v x, f179_mathAbs.F n v = some x → evalFn E n 179 (flAs f179_mathAbs.P (sg_f.pk v)) = some (f179_mathAbs.A.enc x) :=
  fn_pure (modes := (fdAt 179).ms) (outs := (fdAt 179).os) (results := (fdAt 179).rs) f179_mathAbs.O (c := c179) (keep := keepAt 179) (by kernel_rfl) (fun n => orcOf_cf _ _ n) (fun n => lpOk_of (bs := []) (by kernel_rfl) .nil) (fun _ => rfl) (fun _ _ => by kernel_rfl)
noncomputable def f179_mathAbs.w : FnW E := fnW 179 f179_mathAbs.P sg_f f179_mathAbs.A f179_mathAbs.F f179_mathAbs.ok
end Go.Proofs.Ytjkhhalnlodinaa.DA
end
namespace Go.Proofs.Ytjkhhalnlodinaa.DA
open Go Go.Desk
theorem absOk : ExtOk Try.prog 179 pAbs := ext_pAbs_of Try.checked.mixed tysOk fnOk
  (fun x hN hx => ⟨3, f179_mathAbs.ok 3 x _ (abs_plain 1 hN)⟩)
  ⟨5, by kernel_rfl⟩
end Go.Proofs.Ytjkhhalnlodinaa.DA
end
section
/- What math.Copysign owes: tables of its own, and the reading of its code. -/
namespace Go.Proofs.Ytjkhhalnlodinaa.DC
open Go Go.Desk
def bodyOf (f : Func) : Code := match f.body with
  | some c => c
  | none => .skip
def tyTab : List (Nat × TD) := [
  (34, ⟨false, 1, 8, [.leaf], [.flt .f64 0], .flt .f64⟩),
  (174, ⟨false, 1, 8, [.leaf], [.int .u64 0], .int .u64⟩)]
noncomputable def c196 : Code := bodyOf Try.f196
noncomputable def fnTab : List (Nat × FD) := [
  (178, .ext (pF64frombits)),
  (189, .ext (pF64bits)),
  (196, .code c196 [.val, .val] [] [(4, none)] [(0, [0, 1]), (1, [0, 1])])]
noncomputable def E : Env := ⟨fun t => lookT tyTab t, lookF fnTab⟩
noncomputable def fdAt (n : Nat) : FD := match lookF fnTab n with
  | some d => d
  | none => .ext fun _ => none
noncomputable def keepAt (n : Nat) : List (Nat × List Nat) := match lookF fnTab n with
  | some d => d.keep
  | none => []
theorem tysOk : TysOk Try.prog E := tysOk_of (l := tyTab) (fun _ => rfl) (by kernel_rfl)
theorem ft178 : FnTab Try.prog E 178 (.ext (pF64frombits)) := ext_pF64frombits Try.func178 (by kernel_rfl) (by kernel_rfl) (by kernel_rfl) (by kernel_rfl)
theorem ft189 : FnTab Try.prog E 189 (.ext (pF64bits)) := ext_pF64bits Try.func189 (by kernel_rfl) (by kernel_rfl) (by kernel_rfl) (by kernel_rfl)
theorem ft196 : FnTab Try.prog E 196 (fdAt 196) := fnTab_code (c := c196) (modes := (fdAt 196).ms) (outs := (fdAt 196).os) (results := (fdAt 196).rs) (keep := (fdAt 196).keep) Try.func196 (by kernel_rfl) (by kernel_rfl) (by kernel_rfl)
theorem allFns : AllFns Try.prog E fnTab := .cons ft178 (.cons ft189 (.cons ft196 (.nil)))
theorem fnOk : ∀ f fd, E.fn f = some fd → FnTab Try.prog E f fd := fnTab_of (l := fnTab) (fun _ => rfl) allFns
end Go.Proofs.Ytjkhhalnlodinaa.DC
section
namespace Go.Proofs.Ytjkhhalnlodinaa.DC
open Go Go.Desk
set_option linter.unusedVariables false
noncomputable def x178.w : FnW E := xF64frombits.w 178 (by kernel_rfl)

noncomputable def x189.w : FnW E := xF64bits.w 189 (by kernel_rfl)

def f196_mathCopysign : Nat → Nat → Nat → Option (Nat)
  | 0, _, _ => none
  | n + 1, x1, x2 =>
    bd (xF64bits n x1) fun r3 =>
    let i4 : Int := r3
    bd (xF64bits n x2) fun r5 =>
    let i6 : Int := r5
    bd (xF64frombits n (intBits BinOp.or IntKind.u64 (intBits BinOp.andNot IntKind.u64 i4 (9223372036854775808 : Int)) (intBits BinOp.and IntKind.u64 i6 (9223372036854775808 : Int)))) fun r7 =>
    let x8 : Nat := r7
    some x8
def sg_ff : Sig (Nat × Nat) where
  pk := fun v => [.flt v.1, .flt v.2]
  up := fun ls => match ls with
    | [.flt a0, .flt a1] => some (a0, a1)
    | _ => none
  ok := by
    intro ls v h
    split at h
    · cases h; rfl
    · cases h

def sg_f : Sig (Nat) where
  pk := fun v => [.flt v]
  up := fun ls => match ls with
    | [.flt a0] => some a0
    | _ => none
  ok := by
    intro ls v h
    split at h
    · cases h; rfl
    · cases h

def f196_mathCopysign.P : List Arg := [⟨.val, ⟨false, [.leaf], [.flt .f64 0]⟩⟩, ⟨.val, ⟨false, [.leaf], [.flt .f64 0]⟩⟩]
def f196_mathCopysign.A : RAlt (Nat) := .one ⟨[⟨false, [.leaf], [.flt .f64 0]⟩], [none, none]⟩ sg_f
def f196_mathCopysign.F (n : Nat) (v : Nat × Nat) := f196_mathCopysign n v.1 v.2
noncomputable def f196_mathCopysign.O (n : Nat) : Orc := orcOf (E := E) [x178.w, x189.w] [] n
theorem f196_mathCopysign.ok : ∀ n v x, f196_mathCopysign.F n v = some x → evalFn E n 196 (flAs f196_mathCopysign.P (sg_ff.pk v)) = some (f196_mathCopysign.A.enc x) :=
  fn_pure (modes := (fdAt 196).ms) (outs := (fdAt 196).os) (results := (fdAt 196).rs) f196_mathCopysign.O (c := c196) (keep := keepAt 196) (by kernel_rfl) (fun n => orcOf_cf _ _ n) (fun n => lpOk_of (bs := []) (by kernel_rfl) .nil) (fun _ => rfl) (fun _ _ => by kernel_rfl)
noncomputable def f196_mathCopysign.w : FnW E := fnW 196 f196_mathCopysign.P sg_ff f196_mathCopysign.A f196_mathCopysign.F f196_mathCopysign.ok
end Go.Proofs.Ytjkhhalnlodinaa.DC
end
namespace Go.Proofs.Ytjkhhalnlodinaa.DC
open Go Go.Desk
theorem signOk : ExtOk Try.prog 196 pCopysign := ext_pCopysign_of Try.checked.mixed tysOk fnOk
  (fun x s hx hs hx' hs' => ⟨3, f196_mathCopysign.ok 3 (x, s) _ (copysign_plain 1 hx hs hx' hs')⟩)
end Go.Proofs.Ytjkhhalnlodinaa.DC
end
section
/- The tables of the reading: types and functions of the translation, with what is kept at each region's beginning (written by a program of this workplace). -/
namespace Go.Proofs.Ytjkhhalnlodinaa.D
open Go Go.Desk
def bodyOf (f : Func) : Code := match f.body with
  | some c => c
  | none => .skip
def tyTab : List (Nat × TD) := [
  (2, ⟨false, 1, 8, [.leaf], [.int .i64 0], .int .i64⟩),
  (3, ⟨false, 1, 8, [.leaf], [.int .i64 0], .int .i64⟩),
  (4, ⟨false, 1, 1, [.leaf], [.bool false], .bool⟩),
  (5, ⟨false, 1, 1, [.leaf], [.int .u8 0], .int .u8⟩),
  (22, ⟨false, 1, 24, [.sl .own [.leaf]], [.lst 0 []], .slc 5⟩),
  (24, ⟨false, 1, 24, [.sl .own [.leaf]], [.lst 0 []], .slc 29⟩),
  (29, ⟨false, 1, 4, [.leaf], [.flt .f32 0], .flt .f32⟩),
  (34, ⟨false, 1, 8, [.leaf], [.flt .f64 0], .flt .f64⟩),
  (35, ⟨false, 1, 8, [.leaf], [.int .u64 0], .int .u64⟩),
  (120, ⟨false, 1, 8, [.leaf], [.nil], .ptr 176⟩),
  (128, ⟨false, 1, 4, [.leaf], [.int .u32 0], .int .u32⟩),
  (174, ⟨false, 1, 8, [.leaf], [.int .u64 0], .int .u64⟩),
  (176, ⟨true, 3, 40, [.sl .own [.leaf], .leaf, .leaf], [.lst 0 [], .int .i64 0, .int .u64 0], .st [(0, 22), (1, 3), (2, 174)]⟩)]
noncomputable def c10 : Code := bodyOf Try.f10
noncomputable def c15 : Code := bodyOf Try.f15
noncomputable def c16 : Code := bodyOf Try.f16
noncomputable def c17 : Code := bodyOf Try.f17
noncomputable def c21 : Code := bodyOf Try.f21
noncomputable def c58 : Code := bodyOf Try.f58
noncomputable def c59 : Code := bodyOf Try.f59
noncomputable def c60 : Code := bodyOf Try.f60
noncomputable def c61 : Code := bodyOf Try.f61
noncomputable def c90 : Code := bodyOf Try.f90
noncomputable def c91 : Code := bodyOf Try.f91
noncomputable def c92 : Code := bodyOf Try.f92
noncomputable def c93 : Code := bodyOf Try.f93
noncomputable def c97 : Code := bodyOf Try.f97
noncomputable def c121 : Code := bodyOf Try.f121
noncomputable def c124 : Code := bodyOf Try.f124
noncomputable def c125 : Code := bodyOf Try.f125
noncomputable def c126 : Code := bodyOf Try.f126
noncomputable def c127 : Code := bodyOf Try.f127
noncomputable def c128 : Code := bodyOf Try.f128
noncomputable def c129 : Code := bodyOf Try.f129
noncomputable def c130 : Code := bodyOf Try.f130
noncomputable def c131 : Code := bodyOf Try.f131
noncomputable def c158 : Code := bodyOf Try.f158
noncomputable def c163 : Code := bodyOf Try.f163
noncomputable def c171 : Code := bodyOf Try.f171
noncomputable def c172 : Code := bodyOf Try.f172
noncomputable def c173 : Code := bodyOf Try.f173
noncomputable def c185 : Code := bodyOf Try.f185
noncomputable def c186 : Code := bodyOf Try.f186
noncomputable def c187 : Code := bodyOf Try.f187
noncomputable def c190 : Code := bodyOf Try.f190
noncomputable def c192 : Code := bodyOf Try.f192
noncomputable def c193 : Code := bodyOf Try.f193
noncomputable def c194 : Code := bodyOf Try.f194
noncomputable def c198 : Code := bodyOf Try.f198
noncomputable def fnTab : List (Nat × FD) := [
  (10, .code c10 [.val, .val] [] [(4, none)] [(0, [0, 1]), (1, [0, 1]), (2, []), (3, [0, 1]), (4, [0, 1, 5]), (5, [0, 1, 5, 6]), (6, [0, 1, 5, 6, 7]), (7, [0, 1, 5, 6, 7, 8]), (8, [0, 1, 5, 6, 7, 8, 9, 10]), (9, [0, 1, 5, 6, 7, 8, 9, 10, 11, 12]), (10, []), (11, [0, 1, 5, 6, 7, 11]), (12, [0, 1, 5, 6, 7, 11, 13]), (13, [0, 1, 5, 6, 7, 11, 13]), (14, [0, 1, 5, 6, 7, 11, 13]), (15, []), (16, [0, 1, 5, 6, 7]), (17, [1, 5, 6, 7, 14]), (18, [1, 6, 7, 14, 15]), (19, [1, 6, 7, 14, 15, 16, 17]), (20, [1, 6, 7, 14, 15, 16, 17, 18, 19]), (21, []), (22, [1, 6, 7]), (23, [6, 7, 20]), (24, [6, 7, 20, 21, 22]), (25, [6, 7, 20, 21, 22, 24]), (26, []), (27, [6, 7, 20, 21, 22]), (28, [6, 7, 20, 21, 22, 25]), (29, [6, 7, 20, 21, 22, 25]), (30, [6, 7, 20, 21, 22, 25]), (31, [6, 7, 20, 21, 22, 25, 26, 27]), (32, []), (33, [21, 22]), (1000012, [0, 1, 4, 5, 6, 7]), (1000028, [4, 21, 22])]),
  (15, .code c15 [.val, .val] [] [(4, none)] [(0, [0, 1]), (1, [0, 1])]),
  (16, .code c16 [.val, .val] [] [(4, none)] [(0, [0, 1]), (1, [0, 1]), (2, [1, 5]), (3, [1, 5, 6]), (4, [1, 5, 6, 7]), (5, [1, 5, 6, 7]), (6, [1, 5, 6, 7]), (7, [6]), (1000004, [6])]),
  (17, .code c17 [.val, .val, .val] [] [(6, none)] [(0, [0, 1, 2]), (1, [0, 1, 2]), (2, []), (3, [0, 1, 2])]),
  (21, .code c21 [.val, .val] [] [(4, none)] [(0, [0, 1]), (1, [0, 1]), (2, [0, 1]), (3, [0, 1])]),
  (58, .code c58 [.val, .val, .val] [] [(6, none), (7, none)] [(0, [0, 1, 2]), (1, [0, 1, 2]), (2, []), (3, [0, 1, 2])]),
  (59, .code c59 [.val, .val, .val, .val, .val] [] [(10, none), (11, none)] [(0, [0, 1, 2, 3, 4]), (1, [0, 1, 2, 3, 4]), (2, []), (3, [0, 1, 2, 3, 4]), (4, [0, 1, 2, 3, 4, 12]), (5, [0, 1, 2, 3, 4, 12]), (6, [0, 1, 2, 3, 4, 12]), (7, []), (8, [0, 1, 2, 3, 4, 12]), (9, [0, 1, 2, 3, 4, 12]), (10, [12]), (1000004, [10, 11, 12])]),
  (60, .code c60 [.val, .val, .val] [] [(6, none)] [(0, [0, 1, 2]), (1, [0, 1, 2]), (2, [1, 2, 7]), (3, [1, 2, 7, 8]), (4, [1, 2, 7, 8, 9]), (5, [1, 2, 7, 8, 9]), (6, [1, 2, 7, 8, 9]), (7, [8]), (1000004, [8])]),
  (61, .code c61 [.val, .val, .val, .val, .val] [] [(10, none), (11, none)] [(0, [0, 1, 2, 3, 4]), (1, [0, 1, 2, 3, 4]), (2, []), (3, [0, 1, 2, 3, 4]), (4, [0, 1, 2, 3, 4, 12]), (5, [0, 1, 3, 4, 12, 13]), (6, [0, 1, 3, 4, 12, 13, 14]), (7, [0, 1, 3, 4, 12, 13, 14]), (8, [0, 1, 3, 4, 12, 13, 14]), (9, []), (10, [0, 1, 3, 4, 12, 13, 14]), (11, [0, 1, 3, 4, 12, 13, 14, 15, 16]), (12, []), (13, [0, 1, 3, 4, 12, 13, 14, 15]), (14, [0, 1, 3, 4, 12, 13, 14]), (15, [12]), (1000006, [10, 11, 12])]),
  (90, .code c90 [.val] [] [(2, none)] [(0, [0]), (1, [0])]),
  (91, .code c91 [.iop] [0] [(2, none)] [(0, [0]), (1, [0]), (2, [0, 3]), (3, [0, 3]), (4, [0, 3])]),
  (92, .code c92 [.val] [] [(2, none)] [(0, [0]), (1, [0])]),
  (93, .code c93 [.val, .val, .val] [] [(6, none)] [(0, [0, 1, 2]), (1, [0, 1, 2])]),
  (96, .ext (pF32bits)),
  (97, .code c97 [.iop, .val] [0] [(4, none)] [(0, [0, 1]), (1, [0, 1]), (2, [0]), (3, [0, 1]), (4, [0, 1, 5]), (5, [0, 1, 5]), (6, [0, 1, 5])]),
  (121, .code c121 [.val] [] [(2, none)] [(0, [0]), (1, [0])]),
  (124, .code c124 [.val] [] [(2, none)] [(0, [0]), (1, [0])]),
  (125, .code c125 [.val, .val] [] [(4, none)] [(0, [0, 1]), (1, [0, 1])]),
  (126, .code c126 [.val, .val, .val] [] [(6, none)] [(0, [0, 1, 2]), (1, [0, 2, 4]), (2, [0, 2, 4, 7]), (3, [0, 2, 4, 7]), (4, [0, 2, 4, 7]), (5, [0, 4, 7, 8]), (6, [0, 4, 7, 8, 9]), (7, [0, 4, 7, 8, 9, 10, 11]), (8, [0, 4, 7, 8, 9, 10, 11, 30]), (9, [8, 10, 11]), (10, [11]), (11, [10]), (12, [0, 4, 7, 8, 9, 10, 11, 30]), (13, [8, 10, 11]), (14, [4, 7, 8, 9, 10, 11]), (15, [8, 10, 11, 12, 13]), (16, [8, 10, 11, 12, 13, 14]), (17, [8, 10, 11, 12, 13, 14, 15]), (18, [8, 10, 14, 15, 16])]),
  (127, .code c127 [.val] [] [(2, none)] [(0, [0]), (1, [0])]),
  (128, .code c128 [.val] [] [(2, none)] [(0, [0]), (1, [0])]),
  (129, .code c129 [.val] [] [(2, none)] [(0, [0]), (1, [0])]),
  (130, .code c130 [.val, .val, .val] [] [(6, none)] [(0, [0, 1, 2]), (1, [0, 1, 2])]),
  (131, .code c131 [.val, .val, .val] [] [(6, none), (7, none)] [(0, [0, 1, 2]), (1, [0, 1, 2]), (2, []), (3, [0, 1, 2]), (4, [0, 1, 2, 8]), (5, [0, 1, 8, 9]), (6, [0, 1, 8, 9, 10]), (7, [0, 1, 8, 9, 10, 11]), (8, [0, 1, 8, 9, 10, 11, 44]), (9, [9, 10, 11]), (10, [11]), (11, [10]), (12, [0, 1, 8, 9, 10, 11, 44]), (13, [9, 10, 11]), (14, [9, 10, 12]), (15, [1, 8, 9, 10, 11]), (16, [1, 8, 9, 10, 11, 13]), (17, [9, 10, 11, 13, 14]), (18, [9, 10, 11, 13, 14, 15]), (19, [9, 10, 11, 13, 14, 15, 16]), (20, [9, 10, 11, 13, 14, 15, 16]), (21, [9, 10, 11, 13, 14, 15, 16]), (22, [9, 10, 15, 16, 17]), (23, [9, 10, 15, 18]), (24, [9, 10, 18])]),
  (158, .code c158 [.iop, .val] [0] [(4, none)] [(0, [0, 1]), (1, [0, 1])]),
  (163, .code c163 [.iop] [0] [(2, none)] [(0, [0]), (1, [0]), (2, [0, 3]), (3, [0]), (4, [0, 3]), (5, [0, 3]), (6, [0, 3]), (7, [0, 3]), (8, [0])]),
  (171, .code c171 [.val] [] [(2, none)] [(0, [0]), (1, [0]), (2, [0])]),
  (172, .code c172 [.val, .val, .val] [] [(4, none)] [(0, [0, 1, 2]), (1, [0, 1, 2])]),
  (173, .code c173 [.val, .val] [] [(4, none)] [(0, [0, 1]), (1, [0, 1])]),
  (178, .ext (pF64frombits)),
  (179, .ext (pAbs)),
  (184, .ext (pIntegral .down)),
  (185, .code c185 [.val] [] [(2, none)] [(0, [0]), (1, [0]), (2, [0]), (3, [0]), (4, [0]), (5, [3, 4]), (6, [3]), (7, [3]), (8, [0]), (9, [5])]),
  (186, .code c186 [.val, .val] [] [(4, none)] [(0, [0, 1]), (1, [0, 1]), (2, [0]), (3, [1])]),
  (187, .code c187 [.val, .val] [] [(4, none)] [(0, [0, 1]), (1, [0, 1]), (2, [0]), (3, [1])]),
  (189, .ext (pF64bits)),
  (190, .code c190 [.val] [] [(2, none)] [(0, [0]), (1, [0]), (2, [0])]),
  (192, .code c192 [.val] [] [(2, none)] [(0, [0]), (1, [0])]),
  (193, .code c193 [.val, .val] [] [(4, none)] [(0, [0, 1]), (1, [0, 1]), (2, [0]), (3, [0, 1]), (4, [0]), (5, [0])]),
  (194, .code c194 [.val] [] [(2, none), (3, none)] [(0, [0]), (1, [0]), (2, [0, 2])]),
  (196, .ext (pCopysign)),
  (197, .ext (pIntegral .zero)),
  (198, .code c198 [.val] [] [(2, none)] [(0, [0]), (1, [0]), (2, [0]), (3, [0]), (4, [3]), (5, [3, 4]), (6, [3, 4]), (7, [3])])]
noncomputable def E : Env := ⟨fun t => lookT tyTab t, lookF fnTab⟩
noncomputable def fdAt (n : Nat) : FD := match lookF fnTab n with
  | some d => d
  | none => .ext fun _ => none
noncomputable def keepAt (n : Nat) : List (Nat × List Nat) := match lookF fnTab n with
  | some d => d.keep
  | none => []
theorem tysOk : TysOk Try.prog E := tysOk_of (l := tyTab) (fun _ => rfl) (by kernel_rfl)
theorem ft10 : FnTab Try.prog E 10 (fdAt 10) := fnTab_code (c := c10) (modes := (fdAt 10).ms) (outs := (fdAt 10).os) (results := (fdAt 10).rs) (keep := (fdAt 10).keep) Try.func10 (by kernel_rfl) (by kernel_rfl) (by kernel_rfl)
theorem ft15 : FnTab Try.prog E 15 (fdAt 15) := fnTab_code (c := c15) (modes := (fdAt 15).ms) (outs := (fdAt 15).os) (results := (fdAt 15).rs) (keep := (fdAt 15).keep) Try.func15 (by kernel_rfl) (by kernel_rfl) (by kernel_rfl)
theorem ft16 : FnTab Try.prog E 16 (fdAt 16) := fnTab_code (c := c16) (modes := (fdAt 16).ms) (outs := (fdAt 16).os) (results := (fdAt 16).rs) (keep := (fdAt 16).keep) Try.func16 (by kernel_rfl) (by kernel_rfl) (by kernel_rfl)
theorem ft17 : FnTab Try.prog E 17 (fdAt 17) := fnTab_code (c := c17) (modes := (fdAt 17).ms) (outs := (fdAt 17).os) (results := (fdAt 17).rs) (keep := (fdAt 17).keep) Try.func17 (by kernel_rfl) (by kernel_rfl) (by kernel_rfl)
theorem ft21 : FnTab Try.prog E 21 (fdAt 21) := fnTab_code (c := c21) (modes := (fdAt 21).ms) (outs := (fdAt 21).os) (results := (fdAt 21).rs) (keep := (fdAt 21).keep) Try.func21 (by kernel_rfl) (by kernel_rfl) (by kernel_rfl)
theorem ft58 : FnTab Try.prog E 58 (fdAt 58) := fnTab_code (c := c58) (modes := (fdAt 58).ms) (outs := (fdAt 58).os) (results := (fdAt 58).rs) (keep := (fdAt 58).keep) Try.func58 (by kernel_rfl) (by kernel_rfl) (by kernel_rfl)
theorem ft59 : FnTab Try.prog E 59 (fdAt 59) := fnTab_code (c := c59) (modes := (fdAt 59).ms) (outs := (fdAt 59).os) (results := (fdAt 59).rs) (keep := (fdAt 59).keep) Try.func59 (by kernel_rfl) (by kernel_rfl) (by kernel_rfl)
theorem ft60 : FnTab Try.prog E 60 (fdAt 60) := fnTab_code (c := c60) (modes := (fdAt 60).ms) (outs := (fdAt 60).os) (results := (fdAt 60).rs) (keep := (fdAt 60).keep) Try.func60 (by kernel_rfl) (by kernel_rfl) (by kernel_rfl)
theorem ft61 : FnTab Try.prog E 61 (fdAt 61) := fnTab_code (c := c61) (modes := (fdAt 61).ms) (outs := (fdAt 61).os) (results := (fdAt 61).rs) (keep := (fdAt 61).keep) Try.func61 (by kernel_rfl) (by kernel_rfl) (by kernel_rfl)
theorem ft90 : FnTab Try.prog E 90 (fdAt 90) := fnTab_code (c := c90) (modes := (fdAt 90).ms) (outs := (fdAt 90).os) (results := (fdAt 90).rs) (keep := (fdAt 90).keep) Try.func90 (by kernel_rfl) (by kernel_rfl) (by kernel_rfl)
theorem ft91 : FnTab Try.prog E 91 (fdAt 91) := fnTab_code (c := c91) (modes := (fdAt 91).ms) (outs := (fdAt 91).os) (results := (fdAt 91).rs) (keep := (fdAt 91).keep) Try.func91 (by kernel_rfl) (by kernel_rfl) (by kernel_rfl)
theorem ft92 : FnTab Try.prog E 92 (fdAt 92) := fnTab_code (c := c92) (modes := (fdAt 92).ms) (outs := (fdAt 92).os) (results := (fdAt 92).rs) (keep := (fdAt 92).keep) Try.func92 (by kernel_rfl) (by kernel_rfl) (by kernel_rfl)
theorem ft93 : FnTab Try.prog E 93 (fdAt 93) := fnTab_code (c := c93) (modes := (fdAt 93).ms) (outs := (fdAt 93).os) (results := (fdAt 93).rs) (keep := (fdAt 93).keep) Try.func93 (by kernel_rfl) (by kernel_rfl) (by kernel_rfl)
theorem ft96 : FnTab Try.prog E 96 (.ext (pF32bits)) := ext_pF32bits Try.func96 (by kernel_rfl) (by kernel_rfl) (by kernel_rfl) (by kernel_rfl)
theorem ft97 : FnTab Try.prog E 97 (fdAt 97) := fnTab_code (c := c97) (modes := (fdAt 97).ms) (outs := (fdAt 97).os) (results := (fdAt 97).rs) (keep := (fdAt 97).keep) Try.func97 (by kernel_rfl) (by kernel_rfl) (by kernel_rfl)
theorem ft121 : FnTab Try.prog E 121 (fdAt 121) := fnTab_code (c := c121) (modes := (fdAt 121).ms) (outs := (fdAt 121).os) (results := (fdAt 121).rs) (keep := (fdAt 121).keep) Try.func121 (by kernel_rfl) (by kernel_rfl) (by kernel_rfl)
theorem ft124 : FnTab Try.prog E 124 (fdAt 124) := fnTab_code (c := c124) (modes := (fdAt 124).ms) (outs := (fdAt 124).os) (results := (fdAt 124).rs) (keep := (fdAt 124).keep) Try.func124 (by kernel_rfl) (by kernel_rfl) (by kernel_rfl)
theorem ft125 : FnTab Try.prog E 125 (fdAt 125) := fnTab_code (c := c125) (modes := (fdAt 125).ms) (outs := (fdAt 125).os) (results := (fdAt 125).rs) (keep := (fdAt 125).keep) Try.func125 (by kernel_rfl) (by kernel_rfl) (by kernel_rfl)
theorem ft126 : FnTab Try.prog E 126 (fdAt 126) := fnTab_code (c := c126) (modes := (fdAt 126).ms) (outs := (fdAt 126).os) (results := (fdAt 126).rs) (keep := (fdAt 126).keep) Try.func126 (by kernel_rfl) (by kernel_rfl) (by kernel_rfl)
theorem ft127 : FnTab Try.prog E 127 (fdAt 127) := fnTab_code (c := c127) (modes := (fdAt 127).ms) (outs := (fdAt 127).os) (results := (fdAt 127).rs) (keep := (fdAt 127).keep) Try.func127 (by kernel_rfl) (by kernel_rfl) (by kernel_rfl)
theorem ft128 : FnTab Try.prog E 128 (fdAt 128) := fnTab_code (c := c128) (modes := (fdAt 128).ms) (outs := (fdAt 128).os) (results := (fdAt 128).rs) (keep := (fdAt 128).keep) Try.func128 (by kernel_rfl) (by kernel_rfl) (by kernel_rfl)
theorem ft129 : FnTab Try.prog E 129 (fdAt 129) := fnTab_code (c := c129) (modes := (fdAt 129).ms) (outs := (fdAt 129).os) (results := (fdAt 129).rs) (keep := (fdAt 129).keep) Try.func129 (by kernel_rfl) (by kernel_rfl) (by kernel_rfl)
theorem ft130 : FnTab Try.prog E 130 (fdAt 130) := fnTab_code (c := c130) (modes := (fdAt 130).ms) (outs := (fdAt 130).os) (results := (fdAt 130).rs) (keep := (fdAt 130).keep) Try.func130 (by kernel_rfl) (by kernel_rfl) (by kernel_rfl)
theorem ft131 : FnTab Try.prog E 131 (fdAt 131) := fnTab_code (c := c131) (modes := (fdAt 131).ms) (outs := (fdAt 131).os) (results := (fdAt 131).rs) (keep := (fdAt 131).keep) Try.func131 (by kernel_rfl) (by kernel_rfl) (by kernel_rfl)
theorem ft158 : FnTab Try.prog E 158 (fdAt 158) := fnTab_code (c := c158) (modes := (fdAt 158).ms) (outs := (fdAt 158).os) (results := (fdAt 158).rs) (keep := (fdAt 158).keep) Try.func158 (by kernel_rfl) (by kernel_rfl) (by kernel_rfl)
theorem ft163 : FnTab Try.prog E 163 (fdAt 163) := fnTab_code (c := c163) (modes := (fdAt 163).ms) (outs := (fdAt 163).os) (results := (fdAt 163).rs) (keep := (fdAt 163).keep) Try.func163 (by kernel_rfl) (by kernel_rfl) (by kernel_rfl)
theorem ft171 : FnTab Try.prog E 171 (fdAt 171) := fnTab_code (c := c171) (modes := (fdAt 171).ms) (outs := (fdAt 171).os) (results := (fdAt 171).rs) (keep := (fdAt 171).keep) Try.func171 (by kernel_rfl) (by kernel_rfl) (by kernel_rfl)
theorem ft172 : FnTab Try.prog E 172 (fdAt 172) := fnTab_code (c := c172) (modes := (fdAt 172).ms) (outs := (fdAt 172).os) (results := (fdAt 172).rs) (keep := (fdAt 172).keep) Try.func172 (by kernel_rfl) (by kernel_rfl) (by kernel_rfl)
theorem ft173 : FnTab Try.prog E 173 (fdAt 173) := fnTab_code (c := c173) (modes := (fdAt 173).ms) (outs := (fdAt 173).os) (results := (fdAt 173).rs) (keep := (fdAt 173).keep) Try.func173 (by kernel_rfl) (by kernel_rfl) (by kernel_rfl)
theorem ft178 : FnTab Try.prog E 178 (.ext (pF64frombits)) := ext_pF64frombits Try.func178 (by kernel_rfl) (by kernel_rfl) (by kernel_rfl) (by kernel_rfl)
theorem ft179 : FnTab Try.prog E 179 (.ext (pAbs)) := DA.absOk
theorem ft184 : FnTab Try.prog E 184 (.ext (pIntegral .down)) := ext_pIntegral_down Try.func184 (by kernel_rfl) (by kernel_rfl) (by kernel_rfl) (by kernel_rfl)
theorem ft185 : FnTab Try.prog E 185 (fdAt 185) := fnTab_code (c := c185) (modes := (fdAt 185).ms) (outs := (fdAt 185).os) (results := (fdAt 185).rs) (keep := (fdAt 185).keep) Try.func185 (by kernel_rfl) (by kernel_rfl) (by kernel_rfl)
theorem ft186 : FnTab Try.prog E 186 (fdAt 186) := fnTab_code (c := c186) (modes := (fdAt 186).ms) (outs := (fdAt 186).os) (results := (fdAt 186).rs) (keep := (fdAt 186).keep) Try.func186 (by kernel_rfl) (by kernel_rfl) (by kernel_rfl)
theorem ft187 : FnTab Try.prog E 187 (fdAt 187) := fnTab_code (c := c187) (modes := (fdAt 187).ms) (outs := (fdAt 187).os) (results := (fdAt 187).rs) (keep := (fdAt 187).keep) Try.func187 (by kernel_rfl) (by kernel_rfl) (by kernel_rfl)
theorem ft189 : FnTab Try.prog E 189 (.ext (pF64bits)) := ext_pF64bits Try.func189 (by kernel_rfl) (by kernel_rfl) (by kernel_rfl) (by kernel_rfl)
theorem ft190 : FnTab Try.prog E 190 (fdAt 190) := fnTab_code (c := c190) (modes := (fdAt 190).ms) (outs := (fdAt 190).os) (results := (fdAt 190).rs) (keep := (fdAt 190).keep) Try.func190 (by kernel_rfl) (by kernel_rfl) (by kernel_rfl)
theorem ft192 : FnTab Try.prog E 192 (fdAt 192) := fnTab_code (c := c192) (modes := (fdAt 192).ms) (outs := (fdAt 192).os) (results := (fdAt 192).rs) (keep := (fdAt 192).keep) Try.func192 (by kernel_rfl) (by kernel_rfl) (by kernel_rfl)
theorem ft193 : FnTab Try.prog E 193 (fdAt 193) := fnTab_code (c := c193) (modes := (fdAt 193).ms) (outs := (fdAt 193).os) (results := (fdAt 193).rs) (keep := (fdAt 193).keep) Try.func193 (by kernel_rfl) (by kernel_rfl) (by kernel_rfl)
theorem ft194 : FnTab Try.prog E 194 (fdAt 194) := fnTab_code (c := c194) (modes := (fdAt 194).ms) (outs := (fdAt 194).os) (results := (fdAt 194).rs) (keep := (fdAt 194).keep) Try.func194 (by kernel_rfl) (by kernel_rfl) (by kernel_rfl)
theorem ft196 : FnTab Try.prog E 196 (.ext (pCopysign)) := DC.signOk
theorem ft197 : FnTab Try.prog E 197 (.ext (pIntegral .zero)) := ext_pIntegral_zero Try.func197 (by kernel_rfl) (by kernel_rfl) (by kernel_rfl) (by kernel_rfl)
theorem ft198 : FnTab Try.prog E 198 (fdAt 198) := fnTab_code (c := c198) (modes := (fdAt 198).ms) (outs := (fdAt 198).os) (results := (fdAt 198).rs) (keep := (fdAt 198).keep) Try.func198 (by kernel_rfl) (by kernel_rfl) (by kernel_rfl)
theorem allFns : AllFns Try.prog E fnTab := .cons ft10 (.cons ft15 (.cons ft16 (.cons ft17 (.cons ft21 (.cons ft58 (.cons ft59 (.cons ft60 (.cons ft61 (.cons ft90 (.cons ft91 (.cons ft92 (.cons ft93 (.cons ft96 (.cons ft97 (.cons ft121 (.cons ft124 (.cons ft125 (.cons ft126 (.cons ft127 (.cons ft128 (.cons ft129 (.cons ft130 (.cons ft131 (.cons ft158 (.cons ft163 (.cons ft171 (.cons ft172 (.cons ft173 (.cons ft178 (.cons ft179 (.cons ft184 (.cons ft185 (.cons ft186 (.cons ft187 (.cons ft189 (.cons ft190 (.cons ft192 (.cons ft193 (.cons ft194 (.cons ft196 (.cons ft197 (.cons ft198 (.nil)))))))))))))))))))))))))))))))))))))))))))
theorem fnOk : ∀ f fd, E.fn f = some fd → FnTab Try.prog E f fd := fnTab_of (l := fnTab) (fun _ => rfl) allFns
end Go.Proofs.Ytjkhhalnlodinaa.D
end
section
/- Plain functions for the law's Go functions, each tied to the reading by the kernel (printed by a program of this workplace). -/
namespace Go.Proofs.Ytjkhhalnlodinaa.D
open Go Go.Desk
set_option linter.unusedVariables false
noncomputable def x96.w : FnW E := xF32bits.w 96 (by kernel_rfl)

noncomputable def x184.w : FnW E := xIntegral_down.w 184 (by kernel_rfl)

noncomputable def x179.w : FnW E := xAbs.w 179 (by kernel_rfl)

noncomputable def x197.w : FnW E := xIntegral_zero.w 197 (by kernel_rfl)

noncomputable def x178.w : FnW E := xF64frombits.w 178 (by kernel_rfl)

noncomputable def x189.w : FnW E := xF64bits.w 189 (by kernel_rfl)

noncomputable def x196.w : FnW E := xCopysign.w 196 (by kernel_rfl)

def f15_l_r8Long : Nat → Nat → List T → Nat → List T → Option (Bool)
  | 0, _, _, _, _ => none
  | n + 1, n1, l2, n3, l4 =>
    br (decide (((n1 : Nat) : Int) > (48 : Int))) (
     some true) (
     some (decide (((n3 : Nat) : Int) > (48 : Int))))
def sg_ll : Sig (Nat × List T × Nat × List T) where
  pk := fun v => [.lst v.1 v.2.1, .lst v.2.2.1 v.2.2.2]
  up := fun ls => match ls with
    | [.lst a0 a1, .lst a2 a3] => some (a0, a1, a2, a3)
    | _ => none
  ok := by
    intro ls v h
    split at h
    · cases h; rfl
    · cases h

def sg_b : Sig (Bool) where
  pk := fun v => [.bool v]
  up := fun ls => match ls with
    | [.bool a0] => some a0
    | _ => none
  ok := by
    intro ls v h
    split at h
    · cases h; rfl
    · cases h

def f15_l_r8Long.P : List Arg := [⟨.val, ⟨false, [.sl .shr [.leaf]], [.lst 0 []]⟩⟩, ⟨.val, ⟨false, [.sl .shr [.leaf]], [.lst 0 []]⟩⟩]
def f15_l_r8Long.A : RAlt (Bool) := .one ⟨[⟨false, [.leaf], [.bool false]⟩], [none, none]⟩ sg_b
def f15_l_r8Long.F (n : Nat) (v : Nat × List T × Nat × List T) := f15_l_r8Long n v.1 v.2.1 v.2.2.1 v.2.2.2
noncomputable def f15_l_r8Long.O (n : Nat) : Orc := orcOf (E := E) [] [] n
theorem f15_l_r8Long.ok : ∀ n v x, f15_l_r8Long.F n v = some x → evalFn E n 15 (flAs f15_l_r8Long.P (sg_ll.pk v)) = some (f15_l_r8Long.A.enc x) :=
  fn_pure (modes := (fdAt 15).ms) (outs := (fdAt 15).os) (results := (fdAt 15).rs) f15_l_r8Long.O (c := c15) (keep := keepAt 15) (by kernel_rfl) (fun n => orcOf_cf _ _ n) (fun n => lpOk_of (bs := []) (by kernel_rfl) .nil) (fun _ => rfl) (fun _ _ => by kernel_rfl)
noncomputable def f15_l_r8Long.w : FnW E := fnW 15 f15_l_r8Long.P sg_ll f15_l_r8Long.A f15_l_r8Long.F f15_l_r8Long.ok

def f17_l_r8At : Nat → Nat → List T → Int → Int → Option (Int)
  | 0, _, _, _, _ => none
  | n + 1, n1, l2, i3, i4 =>
    br (decide (i4 ≤ (1 : Int))) (
     some (0 : Int)) (
     br (decide (i3 ≥ ((n1 : Nat) : Int))) (
      some (0 : Int)) (
      gd ((decide (((0 : Int) ≤ i3) ∧ (i3 < ((n1 : Nat) : Int)))) && (okAt [(CK.int IntKind.u8)] l2 (Int.toNat i3))) (
      gd (!(decide (i4 = (0 : Int)))) (
      some (Int.tmod (IntKind.i64.wrap (iAt l2 (Int.toNat i3))) i4)))))
def sg_lii : Sig (Nat × List T × Int × Int) where
  pk := fun v => [.lst v.1 v.2.1, .int v.2.2.1, .int v.2.2.2]
  up := fun ls => match ls with
    | [.lst a0 a1, .int a2, .int a3] => some (a0, a1, a2, a3)
    | _ => none
  ok := by
    intro ls v h
    split at h
    · cases h; rfl
    · cases h

def sg_i : Sig (Int) where
  pk := fun v => [.int v]
  up := fun ls => match ls with
    | [.int a0] => some a0
    | _ => none
  ok := by
    intro ls v h
    split at h
    · cases h; rfl
    · cases h

def f17_l_r8At.P : List Arg := [⟨.val, ⟨false, [.sl .shr [.leaf]], [.lst 0 []]⟩⟩, ⟨.val, ⟨false, [.leaf], [.int .i64 0]⟩⟩, ⟨.val, ⟨false, [.leaf], [.int .i64 0]⟩⟩]
def f17_l_r8At.A : RAlt (Int) := .one ⟨[⟨false, [.leaf], [.int .i64 0]⟩], [none, none, none]⟩ sg_i
def f17_l_r8At.F (n : Nat) (v : Nat × List T × Int × Int) := f17_l_r8At n v.1 v.2.1 v.2.2.1 v.2.2.2
noncomputable def f17_l_r8At.O (n : Nat) : Orc := orcOf (E := E) [] [] n
theorem f17_l_r8At.ok : ∀ n v x, f17_l_r8At.F n v = some x → evalFn E n 17 (flAs f17_l_r8At.P (sg_lii.pk v)) = some (f17_l_r8At.A.enc x) :=
  fn_pure (modes := (fdAt 17).ms) (outs := (fdAt 17).os) (results := (fdAt 17).rs) f17_l_r8At.O (c := c17) (keep := keepAt 17) (by kernel_rfl) (fun n => orcOf_cf _ _ n) (fun n => lpOk_of (bs := []) (by kernel_rfl) .nil) (fun _ => rfl) (fun _ _ => by kernel_rfl)
noncomputable def f17_l_r8At.w : FnW E := fnW 17 f17_l_r8At.P sg_lii f17_l_r8At.A f17_l_r8At.F f17_l_r8At.ok

def f90_s_l00From : Nat → Nat → List T → Option (Nat × List T × Int × Int)
  | 0, _, _ => none
  | n + 1, n1, l2 =>
    some (n1, l2, (0 : Int), (0 : Int))
def sg_l : Sig (Nat × List T) where
  pk := fun v => [.lst v.1 v.2]
  up := fun ls => match ls with
    | [.lst a0 a1] => some (a0, a1)
    | _ => none
  ok := by
    intro ls v h
    split at h
    · cases h; rfl
    · cases h

def f90_s_l00From.P : List Arg := [⟨.val, ⟨false, [.sl .shr [.leaf]], [.lst 0 []]⟩⟩]
def f90_s_l00From.A : RAlt (Nat × List T × Int × Int) := .one ⟨[⟨false, [.rf .own [.sl .shr [.leaf], .leaf, .leaf]], [.ref [.lst 0 [], .int .i64 0, .int .u64 0]]⟩], [none]⟩ sg_lii
def f90_s_l00From.F (n : Nat) (v : Nat × List T) := f90_s_l00From n v.1 v.2
noncomputable def f90_s_l00From.O (n : Nat) : Orc := orcOf (E := E) [] [] n
theorem f90_s_l00From.ok : ∀ n v x, f90_s_l00From.F n v = some x → evalFn E n 90 (flAs f90_s_l00From.P (sg_l.pk v)) = some (f90_s_l00From.A.enc x) :=
  fn_pure (modes := (fdAt 90).ms) (outs := (fdAt 90).os) (results := (fdAt 90).rs) f90_s_l00From.O (c := c90) (keep := keepAt 90) (by kernel_rfl) (fun n => orcOf_cf _ _ n) (fun n => lpOk_of (bs := []) (by kernel_rfl) .nil) (fun _ => rfl) (fun _ _ => by kernel_rfl)
noncomputable def f90_s_l00From.w : FnW E := fnW 90 f90_s_l00From.P sg_l f90_s_l00From.A f90_s_l00From.F f90_s_l00From.ok

def f163_s_l00Srcnext : Nat → Nat → List T → Int → Int → Option (Int × Nat × List T × Int × Int)
  | 0, _, _, _, _ => none
  | n + 1, n1, l2, i3, i4 =>
    br (decide (i3 < ((n1 : Nat) : Int))) (
     gd ((decide (((0 : Int) ≤ i3) ∧ (i3 < ((n1 : Nat) : Int)))) && (okAt [(CK.int IntKind.u8)] l2 (Int.toNat i3))) (
     let i5 : Int := (IntKind.i64.wrap (iAt l2 (Int.toNat i3)))
     let i6 : Int := (IntKind.i64.wrap (i3 + (1 : Int)))
     let i7 : Int := (IntKind.u64.wrap ((IntKind.u64.wrap ((IntKind.u64.wrap (i4 * (6364136223846793005 : Int))) + (IntKind.u64.wrap i5))) + (1442695040888963407 : Int)))
     br (decide (i6 ≤ ((n1 : Nat) : Int))) (
      some (i5, n1, l2, i6, i7)) (
      some ((IntKind.i64.wrap (intBits BinOp.and IntKind.u64 (Int.fdiv i7 (1099511627776 : Int)) (255 : Int))), n1, l2, i6, i7)))) (
     let i8 : Int := (IntKind.i64.wrap (i3 + (1 : Int)))
     let i9 : Int := (IntKind.u64.wrap ((IntKind.u64.wrap ((IntKind.u64.wrap (i4 * (6364136223846793005 : Int))) + (0 : Int))) + (1442695040888963407 : Int)))
     br (decide (i8 ≤ ((n1 : Nat) : Int))) (
      some ((0 : Int), n1, l2, i8, i9)) (
      some ((IntKind.i64.wrap (intBits BinOp.and IntKind.u64 (Int.fdiv i9 (1099511627776 : Int)) (255 : Int))), n1, l2, i8, i9)))
def sg_ilii : Sig (Int × Nat × List T × Int × Int) where
  pk := fun v => [.int v.1, .lst v.2.1 v.2.2.1, .int v.2.2.2.1, .int v.2.2.2.2]
  up := fun ls => match ls with
    | [.int a0, .lst a1 a2, .int a3, .int a4] => some (a0, a1, a2, a3, a4)
    | _ => none
  ok := by
    intro ls v h
    split at h
    · cases h; rfl
    · cases h

def f163_s_l00Srcnext.P : List Arg := [⟨.iop, ⟨false, [.rf .own [.sl .shr [.leaf], .leaf, .leaf]], [.ref [.lst 0 [], .int .i64 0, .int .u64 0]]⟩⟩]
def f163_s_l00Srcnext.A : RAlt (Int × Nat × List T × Int × Int) := .one ⟨[⟨false, [.leaf], [.int .i64 0]⟩], [some ⟨false, [.rf .own [.sl .shr [.leaf], .leaf, .leaf]], [.ref [.lst 0 [], .int .i64 0, .int .u64 0]]⟩]⟩ sg_ilii
def f163_s_l00Srcnext.F (n : Nat) (v : Nat × List T × Int × Int) := f163_s_l00Srcnext n v.1 v.2.1 v.2.2.1 v.2.2.2
noncomputable def f163_s_l00Srcnext.O (n : Nat) : Orc := orcOf (E := E) [] [] n
theorem f163_s_l00Srcnext.ok : ∀ n v x, f163_s_l00Srcnext.F n v = some x → evalFn E n 163 (flAs f163_s_l00Srcnext.P (sg_lii.pk v)) = some (f163_s_l00Srcnext.A.enc x) :=
  fn_pure (modes := (fdAt 163).ms) (outs := (fdAt 163).os) (results := (fdAt 163).rs) f163_s_l00Srcnext.O (c := c163) (keep := keepAt 163) (by kernel_rfl) (fun n => orcOf_cf _ _ n) (fun n => lpOk_of (bs := []) (by kernel_rfl) .nil) (fun _ => rfl) (fun _ _ => by kernel_rfl)
noncomputable def f163_s_l00Srcnext.w : FnW E := fnW 163 f163_s_l00Srcnext.P sg_lii f163_s_l00Srcnext.A f163_s_l00Srcnext.F f163_s_l00Srcnext.ok

def f97_s_l00Srcpick : Nat → Nat → List T → Int → Int → Int → Option (Int × Nat × List T × Int × Int)
  | 0, _, _, _, _, _ => none
  | n + 1, n1, l2, i3, i4, i5 =>
    br (decide (i5 ≤ (1 : Int))) (
     some ((0 : Int), n1, l2, i3, i4)) (
     bd (f163_s_l00Srcnext n n1 l2 i3 i4) fun r6 =>
     let i7 : Int := r6.1
     let n8 : Nat := r6.2.1
     let l9 : List T := r6.2.2.1
     let i10 : Int := r6.2.2.2.1
     let i11 : Int := r6.2.2.2.2
     br (decide (i5 > (200 : Int))) (
      bd (f163_s_l00Srcnext n n8 l9 i10 i11) fun r12 =>
      let i13 : Int := r12.1
      let n14 : Nat := r12.2.1
      let l15 : List T := r12.2.2.1
      let i16 : Int := r12.2.2.2.1
      let i17 : Int := r12.2.2.2.2
      let i18 : Int := (IntKind.i64.wrap ((IntKind.i64.wrap (i7 * (256 : Int))) + i13))
      gd (!(decide (i5 = (0 : Int)))) (
      some ((Int.tmod i18 i5), n14, l15, i16, i17))) (
      gd (!(decide (i5 = (0 : Int)))) (
      some ((Int.tmod i7 i5), n8, l9, i10, i11))))
def sg_liii : Sig (Nat × List T × Int × Int × Int) where
  pk := fun v => [.lst v.1 v.2.1, .int v.2.2.1, .int v.2.2.2.1, .int v.2.2.2.2]
  up := fun ls => match ls with
    | [.lst a0 a1, .int a2, .int a3, .int a4] => some (a0, a1, a2, a3, a4)
    | _ => none
  ok := by
    intro ls v h
    split at h
    · cases h; rfl
    · cases h

def f97_s_l00Srcpick.P : List Arg := [⟨.iop, ⟨false, [.rf .own [.sl .shr [.leaf], .leaf, .leaf]], [.ref [.lst 0 [], .int .i64 0, .int .u64 0]]⟩⟩, ⟨.val, ⟨false, [.leaf], [.int .i64 0]⟩⟩]
def f97_s_l00Srcpick.A : RAlt (Int × Nat × List T × Int × Int) := .one ⟨[⟨false, [.leaf], [.int .i64 0]⟩], [some ⟨false, [.rf .own [.sl .shr [.leaf], .leaf, .leaf]], [.ref [.lst 0 [], .int .i64 0, .int .u64 0]]⟩, none]⟩ sg_ilii
def f97_s_l00Srcpick.F (n : Nat) (v : Nat × List T × Int × Int × Int) := f97_s_l00Srcpick n v.1 v.2.1 v.2.2.1 v.2.2.2.1 v.2.2.2.2
noncomputable def f97_s_l00Srcpick.O (n : Nat) : Orc := orcOf (E := E) [f163_s_l00Srcnext.w] [] n
theorem f97_s_l00Srcpick.ok : ∀ n v x, f97_s_l00Srcpick.F n v = some x → evalFn E n 97 (flAs f97_s_l00Srcpick.P (sg_liii.pk v)) = some (f97_s_l00Srcpick.A.enc x) :=
  fn_pure (modes := (fdAt 97).ms) (outs := (fdAt 97).os) (results := (fdAt 97).rs) f97_s_l00Srcpick.O (c := c97) (keep := keepAt 97) (by kernel_rfl) (fun n => orcOf_cf _ _ n) (fun n => lpOk_of (bs := []) (by kernel_rfl) .nil) (fun _ => rfl) (fun _ _ => by kernel_rfl)
noncomputable def f97_s_l00Srcpick.w : FnW E := fnW 97 f97_s_l00Srcpick.P sg_liii f97_s_l00Srcpick.A f97_s_l00Srcpick.F f97_s_l00Srcpick.ok

def f158_s_l00Srcone : Nat → Nat → List T → Int → Int → Int → Option (Bool × Nat × List T × Int × Int)
  | 0, _, _, _, _, _ => none
  | n + 1, n1, l2, i3, i4, i5 =>
    bd (f97_s_l00Srcpick n n1 l2 i3 i4 i5) fun r6 =>
    let i7 : Int := r6.1
    let n8 : Nat := r6.2.1
    let l9 : List T := r6.2.2.1
    let i10 : Int := r6.2.2.2.1
    let i11 : Int := r6.2.2.2.2
    some ((i7 == (0 : Int)), n8, l9, i10, i11)
def sg_blii : Sig (Bool × Nat × List T × Int × Int) where
  pk := fun v => [.bool v.1, .lst v.2.1 v.2.2.1, .int v.2.2.2.1, .int v.2.2.2.2]
  up := fun ls => match ls with
    | [.bool a0, .lst a1 a2, .int a3, .int a4] => some (a0, a1, a2, a3, a4)
    | _ => none
  ok := by
    intro ls v h
    split at h
    · cases h; rfl
    · cases h

def f158_s_l00Srcone.P : List Arg := [⟨.iop, ⟨false, [.rf .own [.sl .shr [.leaf], .leaf, .leaf]], [.ref [.lst 0 [], .int .i64 0, .int .u64 0]]⟩⟩, ⟨.val, ⟨false, [.leaf], [.int .i64 0]⟩⟩]
def f158_s_l00Srcone.A : RAlt (Bool × Nat × List T × Int × Int) := .one ⟨[⟨false, [.leaf], [.bool false]⟩], [some ⟨false, [.rf .own [.sl .shr [.leaf], .leaf, .leaf]], [.ref [.lst 0 [], .int .i64 0, .int .u64 0]]⟩, none]⟩ sg_blii
def f158_s_l00Srcone.F (n : Nat) (v : Nat × List T × Int × Int × Int) := f158_s_l00Srcone n v.1 v.2.1 v.2.2.1 v.2.2.2.1 v.2.2.2.2
noncomputable def f158_s_l00Srcone.O (n : Nat) : Orc := orcOf (E := E) [f97_s_l00Srcpick.w] [] n
theorem f158_s_l00Srcone.ok : ∀ n v x, f158_s_l00Srcone.F n v = some x → evalFn E n 158 (flAs f158_s_l00Srcone.P (sg_liii.pk v)) = some (f158_s_l00Srcone.A.enc x) :=
  fn_pure (modes := (fdAt 158).ms) (outs := (fdAt 158).os) (results := (fdAt 158).rs) f158_s_l00Srcone.O (c := c158) (keep := keepAt 158) (by kernel_rfl) (fun n => orcOf_cf _ _ n) (fun n => lpOk_of (bs := []) (by kernel_rfl) .nil) (fun _ => rfl) (fun _ _ => by kernel_rfl)
noncomputable def f158_s_l00Srcone.w : FnW E := fnW 158 f158_s_l00Srcone.P sg_liii f158_s_l00Srcone.A f158_s_l00Srcone.F f158_s_l00Srcone.ok

def f91_s_l01DrawPlain : Nat → Nat → List T → Int → Int → Option (Nat × Nat × List T × Int × Int)
  | 0, _, _, _, _ => none
  | n + 1, n1, l2, i3, i4 =>
    bd (f97_s_l00Srcpick n n1 l2 i3 i4 (129 : Int)) fun r5 =>
    let i6 : Int := r5.1
    let n7 : Nat := r5.2.1
    let l8 : List T := r5.2.2.1
    let i9 : Int := r5.2.2.2.1
    let i10 : Int := r5.2.2.2.2
    let i11 : Int := (IntKind.i64.wrap (i6 - (64 : Int)))
    bd (f158_s_l00Srcone n n7 l8 i9 i10 (4 : Int)) fun r12 =>
    let b13 : Bool := r12.1
    let n14 : Nat := r12.2.1
    let l15 : List T := r12.2.2.1
    let i16 : Int := r12.2.2.2.1
    let i17 : Int := r12.2.2.2.2
    br b13 (
     some ((fdiv FloatKind.f32 (FloatKind.nearest FloatKind.f32 i11) 1088421888), n14, l15, i16, i17)) (
     some ((fdiv FloatKind.f32 (FloatKind.nearest FloatKind.f32 i11) 1098907648), n14, l15, i16, i17))
def sg_flii : Sig (Nat × Nat × List T × Int × Int) where
  pk := fun v => [.flt v.1, .lst v.2.1 v.2.2.1, .int v.2.2.2.1, .int v.2.2.2.2]
  up := fun ls => match ls with
    | [.flt a0, .lst a1 a2, .int a3, .int a4] => some (a0, a1, a2, a3, a4)
    | _ => none
  ok := by
    intro ls v h
    split at h
    · cases h; rfl
    · cases h

def f91_s_l01DrawPlain.P : List Arg := [⟨.iop, ⟨false, [.rf .own [.sl .shr [.leaf], .leaf, .leaf]], [.ref [.lst 0 [], .int .i64 0, .int .u64 0]]⟩⟩]
def f91_s_l01DrawPlain.A : RAlt (Nat × Nat × List T × Int × Int) := .one ⟨[⟨false, [.leaf], [.flt .f32 0]⟩], [some ⟨false, [.rf .own [.sl .shr [.leaf], .leaf, .leaf]], [.ref [.lst 0 [], .int .i64 0, .int .u64 0]]⟩]⟩ sg_flii
def f91_s_l01DrawPlain.F (n : Nat) (v : Nat × List T × Int × Int) := f91_s_l01DrawPlain n v.1 v.2.1 v.2.2.1 v.2.2.2
noncomputable def f91_s_l01DrawPlain.O (n : Nat) : Orc := orcOf (E := E) [f97_s_l00Srcpick.w, f158_s_l00Srcone.w] [] n
theorem f91_s_l01DrawPlain.ok : ∀ n v x, f91_s_l01DrawPlain.F n v = some x → evalFn E n 91 (flAs f91_s_l01DrawPlain.P (sg_lii.pk v)) = some (f91_s_l01DrawPlain.A.enc x) :=
  fn_pure (modes := (fdAt 91).ms) (outs := (fdAt 91).os) (results := (fdAt 91).rs) f91_s_l01DrawPlain.O (c := c91) (keep := keepAt 91) (by kernel_rfl) (fun n => orcOf_cf _ _ n) (fun n => lpOk_of (bs := []) (by kernel_rfl) .nil) (fun _ => rfl) (fun _ _ => by kernel_rfl)
noncomputable def f91_s_l01DrawPlain.w : FnW E := fnW 91 f91_s_l01DrawPlain.P sg_lii f91_s_l01DrawPlain.A f91_s_l01DrawPlain.F f91_s_l01DrawPlain.ok

def f16_s_R8Plain.l0 (n : Nat) : Nat → Int → Nat → List T → Int → Int → Nat → List T → Int → Option (Nat × List T)
  | 0, _, _, _, _, _, _, _, _ => none
  | m + 1, i1, n2, l3, i4, i5, n6, l7, i8 =>
    br (decide (i8 < i1)) (
     bd (f91_s_l01DrawPlain n n2 l3 i4 i5) fun r9 =>
     let x10 : Nat := r9.1
     let n11 : Nat := r9.2.1
     let l12 : List T := r9.2.2.1
     let i13 : Int := r9.2.2.2.1
     let i14 : Int := r9.2.2.2.2
     gd (Nat.ble (n6 + 1) 2147483648) (
     let n15 : Nat := (n6 + 1)
     let l16 : List T := (l7 ++ (setN (reps 1 [(T.flt FloatKind.f32 0)]) 0 [(T.flt FloatKind.f32 x10)]))
     f16_s_R8Plain.l0 n m i1 n11 l12 i13 i14 n15 l16 (IntKind.i64.wrap (i8 + (1 : Int))))) (
     some (n6, l7))
def f16_s_R8Plain : Nat → Nat → List T → Int → Option (Nat × List T)
  | 0, _, _, _ => none
  | n + 1, n1, l2, i3 =>
    bd (f90_s_l00From n n1 l2) fun r4 =>
    let n5 : Nat := r4.1
    let l6 : List T := r4.2.1
    let i7 : Int := r4.2.2.1
    let i8 : Int := r4.2.2.2
    bd (f16_s_R8Plain.l0 n n i3 n5 l6 i7 i8 0 (reps 0 [(T.flt FloatKind.f32 0)]) (0 : Int)) fun r9 =>
    let n10 : Nat := r9.1
    let l11 : List T := r9.2
    some (n10, l11)
def sg_li : Sig (Nat × List T × Int) where
  pk := fun v => [.lst v.1 v.2.1, .int v.2.2]
  up := fun ls => match ls with
    | [.lst a0 a1, .int a2] => some (a0, a1, a2)
    | _ => none
  ok := by
    intro ls v h
    split at h
    · cases h; rfl
    · cases h

def sg_iliili : Sig (Int × Nat × List T × Int × Int × Nat × List T × Int) where
  pk := fun v => [.int v.1, .lst v.2.1 v.2.2.1, .int v.2.2.2.1, .int v.2.2.2.2.1, .lst v.2.2.2.2.2.1 v.2.2.2.2.2.2.1, .int v.2.2.2.2.2.2.2]
  up := fun ls => match ls with
    | [.int a0, .lst a1 a2, .int a3, .int a4, .lst a5 a6, .int a7] => some (a0, a1, a2, a3, a4, a5, a6, a7)
    | _ => none
  ok := by
    intro ls v h
    split at h
    · cases h; rfl
    · cases h

def f16_s_R8Plain.l0.P : AS := ⟨[(1, .val false [.leaf] [.int .i64 0] [] 0), (5, .box [.sl .shr [.leaf], .leaf, .leaf] [.lst 0 [], .int .i64 0, .int .u64 0] [] 0), (6, .val false [.sl .own [.leaf]] [.lst 0 []] [] 0), (7, .val false [.leaf] [.int .i64 0] [] 0)], 0⟩
def f16_s_R8Plain.l0.A : Alt (Nat × List T) := .one (.exit 0) ⟨[(6, .val false [.sl .own [.leaf]] [.lst 0 []] [] 0)], 0⟩ sg_l
def f16_s_R8Plain.l0.F (n m : Nat) (v : Int × Nat × List T × Int × Int × Nat × List T × Int) := f16_s_R8Plain.l0 n m v.1 v.2.1 v.2.2.1 v.2.2.2.1 v.2.2.2.2.1 v.2.2.2.2.2.1 v.2.2.2.2.2.2.1 v.2.2.2.2.2.2.2
def f16_s_R8Plain.l0.W (n : Nat) : LpW := .of 64 f16_s_R8Plain.l0.P sg_iliili f16_s_R8Plain.l0.A (f16_s_R8Plain.l0.F n n)
def f16_s_R8Plain.P : List Arg := [⟨.val, ⟨false, [.sl .shr [.leaf]], [.lst 0 []]⟩⟩, ⟨.val, ⟨false, [.leaf], [.int .i64 0]⟩⟩]
def f16_s_R8Plain.A : RAlt (Nat × List T) := .one ⟨[⟨false, [.sl .own [.leaf]], [.lst 0 []]⟩], [none, none]⟩ sg_l
def f16_s_R8Plain.F (n : Nat) (v : Nat × List T × Int) := f16_s_R8Plain n v.1 v.2.1 v.2.2
noncomputable def f16_s_R8Plain.O (n : Nat) : Orc := orcOf (E := E) [f90_s_l00From.w, f91_s_l01DrawPlain.w] [f16_s_R8Plain.l0.W n] n
theorem f16_s_R8Plain.l0.ok (n : Nat) : LpOk (f16_s_R8Plain.O n) E (evalFn E n) n (keepAt 16) (.loop (loopAt c16 0)) :=
  lp_pure f16_s_R8Plain.l0.P sg_iliili f16_s_R8Plain.l0.A (f16_s_R8Plain.l0.F n) (orcOf_cf _ _ n) (lpOk_of (bs := []) (by kernel_rfl) .nil) (fun _ => rfl) (fun _ _ => by kernel_rfl) (fun _ _ _ => by kernel_rfl)
theorem f16_s_R8Plain.ok : ∀ n v x, f16_s_R8Plain.F n v = some x → evalFn E n 16 (flAs f16_s_R8Plain.P (sg_li.pk v)) = some (f16_s_R8Plain.A.enc x) :=
  fn_pure (modes := (fdAt 16).ms) (outs := (fdAt 16).os) (results := (fdAt 16).rs) f16_s_R8Plain.O (c := c16) (keep := keepAt 16) (by kernel_rfl) (fun n => orcOf_cf _ _ n) (fun n => lpOk_of (bs := [loopAt c16 0]) (by kernel_rfl) (.cons (f16_s_R8Plain.l0.ok n) .nil)) (fun _ => rfl) (fun _ _ => by kernel_rfl)
noncomputable def f16_s_R8Plain.w : FnW E := fnW 16 f16_s_R8Plain.P sg_li f16_s_R8Plain.A f16_s_R8Plain.F f16_s_R8Plain.ok

def f93_i_within : Nat → Int → Int → Int → Option (Bool)
  | 0, _, _, _ => none
  | n + 1, i1, i2, i3 =>
    br (decide (i2 ≤ i1)) (
     some (decide (i1 ≤ i3))) (
     some false)
def sg_iii : Sig (Int × Int × Int) where
  pk := fun v => [.int v.1, .int v.2.1, .int v.2.2]
  up := fun ls => match ls with
    | [.int a0, .int a1, .int a2] => some (a0, a1, a2)
    | _ => none
  ok := by
    intro ls v h
    split at h
    · cases h; rfl
    · cases h

def f93_i_within.P : List Arg := [⟨.val, ⟨false, [.leaf], [.int .i64 0]⟩⟩, ⟨.val, ⟨false, [.leaf], [.int .i64 0]⟩⟩, ⟨.val, ⟨false, [.leaf], [.int .i64 0]⟩⟩]
def f93_i_within.A : RAlt (Bool) := .one ⟨[⟨false, [.leaf], [.bool false]⟩], [none, none, none]⟩ sg_b
def f93_i_within.F (n : Nat) (v : Int × Int × Int) := f93_i_within n v.1 v.2.1 v.2.2
noncomputable def f93_i_within.O (n : Nat) : Orc := orcOf (E := E) [] [] n
theorem f93_i_within.ok : ∀ n v x, f93_i_within.F n v = some x → evalFn E n 93 (flAs f93_i_within.P (sg_iii.pk v)) = some (f93_i_within.A.enc x) :=
  fn_pure (modes := (fdAt 93).ms) (outs := (fdAt 93).os) (results := (fdAt 93).rs) f93_i_within.O (c := c93) (keep := keepAt 93) (by kernel_rfl) (fun n => orcOf_cf _ _ n) (fun n => lpOk_of (bs := []) (by kernel_rfl) .nil) (fun _ => rfl) (fun _ _ => by kernel_rfl)
noncomputable def f93_i_within.w : FnW E := fnW 93 f93_i_within.P sg_iii f93_i_within.A f93_i_within.F f93_i_within.ok

def f124_i_isReading : Nat → Int → Option (Bool)
  | 0, _ => none
  | n + 1, i1 =>
    bd (f93_i_within n i1 (0 : Int) (2 : Int)) fun r2 =>
    let b3 : Bool := r2
    some b3
def f124_i_isReading.P : List Arg := [⟨.val, ⟨false, [.leaf], [.int .i64 0]⟩⟩]
def f124_i_isReading.A : RAlt (Bool) := .one ⟨[⟨false, [.leaf], [.bool false]⟩], [none]⟩ sg_b
def f124_i_isReading.F (n : Nat) (v : Int) := f124_i_isReading n v
noncomputable def f124_i_isReading.O (n : Nat) : Orc := orcOf (E := E) [f93_i_within.w] [] n
theorem f124_i_isReading.ok : ∀ n v x, f124_i_isReading.F n v = some x → evalFn E n 124 (flAs f124_i_isReading.P (sg_i.pk v)) = some (f124_i_isReading.A.enc x) :=
  fn_pure (modes := (fdAt 124).ms) (outs := (fdAt 124).os) (results := (fdAt 124).rs) f124_i_isReading.O (c := c124) (keep := keepAt 124) (by kernel_rfl) (fun n => orcOf_cf _ _ n) (fun n => lpOk_of (bs := []) (by kernel_rfl) .nil) (fun _ => rfl) (fun _ _ => by kernel_rfl)
noncomputable def f124_i_isReading.w : FnW E := fnW 124 f124_i_isReading.P sg_i f124_i_isReading.A f124_i_isReading.F f124_i_isReading.ok

def f92_i_areSamples : Nat → Nat → List T → Option (Bool)
  | 0, _, _ => none
  | n + 1, n1, l2 =>
    some (decide (((n1 : Nat) : Int) ≤ (256 : Int)))
def f92_i_areSamples.P : List Arg := [⟨.val, ⟨false, [.sl .shr [.leaf]], [.lst 0 []]⟩⟩]
def f92_i_areSamples.A : RAlt (Bool) := .one ⟨[⟨false, [.leaf], [.bool false]⟩], [none]⟩ sg_b
def f92_i_areSamples.F (n : Nat) (v : Nat × List T) := f92_i_areSamples n v.1 v.2
noncomputable def f92_i_areSamples.O (n : Nat) : Orc := orcOf (E := E) [] [] n
theorem f92_i_areSamples.ok : ∀ n v x, f92_i_areSamples.F n v = some x → evalFn E n 92 (flAs f92_i_areSamples.P (sg_l.pk v)) = some (f92_i_areSamples.A.enc x) :=
  fn_pure (modes := (fdAt 92).ms) (outs := (fdAt 92).os) (results := (fdAt 92).rs) f92_i_areSamples.O (c := c92) (keep := keepAt 92) (by kernel_rfl) (fun n => orcOf_cf _ _ n) (fun n => lpOk_of (bs := []) (by kernel_rfl) .nil) (fun _ => rfl) (fun _ _ => by kernel_rfl)
noncomputable def f92_i_areSamples.w : FnW E := fnW 92 f92_i_areSamples.P sg_l f92_i_areSamples.A f92_i_areSamples.F f92_i_areSamples.ok

def f125_i_isPlaceOf : Nat → Nat → List T → Nat → Option (Bool)
  | 0, _, _, _ => none
  | n + 1, n1, l2, x3 =>
    br (fge FloatKind.f64 x3 0) (
     some (fle FloatKind.f64 x3 (FloatKind.nearest FloatKind.f64 (IntKind.i64.wrap (((n1 : Nat) : Int) - (1 : Int)))))) (
     some false)
def sg_lf : Sig (Nat × List T × Nat) where
  pk := fun v => [.lst v.1 v.2.1, .flt v.2.2]
  up := fun ls => match ls with
    | [.lst a0 a1, .flt a2] => some (a0, a1, a2)
    | _ => none
  ok := by
    intro ls v h
    split at h
    · cases h; rfl
    · cases h

def f125_i_isPlaceOf.P : List Arg := [⟨.val, ⟨false, [.sl .shr [.leaf]], [.lst 0 []]⟩⟩, ⟨.val, ⟨false, [.leaf], [.flt .f64 0]⟩⟩]
def f125_i_isPlaceOf.A : RAlt (Bool) := .one ⟨[⟨false, [.leaf], [.bool false]⟩], [none, none]⟩ sg_b
def f125_i_isPlaceOf.F (n : Nat) (v : Nat × List T × Nat) := f125_i_isPlaceOf n v.1 v.2.1 v.2.2
noncomputable def f125_i_isPlaceOf.O (n : Nat) : Orc := orcOf (E := E) [] [] n
theorem f125_i_isPlaceOf.ok : ∀ n v x, f125_i_isPlaceOf.F n v = some x → evalFn E n 125 (flAs f125_i_isPlaceOf.P (sg_lf.pk v)) = some (f125_i_isPlaceOf.A.enc x) :=
  fn_pure (modes := (fdAt 125).ms) (outs := (fdAt 125).os) (results := (fdAt 125).rs) f125_i_isPlaceOf.O (c := c125) (keep := keepAt 125) (by kernel_rfl) (fun n => orcOf_cf _ _ n) (fun n => lpOk_of (bs := []) (by kernel_rfl) .nil) (fun _ => rfl) (fun _ _ => by kernel_rfl)
noncomputable def f125_i_isPlaceOf.w : FnW E := fnW 125 f125_i_isPlaceOf.P sg_lf f125_i_isPlaceOf.A f125_i_isPlaceOf.F f125_i_isPlaceOf.ok

def f171_mathFloor : Nat → Nat → Option (Nat)
  | 0, _ => none
  | n + 1, x1 =>
    bd (xIntegral_down n x1) fun r2 =>
    let x3 : Nat := r2
    some x3
def sg_f : Sig (Nat) where
  pk := fun v => [.flt v]
  up := fun ls => match ls with
    | [.flt a0] => some a0
    | _ => none
  ok := by
    intro ls v h
    split at h
    · cases h; rfl
    · cases h

def f171_mathFloor.P : List Arg := [⟨.val, ⟨false, [.leaf], [.flt .f64 0]⟩⟩]
def f171_mathFloor.A : RAlt (Nat) := .one ⟨[⟨false, [.leaf], [.flt .f64 0]⟩], [none]⟩ sg_f
def f171_mathFloor.F (n : Nat) (v : Nat) := f171_mathFloor n v
noncomputable def f171_mathFloor.O (n : Nat) : Orc := orcOf (E := E) [x184.w] [] n
theorem f171_mathFloor.ok : ∀ n v x, f171_mathFloor.F n v = some x → evalFn E n 171 (flAs f171_mathFloor.P (sg_f.pk v)) = some (f171_mathFloor.A.enc x) :=
  fn_pure (modes := (fdAt 171).ms) (outs := (fdAt 171).os) (results := (fdAt 171).rs) f171_mathFloor.O (c := c171) (keep := keepAt 171) (by kernel_rfl) (fun n => orcOf_cf _ _ n) (fun n => lpOk_of (bs := []) (by kernel_rfl) .nil) (fun _ => rfl) (fun _ _ => by kernel_rfl)
noncomputable def f171_mathFloor.w : FnW E := fnW 171 f171_mathFloor.P sg_f f171_mathFloor.A f171_mathFloor.F f171_mathFloor.ok

def f172_i_readAt1 : Nat → Int → Nat → List T → Nat → Option (Nat)
  | 0, _, _, _, _ => none
  | n + 1, i1, n2, l3, x4 =>
    bd ((fltToInt FloatKind.f64 x4 IntKind.i64)) fun y5 =>
    gd ((decide (((0 : Int) ≤ (if ((IntKind.i64.wrap (((n2 : Nat) : Int) - (1 : Int))) < (if ((IntKind.i64.wrap (y5 + i1)) > (0 : Int)) then (IntKind.i64.wrap (y5 + i1)) else (0 : Int))) then (IntKind.i64.wrap (((n2 : Nat) : Int) - (1 : Int))) else (if ((IntKind.i64.wrap (y5 + i1)) > (0 : Int)) then (IntKind.i64.wrap (y5 + i1)) else (0 : Int)))) ∧ ((if ((IntKind.i64.wrap (((n2 : Nat) : Int) - (1 : Int))) < (if ((IntKind.i64.wrap (y5 + i1)) > (0 : Int)) then (IntKind.i64.wrap (y5 + i1)) else (0 : Int))) then (IntKind.i64.wrap (((n2 : Nat) : Int) - (1 : Int))) else (if ((IntKind.i64.wrap (y5 + i1)) > (0 : Int)) then (IntKind.i64.wrap (y5 + i1)) else (0 : Int))) < ((n2 : Nat) : Int)))) && (okAt [(CK.flt FloatKind.f32)] l3 (Int.toNat (if ((IntKind.i64.wrap (((n2 : Nat) : Int) - (1 : Int))) < (if ((IntKind.i64.wrap (y5 + i1)) > (0 : Int)) then (IntKind.i64.wrap (y5 + i1)) else (0 : Int))) then (IntKind.i64.wrap (((n2 : Nat) : Int) - (1 : Int))) else (if ((IntKind.i64.wrap (y5 + i1)) > (0 : Int)) then (IntKind.i64.wrap (y5 + i1)) else (0 : Int)))))) (
    some (fAt l3 (Int.toNat (if ((IntKind.i64.wrap (((n2 : Nat) : Int) - (1 : Int))) < (if ((IntKind.i64.wrap (y5 + i1)) > (0 : Int)) then (IntKind.i64.wrap (y5 + i1)) else (0 : Int))) then (IntKind.i64.wrap (((n2 : Nat) : Int) - (1 : Int))) else (if ((IntKind.i64.wrap (y5 + i1)) > (0 : Int)) then (IntKind.i64.wrap (y5 + i1)) else (0 : Int))))))
def sg_ilf : Sig (Int × Nat × List T × Nat) where
  pk := fun v => [.int v.1, .lst v.2.1 v.2.2.1, .flt v.2.2.2]
  up := fun ls => match ls with
    | [.int a0, .lst a1 a2, .flt a3] => some (a0, a1, a2, a3)
    | _ => none
  ok := by
    intro ls v h
    split at h
    · cases h; rfl
    · cases h

def f172_i_readAt1.P : List Arg := [⟨.val, ⟨false, [.leaf], [.int .i64 0]⟩⟩, ⟨.val, ⟨false, [.rf .shr [.sl .shr [.leaf]]], [.ref [.lst 0 []]]⟩⟩, ⟨.val, ⟨false, [.rf .shr [.leaf]], [.ref [.flt .f64 0]]⟩⟩]
def f172_i_readAt1.A : RAlt (Nat) := .one ⟨[⟨false, [.leaf], [.flt .f32 0]⟩], [none, none, none]⟩ sg_f
def f172_i_readAt1.F (n : Nat) (v : Int × Nat × List T × Nat) := f172_i_readAt1 n v.1 v.2.1 v.2.2.1 v.2.2.2
noncomputable def f172_i_readAt1.O (n : Nat) : Orc := orcOf (E := E) [] [] n
theorem f172_i_readAt1.ok : ∀ n v x, f172_i_readAt1.F n v = some x → evalFn E n 172 (flAs f172_i_readAt1.P (sg_ilf.pk v)) = some (f172_i_readAt1.A.enc x) :=
  fn_pure (modes := (fdAt 172).ms) (outs := (fdAt 172).os) (results := (fdAt 172).rs) f172_i_readAt1.O (c := c172) (keep := keepAt 172) (by kernel_rfl) (fun n => orcOf_cf _ _ n) (fun n => lpOk_of (bs := []) (by kernel_rfl) .nil) (fun _ => rfl) (fun _ _ => by kernel_rfl)
noncomputable def f172_i_readAt1.w : FnW E := fnW 172 f172_i_readAt1.P sg_ilf f172_i_readAt1.A f172_i_readAt1.F f172_i_readAt1.ok

def f126_i_readAt : Nat → Int → Nat → List T → Nat → Option (Nat)
  | 0, _, _, _, _ => none
  | n + 1, i1, n2, l3, x4 =>
    bd (f171_mathFloor n x4) fun r5 =>
    let x6 : Nat := r5
    br (feq FloatKind.f64 x6 0) (
     bd ((fltToFlt FloatKind.f64 (fsub FloatKind.f64 x4 0) FloatKind.f32)) fun y7 =>
     bd (f172_i_readAt1 n (0 : Int) n2 l3 0) fun r8 =>
     let x9 : Nat := r8
     bd (f172_i_readAt1 n (1 : Int) n2 l3 0) fun r10 =>
     let x11 : Nat := r10
     br (i1 == (0 : Int)) (
      br (fge FloatKind.f32 y7 1056964608) (
       some x11) (
       some x9)) (
      br (i1 == (1 : Int)) (
       some (fadd FloatKind.f32 x9 (fmul FloatKind.f32 y7 (fsub FloatKind.f32 x11 x9)))) (
       bd (f172_i_readAt1 n (-1 : Int) n2 l3 0) fun r12 =>
       let x13 : Nat := r12
       bd (f172_i_readAt1 n (2 : Int) n2 l3 0) fun r14 =>
       let x15 : Nat := r14
       let x16 : Nat := (fmul FloatKind.f32 1056964608 (fsub FloatKind.f32 x11 x13))
       let x17 : Nat := (fsub FloatKind.f32 (fadd FloatKind.f32 (fsub FloatKind.f32 x13 (fmul FloatKind.f32 1075838976 x9)) (fmul FloatKind.f32 1073741824 x11)) (fmul FloatKind.f32 1056964608 x15))
       let x18 : Nat := (fadd FloatKind.f32 (fmul FloatKind.f32 1069547520 (fsub FloatKind.f32 x9 x11)) (fmul FloatKind.f32 1056964608 (fsub FloatKind.f32 x15 x13)))
       some (fadd FloatKind.f32 (fmul FloatKind.f32 (fadd FloatKind.f32 (fmul FloatKind.f32 (fadd FloatKind.f32 (fmul FloatKind.f32 x18 y7) x17) y7) x16) y7) x9)))) (
     bd ((fltToFlt FloatKind.f64 (fsub FloatKind.f64 x4 x6) FloatKind.f32)) fun y19 =>
     bd (f172_i_readAt1 n (0 : Int) n2 l3 x6) fun r20 =>
     let x21 : Nat := r20
     bd (f172_i_readAt1 n (1 : Int) n2 l3 x6) fun r22 =>
     let x23 : Nat := r22
     br (i1 == (0 : Int)) (
      br (fge FloatKind.f32 y19 1056964608) (
       some x23) (
       some x21)) (
      br (i1 == (1 : Int)) (
       some (fadd FloatKind.f32 x21 (fmul FloatKind.f32 y19 (fsub FloatKind.f32 x23 x21)))) (
       bd (f172_i_readAt1 n (-1 : Int) n2 l3 x6) fun r24 =>
       let x25 : Nat := r24
       bd (f172_i_readAt1 n (2 : Int) n2 l3 x6) fun r26 =>
       let x27 : Nat := r26
       let x28 : Nat := (fmul FloatKind.f32 1056964608 (fsub FloatKind.f32 x23 x25))
       let x29 : Nat := (fsub FloatKind.f32 (fadd FloatKind.f32 (fsub FloatKind.f32 x25 (fmul FloatKind.f32 1075838976 x21)) (fmul FloatKind.f32 1073741824 x23)) (fmul FloatKind.f32 1056964608 x27))
       let x30 : Nat := (fadd FloatKind.f32 (fmul FloatKind.f32 1069547520 (fsub FloatKind.f32 x21 x23)) (fmul FloatKind.f32 1056964608 (fsub FloatKind.f32 x27 x25)))
       some (fadd FloatKind.f32 (fmul FloatKind.f32 (fadd FloatKind.f32 (fmul FloatKind.f32 (fadd FloatKind.f32 (fmul FloatKind.f32 x30 y19) x29) y19) x28) y19) x21))))
def f126_i_readAt.P : List Arg := [⟨.val, ⟨false, [.leaf], [.int .i64 0]⟩⟩, ⟨.val, ⟨false, [.sl .shr [.leaf]], [.lst 0 []]⟩⟩, ⟨.val, ⟨false, [.leaf], [.flt .f64 0]⟩⟩]
def f126_i_readAt.A : RAlt (Nat) := .one ⟨[⟨false, [.leaf], [.flt .f32 0]⟩], [none, none, none]⟩ sg_f
def f126_i_readAt.F (n : Nat) (v : Int × Nat × List T × Nat) := f126_i_readAt n v.1 v.2.1 v.2.2.1 v.2.2.2
noncomputable def f126_i_readAt.O (n : Nat) : Orc := orcOf (E := E) [f171_mathFloor.w, f172_i_readAt1.w] [] n
theorem f126_i_readAt.ok : ∀ n v x, f126_i_readAt.F n v = some x → evalFn E n 126 (flAs f126_i_readAt.P (sg_ilf.pk v)) = some (f126_i_readAt.A.enc x) :=
  fn_pure (modes := (fdAt 126).ms) (outs := (fdAt 126).os) (results := (fdAt 126).rs) f126_i_readAt.O (c := c126) (keep := keepAt 126) (by kernel_rfl) (fun n => orcOf_cf _ _ n) (fun n => lpOk_of (bs := []) (by kernel_rfl) .nil) (fun _ => rfl) (fun _ _ => by kernel_rfl)
noncomputable def f126_i_readAt.w : FnW E := fnW 126 f126_i_readAt.P sg_ilf f126_i_readAt.A f126_i_readAt.F f126_i_readAt.ok

def f58_i_ReadAt : Nat → Int → Nat → List T → Nat → Option (Nat × Bool)
  | 0, _, _, _, _ => none
  | n + 1, i1, n2, l3, x4 =>
    bd (f124_i_isReading n i1) fun r5 =>
    let b6 : Bool := r5
    br (!b6) (
     some (0, false)) (
     bd (f92_i_areSamples n n2 l3) fun r7 =>
     let b8 : Bool := r7
     br (!b8) (
      some (0, false)) (
      bd (f125_i_isPlaceOf n n2 l3 x4) fun r9 =>
      let b10 : Bool := r9
      br (!b10) (
       some (0, false)) (
       bd (f126_i_readAt n i1 n2 l3 x4) fun r11 =>
       let x12 : Nat := r11
       some (x12, true))))
def sg_fb : Sig (Nat × Bool) where
  pk := fun v => [.flt v.1, .bool v.2]
  up := fun ls => match ls with
    | [.flt a0, .bool a1] => some (a0, a1)
    | _ => none
  ok := by
    intro ls v h
    split at h
    · cases h; rfl
    · cases h

def f58_i_ReadAt.P : List Arg := [⟨.val, ⟨false, [.leaf], [.int .i64 0]⟩⟩, ⟨.val, ⟨false, [.sl .shr [.leaf]], [.lst 0 []]⟩⟩, ⟨.val, ⟨false, [.leaf], [.flt .f64 0]⟩⟩]
def f58_i_ReadAt.A : RAlt (Nat × Bool) := .one ⟨[⟨false, [.leaf], [.flt .f32 0]⟩, ⟨false, [.leaf], [.bool false]⟩], [none, none, none]⟩ sg_fb
def f58_i_ReadAt.F (n : Nat) (v : Int × Nat × List T × Nat) := f58_i_ReadAt n v.1 v.2.1 v.2.2.1 v.2.2.2
noncomputable def f58_i_ReadAt.O (n : Nat) : Orc := orcOf (E := E) [f124_i_isReading.w, f92_i_areSamples.w, f125_i_isPlaceOf.w, f126_i_readAt.w] [] n
theorem f58_i_ReadAt.ok : ∀ n v x, f58_i_ReadAt.F n v = some x → evalFn E n 58 (flAs f58_i_ReadAt.P (sg_ilf.pk v)) = some (f58_i_ReadAt.A.enc x) :=
  fn_pure (modes := (fdAt 58).ms) (outs := (fdAt 58).os) (results := (fdAt 58).rs) f58_i_ReadAt.O (c := c58) (keep := keepAt 58) (by kernel_rfl) (fun n => orcOf_cf _ _ n) (fun n => lpOk_of (bs := []) (by kernel_rfl) .nil) (fun _ => rfl) (fun _ _ => by kernel_rfl)
noncomputable def f58_i_ReadAt.w : FnW E := fnW 58 f58_i_ReadAt.P sg_ilf f58_i_ReadAt.A f58_i_ReadAt.F f58_i_ReadAt.ok

def f127_i_isFinite : Nat → Nat → Option (Bool)
  | 0, _ => none
  | n + 1, x1 =>
    some (feq FloatKind.f64 (fsub FloatKind.f64 x1 x1) 0)
def f127_i_isFinite.P : List Arg := [⟨.val, ⟨false, [.leaf], [.flt .f64 0]⟩⟩]
def f127_i_isFinite.A : RAlt (Bool) := .one ⟨[⟨false, [.leaf], [.bool false]⟩], [none]⟩ sg_b
def f127_i_isFinite.F (n : Nat) (v : Nat) := f127_i_isFinite n v
noncomputable def f127_i_isFinite.O (n : Nat) : Orc := orcOf (E := E) [] [] n
theorem f127_i_isFinite.ok : ∀ n v x, f127_i_isFinite.F n v = some x → evalFn E n 127 (flAs f127_i_isFinite.P (sg_f.pk v)) = some (f127_i_isFinite.A.enc x) :=
  fn_pure (modes := (fdAt 127).ms) (outs := (fdAt 127).os) (results := (fdAt 127).rs) f127_i_isFinite.O (c := c127) (keep := keepAt 127) (by kernel_rfl) (fun n => orcOf_cf _ _ n) (fun n => lpOk_of (bs := []) (by kernel_rfl) .nil) (fun _ => rfl) (fun _ _ => by kernel_rfl)
noncomputable def f127_i_isFinite.w : FnW E := fnW 127 f127_i_isFinite.P sg_f f127_i_isFinite.A f127_i_isFinite.F f127_i_isFinite.ok

def f121_i_isCount : Nat → Int → Option (Bool)
  | 0, _ => none
  | n + 1, i1 =>
    bd (f93_i_within n i1 (0 : Int) (256 : Int)) fun r2 =>
    let b3 : Bool := r2
    some b3
def f121_i_isCount.P : List Arg := [⟨.val, ⟨false, [.leaf], [.int .i64 0]⟩⟩]
def f121_i_isCount.A : RAlt (Bool) := .one ⟨[⟨false, [.leaf], [.bool false]⟩], [none]⟩ sg_b
def f121_i_isCount.F (n : Nat) (v : Int) := f121_i_isCount n v
noncomputable def f121_i_isCount.O (n : Nat) : Orc := orcOf (E := E) [f93_i_within.w] [] n
theorem f121_i_isCount.ok : ∀ n v x, f121_i_isCount.F n v = some x → evalFn E n 121 (flAs f121_i_isCount.P (sg_i.pk v)) = some (f121_i_isCount.A.enc x) :=
  fn_pure (modes := (fdAt 121).ms) (outs := (fdAt 121).os) (results := (fdAt 121).rs) f121_i_isCount.O (c := c121) (keep := keepAt 121) (by kernel_rfl) (fun n => orcOf_cf _ _ n) (fun n => lpOk_of (bs := []) (by kernel_rfl) .nil) (fun _ => rfl) (fun _ _ => by kernel_rfl)
noncomputable def f121_i_isCount.w : FnW E := fnW 121 f121_i_isCount.P sg_i f121_i_isCount.A f121_i_isCount.F f121_i_isCount.ok

def f59_i_PlayAt.l0 (n : Nat) : Nat → Int → Nat → List T → Nat → Nat → Int → Nat → List T → Option ((Nat × List T × Bool) ⊕ (Nat × List T))
  | 0, _, _, _, _, _, _, _, _ => none
  | m + 1, i1, n2, l3, x4, x5, i6, n7, l8 =>
    br (decide (i6 > (0 : Int))) (
     bd (f125_i_isPlaceOf n n2 l3 x4) fun r9 =>
     let b10 : Bool := r9
     br (!b10) (
      some (Sum.inl (0, [], false))) (
      bd (f126_i_readAt n i1 n2 l3 x4) fun r11 =>
      let x12 : Nat := r11
      gd (Nat.ble (n7 + 1) 2147483648) (
      let n13 : Nat := (n7 + 1)
      let l14 : List T := (l8 ++ (setN (reps 1 [(T.flt FloatKind.f32 0)]) 0 [(T.flt FloatKind.f32 x12)]))
      let x15 : Nat := (fadd FloatKind.f64 x4 x5)
      f59_i_PlayAt.l0 n m i1 n2 l3 x15 x5 (IntKind.i64.wrap (i6 - (1 : Int))) n13 l14))) (
     some (Sum.inr (n7, l8)))
def f59_i_PlayAt : Nat → Int → Nat → List T → Nat → Nat → Int → Option (Nat × List T × Bool)
  | 0, _, _, _, _, _, _ => none
  | n + 1, i1, n2, l3, x4, x5, i6 =>
    bd (f124_i_isReading n i1) fun r7 =>
    let b8 : Bool := r7
    br (!b8) (
     some (0, [], false)) (
     bd (f92_i_areSamples n n2 l3) fun r9 =>
     let b10 : Bool := r9
     br (!b10) (
      some (0, [], false)) (
      bd (f127_i_isFinite n x5) fun r11 =>
      let b12 : Bool := r11
      br (!b12) (
       some (0, [], false)) (
       bd (f121_i_isCount n i6) fun r13 =>
       let b14 : Bool := r13
       br (!b14) (
        some (0, [], false)) (
        bd (f59_i_PlayAt.l0 n n i1 n2 l3 x4 x5 i6 0 []) fun r15 =>
        sm r15 (fun u16 =>
         let n17 : Nat := u16.1
         let l18 : List T := u16.2.1
         let b19 : Bool := u16.2.2
         some (n17, l18, b19)) (fun u20 =>
         let n21 : Nat := u20.1
         let l22 : List T := u20.2
         some (n21, l22, true))))))
def sg_ilffi : Sig (Int × Nat × List T × Nat × Nat × Int) where
  pk := fun v => [.int v.1, .lst v.2.1 v.2.2.1, .flt v.2.2.2.1, .flt v.2.2.2.2.1, .int v.2.2.2.2.2]
  up := fun ls => match ls with
    | [.int a0, .lst a1 a2, .flt a3, .flt a4, .int a5] => some (a0, a1, a2, a3, a4, a5)
    | _ => none
  ok := by
    intro ls v h
    split at h
    · cases h; rfl
    · cases h

def sg_lb : Sig (Nat × List T × Bool) where
  pk := fun v => [.lst v.1 v.2.1, .bool v.2.2]
  up := fun ls => match ls with
    | [.lst a0 a1, .bool a2] => some (a0, a1, a2)
    | _ => none
  ok := by
    intro ls v h
    split at h
    · cases h; rfl
    · cases h

def sg_ilffil : Sig (Int × Nat × List T × Nat × Nat × Int × Nat × List T) where
  pk := fun v => [.int v.1, .lst v.2.1 v.2.2.1, .flt v.2.2.2.1, .flt v.2.2.2.2.1, .int v.2.2.2.2.2.1, .lst v.2.2.2.2.2.2.1 v.2.2.2.2.2.2.2]
  up := fun ls => match ls with
    | [.int a0, .lst a1 a2, .flt a3, .flt a4, .int a5, .lst a6 a7] => some (a0, a1, a2, a3, a4, a5, a6, a7)
    | _ => none
  ok := by
    intro ls v h
    split at h
    · cases h; rfl
    · cases h

def f59_i_PlayAt.l0.P : AS := ⟨[(0, .val false [.leaf] [.int .i64 0] [] 0), (1, .val false [.sl .shr [.leaf]] [.lst 0 []] [] 0), (2, .val false [.leaf] [.flt .f64 0] [] 0), (3, .val false [.leaf] [.flt .f64 0] [] 0), (4, .val false [.leaf] [.int .i64 0] [] 0), (12, .val false [.sl .own [.leaf]] [.lst 0 []] [] 0)], 0⟩
def f59_i_PlayAt.l0.A : Alt ((Nat × List T × Bool) ⊕ (Nat × List T)) := .or (.one .ret ⟨[(10, .val false [.sl .own [.leaf]] [.lst 0 []] [] 0), (11, .val false [.leaf] [.bool false] [] 0), (12, .dead)], 0⟩ sg_lb) (.one (.exit 0) ⟨[(10, .dead), (11, .dead), (12, .val false [.sl .own [.leaf]] [.lst 0 []] [] 0)], 0⟩ sg_l)
def f59_i_PlayAt.l0.F (n m : Nat) (v : Int × Nat × List T × Nat × Nat × Int × Nat × List T) := f59_i_PlayAt.l0 n m v.1 v.2.1 v.2.2.1 v.2.2.2.1 v.2.2.2.2.1 v.2.2.2.2.2.1 v.2.2.2.2.2.2.1 v.2.2.2.2.2.2.2
def f59_i_PlayAt.l0.W (n : Nat) : LpW := .of 64 f59_i_PlayAt.l0.P sg_ilffil f59_i_PlayAt.l0.A (f59_i_PlayAt.l0.F n n)
def f59_i_PlayAt.P : List Arg := [⟨.val, ⟨false, [.leaf], [.int .i64 0]⟩⟩, ⟨.val, ⟨false, [.sl .shr [.leaf]], [.lst 0 []]⟩⟩, ⟨.val, ⟨false, [.leaf], [.flt .f64 0]⟩⟩, ⟨.val, ⟨false, [.leaf], [.flt .f64 0]⟩⟩, ⟨.val, ⟨false, [.leaf], [.int .i64 0]⟩⟩]
def f59_i_PlayAt.A : RAlt (Nat × List T × Bool) := .one ⟨[⟨false, [.sl .own [.leaf]], [.lst 0 []]⟩, ⟨false, [.leaf], [.bool false]⟩], [none, none, none, none, none]⟩ sg_lb
def f59_i_PlayAt.F (n : Nat) (v : Int × Nat × List T × Nat × Nat × Int) := f59_i_PlayAt n v.1 v.2.1 v.2.2.1 v.2.2.2.1 v.2.2.2.2.1 v.2.2.2.2.2
noncomputable def f59_i_PlayAt.O (n : Nat) : Orc := orcOf (E := E) [f124_i_isReading.w, f92_i_areSamples.w, f125_i_isPlaceOf.w, f126_i_readAt.w, f127_i_isFinite.w, f121_i_isCount.w] [f59_i_PlayAt.l0.W n] n
theorem f59_i_PlayAt.l0.ok (n : Nat) : LpOk (f59_i_PlayAt.O n) E (evalFn E n) n (keepAt 59) (.loop (loopAt c59 0)) :=
  lp_pure f59_i_PlayAt.l0.P sg_ilffil f59_i_PlayAt.l0.A (f59_i_PlayAt.l0.F n) (orcOf_cf _ _ n) (lpOk_of (bs := []) (by kernel_rfl) .nil) (fun _ => rfl) (fun _ _ => by kernel_rfl) (fun _ _ _ => by kernel_rfl)
theorem f59_i_PlayAt.ok : ∀ n v x, f59_i_PlayAt.F n v = some x → evalFn E n 59 (flAs f59_i_PlayAt.P (sg_ilffi.pk v)) = some (f59_i_PlayAt.A.enc x) :=
  fn_pure (modes := (fdAt 59).ms) (outs := (fdAt 59).os) (results := (fdAt 59).rs) f59_i_PlayAt.O (c := c59) (keep := keepAt 59) (by kernel_rfl) (fun n => orcOf_cf _ _ n) (fun n => lpOk_of (bs := [loopAt c59 0]) (by kernel_rfl) (.cons (f59_i_PlayAt.l0.ok n) .nil)) (fun _ => rfl) (fun _ _ => by kernel_rfl)
noncomputable def f59_i_PlayAt.w : FnW E := fnW 59 f59_i_PlayAt.P sg_ilffi f59_i_PlayAt.A f59_i_PlayAt.F f59_i_PlayAt.ok

def f10_l_FnPlaces.l0 (n : Nat) : Nat → Nat → List T → Nat → List T → Int → Nat → List T → Int → Nat → List T → Int → Option ((Bool) ⊕ (Nat × List T × Nat × List T × Int × Nat × List T × Int))
  | 0, _, _, _, _, _, _, _, _, _, _, _ => none
  | m + 1, n1, l2, n3, l4, i5, n6, l7, i8, n9, l10, i11 =>
    br (decide (i11 < i5)) (
     gd (decide (((0 : Int) ≤ i11) ∧ (i11 < ((n9 : Nat) : Int)))) (
     gd (okAt [(CK.flt FloatKind.f32)] l10 (Int.toNat i11)) (
     gd (decide (((0 : Int) ≤ i11) ∧ (i11 < ((n6 : Nat) : Int)))) (
     gd (okAt [(CK.flt FloatKind.f32)] l7 (Int.toNat i11)) (
     br (fne FloatKind.f32 (fAt l10 (Int.toNat i11)) (fAt l7 (Int.toNat i11))) (
      some (Sum.inl false)) (
      f10_l_FnPlaces.l0 n m n1 l2 n3 l4 i5 n6 l7 i8 n9 l10 (IntKind.i64.wrap (i11 + (1 : Int))))))))) (
     some (Sum.inr (n1, l2, n3, l4, i5, n6, l7, i8)))
def f60_s_R8Whole.l0 (n : Nat) : Nat → Int → Int → Nat → List T → Int → Int → Nat → List T → Int → Option (Nat × List T)
  | 0, _, _, _, _, _, _, _, _, _ => none
  | m + 1, i1, i2, n3, l4, i5, i6, n7, l8, i9 =>
    br (decide (i9 < i1)) (
     bd (f97_s_l00Srcpick n n3 l4 i5 i6 (IntKind.i64.wrap ((IntKind.i64.wrap ((2 : Int) * i2)) + (1 : Int)))) fun r10 =>
     let i11 : Int := r10.1
     let n12 : Nat := r10.2.1
     let l13 : List T := r10.2.2.1
     let i14 : Int := r10.2.2.2.1
     let i15 : Int := r10.2.2.2.2
     gd (Nat.ble (n7 + 1) 2147483648) (
     let n16 : Nat := (n7 + 1)
     let l17 : List T := (l8 ++ (setN (reps 1 [(T.flt FloatKind.f32 0)]) 0 [(T.flt FloatKind.f32 (FloatKind.nearest FloatKind.f32 (IntKind.i64.wrap (i11 - i2))))]))
     f60_s_R8Whole.l0 n m i1 i2 n12 l13 i14 i15 n16 l17 (IntKind.i64.wrap (i9 + (1 : Int))))) (
     some (n7, l8))
def f60_s_R8Whole : Nat → Nat → List T → Int → Int → Option (Nat × List T)
  | 0, _, _, _, _ => none
  | n + 1, n1, l2, i3, i4 =>
    bd (f90_s_l00From n n1 l2) fun r5 =>
    let n6 : Nat := r5.1
    let l7 : List T := r5.2.1
    let i8 : Int := r5.2.2.1
    let i9 : Int := r5.2.2.2
    bd (f60_s_R8Whole.l0 n n i3 i4 n6 l7 i8 i9 0 (reps 0 [(T.flt FloatKind.f32 0)]) (0 : Int)) fun r10 =>
    let n11 : Nat := r10.1
    let l12 : List T := r10.2
    some (n11, l12)
def sg_iiliili : Sig (Int × Int × Nat × List T × Int × Int × Nat × List T × Int) where
  pk := fun v => [.int v.1, .int v.2.1, .lst v.2.2.1 v.2.2.2.1, .int v.2.2.2.2.1, .int v.2.2.2.2.2.1, .lst v.2.2.2.2.2.2.1 v.2.2.2.2.2.2.2.1, .int v.2.2.2.2.2.2.2.2]
  up := fun ls => match ls with
    | [.int a0, .int a1, .lst a2 a3, .int a4, .int a5, .lst a6 a7, .int a8] => some (a0, a1, a2, a3, a4, a5, a6, a7, a8)
    | _ => none
  ok := by
    intro ls v h
    split at h
    · cases h; rfl
    · cases h

def f60_s_R8Whole.l0.P : AS := ⟨[(1, .val false [.leaf] [.int .i64 0] [] 0), (2, .val false [.leaf] [.int .i64 0] [] 0), (7, .box [.sl .shr [.leaf], .leaf, .leaf] [.lst 0 [], .int .i64 0, .int .u64 0] [] 0), (8, .val false [.sl .own [.leaf]] [.lst 0 []] [] 0), (9, .val false [.leaf] [.int .i64 0] [] 0)], 0⟩
def f60_s_R8Whole.l0.A : Alt (Nat × List T) := .one (.exit 0) ⟨[(8, .val false [.sl .own [.leaf]] [.lst 0 []] [] 0)], 0⟩ sg_l
def f60_s_R8Whole.l0.F (n m : Nat) (v : Int × Int × Nat × List T × Int × Int × Nat × List T × Int) := f60_s_R8Whole.l0 n m v.1 v.2.1 v.2.2.1 v.2.2.2.1 v.2.2.2.2.1 v.2.2.2.2.2.1 v.2.2.2.2.2.2.1 v.2.2.2.2.2.2.2.1 v.2.2.2.2.2.2.2.2
def f60_s_R8Whole.l0.W (n : Nat) : LpW := .of 64 f60_s_R8Whole.l0.P sg_iiliili f60_s_R8Whole.l0.A (f60_s_R8Whole.l0.F n n)
def f60_s_R8Whole.P : List Arg := [⟨.val, ⟨false, [.sl .shr [.leaf]], [.lst 0 []]⟩⟩, ⟨.val, ⟨false, [.leaf], [.int .i64 0]⟩⟩, ⟨.val, ⟨false, [.leaf], [.int .i64 0]⟩⟩]
def f60_s_R8Whole.A : RAlt (Nat × List T) := .one ⟨[⟨false, [.sl .own [.leaf]], [.lst 0 []]⟩], [none, none, none]⟩ sg_l
def f60_s_R8Whole.F (n : Nat) (v : Nat × List T × Int × Int) := f60_s_R8Whole n v.1 v.2.1 v.2.2.1 v.2.2.2
noncomputable def f60_s_R8Whole.O (n : Nat) : Orc := orcOf (E := E) [f90_s_l00From.w, f97_s_l00Srcpick.w] [f60_s_R8Whole.l0.W n] n
theorem f60_s_R8Whole.l0.ok (n : Nat) : LpOk (f60_s_R8Whole.O n) E (evalFn E n) n (keepAt 60) (.loop (loopAt c60 0)) :=
  lp_pure f60_s_R8Whole.l0.P sg_iiliili f60_s_R8Whole.l0.A (f60_s_R8Whole.l0.F n) (orcOf_cf _ _ n) (lpOk_of (bs := []) (by kernel_rfl) .nil) (fun _ => rfl) (fun _ _ => by kernel_rfl) (fun _ _ _ => by kernel_rfl)
theorem f60_s_R8Whole.ok : ∀ n v x, f60_s_R8Whole.F n v = some x → evalFn E n 60 (flAs f60_s_R8Whole.P (sg_lii.pk v)) = some (f60_s_R8Whole.A.enc x) :=
  fn_pure (modes := (fdAt 60).ms) (outs := (fdAt 60).os) (results := (fdAt 60).rs) f60_s_R8Whole.O (c := c60) (keep := keepAt 60) (by kernel_rfl) (fun n => orcOf_cf _ _ n) (fun n => lpOk_of (bs := [loopAt c60 0]) (by kernel_rfl) (.cons (f60_s_R8Whole.l0.ok n) .nil)) (fun _ => rfl) (fun _ _ => by kernel_rfl)
noncomputable def f60_s_R8Whole.w : FnW E := fnW 60 f60_s_R8Whole.P sg_lii f60_s_R8Whole.A f60_s_R8Whole.F f60_s_R8Whole.ok

def f130_s_l00In : Nat → Int → Int → Int → Option (Bool)
  | 0, _, _, _ => none
  | n + 1, i1, i2, i3 =>
    br (decide (i1 ≥ i2)) (
     some (decide (i1 ≤ i3))) (
     some false)
def f130_s_l00In.P : List Arg := [⟨.val, ⟨false, [.leaf], [.int .i64 0]⟩⟩, ⟨.val, ⟨false, [.leaf], [.int .i64 0]⟩⟩, ⟨.val, ⟨false, [.leaf], [.int .i64 0]⟩⟩]
def f130_s_l00In.A : RAlt (Bool) := .one ⟨[⟨false, [.leaf], [.bool false]⟩], [none, none, none]⟩ sg_b
def f130_s_l00In.F (n : Nat) (v : Int × Int × Int) := f130_s_l00In n v.1 v.2.1 v.2.2
noncomputable def f130_s_l00In.O (n : Nat) : Orc := orcOf (E := E) [] [] n
theorem f130_s_l00In.ok : ∀ n v x, f130_s_l00In.F n v = some x → evalFn E n 130 (flAs f130_s_l00In.P (sg_iii.pk v)) = some (f130_s_l00In.A.enc x) :=
  fn_pure (modes := (fdAt 130).ms) (outs := (fdAt 130).os) (results := (fdAt 130).rs) f130_s_l00In.O (c := c130) (keep := keepAt 130) (by kernel_rfl) (fun n => orcOf_cf _ _ n) (fun n => lpOk_of (bs := []) (by kernel_rfl) .nil) (fun _ => rfl) (fun _ _ => by kernel_rfl)
noncomputable def f130_s_l00In.w : FnW E := fnW 130 f130_s_l00In.P sg_iii f130_s_l00In.A f130_s_l00In.F f130_s_l00In.ok

def f128_s_l06Kind : Nat → Int → Option (Bool)
  | 0, _ => none
  | n + 1, i1 =>
    bd (f130_s_l00In n i1 (0 : Int) (2 : Int)) fun r2 =>
    let b3 : Bool := r2
    some b3
def f128_s_l06Kind.P : List Arg := [⟨.val, ⟨false, [.leaf], [.int .i64 0]⟩⟩]
def f128_s_l06Kind.A : RAlt (Bool) := .one ⟨[⟨false, [.leaf], [.bool false]⟩], [none]⟩ sg_b
def f128_s_l06Kind.F (n : Nat) (v : Int) := f128_s_l06Kind n v
noncomputable def f128_s_l06Kind.O (n : Nat) : Orc := orcOf (E := E) [f130_s_l00In.w] [] n
theorem f128_s_l06Kind.ok : ∀ n v x, f128_s_l06Kind.F n v = some x → evalFn E n 128 (flAs f128_s_l06Kind.P (sg_i.pk v)) = some (f128_s_l06Kind.A.enc x) :=
  fn_pure (modes := (fdAt 128).ms) (outs := (fdAt 128).os) (results := (fdAt 128).rs) f128_s_l06Kind.O (c := c128) (keep := keepAt 128) (by kernel_rfl) (fun n => orcOf_cf _ _ n) (fun n => lpOk_of (bs := []) (by kernel_rfl) .nil) (fun _ => rfl) (fun _ _ => by kernel_rfl)
noncomputable def f128_s_l06Kind.w : FnW E := fnW 128 f128_s_l06Kind.P sg_i f128_s_l06Kind.A f128_s_l06Kind.F f128_s_l06Kind.ok

def f129_s_l01Few : Nat → Nat → List T → Option (Bool)
  | 0, _, _ => none
  | n + 1, n1, l2 =>
    some (decide (((n1 : Nat) : Int) ≤ (256 : Int)))
def f129_s_l01Few.P : List Arg := [⟨.val, ⟨false, [.sl .shr [.leaf]], [.lst 0 []]⟩⟩]
def f129_s_l01Few.A : RAlt (Bool) := .one ⟨[⟨false, [.leaf], [.bool false]⟩], [none]⟩ sg_b
def f129_s_l01Few.F (n : Nat) (v : Nat × List T) := f129_s_l01Few n v.1 v.2
noncomputable def f129_s_l01Few.O (n : Nat) : Orc := orcOf (E := E) [] [] n
theorem f129_s_l01Few.ok : ∀ n v x, f129_s_l01Few.F n v = some x → evalFn E n 129 (flAs f129_s_l01Few.P (sg_l.pk v)) = some (f129_s_l01Few.A.enc x) :=
  fn_pure (modes := (fdAt 129).ms) (outs := (fdAt 129).os) (results := (fdAt 129).rs) f129_s_l01Few.O (c := c129) (keep := keepAt 129) (by kernel_rfl) (fun n => orcOf_cf _ _ n) (fun n => lpOk_of (bs := []) (by kernel_rfl) .nil) (fun _ => rfl) (fun _ _ => by kernel_rfl)
noncomputable def f129_s_l01Few.w : FnW E := fnW 129 f129_s_l01Few.P sg_l f129_s_l01Few.A f129_s_l01Few.F f129_s_l01Few.ok

def f187_s_l00Min : Nat → Int → Int → Option (Int)
  | 0, _, _ => none
  | n + 1, i1, i2 =>
    br (decide (i1 < i2)) (
     some i1) (
     some i2)
def sg_ii : Sig (Int × Int) where
  pk := fun v => [.int v.1, .int v.2]
  up := fun ls => match ls with
    | [.int a0, .int a1] => some (a0, a1)
    | _ => none
  ok := by
    intro ls v h
    split at h
    · cases h; rfl
    · cases h

def f187_s_l00Min.P : List Arg := [⟨.val, ⟨false, [.leaf], [.int .i64 0]⟩⟩, ⟨.val, ⟨false, [.leaf], [.int .i64 0]⟩⟩]
def f187_s_l00Min.A : RAlt (Int) := .one ⟨[⟨false, [.leaf], [.int .i64 0]⟩], [none, none]⟩ sg_i
def f187_s_l00Min.F (n : Nat) (v : Int × Int) := f187_s_l00Min n v.1 v.2
noncomputable def f187_s_l00Min.O (n : Nat) : Orc := orcOf (E := E) [] [] n
theorem f187_s_l00Min.ok : ∀ n v x, f187_s_l00Min.F n v = some x → evalFn E n 187 (flAs f187_s_l00Min.P (sg_ii.pk v)) = some (f187_s_l00Min.A.enc x) :=
  fn_pure (modes := (fdAt 187).ms) (outs := (fdAt 187).os) (results := (fdAt 187).rs) f187_s_l00Min.O (c := c187) (keep := keepAt 187) (by kernel_rfl) (fun n => orcOf_cf _ _ n) (fun n => lpOk_of (bs := []) (by kernel_rfl) .nil) (fun _ => rfl) (fun _ _ => by kernel_rfl)
noncomputable def f187_s_l00Min.w : FnW E := fnW 187 f187_s_l00Min.P sg_ii f187_s_l00Min.A f187_s_l00Min.F f187_s_l00Min.ok

def f186_s_l00Max : Nat → Int → Int → Option (Int)
  | 0, _, _ => none
  | n + 1, i1, i2 =>
    br (decide (i1 > i2)) (
     some i1) (
     some i2)
def f186_s_l00Max.P : List Arg := [⟨.val, ⟨false, [.leaf], [.int .i64 0]⟩⟩, ⟨.val, ⟨false, [.leaf], [.int .i64 0]⟩⟩]
def f186_s_l00Max.A : RAlt (Int) := .one ⟨[⟨false, [.leaf], [.int .i64 0]⟩], [none, none]⟩ sg_i
def f186_s_l00Max.F (n : Nat) (v : Int × Int) := f186_s_l00Max n v.1 v.2
noncomputable def f186_s_l00Max.O (n : Nat) : Orc := orcOf (E := E) [] [] n
theorem f186_s_l00Max.ok : ∀ n v x, f186_s_l00Max.F n v = some x → evalFn E n 186 (flAs f186_s_l00Max.P (sg_ii.pk v)) = some (f186_s_l00Max.A.enc x) :=
  fn_pure (modes := (fdAt 186).ms) (outs := (fdAt 186).os) (results := (fdAt 186).rs) f186_s_l00Max.O (c := c186) (keep := keepAt 186) (by kernel_rfl) (fun n => orcOf_cf _ _ n) (fun n => lpOk_of (bs := []) (by kernel_rfl) .nil) (fun _ => rfl) (fun _ _ => by kernel_rfl)
noncomputable def f186_s_l00Max.w : FnW E := fnW 186 f186_s_l00Max.P sg_ii f186_s_l00Max.A f186_s_l00Max.F f186_s_l00Max.ok

def f173_s_l06Sample : Nat → Nat → List T → Int → Option (Nat)
  | 0, _, _, _ => none
  | n + 1, n1, l2, i3 =>
    bd (f187_s_l00Min n i3 (IntKind.i64.wrap (((n1 : Nat) : Int) - (1 : Int)))) fun r4 =>
    let i5 : Int := r4
    bd (f186_s_l00Max n (0 : Int) i5) fun r6 =>
    let i7 : Int := r6
    gd ((decide (((0 : Int) ≤ i7) ∧ (i7 < ((n1 : Nat) : Int)))) && (okAt [(CK.flt FloatKind.f32)] l2 (Int.toNat i7))) (
    some (fAt l2 (Int.toNat i7)))
def f173_s_l06Sample.P : List Arg := [⟨.val, ⟨false, [.sl .shr [.leaf]], [.lst 0 []]⟩⟩, ⟨.val, ⟨false, [.leaf], [.int .i64 0]⟩⟩]
def f173_s_l06Sample.A : RAlt (Nat) := .one ⟨[⟨false, [.leaf], [.flt .f32 0]⟩], [none, none]⟩ sg_f
def f173_s_l06Sample.F (n : Nat) (v : Nat × List T × Int) := f173_s_l06Sample n v.1 v.2.1 v.2.2
noncomputable def f173_s_l06Sample.O (n : Nat) : Orc := orcOf (E := E) [f187_s_l00Min.w, f186_s_l00Max.w] [] n
theorem f173_s_l06Sample.ok : ∀ n v x, f173_s_l06Sample.F n v = some x → evalFn E n 173 (flAs f173_s_l06Sample.P (sg_li.pk v)) = some (f173_s_l06Sample.A.enc x) :=
  fn_pure (modes := (fdAt 173).ms) (outs := (fdAt 173).os) (results := (fdAt 173).rs) f173_s_l06Sample.O (c := c173) (keep := keepAt 173) (by kernel_rfl) (fun n => orcOf_cf _ _ n) (fun n => lpOk_of (bs := []) (by kernel_rfl) .nil) (fun _ => rfl) (fun _ _ => by kernel_rfl)
noncomputable def f173_s_l06Sample.w : FnW E := fnW 173 f173_s_l06Sample.P sg_li f173_s_l06Sample.A f173_s_l06Sample.F f173_s_l06Sample.ok

def f131_s_l06Read : Nat → Int → Nat → List T → Nat → Option (Nat × Bool)
  | 0, _, _, _, _ => none
  | n + 1, i1, n2, l3, x4 =>
    br (fge FloatKind.f64 x4 0) (
     br (!(fle FloatKind.f64 x4 (FloatKind.nearest FloatKind.f64 (IntKind.i64.wrap (((n2 : Nat) : Int) - (1 : Int)))))) (
      some (0, false)) (
      bd ((fltToInt FloatKind.f64 x4 IntKind.i64)) fun y5 =>
      bd ((fltToFlt FloatKind.f64 (fsub FloatKind.f64 x4 (FloatKind.nearest FloatKind.f64 y5)) FloatKind.f32)) fun y6 =>
      bd (f173_s_l06Sample n n2 l3 y5) fun r7 =>
      let x8 : Nat := r7
      bd (f173_s_l06Sample n n2 l3 (IntKind.i64.wrap (y5 + (1 : Int)))) fun r9 =>
      let x10 : Nat := r9
      br (i1 == (0 : Int)) (
       br (fge FloatKind.f32 y6 1056964608) (
        some (x10, true)) (
        some (x8, true))) (
       br (i1 == (1 : Int)) (
        let x11 : Nat := (fsub FloatKind.f32 x10 x8)
        some ((fadd FloatKind.f32 x8 (fmul FloatKind.f32 y6 x11)), true)) (
        bd (f173_s_l06Sample n n2 l3 (IntKind.i64.wrap (y5 - (1 : Int)))) fun r12 =>
        let x13 : Nat := r12
        bd (f173_s_l06Sample n n2 l3 (IntKind.i64.wrap (y5 + (2 : Int)))) fun r14 =>
        let x15 : Nat := r14
        let x16 : Nat := (fmul FloatKind.f32 1056964608 (fsub FloatKind.f32 x10 x13))
        let x17 : Nat := (fsub FloatKind.f32 x13 (fmul FloatKind.f32 1075838976 x8))
        let x18 : Nat := (fadd FloatKind.f32 x17 (fmul FloatKind.f32 1073741824 x10))
        let x19 : Nat := (fsub FloatKind.f32 x18 (fmul FloatKind.f32 1056964608 x15))
        let x20 : Nat := (fadd FloatKind.f32 (fmul FloatKind.f32 1069547520 (fsub FloatKind.f32 x8 x10)) (fmul FloatKind.f32 1056964608 (fsub FloatKind.f32 x15 x13)))
        let x21 : Nat := (fadd FloatKind.f32 (fmul FloatKind.f32 x20 y6) x19)
        let x22 : Nat := (fadd FloatKind.f32 (fmul FloatKind.f32 x21 y6) x16)
        some ((fadd FloatKind.f32 (fmul FloatKind.f32 x22 y6) x8), true))))) (
     some (0, false))
def f131_s_l06Read.P : List Arg := [⟨.val, ⟨false, [.leaf], [.int .i64 0]⟩⟩, ⟨.val, ⟨false, [.sl .shr [.leaf]], [.lst 0 []]⟩⟩, ⟨.val, ⟨false, [.leaf], [.flt .f64 0]⟩⟩]
def f131_s_l06Read.A : RAlt (Nat × Bool) := .one ⟨[⟨false, [.leaf], [.flt .f32 0]⟩, ⟨false, [.leaf], [.bool false]⟩], [none, none, none]⟩ sg_fb
def f131_s_l06Read.F (n : Nat) (v : Int × Nat × List T × Nat) := f131_s_l06Read n v.1 v.2.1 v.2.2.1 v.2.2.2
noncomputable def f131_s_l06Read.O (n : Nat) : Orc := orcOf (E := E) [f173_s_l06Sample.w] [] n
theorem f131_s_l06Read.ok : ∀ n v x, f131_s_l06Read.F n v = some x → evalFn E n 131 (flAs f131_s_l06Read.P (sg_ilf.pk v)) = some (f131_s_l06Read.A.enc x) :=
  fn_pure (modes := (fdAt 131).ms) (outs := (fdAt 131).os) (results := (fdAt 131).rs) f131_s_l06Read.O (c := c131) (keep := keepAt 131) (by kernel_rfl) (fun n => orcOf_cf _ _ n) (fun n => lpOk_of (bs := []) (by kernel_rfl) .nil) (fun _ => rfl) (fun _ _ => by kernel_rfl)
noncomputable def f131_s_l06Read.w : FnW E := fnW 131 f131_s_l06Read.P sg_ilf f131_s_l06Read.A f131_s_l06Read.F f131_s_l06Read.ok

def f61_s_PlayAt.l0 (n : Nat) : Nat → Int → Nat → List T → Nat → Int → Nat → List T → Nat → Int → Option ((Nat × List T × Bool) ⊕ (Nat × List T))
  | 0, _, _, _, _, _, _, _, _, _ => none
  | m + 1, i1, n2, l3, x4, i5, n6, l7, x8, i9 =>
    br (decide (i9 < i5)) (
     br (((n2 : Nat) : Int) == (0 : Int)) (
      some (Sum.inl (0, [], false))) (
      bd (f131_s_l06Read n i1 n2 l3 x8) fun r10 =>
      let x11 : Nat := r10.1
      let b12 : Bool := r10.2
      br (!b12) (
       some (Sum.inl (0, [], false))) (
       gd (Nat.ble (n6 + 1) 2147483648) (
       let n13 : Nat := (n6 + 1)
       let l14 : List T := (l7 ++ (setN (reps 1 [(T.flt FloatKind.f32 0)]) 0 [(T.flt FloatKind.f32 x11)]))
       let x15 : Nat := (fadd FloatKind.f64 x8 x4)
       f61_s_PlayAt.l0 n m i1 n2 l3 x4 i5 n13 l14 x15 (IntKind.i64.wrap (i9 + (1 : Int))))))) (
     some (Sum.inr (n6, l7)))
def f61_s_PlayAt : Nat → Int → Nat → List T → Nat → Nat → Int → Option (Nat × List T × Bool)
  | 0, _, _, _, _, _, _ => none
  | n + 1, i1, n2, l3, x4, x5, i6 =>
    bd (f128_s_l06Kind n i1) fun r7 =>
    let b8 : Bool := r7
    br (!b8) (
     some (0, [], false)) (
     bd (f129_s_l01Few n n2 l3) fun r9 =>
     let b10 : Bool := r9
     br (!b10) (
      some (0, [], false)) (
      br (fne FloatKind.f64 (fsub FloatKind.f64 x5 x5) 0) (
       some (0, [], false)) (
       bd (f130_s_l00In n i6 (0 : Int) (256 : Int)) fun r11 =>
       let b12 : Bool := r11
       br (!b12) (
        some (0, [], false)) (
        bd (f61_s_PlayAt.l0 n n i1 n2 l3 x5 i6 0 (reps 0 [(T.flt FloatKind.f32 0)]) x4 (0 : Int)) fun r13 =>
        sm r13 (fun u14 =>
         let n15 : Nat := u14.1
         let l16 : List T := u14.2.1
         let b17 : Bool := u14.2.2
         some (n15, l16, b17)) (fun u18 =>
         let n19 : Nat := u18.1
         let l20 : List T := u18.2
         some (n19, l20, true))))))
def sg_ilfilfi : Sig (Int × Nat × List T × Nat × Int × Nat × List T × Nat × Int) where
  pk := fun v => [.int v.1, .lst v.2.1 v.2.2.1, .flt v.2.2.2.1, .int v.2.2.2.2.1, .lst v.2.2.2.2.2.1 v.2.2.2.2.2.2.1, .flt v.2.2.2.2.2.2.2.1, .int v.2.2.2.2.2.2.2.2]
  up := fun ls => match ls with
    | [.int a0, .lst a1 a2, .flt a3, .int a4, .lst a5 a6, .flt a7, .int a8] => some (a0, a1, a2, a3, a4, a5, a6, a7, a8)
    | _ => none
  ok := by
    intro ls v h
    split at h
    · cases h; rfl
    · cases h

def f61_s_PlayAt.l0.P : AS := ⟨[(0, .val false [.leaf] [.int .i64 0] [] 0), (1, .val false [.sl .shr [.leaf]] [.lst 0 []] [] 0), (3, .val false [.leaf] [.flt .f64 0] [] 0), (4, .val false [.leaf] [.int .i64 0] [] 0), (12, .val false [.sl .own [.leaf]] [.lst 0 []] [] 0), (13, .val false [.leaf] [.flt .f64 0] [] 0), (14, .val false [.leaf] [.int .i64 0] [] 0)], 0⟩
def f61_s_PlayAt.l0.A : Alt ((Nat × List T × Bool) ⊕ (Nat × List T)) := .or (.one .ret ⟨[(10, .val false [.sl .own [.leaf]] [.lst 0 []] [] 0), (11, .val false [.leaf] [.bool false] [] 0), (12, .dead)], 0⟩ sg_lb) (.one (.exit 0) ⟨[(10, .dead), (11, .dead), (12, .val false [.sl .own [.leaf]] [.lst 0 []] [] 0)], 0⟩ sg_l)
def f61_s_PlayAt.l0.F (n m : Nat) (v : Int × Nat × List T × Nat × Int × Nat × List T × Nat × Int) := f61_s_PlayAt.l0 n m v.1 v.2.1 v.2.2.1 v.2.2.2.1 v.2.2.2.2.1 v.2.2.2.2.2.1 v.2.2.2.2.2.2.1 v.2.2.2.2.2.2.2.1 v.2.2.2.2.2.2.2.2
def f61_s_PlayAt.l0.W (n : Nat) : LpW := .of 96 f61_s_PlayAt.l0.P sg_ilfilfi f61_s_PlayAt.l0.A (f61_s_PlayAt.l0.F n n)
def f61_s_PlayAt.P : List Arg := [⟨.val, ⟨false, [.leaf], [.int .i64 0]⟩⟩, ⟨.val, ⟨false, [.sl .shr [.leaf]], [.lst 0 []]⟩⟩, ⟨.val, ⟨false, [.leaf], [.flt .f64 0]⟩⟩, ⟨.val, ⟨false, [.leaf], [.flt .f64 0]⟩⟩, ⟨.val, ⟨false, [.leaf], [.int .i64 0]⟩⟩]
def f61_s_PlayAt.A : RAlt (Nat × List T × Bool) := .one ⟨[⟨false, [.sl .own [.leaf]], [.lst 0 []]⟩, ⟨false, [.leaf], [.bool false]⟩], [none, none, none, none, none]⟩ sg_lb
def f61_s_PlayAt.F (n : Nat) (v : Int × Nat × List T × Nat × Nat × Int) := f61_s_PlayAt n v.1 v.2.1 v.2.2.1 v.2.2.2.1 v.2.2.2.2.1 v.2.2.2.2.2
noncomputable def f61_s_PlayAt.O (n : Nat) : Orc := orcOf (E := E) [f130_s_l00In.w, f128_s_l06Kind.w, f129_s_l01Few.w, f131_s_l06Read.w] [f61_s_PlayAt.l0.W n] n
theorem f61_s_PlayAt.l0.ok (n : Nat) : LpOk (f61_s_PlayAt.O n) E (evalFn E n) n (keepAt 61) (.loop (loopAt c61 0)) :=
  lp_pure f61_s_PlayAt.l0.P sg_ilfilfi f61_s_PlayAt.l0.A (f61_s_PlayAt.l0.F n) (orcOf_cf _ _ n) (lpOk_of (bs := []) (by kernel_rfl) .nil) (fun _ => rfl) (fun _ _ => by kernel_rfl) (fun _ _ _ => by kernel_rfl)
theorem f61_s_PlayAt.ok : ∀ n v x, f61_s_PlayAt.F n v = some x → evalFn E n 61 (flAs f61_s_PlayAt.P (sg_ilffi.pk v)) = some (f61_s_PlayAt.A.enc x) :=
  fn_pure (modes := (fdAt 61).ms) (outs := (fdAt 61).os) (results := (fdAt 61).rs) f61_s_PlayAt.O (c := c61) (keep := keepAt 61) (by kernel_rfl) (fun n => orcOf_cf _ _ n) (fun n => lpOk_of (bs := [loopAt c61 0]) (by kernel_rfl) (.cons (f61_s_PlayAt.l0.ok n) .nil)) (fun _ => rfl) (fun _ _ => by kernel_rfl)
noncomputable def f61_s_PlayAt.w : FnW E := fnW 61 f61_s_PlayAt.P sg_ilffi f61_s_PlayAt.A f61_s_PlayAt.F f61_s_PlayAt.ok

def f21_i_SameNumber : Nat → Nat → Nat → Option (Bool)
  | 0, _, _ => none
  | n + 1, x1, x2 =>
    br (fne FloatKind.f32 x1 x1) (
     br (fne FloatKind.f32 x1 x1) (
      some (fne FloatKind.f32 x2 x2)) (
      some false)) (
     br (fne FloatKind.f32 x2 x2) (
      br (fne FloatKind.f32 x1 x1) (
       some (fne FloatKind.f32 x2 x2)) (
       some false)) (
      bd (xF32bits n x1) fun r3 =>
      let i4 : Int := r3
      bd (xF32bits n x2) fun r5 =>
      let i6 : Int := r5
      some (i4 == i6)))
def sg_ff : Sig (Nat × Nat) where
  pk := fun v => [.flt v.1, .flt v.2]
  up := fun ls => match ls with
    | [.flt a0, .flt a1] => some (a0, a1)
    | _ => none
  ok := by
    intro ls v h
    split at h
    · cases h; rfl
    · cases h

def f21_i_SameNumber.P : List Arg := [⟨.val, ⟨false, [.leaf], [.flt .f32 0]⟩⟩, ⟨.val, ⟨false, [.leaf], [.flt .f32 0]⟩⟩]
def f21_i_SameNumber.A : RAlt (Bool) := .one ⟨[⟨false, [.leaf], [.bool false]⟩], [none, none]⟩ sg_b
def f21_i_SameNumber.F (n : Nat) (v : Nat × Nat) := f21_i_SameNumber n v.1 v.2
noncomputable def f21_i_SameNumber.O (n : Nat) : Orc := orcOf (E := E) [x96.w] [] n
theorem f21_i_SameNumber.ok : ∀ n v x, f21_i_SameNumber.F n v = some x → evalFn E n 21 (flAs f21_i_SameNumber.P (sg_ff.pk v)) = some (f21_i_SameNumber.A.enc x) :=
  fn_pure (modes := (fdAt 21).ms) (outs := (fdAt 21).os) (results := (fdAt 21).rs) f21_i_SameNumber.O (c := c21) (keep := keepAt 21) (by kernel_rfl) (fun n => orcOf_cf _ _ n) (fun n => lpOk_of (bs := []) (by kernel_rfl) .nil) (fun _ => rfl) (fun _ _ => by kernel_rfl)
noncomputable def f21_i_SameNumber.w : FnW E := fnW 21 f21_i_SameNumber.P sg_ff f21_i_SameNumber.A f21_i_SameNumber.F f21_i_SameNumber.ok

def f10_l_FnPlaces.l1 (n : Nat) : Nat → Nat → List T → Int → Nat → Nat → List T → Bool → Int → Option ((Bool) ⊕ (Nat × List T × Bool))
  | 0, _, _, _, _, _, _, _, _ => none
  | m + 1, n1, l2, i3, x4, n5, l6, b7, i8 =>
    br (decide (i8 < ((n5 : Nat) : Int))) (
     br b7 (
      bd (f58_i_ReadAt n i3 n1 l2 (fadd FloatKind.f64 4598175219545276416 (fmul FloatKind.f64 (FloatKind.nearest FloatKind.f64 i8) x4))) fun r9 =>
      let x10 : Nat := r9.1
      let b11 : Bool := r9.2
      br (!b11) (
       some (Sum.inl false)) (
       gd (decide (((0 : Int) ≤ i8) ∧ (i8 < ((n5 : Nat) : Int)))) (
       gd (okAt [(CK.flt FloatKind.f32)] l6 (Int.toNat i8)) (
       bd (f21_i_SameNumber n x10 (fAt l6 (Int.toNat i8))) fun r12 =>
       let b13 : Bool := r12
       br (!b13) (
        some (Sum.inl false)) (
        f10_l_FnPlaces.l1 n m n1 l2 i3 x4 n5 l6 b7 (IntKind.i64.wrap (i8 + (1 : Int)))))))) (
      some (Sum.inr (n5, l6, b7)))) (
     some (Sum.inr (n5, l6, b7)))
def f10_l_FnPlaces : Nat → Nat → List T → Nat → List T → Option (Bool)
  | 0, _, _, _, _ => none
  | n + 1, n1, l2, n3, l4 =>
    bd (f15_l_r8Long n n1 l2 n3 l4) fun r5 =>
    let b6 : Bool := r5
    br b6 (
     some true) (
     bd (f17_l_r8At n n1 l2 (40 : Int) (8 : Int)) fun r7 =>
     let i8 : Int := r7
     let i9 : Int := (IntKind.i64.wrap ((2 : Int) + i8))
     bd (f16_s_R8Plain n n3 l4 i9) fun r10 =>
     let n11 : Nat := r10.1
     let l12 : List T := r10.2
     bd (f17_l_r8At n n1 l2 (41 : Int) (3 : Int)) fun r13 =>
     let i14 : Int := r13
     bd (f17_l_r8At n n1 l2 (42 : Int) i9) fun r15 =>
     let i16 : Int := r15
     bd (f58_i_ReadAt n i14 n11 l12 (FloatKind.nearest FloatKind.f64 i16)) fun r17 =>
     let x18 : Nat := r17.1
     let b19 : Bool := r17.2
     bd (f59_i_PlayAt n i14 n11 l12 0 4607182418800017408 i9) fun r20 =>
     let n21 : Nat := r20.1
     let l22 : List T := r20.2.1
     let b23 : Bool := r20.2.2
     br (!b19) (
      some false) (
      br (!b23) (
       some false) (
       gd (decide (((0 : Int) ≤ i16) ∧ (i16 < ((n11 : Nat) : Int)))) (
       gd (okAt [(CK.flt FloatKind.f32)] l12 (Int.toNat i16)) (
       br (fne FloatKind.f32 x18 (fAt l12 (Int.toNat i16))) (
        some false) (
        br (((n21 : Nat) : Int) != i9) (
         some false) (
         bd (f10_l_FnPlaces.l0 n n n1 l2 n3 l4 i9 n11 l12 i14 n21 l22 (0 : Int)) fun r24 =>
         sm r24 (fun u25 =>
          let b26 : Bool := u25
          some b26) (fun u27 =>
          let n28 : Nat := u27.1
          let l29 : List T := u27.2.1
          let n30 : Nat := u27.2.2.1
          let l31 : List T := u27.2.2.2.1
          let i32 : Int := u27.2.2.2.2.1
          let n33 : Nat := u27.2.2.2.2.2.1
          let l34 : List T := u27.2.2.2.2.2.2.1
          let i35 : Int := u27.2.2.2.2.2.2.2
          bd (f60_s_R8Whole n n28 l29 i32 (100 : Int)) fun r36 =>
          let n37 : Nat := r36.1
          let l38 : List T := r36.2
          bd (f17_l_r8At n n30 l31 (40 : Int) (IntKind.i64.wrap (i32 - (1 : Int)))) fun r39 =>
          let i40 : Int := r39
          bd (f58_i_ReadAt n (1 : Int) n37 l38 (fadd FloatKind.f64 (FloatKind.nearest FloatKind.f64 i40) 4602678819172646912)) fun r41 =>
          let x42 : Nat := r41.1
          let b43 : Bool := r41.2
          bd (f58_i_ReadAt n (0 : Int) n37 l38 (fadd FloatKind.f64 (FloatKind.nearest FloatKind.f64 i40) 4602678819172646912)) fun r44 =>
          let x45 : Nat := r44.1
          let b46 : Bool := r44.2
          br (!b43) (
           some false) (
           br (!b46) (
            some false) (
            gd (decide (((0 : Int) ≤ i40) ∧ (i40 < ((n37 : Nat) : Int)))) (
            gd (okAt [(CK.flt FloatKind.f32)] l38 (Int.toNat i40)) (
            gd (decide (((0 : Int) ≤ (IntKind.i64.wrap (i40 + (1 : Int)))) ∧ ((IntKind.i64.wrap (i40 + (1 : Int))) < ((n37 : Nat) : Int)))) (
            gd (okAt [(CK.flt FloatKind.f32)] l38 (Int.toNat (IntKind.i64.wrap (i40 + (1 : Int))))) (
            br (fne FloatKind.f32 x42 (fdiv FloatKind.f32 (fadd FloatKind.f32 (fAt l38 (Int.toNat i40)) (fAt l38 (Int.toNat (IntKind.i64.wrap (i40 + (1 : Int)))))) 1073741824)) (
             some false) (
             gd (decide (((0 : Int) ≤ (IntKind.i64.wrap (i40 + (1 : Int)))) ∧ ((IntKind.i64.wrap (i40 + (1 : Int))) < ((n37 : Nat) : Int)))) (
             gd (okAt [(CK.flt FloatKind.f32)] l38 (Int.toNat (IntKind.i64.wrap (i40 + (1 : Int))))) (
             br (fne FloatKind.f32 x45 (fAt l38 (Int.toNat (IntKind.i64.wrap (i40 + (1 : Int)))))) (
              some false) (
              bd (f17_l_r8At n n30 l31 (41 : Int) (16 : Int)) fun r47 =>
              let i48 : Int := r47
              let x49 : Nat := (fdiv FloatKind.f64 (FloatKind.nearest FloatKind.f64 i48) 4625196817309499392)
              bd (f59_i_PlayAt n i35 n33 l34 4598175219545276416 x49 (3 : Int)) fun r50 =>
              let n51 : Nat := r50.1
              let l52 : List T := r50.2.1
              let b53 : Bool := r50.2.2
              bd (f61_s_PlayAt n i35 n33 l34 4598175219545276416 x49 (3 : Int)) fun r54 =>
              let n55 : Nat := r54.1
              let l56 : List T := r54.2.1
              let b57 : Bool := r54.2.2
              br (!(b53 == b57)) (
               some false) (
               bd (f10_l_FnPlaces.l1 n n n33 l34 i35 x49 n51 l52 b53 (0 : Int)) fun r58 =>
               sm r58 (fun u59 =>
                let b60 : Bool := u59
                some b60) (fun u61 =>
                let n62 : Nat := u61.1
                let l63 : List T := u61.2.1
                let b64 : Bool := u61.2.2
                br (!b64) (
                 some true) (
                 some (((n62 : Nat) : Int) == (3 : Int)))))))))))))))))))))))
def sg_llilili : Sig (Nat × List T × Nat × List T × Int × Nat × List T × Int × Nat × List T × Int) where
  pk := fun v => [.lst v.1 v.2.1, .lst v.2.2.1 v.2.2.2.1, .int v.2.2.2.2.1, .lst v.2.2.2.2.2.1 v.2.2.2.2.2.2.1, .int v.2.2.2.2.2.2.2.1, .lst v.2.2.2.2.2.2.2.2.1 v.2.2.2.2.2.2.2.2.2.1, .int v.2.2.2.2.2.2.2.2.2.2]
  up := fun ls => match ls with
    | [.lst a0 a1, .lst a2 a3, .int a4, .lst a5 a6, .int a7, .lst a8 a9, .int a10] => some (a0, a1, a2, a3, a4, a5, a6, a7, a8, a9, a10)
    | _ => none
  ok := by
    intro ls v h
    split at h
    · cases h; rfl
    · cases h

def sg_llili : Sig (Nat × List T × Nat × List T × Int × Nat × List T × Int) where
  pk := fun v => [.lst v.1 v.2.1, .lst v.2.2.1 v.2.2.2.1, .int v.2.2.2.2.1, .lst v.2.2.2.2.2.1 v.2.2.2.2.2.2.1, .int v.2.2.2.2.2.2.2]
  up := fun ls => match ls with
    | [.lst a0 a1, .lst a2 a3, .int a4, .lst a5 a6, .int a7] => some (a0, a1, a2, a3, a4, a5, a6, a7)
    | _ => none
  ok := by
    intro ls v h
    split at h
    · cases h; rfl
    · cases h

def sg_liflbi : Sig (Nat × List T × Int × Nat × Nat × List T × Bool × Int) where
  pk := fun v => [.lst v.1 v.2.1, .int v.2.2.1, .flt v.2.2.2.1, .lst v.2.2.2.2.1 v.2.2.2.2.2.1, .bool v.2.2.2.2.2.2.1, .int v.2.2.2.2.2.2.2]
  up := fun ls => match ls with
    | [.lst a0 a1, .int a2, .flt a3, .lst a4 a5, .bool a6, .int a7] => some (a0, a1, a2, a3, a4, a5, a6, a7)
    | _ => none
  ok := by
    intro ls v h
    split at h
    · cases h; rfl
    · cases h

def f10_l_FnPlaces.l0.P : AS := ⟨[(0, .val false [.sl .shr [.leaf]] [.lst 0 []] [] 0), (1, .val false [.sl .shr [.leaf]] [.lst 0 []] [] 0), (5, .val false [.leaf] [.int .i64 0] [] 0), (6, .val false [.sl .own [.leaf]] [.lst 0 []] [] 0), (7, .val false [.leaf] [.int .i64 0] [] 0), (11, .val false [.sl .own [.leaf]] [.lst 0 []] [] 0), (13, .val false [.leaf] [.int .i64 0] [] 0)], 0⟩
def f10_l_FnPlaces.l0.A : Alt ((Bool) ⊕ (Nat × List T × Nat × List T × Int × Nat × List T × Int)) := .or (.one .ret ⟨[(0, .dead), (1, .dead), (4, .val false [.leaf] [.bool false] [] 0), (5, .dead), (6, .dead), (7, .dead)], 0⟩ sg_b) (.one (.exit 0) ⟨[(0, .val false [.sl .shr [.leaf]] [.lst 0 []] [] 0), (1, .val false [.sl .shr [.leaf]] [.lst 0 []] [] 0), (4, .dead), (5, .val false [.leaf] [.int .i64 0] [] 0), (6, .val false [.sl .own [.leaf]] [.lst 0 []] [] 0), (7, .val false [.leaf] [.int .i64 0] [] 0)], 0⟩ sg_llili)
def f10_l_FnPlaces.l0.F (n m : Nat) (v : Nat × List T × Nat × List T × Int × Nat × List T × Int × Nat × List T × Int) := f10_l_FnPlaces.l0 n m v.1 v.2.1 v.2.2.1 v.2.2.2.1 v.2.2.2.2.1 v.2.2.2.2.2.1 v.2.2.2.2.2.2.1 v.2.2.2.2.2.2.2.1 v.2.2.2.2.2.2.2.2.1 v.2.2.2.2.2.2.2.2.2.1 v.2.2.2.2.2.2.2.2.2.2
def f10_l_FnPlaces.l0.W (n : Nat) : LpW := .of 192 f10_l_FnPlaces.l0.P sg_llilili f10_l_FnPlaces.l0.A (f10_l_FnPlaces.l0.F n n)
def f10_l_FnPlaces.l1.P : AS := ⟨[(6, .val false [.sl .own [.leaf]] [.lst 0 []] [] 0), (7, .val false [.leaf] [.int .i64 0] [] 0), (20, .val false [.leaf] [.flt .f64 0] [] 0), (21, .val false [.sl .own [.leaf]] [.lst 0 []] [] 0), (22, .val false [.leaf] [.bool false] [] 0), (25, .val false [.leaf] [.int .i64 0] [] 0)], 0⟩
def f10_l_FnPlaces.l1.A : Alt ((Bool) ⊕ (Nat × List T × Bool)) := .or (.one .ret ⟨[(4, .val false [.leaf] [.bool false] [] 0), (21, .dead), (22, .dead)], 0⟩ sg_b) (.one (.exit 2) ⟨[(4, .dead), (21, .val false [.sl .own [.leaf]] [.lst 0 []] [] 0), (22, .val false [.leaf] [.bool false] [] 0)], 0⟩ sg_lb)
def f10_l_FnPlaces.l1.F (n m : Nat) (v : Nat × List T × Int × Nat × Nat × List T × Bool × Int) := f10_l_FnPlaces.l1 n m v.1 v.2.1 v.2.2.1 v.2.2.2.1 v.2.2.2.2.1 v.2.2.2.2.2.1 v.2.2.2.2.2.2.1 v.2.2.2.2.2.2.2
def f10_l_FnPlaces.l1.W (n : Nat) : LpW := .of 448 f10_l_FnPlaces.l1.P sg_liflbi f10_l_FnPlaces.l1.A (f10_l_FnPlaces.l1.F n n)
def f10_l_FnPlaces.P : List Arg := [⟨.val, ⟨false, [.sl .shr [.leaf]], [.lst 0 []]⟩⟩, ⟨.val, ⟨false, [.sl .shr [.leaf]], [.lst 0 []]⟩⟩]
def f10_l_FnPlaces.A : RAlt (Bool) := .one ⟨[⟨false, [.leaf], [.bool false]⟩], [none, none]⟩ sg_b
def f10_l_FnPlaces.F (n : Nat) (v : Nat × List T × Nat × List T) := f10_l_FnPlaces n v.1 v.2.1 v.2.2.1 v.2.2.2
noncomputable def f10_l_FnPlaces.O (n : Nat) : Orc := orcOf (E := E) [f15_l_r8Long.w, f17_l_r8At.w, f16_s_R8Plain.w, f58_i_ReadAt.w, f59_i_PlayAt.w, f60_s_R8Whole.w, f61_s_PlayAt.w, f21_i_SameNumber.w] [f10_l_FnPlaces.l0.W n, f10_l_FnPlaces.l1.W n] n
theorem f10_l_FnPlaces.l0.ok (n : Nat) : LpOk (f10_l_FnPlaces.O n) E (evalFn E n) n (keepAt 10) (.loop (loopAt c10 0)) :=
  lp_pure f10_l_FnPlaces.l0.P sg_llilili f10_l_FnPlaces.l0.A (f10_l_FnPlaces.l0.F n) (orcOf_cf _ _ n) (lpOk_of (bs := []) (by kernel_rfl) .nil) (fun _ => rfl) (fun _ _ => by kernel_rfl) (fun _ _ _ => by kernel_rfl)
theorem f10_l_FnPlaces.l1.ok (n : Nat) : LpOk (f10_l_FnPlaces.O n) E (evalFn E n) n (keepAt 10) (.loop (loopAt c10 1)) :=
  lp_pure f10_l_FnPlaces.l1.P sg_liflbi f10_l_FnPlaces.l1.A (f10_l_FnPlaces.l1.F n) (orcOf_cf _ _ n) (lpOk_of (bs := []) (by kernel_rfl) .nil) (fun _ => rfl) (fun _ _ => by kernel_rfl) (fun _ _ _ => by kernel_rfl)
theorem f10_l_FnPlaces.ok : ∀ n v x, f10_l_FnPlaces.F n v = some x → evalFn E n 10 (flAs f10_l_FnPlaces.P (sg_ll.pk v)) = some (f10_l_FnPlaces.A.enc x) :=
  fn_pure (modes := (fdAt 10).ms) (outs := (fdAt 10).os) (results := (fdAt 10).rs) f10_l_FnPlaces.O (c := c10) (keep := keepAt 10) (by kernel_rfl) (fun n => orcOf_cf _ _ n) (fun n => lpOk_of (bs := [loopAt c10 0, loopAt c10 1]) (by kernel_rfl) (.cons (f10_l_FnPlaces.l0.ok n) (.cons (f10_l_FnPlaces.l1.ok n) .nil))) (fun _ => rfl) (fun _ _ => by kernel_rfl)
noncomputable def f10_l_FnPlaces.w : FnW E := fnW 10 f10_l_FnPlaces.P sg_ll f10_l_FnPlaces.A f10_l_FnPlaces.F f10_l_FnPlaces.ok
end Go.Proofs.Ytjkhhalnlodinaa.D
end
section
/- FnPlaces, in plain Lean. -/
namespace Go.Proofs.Ytjkhhalnlodinaa.D
open Go Go.Desk
set_option linter.unusedVariables false
theorem s_from (n l : Nat) (c : List T) : f90_s_l00From (n + 1) l c = some (l, c, 0, 0) := by rw [f90_s_l00From]
theorem s_next (n : Nat) {bs : List Int} (hb : Bytes bs) {a : Int} (h0 : 0 ≤ a) (h1 : a ≤ 1125899906842624) (sd : Int) :
    ∃ r sd', (0 ≤ r ∧ r ≤ 255) ∧ f163_s_l00Srcnext (n + 1) bs.length (its .u8 bs) a sd = some (r, bs.length, its .u8 bs, a + 1, sd') := by
  rw [f163_s_l00Srcnext]
  rw [show IntKind.i64.wrap (a + 1) = a + 1 by rw [wrap64] <;> omega]
  cases h : decide (a < (bs.length : Int))
  · simp only [br_f]
    cases decide (a + 1 ≤ (bs.length : Int))
    · exact ⟨_, _, and255 _, rfl⟩
    · exact ⟨0, _, by omega, rfl⟩
  · simp only [decide_eq_true_eq] at h
    obtain ⟨i, rfl⟩ := Int.eq_ofNat_of_zero_le h0
    have hi : i < bs.length := by omega
    have hr := hb (bs[i]) (List.getElem_mem _)
    simp only [br_t, in_dec hi, Int.toNat_natCast, okAt_its hi, Bool.and_self, gd_t, iAt_its]
    rw [show bs.getD i 0 = bs[i] by simp [List.getD, hi], show IntKind.i64.wrap bs[i] = bs[i] by rw [wrap64] <;> omega]
    cases decide ((i : Int) + 1 ≤ (bs.length : Int))
    · exact ⟨_, _, and255 _, rfl⟩
    · exact ⟨_, _, hr, rfl⟩
theorem s_pick (n : Nat) {bs : List Int} (hb : Bytes bs) {a : Int} (h0 : 0 ≤ a) (h1 : a ≤ 1125899906842622) (sd k : Int) :
    ∃ r a' sd', (0 ≤ r ∧ (1 < k → r < k) ∧ (k ≤ 1 → r = 0)) ∧ (a ≤ a' ∧ a' ≤ a + 2) ∧ f97_s_l00Srcpick (n + 2) bs.length (its .u8 bs) a sd k = some (r, bs.length, its .u8 bs, a', sd') := by
  rw [f97_s_l00Srcpick]
  by_cases hk : k ≤ 1
  · rw [decide_eq_true hk]; exact ⟨0, a, sd, by omega, by omega, rfl⟩
  rw [decide_eq_false hk]
  obtain ⟨r, s1, hr, e1⟩ := s_next n hb h0 (by omega) sd
  simp only [br_f, e1, bd_s]
  have hk0 : (!decide (k = 0)) = true := by simp; omega
  by_cases hk2 : k > 200
  · rw [decide_eq_true hk2]
    obtain ⟨r', s2, hr', e2⟩ := s_next n hb (a := a + 1) (by omega) (by omega) s1
    simp only [br_t, e2, bd_s, hk0, gd_t]
    rw [show IntKind.i64.wrap (r * 256) = r * 256 by rw [wrap64] <;> omega, show IntKind.i64.wrap (r * 256 + r') = r * 256 + r' by rw [wrap64] <;> omega]
    refine ⟨_, _, _, ?_, ?_, rfl⟩
    · rw [Int.tmod_eq_emod_of_nonneg (by omega)]
      have := Int.emod_nonneg (r * 256 + r') (show k ≠ 0 by omega)
      have := Int.emod_lt_of_pos (r * 256 + r') (show 0 < k by omega)
      omega
    · omega
  · rw [decide_eq_false hk2]
    simp only [br_f, hk0, gd_t]
    refine ⟨_, _, _, ?_, ?_, rfl⟩
    · rw [Int.tmod_eq_emod_of_nonneg (by omega)]
      have := Int.emod_nonneg r (show k ≠ 0 by omega)
      have := Int.emod_lt_of_pos r (show 0 < k by omega)
      omega
    · omega
theorem s_one (n : Nat) {bs : List Int} (hb : Bytes bs) {a : Int} (h0 : 0 ≤ a) (h1 : a ≤ 1125899906842622) (sd k : Int) :
    ∃ r a' sd', (a ≤ a' ∧ a' ≤ a + 2) ∧ f158_s_l00Srcone (n + 3) bs.length (its .u8 bs) a sd k = some (r, bs.length, its .u8 bs, a', sd') := by
  obtain ⟨r, a', s', -, ha, e⟩ := s_pick n hb h0 h1 sd k
  rw [f158_s_l00Srcone, e]
  exact ⟨_, _, _, ha, rfl⟩
theorem s_plain (n : Nat) {bs : List Int} (hb : Bytes bs) {a : Int} (h0 : 0 ≤ a) (h1 : a ≤ 1125899906842620) (sd : Int) :
    ∃ x a' sd', Plain x ∧ (a ≤ a' ∧ a' ≤ a + 4) ∧ f91_s_l01DrawPlain (n + 4) bs.length (its .u8 bs) a sd = some (x, bs.length, its .u8 bs, a', sd') := by
  obtain ⟨r, a1, s1, hr, ha, e⟩ := s_pick (n + 1) hb h0 (by omega) sd 129
  obtain ⟨b, a2, s2, ha2, e2⟩ := s_one n hb (a := a1) (by omega) (by omega) s1 4
  rw [f91_s_l01DrawPlain, e]
  simp only [bd_s, e2]
  rw [show IntKind.i64.wrap (r - 64) = r - 64 by rw [wrap64] <;> omega]
  cases b
  · exact ⟨_, a2, s2, ⟨r - 64, by omega, .inr rfl⟩, by omega, rfl⟩
  · exact ⟨_, a2, s2, ⟨r - 64, by omega, .inl rfl⟩, by omega, rfl⟩
theorem s_r8plain_loop (n : Nat) {bs : List Int} (hb : Bytes bs) (k : Nat) : ∀ (j m : Nat) (a sd : Int) (acc : List Nat), 0 ≤ a → a + 4 * (j : Int) ≤ 1125899906842000 → k = acc.length + j → k ≤ 1000 → j < m → (∀ x ∈ acc, Plain x) →
    ∃ ys, ys.length = k ∧ (∀ x ∈ ys, Plain x) ∧
      (∃ u, f16_s_R8Plain.l0 (n + 4) m (k : Int) bs.length (its .u8 bs) a sd acc.length (fls .f32 acc) (acc.length : Int) = some u ∧ u = (ys.length, fls .f32 ys)) := by
  intro j
  induction j with
  | zero =>
    intro m a sd acc h0 h1 hl hk hm hw
    obtain ⟨m, rfl⟩ : ∃ k, m = k + 1 := ⟨m - 1, by omega⟩
    rw [f16_s_R8Plain.l0, decide_eq_false (show ¬ ((acc.length : Int) < (k : Int)) by omega)]
    exact ⟨acc, by omega, hw, _, rfl, rfl⟩
  | succ j ih =>
    intro m a sd acc h0 h1 hl hk hm hw
    obtain ⟨m, rfl⟩ : ∃ k, m = k + 1 := ⟨m - 1, by omega⟩
    obtain ⟨x, a1, s1, hx, ha, e⟩ := s_plain n hb h0 (by omega) sd
    rw [f16_s_R8Plain.l0, decide_eq_true (show ((acc.length : Int) < (k : Int)) by omega)]
    simp only [br_t, e, bd_s, push_ok (show acc.length < 2147483648 by omega), gd_t, push_fls]
    rw [wrap_len (z := x) (by omega), show acc.length + 1 = (acc ++ [x]).length by simp]
    exact ih m a1 s1 (acc ++ [x]) (by omega) (by omega) (by simp; omega) hk (by omega) (by
        intro y hy; simp only [List.mem_append, List.mem_singleton] at hy; rcases hy with hy | rfl
        · exact hw y hy
        · exact hx)
theorem s_r8plain (n : Nat) {bs : List Int} (hb : Bytes bs) (k : Nat) (hk : k ≤ 1000) (hn : k < n) : ∃ xs, xs.length = k ∧ (∀ x ∈ xs, Plain x) ∧ f16_s_R8Plain (n + 5) bs.length (its .u8 bs) (k : Int) = some (xs.length, fls .f32 xs) := by
  obtain ⟨ys, hy, hw, u, e, rfl⟩ := s_r8plain_loop n hb k k (n + 4) 0 0 [] (by omega) (by omega) (by simp) hk (by omega) (by simp)
  rw [f16_s_R8Plain, s_from]
  have e : f16_s_R8Plain.l0 (n + 4) (n + 4) (k : Int) bs.length (its .u8 bs) 0 0 0 (reps 0 [(T.flt FloatKind.f32 0)]) 0 = some (ys.length, fls .f32 ys) := e
  refine ⟨ys, hy, hw, ?_⟩
  simp only [bd_s, e]

theorem l_long (n : Nat) (bs cs : List Int) : f15_l_r8Long (n + 1) bs.length (its .u8 bs) cs.length (its .u8 cs) = some (decide (48 < bs.length ∨ 48 < cs.length)) := by
  rw [f15_l_r8Long]
  by_cases h : 48 < bs.length
  · rw [decide_eq_true (show (bs.length : Int) > 48 by omega), decide_eq_true (Or.inl h)]; rfl
  · rw [decide_eq_false (show ¬ (bs.length : Int) > 48 by omega), br_f]
    congr 1
    simp [h]; omega
theorem l_at (n : Nat) {bs : List Int} (hb : Bytes bs) {i k : Int} (hi : 0 ≤ i) (hk : 1 ≤ k) : ∃ r, (0 ≤ r ∧ r < k) ∧ f17_l_r8At (n + 1) bs.length (its .u8 bs) i k = some r := by
  rw [f17_l_r8At]
  by_cases h : k ≤ 1
  · rw [decide_eq_true h]; exact ⟨0, by omega, rfl⟩
  rw [decide_eq_false h]
  by_cases h2 : i ≥ (bs.length : Int)
  · rw [decide_eq_true h2]; exact ⟨0, by omega, rfl⟩
  rw [decide_eq_false h2]
  obtain ⟨i, rfl⟩ := Int.eq_ofNat_of_zero_le hi
  have hi : i < bs.length := by omega
  have hr := hb (bs[i]) (List.getElem_mem _)
  have hk0 : (!decide (k = 0)) = true := by simp; omega
  simp only [br_f, in_dec hi, Int.toNat_natCast, okAt_its hi, Bool.and_self, gd_t, iAt_its, hk0]
  rw [show bs.getD i 0 = bs[i] by simp [List.getD, hi], show IntKind.i64.wrap bs[i] = bs[i] by rw [wrap64] <;> omega]
  refine ⟨_, ?_, rfl⟩
  rw [Int.tmod_eq_emod_of_nonneg (by omega)]
  have := Int.emod_nonneg bs[i] (show k ≠ 0 by omega)
  have := Int.emod_lt_of_pos bs[i] (show 0 < k by omega)
  omega
theorem i_same (n : Nat) {x y : Nat} (hx : W32 x) (hy : W32 y) : f21_i_SameNumber (n + 2) x y = some (x == y) := by
  rw [f21_i_SameNumber]
  simp only [fne_nan]
  cases hn : isNaN .f32 x
  · cases hm : isNaN .f32 y
    · simp only [br_f]
      have e1 : ∀ z, isNaN .f32 z = false → xF32bits (n + 1) z = some (z : Int) := fun z hz => by simp [xF32bits, hz]
      simp only [e1 x hn, e1 y hm, bd_s, Option.some.injEq]
      rw [Bool.eq_iff_iff]; simp; constructor <;> omega
    · simp only [br_f, br_t]
      have : x ≠ y := fun e => by rw [e, hm] at hn; cases hn
      simp [this]
  · cases hm : isNaN .f32 y
    · simp only [br_f, br_t]
      have : x ≠ y := fun e => by rw [e, hm] at hn; cases hn
      simp [this]
    · simp only [br_t]
      have : x = y := by rw [← hx.2, ← hy.2, canon_nan hn, canon_nan hm]
      simp [this]

theorem s_few (n k : Nat) (l : List T) : f129_s_l01Few (n + 1) k l = some (decide ((k : Int) ≤ 256)) := by rw [f129_s_l01Few]
theorem i_few (n k : Nat) (l : List T) : f92_i_areSamples (n + 1) k l = some (decide ((k : Int) ≤ 256)) := by rw [f92_i_areSamples]

theorem s_in (n : Nat) (a b c : Int) : f130_s_l00In (n + 1) a b c = some (decide (b ≤ a ∧ a ≤ c)) := by
  rw [f130_s_l00In]
  by_cases h : b ≤ a <;> simp [br, h]
theorem i_in (n : Nat) (a b c : Int) : f93_i_within (n + 1) a b c = some (decide (b ≤ a ∧ a ≤ c)) := by
  rw [f93_i_within]
  by_cases h : b ≤ a <;> simp [br, h]

def pk (j : Nat) : Nat := fdiv .f64 (FloatKind.f64.nearest (j : Int)) 4625196817309499392
def uk (j : Nat) : Nat := match fltToFlt .f64 (fsub .f64 (pk j) (FloatKind.f64.nearest ((j / 16 : Nat) : Int))) .f32 with
  | some y => y
  | none => 0
def pkOk (j : Nat) : Bool := (fltToInt .f64 (pk j) .i64 == some ((j / 16 : Nat) : Int)) && (integralF .down (pk j) == FloatKind.f64.nearest ((j / 16 : Nat) : Int)) && fge .f64 (pk j) 0 &&
  (fltToFlt .f64 (fsub .f64 (pk j) (FloatKind.f64.nearest ((j / 16 : Nat) : Int))) .f32 == some (uk j)) && (fltToInt .f64 (FloatKind.f64.nearest ((j / 16 : Nat) : Int)) .i64 == some ((j / 16 : Nat) : Int)) &&
  (feq .f64 (FloatKind.f64.nearest ((j / 16 : Nat) : Int)) 0 == decide (j / 16 = 0)) && ((List.range 10).all fun N => fle .f64 (pk j) (FloatKind.f64.nearest (N : Int)) == decide (j ≤ 16 * N))
def wholeOk (i : Nat) : Bool := (pk (16 * i) == FloatKind.f64.nearest (i : Int)) && (uk (16 * i) == 0) && (fadd .f64 (FloatKind.f64.nearest (i : Int)) 4607182418800017408 == FloatKind.f64.nearest ((i : Int) + 1)) &&
  (fadd .f64 (FloatKind.f64.nearest (i : Int)) 4602678819172646912 == pk (16 * i + 8)) && (uk (16 * i + 8) == 1056964608)
def stepOk (m : Nat) : Bool := (fadd .f64 4598175219545276416 (pk m) == pk (4 + m)) && (fadd .f64 (pk (4 + m)) (pk m) == pk (4 + 2 * m)) &&
  (fadd .f64 4598175219545276416 (fmul .f64 (FloatKind.f64.nearest 0) (pk m)) == 4598175219545276416) && (fadd .f64 4598175219545276416 (fmul .f64 (FloatKind.f64.nearest 1) (pk m)) == pk (4 + m)) &&
  (fadd .f64 4598175219545276416 (fmul .f64 (FloatKind.f64.nearest 2) (pk m)) == pk (4 + 2 * m)) && feq .f64 (fsub .f64 (pk m) (pk m)) 0
theorem pk_tab : ∀ j, j < 160 → pkOk j = true := by decide +kernel
theorem whole_tab : ∀ i, i < 10 → wholeOk i = true := by decide +kernel
theorem step_tab : ∀ m, m < 16 → stepOk m = true := by decide +kernel
theorem pk_four : pk 4 = 4598175219545276416 := by decide +kernel
theorem pk_zero : pk 0 = 0 := by decide +kernel
theorem place (k : Nat) (h : k < 160) : fltToInt .f64 (pk k) .i64 = some ((k / 16 : Nat) : Int) ∧ integralF .down (pk k) = FloatKind.f64.nearest ((k / 16 : Nat) : Int) ∧ fge .f64 (pk k) 0 = true ∧
    fltToFlt .f64 (fsub .f64 (pk k) (FloatKind.f64.nearest ((k / 16 : Nat) : Int))) .f32 = some (uk k) ∧ fltToInt .f64 (FloatKind.f64.nearest ((k / 16 : Nat) : Int)) .i64 = some ((k / 16 : Nat) : Int) ∧
    (feq .f64 (FloatKind.f64.nearest ((k / 16 : Nat) : Int)) 0 = decide (k / 16 = 0)) ∧ (∀ N : Nat, N < 10 → fle .f64 (pk k) (FloatKind.f64.nearest (N : Int)) = decide (k ≤ 16 * N)) := by
  have := pk_tab k h
  unfold pkOk at this
  simp only [Bool.and_eq_true, beq_iff_eq, List.all_eq_true, List.mem_range] at this
  obtain ⟨⟨⟨⟨⟨⟨h1, h2⟩, h3⟩, h4⟩, h5⟩, h6⟩, h7⟩ := this
  exact ⟨h1, h2, h3, h4, h5, h6, h7⟩
theorem whole_at (i : Nat) (h : i < 10) : pk (16 * i) = FloatKind.f64.nearest (i : Int) ∧ uk (16 * i) = 0 ∧ fadd .f64 (FloatKind.f64.nearest (i : Int)) 4607182418800017408 = FloatKind.f64.nearest ((i : Int) + 1) ∧
    fadd .f64 (FloatKind.f64.nearest (i : Int)) 4602678819172646912 = pk (16 * i + 8) ∧ uk (16 * i + 8) = 1056964608 := by
  have := whole_tab i h
  unfold wholeOk at this
  simp only [Bool.and_eq_true, beq_iff_eq] at this
  obtain ⟨⟨⟨⟨h1, h2⟩, h3⟩, h4⟩, h5⟩ := this
  exact ⟨h1, h2, h3, h4, h5⟩
/-- the sample next to a place -/
def sampM (xs : List Nat) (i : Int) : Nat := xs.getD (min (max 0 i) ((xs.length : Int) - 1)).toNat 0
theorem sampM_mem {xs : List Nat} (h : 1 ≤ xs.length) (i : Int) : sampM xs i ∈ xs := by
  unfold sampM
  obtain ⟨j, hj⟩ := Int.eq_ofNat_of_zero_le (show 0 ≤ min (max 0 i) ((xs.length : Int) - 1) by omega)
  have hjl : j < xs.length := by omega
  rw [hj, Int.toNat_natCast]
  have : xs.getD j 0 = xs[j] := by simp [List.getD, hjl]
  rw [this]; exact List.getElem_mem hjl
theorem sampM_at {xs : List Nat} {j : Nat} (h : j < xs.length) : sampM xs (j : Int) = xs.getD j 0 := by
  unfold sampM
  rw [show min (max 0 (j : Int)) ((xs.length : Int) - 1) = (j : Int) by omega, Int.toNat_natCast]
theorem s_sample (n : Nat) (xs : List Nat) (i : Int) (h1 : 1 ≤ xs.length) (h2 : xs.length ≤ 256) : f173_s_l06Sample (n + 2) xs.length (fls .f32 xs) i = some (sampM xs i) := by
  have hmin : ∀ a b : Int, f187_s_l00Min (n + 1) a b = some (min a b) := by
    intro a b; rw [f187_s_l00Min]
    by_cases h : a < b
    · rw [decide_eq_true h, br_t, Int.min_eq_left (by omega)]
    · rw [decide_eq_false h, br_f, Int.min_eq_right (by omega)]
  have hmax : ∀ a b : Int, f186_s_l00Max (n + 1) a b = some (max a b) := by
    intro a b; rw [f186_s_l00Max]
    by_cases h : a > b
    · rw [decide_eq_true h, br_t, Int.max_eq_left (by omega)]
    · rw [decide_eq_false h, br_f, Int.max_eq_right (by omega)]
  rw [f173_s_l06Sample, hmin, show IntKind.i64.wrap ((xs.length : Int) - 1) = (xs.length : Int) - 1 by rw [wrap64] <;> omega]
  simp only [bd_s, hmax]
  obtain ⟨j, hj⟩ := Int.eq_ofNat_of_zero_le (show 0 ≤ max 0 (min i ((xs.length : Int) - 1)) by omega)
  have hjl : j < xs.length := by omega
  rw [hj, in_dec hjl, Int.toNat_natCast, okAt_fls hjl, fAt_fls]
  show some _ = some (sampM xs i)
  unfold sampM
  congr 2
  omega
theorem i_sample (n : Nat) (xs : List Nat) (y : Nat) (q : Nat) (c : Int) (hq : fltToInt .f64 y .i64 = some (q : Int)) (hq2 : q ≤ 1024) (hc : -1 ≤ c ∧ c ≤ 2) (h1 : 1 ≤ xs.length) (h2 : xs.length ≤ 256) : f172_i_readAt1 (n + 1) c xs.length (fls .f32 xs) y = some (sampM xs ((q : Int) + c)) := by
  rw [f172_i_readAt1, hq]
  simp only [bd_s]
  rw [show IntKind.i64.wrap ((xs.length : Int) - 1) = (xs.length : Int) - 1 by rw [wrap64] <;> omega, show IntKind.i64.wrap ((q : Int) + c) = (q : Int) + c by rw [wrap64] <;> omega]
  have e : (if (xs.length : Int) - 1 < (if (q : Int) + c > 0 then (q : Int) + c else 0) then (xs.length : Int) - 1 else (if (q : Int) + c > 0 then (q : Int) + c else 0)) = min (max 0 ((q : Int) + c)) ((xs.length : Int) - 1) := by
    split <;> split <;> omega
  rw [e]
  unfold sampM
  obtain ⟨j, hj⟩ := Int.eq_ofNat_of_zero_le (show 0 ≤ min (max 0 ((q : Int) + c)) ((xs.length : Int) - 1) by omega)
  have hjl : j < xs.length := by omega
  rw [hj, in_dec hjl, Int.toNat_natCast, okAt_fls hjl, fAt_fls]
  rfl
def curveM (a b p q u : Nat) : Nat := fadd .f32 (fmul .f32 (fadd .f32 (fmul .f32 (fadd .f32 (fmul .f32 (fadd .f32 (fmul .f32 1069547520 (fsub .f32 a b)) (fmul .f32 1056964608 (fsub .f32 q p))) u) (fsub .f32 (fadd .f32 (fsub .f32 p (fmul .f32 1075838976 a)) (fmul .f32 1073741824 b)) (fmul .f32 1056964608 q))) u) (fmul .f32 1056964608 (fsub .f32 b p))) u) a
def readM (kind : Int) (a b p q u : Nat) : Nat := if kind = 0 then (if fge .f32 u 1056964608 = true then b else a) else if kind = 1 then fadd .f32 a (fmul .f32 u (fsub .f32 b a)) else curveM a b p q u
/-- what a reading gives at so many sixteenths -/
def rdM (kind : Int) (xs : List Nat) (k : Nat) : Nat := readM kind (sampM xs ((k / 16 : Nat) : Int)) (sampM xs (((k / 16 : Nat) : Int) + 1)) (sampM xs (((k / 16 : Nat) : Int) + (-1))) (sampM xs (((k / 16 : Nat) : Int) + 2)) (uk k)
theorem w32_rd (kind : Int) (xs : List Nat) (k : Nat) (hx : ∀ x ∈ xs, W32 x) (h1 : 1 ≤ xs.length) : W32 (rdM kind xs k) := by
  unfold rdM readM
  split
  · split
    · exact hx _ (sampM_mem h1 _)
    · exact hx _ (sampM_mem h1 _)
  · split
    · exact w32_fadd _ _
    · exact w32_fadd _ _
theorem i_readat (n k : Nat) (kind : Int) (hk0 : 0 ≤ kind ∧ kind < 3) (xs : List Nat) (h1 : 1 ≤ xs.length) (h2 : xs.length ≤ 20) (hk : k < 160) : f126_i_readAt (n + 3) kind xs.length (fls .f32 xs) (pk k) = some (rdM kind xs k) := by
  obtain ⟨p1, p2, p3, p4, p5, p8, -⟩ := place k hk
  have f1 : f171_mathFloor (n + 2) (pk k) = some (FloatKind.f64.nearest ((k / 16 : Nat) : Int)) := by
    rw [f171_mathFloor]
    show bd (some (integralF .down (pk k))) _ = _
    rw [p2]; rfl
  have i0 : ∀ c : Int, -1 ≤ c ∧ c ≤ 2 → f172_i_readAt1 (n + 2) c xs.length (fls .f32 xs) (FloatKind.f64.nearest ((k / 16 : Nat) : Int)) = some (sampM xs (((k / 16 : Nat) : Int) + c)) := fun c hc => i_sample (n + 1) xs _ _ c p5 (by omega) hc h1 (by omega)
  have e0 : ((k / 16 : Nat) : Int) + 0 = ((k / 16 : Nat) : Int) := Int.add_zero _
  have q00 : ((0 : Int) == 0) = true := rfl
  have q10 : ((1 : Int) == 0) = false := rfl
  have q11 : ((1 : Int) == 1) = true := rfl
  have q20 : ((2 : Int) == 0) = false := rfl
  have q21 : ((2 : Int) == 1) = false := rfl
  have d10 : ¬ ((1 : Int) = 0) := by decide
  have d20 : ¬ ((2 : Int) = 0) := by decide
  have d21 : ¬ ((2 : Int) = 1) := by decide
  have hkk : kind = 0 ∨ kind = 1 ∨ kind = 2 := by omega
  unfold rdM
  rw [f126_i_readAt]
  simp only [bd_s, f1, p8]
  cases hz : decide (k / 16 = 0)
  · simp only [br_f, p4, bd_s, i0 0 (by omega), i0 1 (by omega), i0 (-1) (by omega), i0 2 (by omega), e0]
    rcases hkk with rfl | rfl | rfl
    · simp only [q00, br_t, readM, if_true]
      cases fge .f32 (uk k) 1056964608 <;> rfl
    · simp only [q10, q11, br_t, br_f, readM, if_neg d10, if_true]
    · simp only [q20, q21, br_f, readM, if_neg d20, if_neg d21]; rfl
  · have hz : k / 16 = 0 := by simpa using hz
    have n0 : FloatKind.f64.nearest ((0 : Nat) : Int) = 0 := by decide
    rw [hz, n0] at p4 i0
    rw [hz] at e0
    simp only [br_t, p4, bd_s, i0 0 (by omega), i0 1 (by omega), i0 (-1) (by omega), i0 2 (by omega), e0, hz]
    rcases hkk with rfl | rfl | rfl
    · simp only [q00, br_t, readM, if_true]
      cases fge .f32 (uk k) 1056964608 <;> rfl
    · simp only [q10, q11, br_t, br_f, readM, if_neg d10, if_true]
    · simp only [q20, q21, br_f, readM, if_neg d20, if_neg d21]; rfl
theorem i_isplace (n k : Nat) (xs : List Nat) (h1 : 1 ≤ xs.length) (h2 : xs.length ≤ 10) (hk : k < 160) : f125_i_isPlaceOf (n + 1) xs.length (fls .f32 xs) (pk k) = some (decide (k ≤ 16 * (xs.length - 1))) := by
  obtain ⟨p1, p2, p3, p4, p5, p8, p9⟩ := place k hk
  rw [f125_i_isPlaceOf, p3, show IntKind.i64.wrap ((xs.length : Int) - 1) = ((xs.length - 1 : Nat) : Int) by rw [wrap64] <;> omega, p9 _ (by omega)]
  rfl
theorem s_read (n k : Nat) (kind : Int) (hk0 : 0 ≤ kind ∧ kind < 3) (xs : List Nat) (h1 : 1 ≤ xs.length) (h2 : xs.length ≤ 10) (hk : k < 160) : f131_s_l06Read (n + 3) kind xs.length (fls .f32 xs) (pk k) = some (if k ≤ 16 * (xs.length - 1) then (rdM kind xs k, true) else (0, false)) := by
  obtain ⟨p1, p2, p3, p4, p5, p8, p9⟩ := place k hk
  have w1 : IntKind.i64.wrap (((k / 16 : Nat) : Int) + 1) = ((k / 16 : Nat) : Int) + 1 := by rw [wrap64] <;> omega
  have w2 : IntKind.i64.wrap (((k / 16 : Nat) : Int) - 1) = ((k / 16 : Nat) : Int) + (-1) := by rw [wrap64] <;> omega
  have w3 : IntKind.i64.wrap (((k / 16 : Nat) : Int) + 2) = ((k / 16 : Nat) : Int) + 2 := by rw [wrap64] <;> omega
  have q00 : ((0 : Int) == 0) = true := rfl
  have q10 : ((1 : Int) == 0) = false := rfl
  have q11 : ((1 : Int) == 1) = true := rfl
  have q20 : ((2 : Int) == 0) = false := rfl
  have q21 : ((2 : Int) == 1) = false := rfl
  have d10 : ¬ ((1 : Int) = 0) := by decide
  have d20 : ¬ ((2 : Int) = 0) := by decide
  have d21 : ¬ ((2 : Int) = 1) := by decide
  have hkk : kind = 0 ∨ kind = 1 ∨ kind = 2 := by omega
  rw [f131_s_l06Read, p3, show IntKind.i64.wrap ((xs.length : Int) - 1) = ((xs.length - 1 : Nat) : Int) by rw [wrap64] <;> omega, p9 _ (by omega)]
  by_cases hc : k ≤ 16 * (xs.length - 1)
  · rw [decide_eq_true hc, if_pos hc]
    simp only [br_t, Bool.not_true, br_f, p1, bd_s, p4, s_sample (n) xs _ h1 (show xs.length ≤ 256 by omega), w1, w2, w3]
    unfold rdM
    rcases hkk with rfl | rfl | rfl
    · simp only [q00, br_t, readM, if_true]
      cases fge .f32 (uk k) 1056964608 <;> rfl
    · simp only [q10, q11, br_t, br_f, readM, if_neg d10, if_true]
    · simp only [q20, q21, br_f, readM, if_neg d20, if_neg d21]; rfl
  · rw [decide_eq_false hc, if_neg hc]; rfl
theorem i_isread (n : Nat) (kind : Int) (h : 0 ≤ kind ∧ kind < 3) : f124_i_isReading (n + 2) kind = some true := by
  rw [f124_i_isReading, i_in, decide_eq_true (by omega)]; rfl
theorem i_ReadAt (n k : Nat) (kind : Int) (hk0 : 0 ≤ kind ∧ kind < 3) (xs : List Nat) (h1 : 1 ≤ xs.length) (h2 : xs.length ≤ 10) (hk : k ≤ 16 * (xs.length - 1)) : f58_i_ReadAt (n + 4) kind xs.length (fls .f32 xs) (pk k) = some (rdM kind xs k, true) := by
  rw [f58_i_ReadAt]
  simp only [i_isread (n + 1) kind hk0, bd_s, Bool.not_true, br_f, i_few, decide_eq_true (show (xs.length : Int) ≤ 256 by omega), i_isplace (n + 2) k xs h1 h2 (by omega), decide_eq_true hk, i_readat n k kind hk0 xs h1 (by omega) (by omega)]
/-- places that are reached by equal steps -/
def Steps (step : Nat) : Nat → List Nat → Prop
  | _, [] => True
  | w, j :: js => w = pk j ∧ j < 160 ∧ Steps step (fadd .f64 w step) js
def playM (kind : Int) (xs : List Nat) : List Nat → Option (List Nat)
  | [] => some []
  | j :: js => if j ≤ 16 * (xs.length - 1) then (playM kind xs js).map (rdM kind xs j :: ·) else none
theorem play_length {kind : Int} {xs : List Nat} : ∀ {js rs : List Nat}, playM kind xs js = some rs → rs.length = js.length
  | [], rs, h => by cases h; rfl
  | j :: js, rs, h => by
    unfold playM at h
    split at h
    · cases hp : playM kind xs js with
      | none => rw [hp] at h; cases h
      | some qs => rw [hp] at h; cases h; simp [play_length hp]
    · cases h
def endM (acc : List Nat) : Option (List Nat) → (Nat × List T × Bool) ⊕ (Nat × List T)
  | none => Sum.inl (0, [], false)
  | some rs => Sum.inr ((acc ++ rs).length, fls .f32 (acc ++ rs))
theorem i_play_loop (n : Nat) (kind : Int) (hk0 : 0 ≤ kind ∧ kind < 3) (xs : List Nat) (h1 : 1 ≤ xs.length) (h2 : xs.length ≤ 10) (step : Nat) : ∀ (js : List Nat) (w : Nat) (acc : List Nat) (m : Nat), Steps step w js → acc.length + js.length < 1000 → js.length < m →
    f59_i_PlayAt.l0 (n + 3) m kind xs.length (fls .f32 xs) w step (js.length : Int) acc.length (fls .f32 acc) = some (endM acc (playM kind xs js)) := by
  intro js
  induction js with
  | nil =>
    intro w acc m _ _ hm
    obtain ⟨m, rfl⟩ : ∃ k, m = k + 1 := ⟨m - 1, by simp at hm; omega⟩
    rw [f59_i_PlayAt.l0]
    simp [playM, endM, br]
  | cons j js ih =>
    intro w acc m hs hl hm
    obtain ⟨m, rfl⟩ : ∃ k, m = k + 1 := ⟨m - 1, by simp at hm; omega⟩
    obtain ⟨rfl, hj, hs⟩ := hs
    simp only [List.length_cons] at hl hm ⊢
    rw [f59_i_PlayAt.l0, decide_eq_true (show (((js.length + 1 : Nat) : Int) > 0) by omega), show IntKind.i64.wrap (((js.length + 1 : Nat) : Int) - 1) = (js.length : Int) by rw [wrap64] <;> omega]
    simp only [br_t, i_isplace (n + 2) j xs h1 h2 hj, bd_s]
    unfold playM
    by_cases hc : j ≤ 16 * (xs.length - 1)
    · simp only [decide_eq_true hc, if_pos hc, Bool.not_true, br_f, i_readat n j kind hk0 xs h1 (by omega) hj, bd_s, push_ok (show acc.length < 2147483648 by omega), gd_t, push_fls]
      rw [push_len (z := rdM kind xs j), ih _ _ m hs (by simp; omega) (by omega)]
      cases playM kind xs js with
      | none => rfl
      | some rs => simp [endM]
    · simp only [decide_eq_false hc, if_neg hc, Bool.not_false, br_t]; rfl
theorem s_play_loop (n : Nat) (kind : Int) (hk0 : 0 ≤ kind ∧ kind < 3) (xs : List Nat) (h1 : 1 ≤ xs.length) (h2 : xs.length ≤ 10) (step : Nat) (N : Nat) : ∀ (js : List Nat) (w i : Nat) (acc : List Nat) (m : Nat), Steps step w js → acc.length + js.length < 1000 → i + js.length = N → N < 1000 → js.length < m →
    f61_s_PlayAt.l0 (n + 3) m kind xs.length (fls .f32 xs) step (N : Int) acc.length (fls .f32 acc) w (i : Int) = some (endM acc (playM kind xs js)) := by
  intro js
  induction js with
  | nil =>
    intro w i acc m _ _ hi hN hm
    obtain ⟨m, rfl⟩ : ∃ k, m = k + 1 := ⟨m - 1, by simp at hm; omega⟩
    rw [f61_s_PlayAt.l0, nlt_dec (by simp at hi; omega)]
    simp [playM, endM, br]
  | cons j js ih =>
    intro w i acc m hs hl hi hN hm
    obtain ⟨m, rfl⟩ : ∃ k, m = k + 1 := ⟨m - 1, by simp at hm; omega⟩
    obtain ⟨rfl, hj, hs⟩ := hs
    simp only [List.length_cons] at hl hm hi
    have h0 : ((xs.length : Int) == 0) = false := beq_eq_false_iff_ne.2 (by omega)
    rw [f61_s_PlayAt.l0, lt_dec (show i < N by omega)]
    simp only [br_t, h0, br_f, s_read n j kind hk0 xs h1 h2 hj, bd_s]
    unfold playM
    by_cases hc : j ≤ 16 * (xs.length - 1)
    · simp only [if_pos hc, Bool.not_true, br_f, bd_s, push_ok (show acc.length < 2147483648 by omega), gd_t, push_fls, wrap_succ (show i < 9223372036854775807 by omega)]
      rw [push_len (z := rdM kind xs j), ih _ (i + 1) _ m hs (by simp; omega) (by omega) hN (by omega)]
      cases playM kind xs js with
      | none => rfl
      | some rs => simp [endM]
    · simp only [if_neg hc, Bool.not_false, br_t]; rfl
def ansM : Option (List Nat) → Nat × List T × Bool
  | none => (0, [], false)
  | some rs => (rs.length, fls .f32 rs, true)
theorem i_play (n : Nat) (kind : Int) (hk0 : 0 ≤ kind ∧ kind < 3) (xs : List Nat) (h1 : 1 ≤ xs.length) (h2 : xs.length ≤ 10) (step w : Nat) (js : List Nat) (hs : Steps step w js) (hf : feq .f64 (fsub .f64 step step) 0 = true) (hl : js.length ≤ 100) (hn : 200 < n) :
    f59_i_PlayAt (n + 4) kind xs.length (fls .f32 xs) w step (js.length : Int) = some (ansM (playM kind xs js)) := by
  have e := i_play_loop n kind hk0 xs h1 h2 step js w [] (n + 3) hs (by simp; omega) (by omega)
  have e : f59_i_PlayAt.l0 (n + 3) (n + 3) kind xs.length (fls .f32 xs) w step (js.length : Int) 0 [] = some (endM [] (playM kind xs js)) := e
  have hc : f121_i_isCount (n + 3) (js.length : Int) = some true := by rw [f121_i_isCount, i_in, decide_eq_true (by omega)]; rfl
  have hfin : f127_i_isFinite (n + 3) step = some true := by rw [f127_i_isFinite, hf]
  rw [f59_i_PlayAt]
  simp only [i_isread (n + 1) kind hk0, bd_s, Bool.not_true, br_f, i_few, decide_eq_true (show (xs.length : Int) ≤ 256 by omega), hfin, hc, e]
  cases playM kind xs js with
  | none => rfl
  | some rs => simp [endM, ansM, sm_r]
theorem s_play (n : Nat) (kind : Int) (hk0 : 0 ≤ kind ∧ kind < 3) (xs : List Nat) (h1 : 1 ≤ xs.length) (h2 : xs.length ≤ 10) (step w : Nat) (js : List Nat) (hs : Steps step w js) (hf : feq .f64 (fsub .f64 step step) 0 = true) (hl : js.length ≤ 100) (hn : 200 < n) :
    f61_s_PlayAt (n + 4) kind xs.length (fls .f32 xs) w step (js.length : Int) = some (ansM (playM kind xs js)) := by
  have e := s_play_loop n kind hk0 xs h1 h2 step js.length js w 0 [] (n + 3) hs (by simp; omega) (by omega) (by omega) (by omega)
  have e : f61_s_PlayAt.l0 (n + 3) (n + 3) kind xs.length (fls .f32 xs) step (js.length : Int) 0 (reps 0 [(T.flt FloatKind.f32 0)]) w 0 = some (endM [] (playM kind xs js)) := e
  have hc : f128_s_l06Kind (n + 3) kind = some true := by rw [f128_s_l06Kind, s_in, decide_eq_true (by omega)]; rfl
  have hfin : fne .f64 (fsub .f64 step step) 0 = false := by rw [fne_feq, hf]; rfl
  rw [f61_s_PlayAt]
  simp only [hc, bd_s, Bool.not_true, br_f, s_few, decide_eq_true (show (xs.length : Int) ≤ 256 by omega), hfin, s_in, decide_eq_true (show (0 : Int) ≤ (js.length : Int) ∧ (js.length : Int) ≤ 256 by omega), e]
  cases playM kind xs js with
  | none => rfl
  | some rs => simp [endM, ansM, sm_r]
/-! ### numbers -/
theorem const_bd {x B : Nat} (h : fin32 x = true) (h1 : fle .f32 x (FloatKind.f32.nearest (B : Int)) = true) (h2 : fge .f32 x (FloatKind.f32.nearest (-(B : Int))) = true) (hB : B ≤ 2 * FloatKind.f32.format.binade) : Bd .f32 x B := by
  have hv := fin_val h
  have i1 := int_val (k := .f32) (n := (B : Int)) (by omega)
  have i2 := int_val (k := .f32) (n := -(B : Int)) (by omega)
  have a1 := (fle_val hv i1).1 h1
  have a2 := (fge_val hv i2).1 h2
  rw [Rat.intCast_natCast] at a1
  rw [Rat.intCast_neg, Rat.intCast_natCast] at a2
  exact ⟨_, hv, a2, a1⟩
theorem rep0_zero : Rep0 .f32 (0 : Rat) := by
  have := rep_nat .f32 (Nat.zero_le _)
  rwa [show ((0 : Nat) : Rat) = 0 from rfl] at this
theorem mul_zero {x : Nat} {v : Rat} (hx : Val .f32 x v) : Val .f32 (fmul .f32 x 0) 0 := by
  have e : v * 0 = 0 := Rat.mul_zero v
  obtain ⟨R, r1, r2⟩ := mul_val hx (val_zero .f32) rep0_zero (p2_pos _) (by rw [e]; exact Rat.le_refl) (by rw [e]; decide)
  rw [e] at r2
  exact r1.near_eq r2 (repZ _)
theorem zero_mul {x : Nat} {v : Rat} (hx : Val .f32 x v) : Val .f32 (fmul .f32 0 x) 0 := by
  have e : 0 * v = 0 := Rat.zero_mul v
  obtain ⟨R, r1, r2⟩ := mul_val (val_zero .f32) hx rep0_zero (p2_pos _) (by rw [e]; exact Rat.le_refl) (by rw [e]; decide)
  rw [e] at r2
  exact r1.near_eq r2 (repZ _)
theorem add_zero {t x B : Nat} (ht : Val .f32 t 0) (hx : Bd .f32 x B) (hB : B ≤ 2 * FloatKind.f32.format.binade) : ∃ v, Val .f32 x v ∧ Val .f32 (fadd .f32 t x) v := by
  obtain ⟨v, v1, v2, v3⟩ := hx
  obtain ⟨R, r1, r2⟩ := add_val ht v1 (rep_nat .f32 hB) (nat_top .f32 hB) (by rw [Rat.zero_add]; exact v3) (by rw [Rat.zero_add]; exact v2)
  rw [Rat.zero_add] at r2
  exact ⟨v, v1, r1.near_eq r2 v1.rep⟩
theorem zero_add {t x B : Nat} (ht : Val .f32 t 0) (hx : Bd .f32 x B) (hB : B ≤ 2 * FloatKind.f32.format.binade) : ∃ v, Val .f32 x v ∧ Val .f32 (fadd .f32 x t) v := by
  obtain ⟨v, v1, v2, v3⟩ := hx
  obtain ⟨R, r1, r2⟩ := add_val v1 ht (rep_nat .f32 hB) (nat_top .f32 hB) (by rw [Rat.add_zero]; exact v3) (by rw [Rat.add_zero]; exact v2)
  rw [Rat.add_zero] at r2
  exact ⟨v, v1, r1.near_eq r2 v1.rep⟩
theorem plain_bd {x : Nat} (h : Plain x) : Bd .f32 x 10 := by
  obtain ⟨v, -, -, v3, v4, v5⟩ := h.val
  have h10 : ((10 : Nat) : Rat) = 10 := rfl
  refine ⟨_, fin_val h.fin, ?_, ?_⟩ <;> rw [h10] <;> rcases v5 with e | e <;> rw [e] <;> grind
theorem le100 {B : Nat} (h : B ≤ 100) : B ≤ 2 * FloatKind.f32.format.binade := Nat.le_trans h (Nat.le_trans (by decide : 100 ≤ 16777216) (Nat.le_of_eq binade32.symm))
theorem curve_at {a b c z : Nat} (ha : Plain a) (hb : Plain b) (hc : Plain c) (hz : Plain z) : Val .f32 (curveM a b z c 0) (fval .f32 a) := by
  have ba := plain_bd ha
  have bb := plain_bd hb
  have bc := plain_bd hc
  have bz := plain_bd hz
  have k1 : Bd .f32 1056964608 1 := const_bd (by decide) (by decide) (by decide) (le100 (by decide))
  have k2 : Bd .f32 1073741824 2 := const_bd (by decide) (by decide) (by decide) (le100 (by decide))
  have k3 : Bd .f32 1075838976 3 := const_bd (by decide) (by decide) (by decide) (le100 (by decide))
  have k4 : Bd .f32 1069547520 2 := const_bd (by decide) (by decide) (by decide) (le100 (by decide))
  have hR := (k4.mul (ba.sub bb (le100 (by decide))) (le100 (by decide))).add (k1.mul (bc.sub bz (le100 (by decide))) (le100 (by decide))) (le100 (by decide))
  have hQ := ((bz.sub (k3.mul ba (le100 (by decide))) (le100 (by decide))).add (k2.mul bb (le100 (by decide))) (le100 (by decide))).sub (k1.mul bc (le100 (by decide))) (le100 (by decide))
  have hP := k1.mul (bb.sub bz (le100 (by decide))) (le100 (by decide))
  obtain ⟨r, r1, -, -⟩ := hR
  obtain ⟨q, -, q2⟩ := add_zero (mul_zero r1) hQ (le100 (by decide))
  obtain ⟨p, -, p2_⟩ := add_zero (mul_zero q2) hP (le100 (by decide))
  obtain ⟨v, v1, v2⟩ := add_zero (mul_zero p2_) ba (le100 (by decide))
  rw [v1.inj (fin_val ha.fin)] at v2
  exact v2
theorem half_zero : fge .f32 0 1056964608 = false := by decide
theorem half_half : fge .f32 1056964608 1056964608 = true := by decide
theorem rd_whole (kind : Int) (xs : List Nat) (hp : ∀ x ∈ xs, Plain x) {i : Nat} (h : i < xs.length) (h2 : xs.length ≤ 10) : Val .f32 (rdM kind xs (16 * i)) (fval .f32 (xs.getD i 0)) := by
  have hi : 16 * i / 16 = i := by omega
  have hs : sampM xs ((i : Nat) : Int) = xs.getD i 0 := sampM_at h
  have h1 : 1 ≤ xs.length := by omega
  unfold rdM
  rw [hi, (whole_at i (by omega)).2.1, ← hs]
  have pa := hp _ (sampM_mem h1 ((i : Nat) : Int))
  unfold readM
  split
  · rw [if_neg (by rw [half_zero]; decide)]; exact fin_val pa.fin
  · split
    · obtain ⟨d, d1, -, -⟩ := (plain_bd (hp _ (sampM_mem h1 (((i : Nat) : Int) + 1)))).sub (plain_bd pa) (le100 (by decide))
      obtain ⟨v, v1, v2⟩ := zero_add (zero_mul d1) (plain_bd pa) (le100 (by decide))
      rw [v1.inj (fin_val pa.fin)] at v2
      exact v2
    · exact curve_at pa (hp _ (sampM_mem h1 _)) (hp _ (sampM_mem h1 _)) (hp _ (sampM_mem h1 _))
theorem rd_eq (kind : Int) (xs : List Nat) (hp : ∀ x ∈ xs, Plain x) {i : Nat} (h : i < xs.length) (h2 : xs.length ≤ 10) : fne .f32 (rdM kind xs (16 * i)) (xs.getD i 0) = false := by
  have hm : Plain (xs.getD i 0) := by
    rw [← sampM_at h]; exact hp _ (sampM_mem (by omega) _)
  rw [fne_feq, (feq_val (rd_whole kind xs hp h h2) (fin_val hm.fin)).2 rfl]; rfl
theorem steps_whole : ∀ (k i : Nat), i + k ≤ 9 → Steps 4607182418800017408 (FloatKind.f64.nearest (i : Int)) ((List.range' i k).map (16 * ·))
  | 0, _, _ => trivial
  | k + 1, i, h => by
    obtain ⟨h1, -, h3, -⟩ := whole_at i (by omega)
    rw [List.range'_succ, List.map_cons]
    refine ⟨h1.symm, by omega, ?_⟩
    rw [h3]
    exact steps_whole k (i + 1) (by omega)
theorem play_whole (kind : Int) (xs : List Nat) : ∀ (k i : Nat), i + k ≤ xs.length → playM kind xs ((List.range' i k).map (16 * ·)) = some ((List.range' i k).map fun j => rdM kind xs (16 * j))
  | 0, _, _ => rfl
  | k + 1, i, h => by
    rw [List.range'_succ, List.map_cons, List.map_cons]
    unfold playM
    rw [if_pos (by omega), play_whole kind xs k (i + 1) (by omega)]; rfl
theorem same_loop (n : Nat) (ms : Nat) (ml : List T) (kind : Int) (xs ys : List Nat) (m1 : Nat) (l1 : List T) (hy : ys.length = xs.length) (hl : xs.length ≤ 10) (he : ∀ i, i < xs.length → fne .f32 (ys.getD i 0) (xs.getD i 0) = false) : ∀ (j i m : Nat), i + j = xs.length → j < m →
    f10_l_FnPlaces.l0 n m m1 l1 ms ml (xs.length : Int) xs.length (fls .f32 xs) kind ys.length (fls .f32 ys) (i : Int) = some (Sum.inr (m1, l1, ms, ml, (xs.length : Int), xs.length, fls .f32 xs, kind)) := by
  intro j
  induction j with
  | zero =>
    intro i m hi hm
    obtain ⟨m, rfl⟩ : ∃ k, m = k + 1 := ⟨m - 1, by omega⟩
    rw [f10_l_FnPlaces.l0, nlt_dec (by omega)]; rfl
  | succ j ih =>
    intro i m hi hm
    obtain ⟨m, rfl⟩ : ∃ k, m = k + 1 := ⟨m - 1, by omega⟩
    rw [f10_l_FnPlaces.l0, lt_dec (show i < xs.length by omega), in_dec (show i < ys.length by omega), in_dec (show i < xs.length by omega), Int.toNat_natCast, okAt_fls (show i < ys.length by omega), okAt_fls (show i < xs.length by omega), fAt_fls, fAt_fls, he i (by omega), wrap_succ (show i < 9223372036854775807 by omega)]
    exact ih (i + 1) m (by omega) (by omega)
/-! ### halves -/
theorem p2_m1 : p2 (-1) = 1 / 2 := by
  have h := p2_add 1 (-1)
  rw [show (1 : Int) + -1 = 0 from rfl, p2_zero, p2_one] at h
  grind
theorem val_half : Val .f32 1056964608 (1 / 2) := by
  have h := read_val (k := .f32) (x := 1056964608) (s := false) (m := 8388608) (e := -24) (by decide)
  rw [sg_false] at h
  have e : mv 8388608 (-24) = 1 / 2 := by
    unfold mv
    have h := p2_add 23 (-24)
    rw [show (23 : Int) + -24 = -1 from rfl, p2_m1] at h
    rw [show ((8388608 : Nat) : Rat) = p2 ((23 : Nat) : Int) by rw [p2_nat]]
    exact h.symm
  rwa [e] at h
theorem rep_half (d : Int) (h : d.natAbs ≤ 1000) : Rep .f32 ((d : Rat) / 2) := by
  have := rep_int (k := .f32) (M := d) (e := -1) (by rw [binade32]; omega) (by rw [least32]; decide)
  rw [p2_m1] at this
  rwa [show (d : Rat) * (1 / 2) = (d : Rat) / 2 by grind] at this
theorem val_two32 : Val .f32 1073741824 2 := by
  have h := int_val (k := .f32) (n := 2) (by rw [binade32]; decide)
  rwa [show FloatKind.f32.nearest 2 = 1073741824 by decide] at h
theorem rep1000 : Rep0 .f32 (1000 : Rat) := rep_nat .f32 (B := 1000) (by rw [binade32]; decide)
theorem top1000 : (1000 : Rat) < p2 (topE .f32) := nat_top .f32 (B := 1000) (by rw [binade32]; decide)
theorem int_le {d : Int} {B : Nat} (h : d.natAbs ≤ B) : -(B : Rat) ≤ (d : Rat) ∧ (d : Rat) ≤ (B : Rat) := by
  have h1 : ((-(B : Int) : Int) : Rat) ≤ ((d : Int) : Rat) := Rat.intCast_le_intCast.2 (by omega)
  have h2 : ((d : Int) : Rat) ≤ (((B : Int) : Int) : Rat) := Rat.intCast_le_intCast.2 (by omega)
  rw [Rat.intCast_neg, Rat.intCast_natCast] at h1
  rw [Rat.intCast_natCast] at h2
  exact ⟨h1, h2⟩
theorem half_way {a b : Int} (ha : a.natAbs ≤ 100) (hb : b.natAbs ≤ 100) :
    fne .f32 (fadd .f32 (FloatKind.f32.nearest a) (fmul .f32 1056964608 (fsub .f32 (FloatKind.f32.nearest b) (FloatKind.f32.nearest a)))) (fdiv .f32 (fadd .f32 (FloatKind.f32.nearest a) (FloatKind.f32.nearest b)) 1073741824) = false := by
  have b32 := binade32
  rw [int_sub (by omega) (by omega) (by omega), int_add (by omega) (by omega) (by omega)]
  obtain ⟨d1, d2⟩ := int_le (d := b - a) (B := 200) (by omega)
  obtain ⟨s1, s2⟩ := int_le (d := a + b) (B := 200) (by omega)
  have h200 : ((200 : Nat) : Rat) = 200 := rfl
  rw [h200] at d1 d2 s1 s2
  have e1 : (1 / 2 : Rat) * ((b - a : Int) : Rat) = ((b - a : Int) : Rat) / 2 := by grind
  obtain ⟨R, r1, r2⟩ := mul_val val_half (int_val (k := .f32) (n := b - a) (by omega)) rep1000 top1000 (by rw [e1]; grind) (by rw [e1]; grind)
  rw [e1] at r2
  have m1 := r1.near_eq r2 (rep_half (b - a) (by omega))
  have e2 : (a : Rat) + ((b - a : Int) : Rat) / 2 = ((a + b : Int) : Rat) / 2 := by rw [Rat.intCast_sub, Rat.intCast_add]; grind
  obtain ⟨S, t1, t2⟩ := add_val (int_val (k := .f32) (n := a) (by omega)) m1 rep1000 top1000 (by rw [e2]; grind) (by rw [e2]; grind)
  rw [e2] at t2
  have m2 := t1.near_eq t2 (rep_half (a + b) (by omega))
  obtain ⟨Q, u1, u2⟩ := div_val (int_val (k := .f32) (n := a + b) (by omega)) val_two32 (by decide) rep1000 top1000 (by grind) (by grind)
  have m3 := u1.near_eq u2 (rep_half (a + b) (by omega))
  rw [fne_feq, (feq_val m2 m3).2 rfl]; rfl
theorem whole_loop (n : Nat) {bs : List Int} (hb : Bytes bs) (M k : Nat) (hM : M ≤ 1000) (hk : k ≤ 1000) : ∀ (j m : Nat) (a sd : Int) (acc : List Int), 0 ≤ a → a + 2 * (j : Int) ≤ 1125899906842000 → acc.length + j = k → j < m → (∀ w ∈ acc, Int.natAbs w ≤ M) →
    ∃ ws : List Int, ws.length = k ∧ (∀ w ∈ ws, w.natAbs ≤ M) ∧ f60_s_R8Whole.l0 (n + 2) m (k : Int) (M : Int) bs.length (its .u8 bs) a sd (acc.map FloatKind.f32.nearest).length (fls .f32 (acc.map FloatKind.f32.nearest)) (acc.length : Int) = some ((ws.map FloatKind.f32.nearest).length, fls .f32 (ws.map FloatKind.f32.nearest)) := by
  intro j
  induction j with
  | zero =>
    intro m a sd acc _ _ he hm h
    obtain ⟨m, rfl⟩ : ∃ k, m = k + 1 := ⟨m - 1, by omega⟩
    rw [f60_s_R8Whole.l0, nlt_dec (by omega)]
    exact ⟨acc, by omega, h, rfl⟩
  | succ j ih =>
    intro m a sd acc h0 ha he hm h
    obtain ⟨m, rfl⟩ : ∃ k, m = k + 1 := ⟨m - 1, by omega⟩
    have w1 : IntKind.i64.wrap (IntKind.i64.wrap ((2 : Int) * (M : Int)) + 1) = 2 * (M : Int) + 1 := by
      rw [show IntKind.i64.wrap ((2 : Int) * (M : Int)) = 2 * (M : Int) by rw [wrap64] <;> omega]
      rw [wrap64] <;> omega
    obtain ⟨r, a1, s1, hr, ha1, e1⟩ := s_pick n hb (a := a) h0 (by omega) sd (2 * (M : Int) + 1)
    have hr2 : 0 ≤ r ∧ r ≤ 2 * (M : Int) := by
      obtain ⟨h1, h2, h3⟩ := hr
      by_cases hk : (2 * (M : Int) + 1) ≤ 1
      · have := h3 hk; omega
      · have := h2 (by omega); omega
    have w2 : IntKind.i64.wrap (r - (M : Int)) = r - (M : Int) := by rw [wrap64] <;> omega
    obtain ⟨ws, q1, q2, q3⟩ := ih m a1 s1 (acc ++ [r - (M : Int)]) (by omega) (by omega) (by simp; omega) (by omega) (by
      intro w hw
      rcases List.mem_append.1 hw with h' | h'
      · exact h w h'
      · obtain rfl : w = r - (M : Int) := by simpa using h'
        omega)
    refine ⟨ws, q1, q2, ?_⟩
    rw [f60_s_R8Whole.l0, lt_dec (show acc.length < k by omega), w1, e1]
    simp only [br_t, bd_s, w2, push_ok (show (acc.map FloatKind.f32.nearest).length < 2147483648 by simp; omega), gd_t, push_fls, wrap_succ (show acc.length < 9223372036854775807 by omega)]
    rw [push_len (z := FloatKind.f32.nearest (r - (M : Int))), show acc.map FloatKind.f32.nearest ++ [FloatKind.f32.nearest (r - (M : Int))] = (acc ++ [r - (M : Int)]).map FloatKind.f32.nearest by simp, show acc.length + 1 = (acc ++ [r - (M : Int)]).length by simp]
    exact q3
theorem whole (n : Nat) {bs : List Int} (hb : Bytes bs) (M k : Nat) (hM : M ≤ 1000) (hk : k ≤ 1000) (hn : k < n) : ∃ ws : List Int, ws.length = k ∧ (∀ w ∈ ws, w.natAbs ≤ M) ∧ f60_s_R8Whole (n + 3) bs.length (its .u8 bs) (k : Int) (M : Int) = some ((nears ws).length, fls .f32 (nears ws)) := by
  obtain ⟨ws, q1, q2, q3⟩ := whole_loop n hb M k hM hk k (n + 2) 0 0 [] (by omega) (by omega) (by simp) (by omega) (by simp)
  have q3 : f60_s_R8Whole.l0 (n + 2) (n + 2) (k : Int) (M : Int) bs.length (its .u8 bs) 0 0 0 (reps 0 [(T.flt FloatKind.f32 0)]) 0 = _ := q3
  refine ⟨ws, q1, q2, ?_⟩
  rw [f60_s_R8Whole, s_from]
  simp only [bd_s, q3]; rfl
theorem step_at (m : Nat) (h : m < 16) : Steps (pk m) 4598175219545276416 [4, 4 + m, 4 + 2 * m] ∧ (fadd .f64 4598175219545276416 (fmul .f64 (FloatKind.f64.nearest 0) (pk m)) = pk 4) ∧ (fadd .f64 4598175219545276416 (fmul .f64 (FloatKind.f64.nearest 1) (pk m)) = pk (4 + m)) ∧
    (fadd .f64 4598175219545276416 (fmul .f64 (FloatKind.f64.nearest 2) (pk m)) = pk (4 + 2 * m)) ∧ feq .f64 (fsub .f64 (pk m) (pk m)) 0 = true := by
  have := step_tab m h
  unfold stepOk at this
  simp only [Bool.and_eq_true, beq_iff_eq] at this
  obtain ⟨⟨⟨⟨⟨h1, h2⟩, h3⟩, h4⟩, h5⟩, h6⟩ := this
  refine ⟨⟨pk_four.symm, by omega, ?_, by omega, ?_, by omega, trivial⟩, ?_, h4, h5, h6⟩
  · rw [h1]
  · rw [h1, h2]
  · rw [h3, pk_four]
theorem told (n M : Nat) (kind : Int) (hk : 0 ≤ kind ∧ kind < 3) (xs : List Nat) (h1 : 1 ≤ xs.length) (h2 : xs.length ≤ 10) (hx : ∀ x ∈ xs, W32 x) (m : Nat) (hm : m < 16) (c1 : 4 ≤ 16 * (xs.length - 1)) (c2 : 4 + m ≤ 16 * (xs.length - 1)) (c3 : 4 + 2 * m ≤ 16 * (xs.length - 1)) :
    f10_l_FnPlaces.l1 (n + 4) (M + 4) xs.length (fls .f32 xs) kind (pk m) 3 (fls .f32 [rdM kind xs 4, rdM kind xs (4 + m), rdM kind xs (4 + 2 * m)]) true 0 = some (Sum.inr (3, fls .f32 [rdM kind xs 4, rdM kind xs (4 + m), rdM kind xs (4 + 2 * m)], true)) := by
  obtain ⟨-, s0, s1, s2, -⟩ := step_at m hm
  have a0 : decide ((0 : Int) < ((3 : Nat) : Int)) = true := rfl
  have a1 : decide ((1 : Int) < ((3 : Nat) : Int)) = true := rfl
  have a2 : decide ((2 : Int) < ((3 : Nat) : Int)) = true := rfl
  have a3 : decide ((3 : Int) < ((3 : Nat) : Int)) = false := rfl
  have b0 : decide ((0 : Int) ≤ 0 ∧ (0 : Int) < ((3 : Nat) : Int)) = true := rfl
  have b1 : decide ((0 : Int) ≤ 1 ∧ (1 : Int) < ((3 : Nat) : Int)) = true := rfl
  have b2 : decide ((0 : Int) ≤ 2 ∧ (2 : Int) < ((3 : Nat) : Int)) = true := rfl
  have w0 : IntKind.i64.wrap ((0 : Int) + 1) = 1 := by decide
  have w1 : IntKind.i64.wrap ((1 : Int) + 1) = 2 := by decide
  have w2 : IntKind.i64.wrap ((2 : Int) + 1) = 3 := by decide
  have sm_ : ∀ k, f21_i_SameNumber (n + 4) (rdM kind xs k) (rdM kind xs k) = some true := fun k => by
    rw [i_same (n + 2) (w32_rd kind xs k hx h1) (w32_rd kind xs k hx h1), beq_self_eq_true]
  rw [f10_l_FnPlaces.l1, a0, b0, s0, show (0 : Int).toNat = 0 from rfl, okAt_fls (show 0 < [rdM kind xs 4, rdM kind xs (4 + m), rdM kind xs (4 + 2 * m)].length by simp), fAt_fls, i_ReadAt n 4 kind hk xs h1 h2 c1, w0]
  simp only [br_t, bd_s, Bool.not_true, br_f, gd_t]
  rw [show [rdM kind xs 4, rdM kind xs (4 + m), rdM kind xs (4 + 2 * m)].getD 0 0 = rdM kind xs 4 from rfl, sm_]
  simp only [br_t, bd_s, Bool.not_true, br_f, gd_t]
  rw [f10_l_FnPlaces.l1, a1, b1, s1, show (1 : Int).toNat = 1 from rfl, okAt_fls (show 1 < [rdM kind xs 4, rdM kind xs (4 + m), rdM kind xs (4 + 2 * m)].length by simp), fAt_fls, i_ReadAt n (4 + m) kind hk xs h1 h2 c2, w1]
  simp only [br_t, bd_s, Bool.not_true, br_f, gd_t]
  rw [show [rdM kind xs 4, rdM kind xs (4 + m), rdM kind xs (4 + 2 * m)].getD 1 0 = rdM kind xs (4 + m) from rfl, sm_]
  simp only [br_t, bd_s, Bool.not_true, br_f, gd_t]
  rw [f10_l_FnPlaces.l1, a2, b2, s2, show (2 : Int).toNat = 2 from rfl, okAt_fls (show 2 < [rdM kind xs 4, rdM kind xs (4 + m), rdM kind xs (4 + 2 * m)].length by simp), fAt_fls, i_ReadAt n (4 + 2 * m) kind hk xs h1 h2 c3, w2]
  simp only [br_t, bd_s, Bool.not_true, br_f, gd_t]
  rw [show [rdM kind xs 4, rdM kind xs (4 + m), rdM kind xs (4 + 2 * m)].getD 2 0 = rdM kind xs (4 + 2 * m) from rfl, sm_]
  simp only [br_t, bd_s, Bool.not_true, br_f, gd_t]
  rw [f10_l_FnPlaces.l1, a3]
  rfl
theorem fne_int {a : Int} (h : a.natAbs ≤ 100) : fne .f32 (FloatKind.f32.nearest a) (FloatKind.f32.nearest a) = false := by
  have v := int_val (k := .f32) (n := a) (by rw [binade32]; omega)
  rw [fne_feq, (feq_val v v).2 rfl]; rfl
theorem exact_ (cs : List Int) (hc : ∀ b ∈ cs, GoodI .u8 b) (lc : cs.length ≤ maxLen) (ms : List Int) (hm : ∀ b ∈ ms, GoodI .u8 b) (lm : ms.length ≤ maxLen) : ∃ n, f10_l_FnPlaces n cs.length (its .u8 cs) ms.length (its .u8 ms) = some true := by
  refine ⟨1000, ?_⟩
  suffices h : ∀ n, f10_l_FnPlaces (n + 500) cs.length (its .u8 cs) ms.length (its .u8 ms) = some true from h 500
  intro n
  rw [f10_l_FnPlaces, l_long]
  cases hlong : decide (48 < cs.length ∨ 48 < ms.length)
  case true => rfl
  obtain ⟨c, hc8, e1⟩ := l_at (n + 498) (bytes_of hc) (i := 40) (k := 8) (by omega) (by omega)
  obtain ⟨c, rfl⟩ := Int.eq_ofNat_of_zero_le hc8.1
  obtain ⟨kind, hk, e2⟩ := l_at (n + 498) (bytes_of hc) (i := 41) (k := 3) (by omega) (by omega)
  obtain ⟨xs, hxl, hxp, e3⟩ := s_r8plain (n + 494) (bytes_of hm) (2 + c) (by omega) (by omega)
  have e3 : f16_s_R8Plain (n + 499) ms.length (its .u8 ms) (xs.length : Int) = some (xs.length, fls .f32 xs) := by rw [hxl] at e3 ⊢; exact e3
  have w1 : IntKind.i64.wrap (2 + (c : Int)) = (xs.length : Int) := by rw [wrap64] <;> omega
  obtain ⟨at_, hat, e4⟩ := l_at (n + 498) (bytes_of hc) (i := 42) (k := (xs.length : Int)) (by omega) (by omega)
  obtain ⟨at_, rfl⟩ := Int.eq_ofNat_of_zero_le hat.1
  have hxw : ∀ x ∈ xs, W32 x := fun x hx => (hxp x hx).w32
  have e5 := i_ReadAt (n + 495) (16 * at_) kind hk xs (by omega) (by omega) (by omega)
  rw [(whole_at at_ (by omega)).1] at e5
  have st := steps_whole xs.length 0 (by omega)
  have e6 := i_play (n + 495) kind hk xs (by omega) (by omega) 4607182418800017408 _ _ st (by decide) (by simp; omega) (by omega)
  rw [play_whole kind xs xs.length 0 (by omega), List.length_map, List.length_range'] at e6
  have e6 : f59_i_PlayAt (n + 499) kind xs.length (fls .f32 xs) 0 4607182418800017408 (xs.length : Int) = _ := e6
  have hy : ((List.range' 0 xs.length).map fun j => rdM kind xs (16 * j)).length = xs.length := by simp
  have hyd : ∀ i, i < xs.length → ((List.range' 0 xs.length).map fun j => rdM kind xs (16 * j)).getD i 0 = rdM kind xs (16 * i) := by
    intro i hi
    simp [List.getD, hi]
  generalize ((List.range' 0 xs.length).map fun j => rdM kind xs (16 * j)) = ys at e6 hy hyd
  have e7 := same_loop (n + 499) ms.length (its .u8 ms) kind xs ys cs.length (its .u8 cs) hy (by omega) (fun i hi => by rw [hyd i hi]; exact rd_eq kind xs hxp hi (by omega)) xs.length 0 (n + 499) (by omega) (by omega)
  have e7 : f10_l_FnPlaces.l0 (n + 499) (n + 499) cs.length (its .u8 cs) ms.length (its .u8 ms) (xs.length : Int) xs.length (fls .f32 xs) kind ys.length (fls .f32 ys) 0 = _ := e7
  obtain ⟨ws, q1, q2, e8⟩ := whole (n + 496) (bytes_of hc) 100 xs.length (by omega) (by omega) (by omega)
  have e8 : f60_s_R8Whole (n + 499) cs.length (its .u8 cs) (xs.length : Int) 100 = _ := e8
  have w2 : IntKind.i64.wrap ((xs.length : Int) - 1) = ((1 + c : Nat) : Int) := by rw [wrap64] <;> omega
  obtain ⟨k, hkk, e9⟩ := l_at (n + 498) (bytes_of hm) (i := 40) (k := ((1 + c : Nat) : Int)) (by omega) (by omega)
  obtain ⟨k, rfl⟩ := Int.eq_ofNat_of_zero_le hkk.1
  have hwl : (nears ws).length = xs.length := by rw [nears_length]; exact q1
  have eA := i_ReadAt (n + 495) (16 * k + 8) 1 (by decide) (nears ws) (by omega) (by omega) (by omega)
  have eB := i_ReadAt (n + 495) (16 * k + 8) 0 (by decide) (nears ws) (by omega) (by omega) (by omega)
  obtain ⟨-, -, -, wk, uk_⟩ := whole_at k (by omega)
  have hk16 : (16 * k + 8) / 16 = k := by omega
  have hw : ∀ i, (ws.getD i 0).natAbs ≤ 100 := by
    intro i
    by_cases hi : i < ws.length
    · have : ws.getD i 0 = ws[i] := by simp [List.getD, hi]
      rw [this]; exact q2 _ (List.getElem_mem hi)
    · have : ws.getD i 0 = 0 := by simp [List.getD, Nat.le_of_not_lt hi]
      rw [this]; decide
  have sa : sampM (nears ws) ((k : Nat) : Int) = FloatKind.f32.nearest (ws.getD k 0) := by rw [sampM_at (by omega), nears_get]
  have sb : sampM (nears ws) (((k : Nat) : Int) + 1) = FloatKind.f32.nearest (ws.getD (k + 1) 0) := by
    rw [show ((k : Nat) : Int) + 1 = ((k + 1 : Nat) : Int) by omega, sampM_at (by omega), nears_get]
  have r1 : rdM 1 (nears ws) (16 * k + 8) = fadd .f32 (FloatKind.f32.nearest (ws.getD k 0)) (fmul .f32 1056964608 (fsub .f32 (FloatKind.f32.nearest (ws.getD (k + 1) 0)) (FloatKind.f32.nearest (ws.getD k 0)))) := by
    unfold rdM readM
    rw [hk16, uk_, sa, sb, if_neg (by decide), if_pos rfl]
  have r0 : rdM 0 (nears ws) (16 * k + 8) = FloatKind.f32.nearest (ws.getD (k + 1) 0) := by
    unfold rdM readM
    rw [hk16, uk_, sb, if_pos rfl, if_pos half_half]
  rw [r1] at eA
  rw [r0] at eB
  obtain ⟨m, hm16, eC⟩ := l_at (n + 498) (bytes_of hm) (i := 41) (k := 16) (by omega) (by omega)
  obtain ⟨m, rfl⟩ := Int.eq_ofNat_of_zero_le hm16.1
  have hm' : m < 16 := by omega
  obtain ⟨ss, -, -, -, sf⟩ := step_at m hm'
  have eD := i_play (n + 495) kind hk xs (by omega) (by omega) (pk m) _ _ ss sf (by simp) (by omega)
  have eE := s_play (n + 495) kind hk xs (by omega) (by omega) (pk m) _ _ ss sf (by simp) (by omega)
  have eD : f59_i_PlayAt (n + 499) kind xs.length (fls .f32 xs) 4598175219545276416 (pk m) 3 = some (ansM (playM kind xs [4, 4 + m, 4 + 2 * m])) := eD
  have eE : f61_s_PlayAt (n + 499) kind xs.length (fls .f32 xs) 4598175219545276416 (pk m) 3 = some (ansM (playM kind xs [4, 4 + m, 4 + 2 * m])) := eE
  have hpk : fdiv .f64 (FloatKind.f64.nearest (m : Int)) 4625196817309499392 = pk m := rfl
  have wk1 : IntKind.i64.wrap ((k : Int) + 1) = ((k + 1 : Nat) : Int) := by rw [wrap64] <;> omega
  have g1 : decide ((0 : Int) ≤ (at_ : Int) ∧ (at_ : Int) < (xs.length : Int)) = true := in_dec (by omega)
  have g2 : decide ((0 : Int) ≤ (k : Int) ∧ (k : Int) < ((nears ws).length : Int)) = true := in_dec (by omega)
  have g3 : decide ((0 : Int) ≤ ((k + 1 : Nat) : Int) ∧ ((k + 1 : Nat) : Int) < ((nears ws).length : Int)) = true := in_dec (by omega)
  have ne_ : (((ys.length : Nat) : Int) != ((xs.length : Nat) : Int)) = false := by rw [hy]; simp
  have f1 : fAt (fls .f32 xs) at_ = xs.getD at_ 0 := fAt_fls ..
  have o1 : okAt [.flt .f32] (fls .f32 xs) at_ = true := okAt_fls (by omega)
  have z1 := rd_eq kind xs hxp (i := at_) (by omega) (by omega)
  have f2 : fAt (fls .f32 (nears ws)) k = FloatKind.f32.nearest (ws.getD k 0) := by rw [fAt_fls, nears_get]
  have o2 : okAt [.flt .f32] (fls .f32 (nears ws)) k = true := okAt_fls (by omega)
  have f3 : fAt (fls .f32 (nears ws)) (k + 1) = FloatKind.f32.nearest (ws.getD (k + 1) 0) := by rw [fAt_fls, nears_get]
  have o3 : okAt [.flt .f32] (fls .f32 (nears ws)) (k + 1) = true := okAt_fls (by omega)
  simp only [br_f, bd_s, e1, w1, e2, e3, e4, e5, e6, ansM, Bool.not_true, g1, gd_t, Int.toNat_natCast, o1, f1, z1, ne_, e7, sm_r, e8, w2, e9, wk, eA, eB, g2, o2, f2, wk1, g3, o3, f3, half_way (hw k) (hw (k + 1)), fne_int (hw (k + 1)), eC, hpk, eD, eE, beq_self_eq_true]
  cases hp : playM kind xs [4, 4 + m, 4 + 2 * m] with
  | none =>
    simp only [ansM]
    rw [f10_l_FnPlaces.l1]; rfl
  | some rs =>
    have hrs : 4 ≤ 16 * (xs.length - 1) ∧ 4 + m ≤ 16 * (xs.length - 1) ∧ 4 + 2 * m ≤ 16 * (xs.length - 1) ∧ rs = [rdM kind xs 4, rdM kind xs (4 + m), rdM kind xs (4 + 2 * m)] := by
      simp only [playM] at hp
      split at hp
      · split at hp
        · split at hp
          · exact ⟨by assumption, by assumption, by assumption, by simpa using hp.symm⟩
          · simp at hp
        · simp at hp
      · simp at hp
    obtain ⟨c1, c2, c3, rfl⟩ := hrs
    have eF := told (n + 495) (n + 495) kind hk xs (by omega) (by omega) hxw m hm' c1 c2 c3
    have eF : f10_l_FnPlaces.l1 (n + 499) (n + 499) xs.length (fls .f32 xs) kind (pk m) 3 (fls .f32 [rdM kind xs 4, rdM kind xs (4 + m), rdM kind xs (4 + 2 * m)]) true 0 = _ := eF
    simp only [ansM, List.length_cons, List.length_nil, Nat.zero_add, Nat.reduceAdd, eF, bd_s, sm_r, Bool.not_true, br_f]
    rfl
theorem law10 : ∀ args, LawArgs E Try.f10.params.toList args → ∃ N os, evalFn E N 10 args = some ⟨[⟨false, [.leaf], [.bool true]⟩], os⟩ := by
  intro args h0
  have hp : Try.f10.params.toList = [22, 22] := by kernel_rfl
  rw [hp] at h0
  obtain ⟨ts0, r0, rfl, hw0, h1⟩ := h0.cons_inv (d := ⟨false, 1, 24, [.sl .own [.leaf]], [.lst 0 []], .slc 5⟩) (by kernel_rfl)
  obtain ⟨n0, cs0, rfl, gl0, hs0⟩ := hw0.slc_inv (e := 5) (d := ⟨false, 1, 24, [.sl .own [.leaf]], [.lst 0 []], .slc 5⟩) (by kernel_rfl) rfl
  obtain ⟨a0, rfl, rfl, g0⟩ := hs0.ints (k := .u8) (d := ⟨false, 1, 1, [.leaf], [.int .u8 0], .int .u8⟩) (by kernel_rfl) rfl
  obtain ⟨ts1, r1, rfl, hw1, h2⟩ := h1.cons_inv (d := ⟨false, 1, 24, [.sl .own [.leaf]], [.lst 0 []], .slc 5⟩) (by kernel_rfl)
  obtain ⟨n1, cs1, rfl, gl1, hs1⟩ := hw1.slc_inv (e := 5) (d := ⟨false, 1, 24, [.sl .own [.leaf]], [.lst 0 []], .slc 5⟩) (by kernel_rfl) rfl
  obtain ⟨a1, rfl, rfl, g1⟩ := hs1.ints (k := .u8) (d := ⟨false, 1, 1, [.leaf], [.int .u8 0], .int .u8⟩) (by kernel_rfl) rfl
  obtain rfl := h2.nil_inv
  obtain ⟨N, hN⟩ := exact_ a0 g0 gl0 a1 g1 gl1
  exact ⟨N, _, f10_l_FnPlaces.ok N (a0.length, its .u8 a0, a1.length, its .u8 a1) true hN⟩


end Go.Proofs.Ytjkhhalnlodinaa.D
end
section
/- FnPlaces holds: for every input the law returns true, and its arguments read as before. -/
namespace Go.Proofs.Ytjkhhalnlodinaa.fnPlaces
open Go Go.ChangeShapes Go.WideShapes Go.ChangeAt Go.RowKit Go.Desk
set_option linter.unusedVariables false
theorem own : ownKnob Try.prog.godebug = none := by kernel_rfl
theorem laidOut : laidOutB Try.prog = true := by kernel_rfl
set_option maxRecDepth 100000 in
theorem lifted (os : Os) (started : os.Started) (H : Type) (enc : TypeId × Value → H) :
    ReturnsInHanded {} Try.checked os 10 .any (Rows.fnPlacesSpec.pre6 enc Try.prog Try.f10 Rows.fnPlacesRow.domain false) (Rows.fnPlacesSpec.post enc Try.prog Try.f10 false true false false) := by
  refine returnsInHanded_of_change (C := Try.checked) own started (by kernel_rfl) Try.func10
    (ChangeSpec.witness6 (enc := enc) (C := Try.checked) false ⟨#[], #[.slice none 0 0, .slice none 0 0], []⟩ 8 (by kernel_rfl) (by kernel_rfl) (by kernel_rfl) (by kernel_rfl)) ?_
  intro W base args ds gs before hval hW hcnd _
  exact law_contract (c := D.c10) Try.checked.mixed D.tysOk D.fnOk Try.func10 (by kernel_rfl) (by kernel_rfl) (by kernel_rfl) Try.underlying4 rfl
    (fun ds h => by
      rw [show Try.f10.params.toList.length = 2 by kernel_rfl] at h
      match ds, h with
      | [_, _], _ => rfl)
    laidOut (N := 8) (by kernel_rfl) (by kernel_rfl) D.law10 hval hW
theorem over : Rows.fnPlacesRow.holds Try.pinned (OpenSpec.ofChange Rows.fnPlacesSpec) :=
  OpenClaim.holds_of_wide 10 Try.f10 rfl rfl rfl rfl rfl rfl rfl ⟨rfl, rfl, rfl, rfl, rfl⟩ rfl rfl rfl rfl rfl (by kernel_rfl) Try.func10 (by kernel_rfl)
    (of_decide_eq_true (by kernel_rfl)) (by unfold Func.isWrapper; first | (rw [if_pos (by decide +kernel)]; kernel_rfl) | (rw [if_neg (by decide +kernel)]; exact ⟨rfl, rfl⟩))
    (fun os started H enc _ => lifted os started H enc)
theorem proved : Rows.FnPlacesSaid := over
#print axioms proved
end Go.Proofs.Ytjkhhalnlodinaa.fnPlaces
namespace Go.Proofs.Ytjkhhalnlodinaa
/-- The row, under a short name, for the claim. -/
theorem fnPlaces_holds : Rows.FnPlacesSaid := fnPlaces.proved
end Go.Proofs.Ytjkhhalnlodinaa
end
