/- FnRooms holds: for every input the law returns true, and its arguments read as before. -/
import Derived.Test.YtjkhhalnlodinaaChecked
import Derived.Test.YtjkhhalnlodinaaDeskF
import Derived.KernelRfl
import Derived.Test.YtjkhhalnlodinaaRows
import Derived.WalkKit
import Derived.ProofKit
import Derived.OpenShut
import Derived.ShutString
import Derived.ChangeOld
import Derived.Below
import Derived.SizedLaws
set_option linter.all false
section
/- What math.Copysign owes: tables of its own, and the reading of its code. -/
namespace Go.Proofs.Ytjkhhalnlodinaa.DC
open Go Go.Desk
def bodyOf (f : Func) : Code := match f.body with
  | some c => c
  | none => .skip
def tyTab : List (Nat × TD) := [
  (34, ⟨false, 1, 8, [.leaf], [.flt .f64 0], .flt .f64⟩),
  (174, ⟨false, 1, 8, [.leaf], [.int .u64 0], .int .u64⟩)]
noncomputable def c196 : Code := bodyOf Try.f196
noncomputable def fnTab : List (Nat × FD) := [
  (178, .ext (pF64frombits)),
  (189, .ext (pF64bits)),
  (196, .code c196 [.val, .val] [] [(4, none)] [(0, [0, 1]), (1, [0, 1])])]
noncomputable def E : Env := ⟨fun t => lookT tyTab t, lookF fnTab⟩
noncomputable def fdAt (n : Nat) : FD := match lookF fnTab n with
  | some d => d
  | none => .ext fun _ => none
noncomputable def keepAt (n : Nat) : List (Nat × List Nat) := match lookF fnTab n with
  | some d => d.keep
  | none => []
theorem tysOk : TysOk Try.prog E := tysOk_of (l := tyTab) (fun _ => rfl) (by kernel_rfl)
theorem ft178 : FnTab Try.prog E 178 (.ext (pF64frombits)) := ext_pF64frombits Try.func178 (by kernel_rfl) (by kernel_rfl) (by kernel_rfl) (by kernel_rfl)
theorem ft189 : FnTab Try.prog E 189 (.ext (pF64bits)) := ext_pF64bits Try.func189 (by kernel_rfl) (by kernel_rfl) (by kernel_rfl) (by kernel_rfl)
theorem ft196 : FnTab Try.prog E 196 (fdAt 196) := fnTab_code (c := c196) (modes := (fdAt 196).ms) (outs := (fdAt 196).os) (results := (fdAt 196).rs) (keep := (fdAt 196).keep) Try.func196 (by kernel_rfl) (by kernel_rfl) (by kernel_rfl)
theorem allFns : AllFns Try.prog E fnTab := .cons ft178 (.cons ft189 (.cons ft196 (.nil)))
theorem fnOk : ∀ f fd, E.fn f = some fd → FnTab Try.prog E f fd := fnTab_of (l := fnTab) (fun _ => rfl) allFns
end Go.Proofs.Ytjkhhalnlodinaa.DC
section
namespace Go.Proofs.Ytjkhhalnlodinaa.DC
open Go Go.Desk
set_option linter.unusedVariables false
noncomputable def x178.w : FnW E := xF64frombits.w 178 (by kernel_rfl)

noncomputable def x189.w : FnW E := xF64bits.w 189 (by kernel_rfl)

def f196_mathCopysign : Nat → Nat → Nat → Option (Nat)
  | 0, _, _ => none
  | n + 1, x1, x2 =>
    bd (xF64bits n x1) fun r3 =>
    let i4 : Int := r3
    bd (xF64bits n x2) fun r5 =>
    let i6 : Int := r5
    bd (xF64frombits n (intBits BinOp.or IntKind.u64 (intBits BinOp.andNot IntKind.u64 i4 (9223372036854775808 : Int)) (intBits BinOp.and IntKind.u64 i6 (9223372036854775808 : Int)))) fun r7 =>
    let x8 : Nat := r7
    some x8
def sg_ff : Sig (Nat × Nat) where
  pk := fun v => [.flt v.1, .flt v.2]
  up := fun ls => match ls with
    | [.flt a0, .flt a1] => some (a0, a1)
    | _ => none
  ok := by
    intro ls v h
    split at h
    · cases h; rfl
    · cases h

def sg_f : Sig (Nat) where
  pk := fun v => [.flt v]
  up := fun ls => match ls with
    | [.flt a0] => some a0
    | _ => none
  ok := by
    intro ls v h
    split at h
    · cases h; rfl
    · cases h

def f196_mathCopysign.P : List Arg := [⟨.val, ⟨false, [.leaf], [.flt .f64 0]⟩⟩, ⟨.val, ⟨false, [.leaf], [.flt .f64 0]⟩⟩]
def f196_mathCopysign.A : RAlt (Nat) := .one ⟨[⟨false, [.leaf], [.flt .f64 0]⟩], [none, none]⟩ sg_f
def f196_mathCopysign.F (n : Nat) (v : Nat × Nat) := f196_mathCopysign n v.1 v.2
noncomputable def f196_mathCopysign.O (n : Nat) : Orc := orcOf (E := E) [x178.w, x189.w] [] n
theorem f196_mathCopysign.ok : ∀ n v x, f196_mathCopysign.F n v = some x → evalFn E n 196 (flAs f196_mathCopysign.P (sg_ff.pk v)) = some (f196_mathCopysign.A.enc x) :=
  fn_pure (modes := (fdAt 196).ms) (outs := (fdAt 196).os) (results := (fdAt 196).rs) f196_mathCopysign.O (c := c196) (keep := keepAt 196) (by kernel_rfl) (fun n => orcOf_cf _ _ n) (fun n => lpOk_of (bs := []) (by kernel_rfl) .nil) (fun _ => rfl) (fun _ _ => by kernel_rfl)
noncomputable def f196_mathCopysign.w : FnW E := fnW 196 f196_mathCopysign.P sg_ff f196_mathCopysign.A f196_mathCopysign.F f196_mathCopysign.ok
end Go.Proofs.Ytjkhhalnlodinaa.DC
end
namespace Go.Proofs.Ytjkhhalnlodinaa.DC
open Go Go.Desk
theorem signOk : ExtOk Try.prog 196 pCopysign := ext_pCopysign_of Try.checked.mixed tysOk fnOk
  (fun x s hx hs hx' hs' => ⟨3, f196_mathCopysign.ok 3 (x, s) _ (copysign_plain 1 hx hs hx' hs')⟩)
end Go.Proofs.Ytjkhhalnlodinaa.DC
end
section
/- The tables of the reading: types and functions of the translation, with what is kept at each region's beginning (written by a program of this workplace). -/
namespace Go.Proofs.Ytjkhhalnlodinaa.D
open Go Go.Desk
def bodyOf (f : Func) : Code := match f.body with
  | some c => c
  | none => .skip
def tyTab : List (Nat × TD) := [
  (2, ⟨false, 1, 8, [.leaf], [.int .i64 0], .int .i64⟩),
  (3, ⟨false, 1, 8, [.leaf], [.int .i64 0], .int .i64⟩),
  (4, ⟨false, 1, 1, [.leaf], [.bool false], .bool⟩),
  (5, ⟨false, 1, 1, [.leaf], [.int .u8 0], .int .u8⟩),
  (22, ⟨false, 1, 24, [.sl .own [.leaf]], [.lst 0 []], .slc 5⟩),
  (24, ⟨false, 1, 24, [.sl .own [.leaf]], [.lst 0 []], .slc 29⟩),
  (29, ⟨false, 1, 4, [.leaf], [.flt .f32 0], .flt .f32⟩),
  (34, ⟨false, 1, 8, [.leaf], [.flt .f64 0], .flt .f64⟩),
  (35, ⟨false, 1, 8, [.leaf], [.int .u64 0], .int .u64⟩),
  (36, ⟨false, 1, 24, [.sl .own [.leaf]], [.lst 0 []], .slc 2⟩),
  (57, ⟨false, 1, 24, [.sl .own [.sl .own [.leaf]]], [.lst 0 []], .slc 24⟩),
  (86, ⟨true, 5, 24, [.leaf, .leaf, .leaf, .leaf, .leaf], [.int .i64 0, .flt .f32 0, .flt .f32 0, .flt .f32 0, .bool false], .st [(0, 2), (1, 29), (2, 29), (3, 29), (4, 4)]⟩),
  (92, ⟨true, 2, 16, [.leaf, .leaf], [.int .i64 0, .flt .f32 0], .st [(0, 2), (1, 29)]⟩),
  (99, ⟨false, 1, 24, [.sl .own [.leaf, .leaf, .leaf, .leaf, .leaf]], [.lst 0 []], .slc 86⟩),
  (100, ⟨false, 1, 24, [.sl .own [.leaf, .leaf]], [.lst 0 []], .slc 92⟩),
  (102, ⟨true, 4, 56, [.sl .own [.leaf, .leaf, .leaf, .leaf, .leaf], .sl .own [.leaf, .leaf], .leaf, .leaf], [.lst 0 [], .lst 0 [], .flt .f32 0, .flt .f32 0], .st [(0, 99), (1, 100), (2, 29), (3, 29)]⟩),
  (120, ⟨false, 1, 8, [.leaf], [.nil], .ptr 176⟩),
  (128, ⟨false, 1, 4, [.leaf], [.int .u32 0], .int .u32⟩),
  (164, ⟨false, 1, 8, [.leaf], [.nil], .ptr 102⟩),
  (174, ⟨false, 1, 8, [.leaf], [.int .u64 0], .int .u64⟩),
  (176, ⟨true, 3, 40, [.sl .own [.leaf], .leaf, .leaf], [.lst 0 [], .int .i64 0, .int .u64 0], .st [(0, 22), (1, 3), (2, 174)]⟩)]
noncomputable def c13 : Code := bodyOf Try.f13
noncomputable def c28 : Code := bodyOf Try.f28
noncomputable def c29 : Code := bodyOf Try.f29
noncomputable def c30 : Code := bodyOf Try.f30
noncomputable def c33 : Code := bodyOf Try.f33
noncomputable def c44 : Code := bodyOf Try.f44
noncomputable def c63 : Code := bodyOf Try.f63
noncomputable def c64 : Code := bodyOf Try.f64
noncomputable def c66 : Code := bodyOf Try.f66
noncomputable def c77 : Code := bodyOf Try.f77
noncomputable def c78 : Code := bodyOf Try.f78
noncomputable def c79 : Code := bodyOf Try.f79
noncomputable def c80 : Code := bodyOf Try.f80
noncomputable def c81 : Code := bodyOf Try.f81
noncomputable def c82 : Code := bodyOf Try.f82
noncomputable def c90 : Code := bodyOf Try.f90
noncomputable def c91 : Code := bodyOf Try.f91
noncomputable def c92 : Code := bodyOf Try.f92
noncomputable def c93 : Code := bodyOf Try.f93
noncomputable def c97 : Code := bodyOf Try.f97
noncomputable def c98 : Code := bodyOf Try.f98
noncomputable def c104 : Code := bodyOf Try.f104
noncomputable def c106 : Code := bodyOf Try.f106
noncomputable def c108 : Code := bodyOf Try.f108
noncomputable def c109 : Code := bodyOf Try.f109
noncomputable def c112 : Code := bodyOf Try.f112
noncomputable def c113 : Code := bodyOf Try.f113
noncomputable def c116 : Code := bodyOf Try.f116
noncomputable def c122 : Code := bodyOf Try.f122
noncomputable def c130 : Code := bodyOf Try.f130
noncomputable def c132 : Code := bodyOf Try.f132
noncomputable def c133 : Code := bodyOf Try.f133
noncomputable def c134 : Code := bodyOf Try.f134
noncomputable def c135 : Code := bodyOf Try.f135
noncomputable def c139 : Code := bodyOf Try.f139
noncomputable def c140 : Code := bodyOf Try.f140
noncomputable def c152 : Code := bodyOf Try.f152
noncomputable def c153 : Code := bodyOf Try.f153
noncomputable def c154 : Code := bodyOf Try.f154
noncomputable def c155 : Code := bodyOf Try.f155
noncomputable def c156 : Code := bodyOf Try.f156
noncomputable def c157 : Code := bodyOf Try.f157
noncomputable def c158 : Code := bodyOf Try.f158
noncomputable def c163 : Code := bodyOf Try.f163
noncomputable def c165 : Code := bodyOf Try.f165
noncomputable def c167 : Code := bodyOf Try.f167
noncomputable def c168 : Code := bodyOf Try.f168
noncomputable def c174 : Code := bodyOf Try.f174
noncomputable def c175 : Code := bodyOf Try.f175
noncomputable def c188 : Code := bodyOf Try.f188
noncomputable def c195 : Code := bodyOf Try.f195
noncomputable def fnTab : List (Nat × FD) := [
  (13, .code c13 [.val, .val] [] [(4, none)] [(0, [0, 1]), (1, [0, 1]), (2, []), (3, [0, 1]), (4, [1, 5]), (5, [1, 5, 6]), (6, [1, 5, 6, 7]), (7, [5, 6, 7, 8]), (8, [5, 6, 7, 8, 9, 10]), (9, [5, 6, 7, 8, 9, 10, 11, 12, 13]), (10, [5, 6, 7, 8, 9, 10, 11, 12, 13, 14, 15, 16]), (11, [5, 6, 7, 9, 10, 11, 12, 13, 14, 16, 17, 18, 19]), (12, []), (13, [5, 6, 7, 9, 12, 18]), (14, [5, 6, 7, 9, 12, 18, 122, 123]), (15, [5, 6, 7, 9, 12, 18, 122, 123]), (16, [5, 6, 7, 9, 12, 18, 20, 122, 123]), (17, []), (18, [5, 6, 7, 9, 12, 18, 122, 123]), (19, [5, 6, 7, 9]), (20, [5, 6, 7, 9, 21]), (21, [5, 6, 7, 9, 21]), (22, [5, 7, 9, 21, 22, 23]), (23, [5, 7, 22, 23, 24, 26]), (24, []), (25, [5, 7]), (26, [5, 7, 27]), (27, [5, 7, 27, 28, 29]), (28, [5, 7, 28, 29, 30, 32]), (29, [7, 29, 30, 32, 33, 35]), (30, []), (31, [7, 30, 33]), (32, [7, 30, 33, 218, 219]), (33, [7, 30, 33, 218, 219]), (34, [7, 30, 33, 36, 218, 219]), (35, []), (36, [7, 30, 33, 218, 219]), (37, []), (1000014, [4, 5, 6, 7, 9, 261]), (1000032, [4])]),
  (28, .code c28 [.val, .val] [] [(4, none)] [(0, [0, 1]), (1, [0, 1])]),
  (29, .code c29 [.val, .val, .val] [] [(6, none)] [(0, [0, 1, 2]), (1, [0, 1, 2]), (2, []), (3, [0, 1, 2]), (4, [0, 1, 2]), (5, [1, 2])]),
  (30, .code c30 [.val, .val] [] [(4, none)] [(0, [0, 1]), (1, [0, 1]), (2, [1, 5])]),
  (33, .code c33 [.val, .val] [] [(4, none)] [(0, [0, 1]), (1, [0, 1])]),
  (44, .code c44 [.val, .val] [] [(4, none)] [(0, [0, 1]), (1, [0, 1]), (2, []), (3, [0, 1]), (4, [0, 1, 5]), (5, [0, 1, 5]), (6, [0, 1, 5]), (7, []), (8, []), (1000004, [4])]),
  (63, .code c63 [.val, .val, .val] [] [(6, none), (7, none), (8, none)] [(0, [0, 1, 2]), (1, [1, 2, 3]), (2, []), (3, [1, 2, 3]), (4, [2, 3, 9]), (5, [2, 3, 9, 10]), (6, [2, 3, 9, 10, 33, 34, 35]), (7, [2, 3, 9, 10, 33, 34, 35]), (8, [2, 3, 9, 10, 12, 33, 34, 35]), (9, [2, 3, 10, 13, 14, 33, 34, 35]), (10, [2, 3, 9, 10, 13, 33, 34, 35]), (11, [2, 3, 9, 10, 33, 34, 35]), (12, [9, 10]), (1000006, [9, 10])]),
  (64, .code c64 [.val] [] [(2, none)] [(0, [0]), (1, [1])]),
  (66, .code c66 [.val] [] [(2, none), (3, none)] [(0, [0]), (1, [0]), (2, []), (3, [0])]),
  (77, .code c77 [.val] [] [(2, some (true, 4))] [(0, [0]), (1, [0, 2]), (2, [2, 3]), (3, [2, 4]), (4, [2]), (5, [2, 4])]),
  (78, .code c78 [.val] [] [(2, none), (3, none)] [(0, [0]), (1, [1]), (2, []), (3, [1])]),
  (79, .code c79 [.val, .val, .val] [] [(6, none), (7, none), (8, none)] [(0, [0, 1, 2]), (1, [1, 2, 3]), (2, []), (3, [1, 2, 3]), (4, [9, 10])]),
  (80, .code c80 [.val] [] [(2, none)] [(0, [0]), (1, [1])]),
  (81, .code c81 [.val, .val] [] [(4, none), (5, none)] [(0, [0, 1]), (1, [1, 2]), (2, []), (3, [1, 2]), (4, [6])]),
  (82, .code c82 [.val] [] [(2, none)] [(0, [0]), (1, [0])]),
  (90, .code c90 [.val] [] [(2, none)] [(0, [0]), (1, [0])]),
  (91, .code c91 [.iop] [0] [(2, none)] [(0, [0]), (1, [0]), (2, [0, 3]), (3, [0, 3]), (4, [0, 3])]),
  (92, .code c92 [.val] [] [(2, none)] [(0, [0]), (1, [0])]),
  (93, .code c93 [.val, .val, .val] [] [(6, none)] [(0, [0, 1, 2]), (1, [0, 1, 2])]),
  (96, .ext (pF32bits)),
  (97, .code c97 [.iop, .val] [0] [(4, none)] [(0, [0, 1]), (1, [0, 1]), (2, [0]), (3, [0, 1]), (4, [0, 1, 5]), (5, [0, 1, 5]), (6, [0, 1, 5])]),
  (98, .code c98 [.iop, .val] [0] [(4, none)] [(0, [0, 1]), (1, [0, 1]), (2, [0, 1, 5]), (3, [0, 1, 5, 6]), (4, [0, 1, 5, 6]), (5, [0, 1, 5, 6]), (6, [0, 1, 5, 6]), (7, [0, 1, 5, 6]), (8, [0, 5]), (1000003, [0, 5])]),
  (104, .code c104 [.val] [] [(2, none)] [(0, [0]), (1, [0]), (2, [0, 3]), (3, [0, 3, 6, 7, 8]), (4, [0, 3, 6, 7, 8]), (5, [0, 3, 5, 6, 7, 8]), (6, [0, 3, 6, 7, 8]), (7, [3]), (1000003, [3])]),
  (106, .code c106 [.val, .val] [] [(4, none)] [(0, [0, 1]), (1, [0, 1])]),
  (108, .code c108 [.val] [] [(2, none)] [(0, [0]), (1, [0])]),
  (109, .code c109 [.val] [] [(2, none)] [(0, [0]), (1, [0])]),
  (112, .code c112 [.iop] [0] [(2, none)] [(0, [0]), (1, [0]), (2, [0]), (3, [0]), (4, [0, 10]), (5, [0]), (6, [0, 10]), (7, [0]), (8, [0, 3]), (9, [0, 10]), (10, [0]), (11, [0])]),
  (113, .code c113 [.val] [] [(2, none)] [(0, [0]), (1, [0])]),
  (116, .code c116 [.val, .val, .val] [] [(6, none)] [(0, [0, 1, 2]), (1, [0, 1, 2]), (2, [0, 1, 2, 9, 10, 11]), (3, [0, 1, 2, 9, 10, 11]), (4, [0, 1, 2, 8, 9, 10, 11]), (5, []), (6, [0, 1, 2, 9, 10, 11]), (7, []), (1000002, [6])]),
  (122, .code c122 [.val] [] [(2, none)] [(0, [0]), (1, [0]), (2, [0, 3]), (3, [3]), (4, [3])]),
  (130, .code c130 [.val, .val, .val] [] [(6, none)] [(0, [0, 1, 2]), (1, [0, 1, 2])]),
  (132, .code c132 [.iop] [0] [(2, some (true, 5))] [(0, [0]), (1, [0, 2]), (2, [0, 2, 3]), (3, [0, 2, 3]), (4, [0, 2, 3]), (5, [0, 2, 3]), (6, [0, 2, 3]), (7, [0, 2, 3]), (8, [0, 2, 3]), (9, [0, 2, 3])]),
  (133, .code c133 [.val, .val, .val] [] [(6, none), (7, none)] [(0, [0, 1, 2]), (1, [1, 2, 3]), (2, [1, 2, 3, 8])]),
  (134, .code c134 [.val] [] [(2, none)] [(0, [0]), (1, [0])]),
  (135, .code c135 [.val, .val, .val] [] [(6, none), (7, none)] [(0, [0, 1, 2]), (1, [1, 2, 3]), (2, [1, 2, 3, 8]), (3, [1, 3, 8, 9])]),
  (139, .code c139 [.val] [] [(2, none)] [(0, [0]), (1, [0])]),
  (140, .code c140 [.val] [] [(2, none)] [(0, [0]), (1, [0])]),
  (152, .code c152 [.iop] [0] [(2, some (true, 4))] [(0, [0]), (1, [0, 2]), (2, [0, 2, 3]), (3, [0, 2, 3, 4]), (4, [0, 2, 3, 4]), (5, [0, 2, 3, 4]), (6, [0, 2, 3]), (7, [0, 2, 3, 5]), (8, [0, 2, 3, 5]), (9, [0, 2, 3, 5]), (10, [0, 2, 3, 5, 6]), (11, [0, 2, 3, 5, 6]), (12, [0, 2, 3]), (13, [0, 2, 3]), (14, [0, 2, 3]), (15, [0, 2, 3, 51]), (16, [0, 2, 3]), (17, [0, 2, 3, 51]), (18, [0, 2, 3]), (19, [0, 2, 3, 51]), (20, [0, 2, 3]), (21, [0, 2, 3]), (1000003, [0, 2, 3]), (1000007, [0, 2, 3])]),
  (153, .code c153 [.val] [] [(2, none)] [(0, [0]), (1, [0]), (2, [0, 3]), (3, [0, 3]), (4, [0, 3]), (5, []), (6, [0]), (7, [0, 4]), (8, [0, 4]), (9, [0, 4]), (10, []), (11, [0]), (1000002, [0, 2]), (1000007, [0, 2])]),
  (154, .code c154 [.val] [] [(2, none)] [(0, [0]), (1, [1]), (2, [1, 3]), (3, [3, 7, 8, 9]), (4, [3, 7, 8, 9]), (5, [3, 5, 7, 8, 9]), (6, [3, 7, 8, 9]), (7, [3]), (1000003, [3])]),
  (155, .code c155 [.val, .val] [] [(4, none)] [(0, [0, 1]), (1, [1, 2]), (2, [1, 5]), (3, []), (4, [1, 5]), (5, [1, 5, 15, 16, 17]), (6, [1, 5, 15, 16, 17]), (7, [1, 5, 6, 7, 15, 16, 17]), (8, []), (9, [1, 5, 15, 16, 17]), (10, []), (1000005, [4])]),
  (156, .code c156 [.val, .val, .val] [] [(6, none), (7, none)] [(0, [0, 1, 2]), (1, [1, 2, 3]), (2, [1, 2, 3, 8]), (3, [1, 2, 3, 8, 23, 24, 25]), (4, [1, 2, 3, 8, 23, 24, 25]), (5, [1, 2, 3, 8, 10, 23, 24, 25]), (6, [1, 2, 3, 8, 23, 24, 25]), (7, [2, 3, 8]), (8, [2, 3, 8, 11]), (9, [2, 3, 8, 11, 35, 36, 37]), (10, [2, 3, 8, 11, 35, 36, 37]), (11, [2, 3, 8, 11, 13, 35, 36, 37]), (12, [2, 3, 8, 11, 13, 14, 35, 36, 37]), (13, [2, 3, 8, 11, 13, 14, 35, 36, 37, 42, 43, 44]), (14, [2, 3, 8, 11, 13, 14, 35, 36, 37, 42, 43, 44]), (15, [2, 3, 8, 11, 13, 14, 15, 16, 35, 36, 37, 42, 43, 44]), (16, [2, 3, 8, 11, 13, 14, 15, 17, 18, 35, 36, 37, 42, 43, 44]), (17, [2, 3, 8, 11, 13, 14, 17, 35, 36, 37, 42, 43, 44]), (18, [2, 3, 8, 11, 13, 14, 35, 36, 37, 42, 43, 44]), (19, [2, 3, 8, 11, 13, 14, 35, 36, 37]), (20, [2, 3, 8, 11, 13, 19, 35, 36, 37]), (21, [2, 3, 8, 11, 13, 19, 35, 36, 37, 71, 72, 73]), (22, [2, 3, 8, 11, 13, 19, 35, 36, 37, 71, 72, 73]), (23, [2, 3, 8, 11, 13, 19, 20, 21, 35, 36, 37, 71, 72, 73]), (24, [2, 3, 8, 11, 13, 19, 21, 22, 35, 36, 37, 71, 72, 73]), (25, [2, 3, 8, 11, 13, 19, 35, 36, 37, 71, 72, 73]), (26, [2, 3, 8, 11, 13, 19, 35, 36, 37]), (27, [2, 3, 8, 11, 35, 36, 37]), (28, [8, 11]), (1000003, [2, 3, 8, 67, 96, 109]), (1000009, [8, 11]), (1000013, [2, 3, 8, 11, 13, 14, 35, 36, 37, 67, 96, 109]), (1000021, [2, 3, 8, 11, 13, 19, 35, 36, 37, 67, 96, 109])]),
  (157, .code c157 [.val] [] [(2, none)] [(0, [0]), (1, [1]), (2, [1, 3]), (3, [1, 3, 9, 10, 11]), (4, [1, 3, 9, 10, 11]), (5, [1, 3, 5, 9, 10, 11]), (6, [1, 3, 9, 10, 11]), (7, [1, 3]), (8, [1, 3, 22, 23, 24]), (9, [1, 3, 22, 23, 24]), (10, [1, 3, 7, 22, 23, 24]), (11, [1, 3, 22, 23, 24]), (12, [3]), (1000003, [1, 3, 33]), (1000008, [3])]),
  (158, .code c158 [.iop, .val] [0] [(4, none)] [(0, [0, 1]), (1, [0, 1])]),
  (163, .code c163 [.iop] [0] [(2, none)] [(0, [0]), (1, [0]), (2, [0, 3]), (3, [0]), (4, [0, 3]), (5, [0, 3]), (6, [0, 3]), (7, [0, 3]), (8, [0])]),
  (165, .code c165 [.val] [] [(2, none)] [(0, [0]), (1, [0]), (2, []), (3, [0])]),
  (167, .code c167 [.val] [] [(2, none)] [(0, [0]), (1, [0])]),
  (168, .code c168 [.iop, .io] [0, 1] [(4, none)] [(0, [0, 1]), (1, [0, 1])]),
  (174, .code c174 [.val, .val] [] [(4, none)] [(0, [0, 1]), (1, [0, 1])]),
  (175, .code c175 [.val, .val] [] [(4, none)] [(0, [0, 1]), (1, [0, 1]), (2, [0]), (3, [0])]),
  (183, .ext (pF32frombits)),
  (188, .code c188 [.val] [] [(2, none)] [(0, [0]), (1, [0]), (2, [0]), (3, [0])]),
  (195, .code c195 [.val] [] [(2, none)] [(0, [0]), (1, [0])]),
  (196, .ext (pCopysign))]
noncomputable def E : Env := ⟨fun t => lookT tyTab t, lookF fnTab⟩
noncomputable def fdAt (n : Nat) : FD := match lookF fnTab n with
  | some d => d
  | none => .ext fun _ => none
noncomputable def keepAt (n : Nat) : List (Nat × List Nat) := match lookF fnTab n with
  | some d => d.keep
  | none => []
theorem tysOk : TysOk Try.prog E := tysOk_of (l := tyTab) (fun _ => rfl) (by kernel_rfl)
theorem ft13 : FnTab Try.prog E 13 (fdAt 13) := fnTab_code (c := c13) (modes := (fdAt 13).ms) (outs := (fdAt 13).os) (results := (fdAt 13).rs) (keep := (fdAt 13).keep) Try.func13 (by kernel_rfl) (by kernel_rfl) (by kernel_rfl)
theorem ft28 : FnTab Try.prog E 28 (fdAt 28) := fnTab_code (c := c28) (modes := (fdAt 28).ms) (outs := (fdAt 28).os) (results := (fdAt 28).rs) (keep := (fdAt 28).keep) Try.func28 (by kernel_rfl) (by kernel_rfl) (by kernel_rfl)
theorem ft29 : FnTab Try.prog E 29 (fdAt 29) := fnTab_code (c := c29) (modes := (fdAt 29).ms) (outs := (fdAt 29).os) (results := (fdAt 29).rs) (keep := (fdAt 29).keep) Try.func29 (by kernel_rfl) (by kernel_rfl) (by kernel_rfl)
theorem ft30 : FnTab Try.prog E 30 (fdAt 30) := fnTab_code (c := c30) (modes := (fdAt 30).ms) (outs := (fdAt 30).os) (results := (fdAt 30).rs) (keep := (fdAt 30).keep) Try.func30 (by kernel_rfl) (by kernel_rfl) (by kernel_rfl)
theorem ft33 : FnTab Try.prog E 33 (fdAt 33) := fnTab_code (c := c33) (modes := (fdAt 33).ms) (outs := (fdAt 33).os) (results := (fdAt 33).rs) (keep := (fdAt 33).keep) Try.func33 (by kernel_rfl) (by kernel_rfl) (by kernel_rfl)
theorem ft44 : FnTab Try.prog E 44 (fdAt 44) := fnTab_code (c := c44) (modes := (fdAt 44).ms) (outs := (fdAt 44).os) (results := (fdAt 44).rs) (keep := (fdAt 44).keep) Try.func44 (by kernel_rfl) (by kernel_rfl) (by kernel_rfl)
theorem ft63 : FnTab Try.prog E 63 (fdAt 63) := fnTab_code (c := c63) (modes := (fdAt 63).ms) (outs := (fdAt 63).os) (results := (fdAt 63).rs) (keep := (fdAt 63).keep) Try.func63 (by kernel_rfl) (by kernel_rfl) (by kernel_rfl)
theorem ft64 : FnTab Try.prog E 64 (fdAt 64) := fnTab_code (c := c64) (modes := (fdAt 64).ms) (outs := (fdAt 64).os) (results := (fdAt 64).rs) (keep := (fdAt 64).keep) Try.func64 (by kernel_rfl) (by kernel_rfl) (by kernel_rfl)
theorem ft66 : FnTab Try.prog E 66 (fdAt 66) := fnTab_code (c := c66) (modes := (fdAt 66).ms) (outs := (fdAt 66).os) (results := (fdAt 66).rs) (keep := (fdAt 66).keep) Try.func66 (by kernel_rfl) (by kernel_rfl) (by kernel_rfl)
theorem ft77 : FnTab Try.prog E 77 (fdAt 77) := fnTab_code (c := c77) (modes := (fdAt 77).ms) (outs := (fdAt 77).os) (results := (fdAt 77).rs) (keep := (fdAt 77).keep) Try.func77 (by kernel_rfl) (by kernel_rfl) (by kernel_rfl)
theorem ft78 : FnTab Try.prog E 78 (fdAt 78) := fnTab_code (c := c78) (modes := (fdAt 78).ms) (outs := (fdAt 78).os) (results := (fdAt 78).rs) (keep := (fdAt 78).keep) Try.func78 (by kernel_rfl) (by kernel_rfl) (by kernel_rfl)
theorem ft79 : FnTab Try.prog E 79 (fdAt 79) := fnTab_code (c := c79) (modes := (fdAt 79).ms) (outs := (fdAt 79).os) (results := (fdAt 79).rs) (keep := (fdAt 79).keep) Try.func79 (by kernel_rfl) (by kernel_rfl) (by kernel_rfl)
theorem ft80 : FnTab Try.prog E 80 (fdAt 80) := fnTab_code (c := c80) (modes := (fdAt 80).ms) (outs := (fdAt 80).os) (results := (fdAt 80).rs) (keep := (fdAt 80).keep) Try.func80 (by kernel_rfl) (by kernel_rfl) (by kernel_rfl)
theorem ft81 : FnTab Try.prog E 81 (fdAt 81) := fnTab_code (c := c81) (modes := (fdAt 81).ms) (outs := (fdAt 81).os) (results := (fdAt 81).rs) (keep := (fdAt 81).keep) Try.func81 (by kernel_rfl) (by kernel_rfl) (by kernel_rfl)
theorem ft82 : FnTab Try.prog E 82 (fdAt 82) := fnTab_code (c := c82) (modes := (fdAt 82).ms) (outs := (fdAt 82).os) (results := (fdAt 82).rs) (keep := (fdAt 82).keep) Try.func82 (by kernel_rfl) (by kernel_rfl) (by kernel_rfl)
theorem ft90 : FnTab Try.prog E 90 (fdAt 90) := fnTab_code (c := c90) (modes := (fdAt 90).ms) (outs := (fdAt 90).os) (results := (fdAt 90).rs) (keep := (fdAt 90).keep) Try.func90 (by kernel_rfl) (by kernel_rfl) (by kernel_rfl)
theorem ft91 : FnTab Try.prog E 91 (fdAt 91) := fnTab_code (c := c91) (modes := (fdAt 91).ms) (outs := (fdAt 91).os) (results := (fdAt 91).rs) (keep := (fdAt 91).keep) Try.func91 (by kernel_rfl) (by kernel_rfl) (by kernel_rfl)
theorem ft92 : FnTab Try.prog E 92 (fdAt 92) := fnTab_code (c := c92) (modes := (fdAt 92).ms) (outs := (fdAt 92).os) (results := (fdAt 92).rs) (keep := (fdAt 92).keep) Try.func92 (by kernel_rfl) (by kernel_rfl) (by kernel_rfl)
theorem ft93 : FnTab Try.prog E 93 (fdAt 93) := fnTab_code (c := c93) (modes := (fdAt 93).ms) (outs := (fdAt 93).os) (results := (fdAt 93).rs) (keep := (fdAt 93).keep) Try.func93 (by kernel_rfl) (by kernel_rfl) (by kernel_rfl)
theorem ft96 : FnTab Try.prog E 96 (.ext (pF32bits)) := ext_pF32bits Try.func96 (by kernel_rfl) (by kernel_rfl) (by kernel_rfl) (by kernel_rfl)
theorem ft97 : FnTab Try.prog E 97 (fdAt 97) := fnTab_code (c := c97) (modes := (fdAt 97).ms) (outs := (fdAt 97).os) (results := (fdAt 97).rs) (keep := (fdAt 97).keep) Try.func97 (by kernel_rfl) (by kernel_rfl) (by kernel_rfl)
theorem ft98 : FnTab Try.prog E 98 (fdAt 98) := fnTab_code (c := c98) (modes := (fdAt 98).ms) (outs := (fdAt 98).os) (results := (fdAt 98).rs) (keep := (fdAt 98).keep) Try.func98 (by kernel_rfl) (by kernel_rfl) (by kernel_rfl)
theorem ft104 : FnTab Try.prog E 104 (fdAt 104) := fnTab_code (c := c104) (modes := (fdAt 104).ms) (outs := (fdAt 104).os) (results := (fdAt 104).rs) (keep := (fdAt 104).keep) Try.func104 (by kernel_rfl) (by kernel_rfl) (by kernel_rfl)
theorem ft106 : FnTab Try.prog E 106 (fdAt 106) := fnTab_code (c := c106) (modes := (fdAt 106).ms) (outs := (fdAt 106).os) (results := (fdAt 106).rs) (keep := (fdAt 106).keep) Try.func106 (by kernel_rfl) (by kernel_rfl) (by kernel_rfl)
theorem ft108 : FnTab Try.prog E 108 (fdAt 108) := fnTab_code (c := c108) (modes := (fdAt 108).ms) (outs := (fdAt 108).os) (results := (fdAt 108).rs) (keep := (fdAt 108).keep) Try.func108 (by kernel_rfl) (by kernel_rfl) (by kernel_rfl)
theorem ft109 : FnTab Try.prog E 109 (fdAt 109) := fnTab_code (c := c109) (modes := (fdAt 109).ms) (outs := (fdAt 109).os) (results := (fdAt 109).rs) (keep := (fdAt 109).keep) Try.func109 (by kernel_rfl) (by kernel_rfl) (by kernel_rfl)
theorem ft112 : FnTab Try.prog E 112 (fdAt 112) := fnTab_code (c := c112) (modes := (fdAt 112).ms) (outs := (fdAt 112).os) (results := (fdAt 112).rs) (keep := (fdAt 112).keep) Try.func112 (by kernel_rfl) (by kernel_rfl) (by kernel_rfl)
theorem ft113 : FnTab Try.prog E 113 (fdAt 113) := fnTab_code (c := c113) (modes := (fdAt 113).ms) (outs := (fdAt 113).os) (results := (fdAt 113).rs) (keep := (fdAt 113).keep) Try.func113 (by kernel_rfl) (by kernel_rfl) (by kernel_rfl)
theorem ft116 : FnTab Try.prog E 116 (fdAt 116) := fnTab_code (c := c116) (modes := (fdAt 116).ms) (outs := (fdAt 116).os) (results := (fdAt 116).rs) (keep := (fdAt 116).keep) Try.func116 (by kernel_rfl) (by kernel_rfl) (by kernel_rfl)
theorem ft122 : FnTab Try.prog E 122 (fdAt 122) := fnTab_code (c := c122) (modes := (fdAt 122).ms) (outs := (fdAt 122).os) (results := (fdAt 122).rs) (keep := (fdAt 122).keep) Try.func122 (by kernel_rfl) (by kernel_rfl) (by kernel_rfl)
theorem ft130 : FnTab Try.prog E 130 (fdAt 130) := fnTab_code (c := c130) (modes := (fdAt 130).ms) (outs := (fdAt 130).os) (results := (fdAt 130).rs) (keep := (fdAt 130).keep) Try.func130 (by kernel_rfl) (by kernel_rfl) (by kernel_rfl)
theorem ft132 : FnTab Try.prog E 132 (fdAt 132) := fnTab_code (c := c132) (modes := (fdAt 132).ms) (outs := (fdAt 132).os) (results := (fdAt 132).rs) (keep := (fdAt 132).keep) Try.func132 (by kernel_rfl) (by kernel_rfl) (by kernel_rfl)
theorem ft133 : FnTab Try.prog E 133 (fdAt 133) := fnTab_code (c := c133) (modes := (fdAt 133).ms) (outs := (fdAt 133).os) (results := (fdAt 133).rs) (keep := (fdAt 133).keep) Try.func133 (by kernel_rfl) (by kernel_rfl) (by kernel_rfl)
theorem ft134 : FnTab Try.prog E 134 (fdAt 134) := fnTab_code (c := c134) (modes := (fdAt 134).ms) (outs := (fdAt 134).os) (results := (fdAt 134).rs) (keep := (fdAt 134).keep) Try.func134 (by kernel_rfl) (by kernel_rfl) (by kernel_rfl)
theorem ft135 : FnTab Try.prog E 135 (fdAt 135) := fnTab_code (c := c135) (modes := (fdAt 135).ms) (outs := (fdAt 135).os) (results := (fdAt 135).rs) (keep := (fdAt 135).keep) Try.func135 (by kernel_rfl) (by kernel_rfl) (by kernel_rfl)
theorem ft139 : FnTab Try.prog E 139 (fdAt 139) := fnTab_code (c := c139) (modes := (fdAt 139).ms) (outs := (fdAt 139).os) (results := (fdAt 139).rs) (keep := (fdAt 139).keep) Try.func139 (by kernel_rfl) (by kernel_rfl) (by kernel_rfl)
theorem ft140 : FnTab Try.prog E 140 (fdAt 140) := fnTab_code (c := c140) (modes := (fdAt 140).ms) (outs := (fdAt 140).os) (results := (fdAt 140).rs) (keep := (fdAt 140).keep) Try.func140 (by kernel_rfl) (by kernel_rfl) (by kernel_rfl)
theorem ft152 : FnTab Try.prog E 152 (fdAt 152) := fnTab_code (c := c152) (modes := (fdAt 152).ms) (outs := (fdAt 152).os) (results := (fdAt 152).rs) (keep := (fdAt 152).keep) Try.func152 (by kernel_rfl) (by kernel_rfl) (by kernel_rfl)
theorem ft153 : FnTab Try.prog E 153 (fdAt 153) := fnTab_code (c := c153) (modes := (fdAt 153).ms) (outs := (fdAt 153).os) (results := (fdAt 153).rs) (keep := (fdAt 153).keep) Try.func153 (by kernel_rfl) (by kernel_rfl) (by kernel_rfl)
theorem ft154 : FnTab Try.prog E 154 (fdAt 154) := fnTab_code (c := c154) (modes := (fdAt 154).ms) (outs := (fdAt 154).os) (results := (fdAt 154).rs) (keep := (fdAt 154).keep) Try.func154 (by kernel_rfl) (by kernel_rfl) (by kernel_rfl)
theorem ft155 : FnTab Try.prog E 155 (fdAt 155) := fnTab_code (c := c155) (modes := (fdAt 155).ms) (outs := (fdAt 155).os) (results := (fdAt 155).rs) (keep := (fdAt 155).keep) Try.func155 (by kernel_rfl) (by kernel_rfl) (by kernel_rfl)
theorem ft156 : FnTab Try.prog E 156 (fdAt 156) := fnTab_code (c := c156) (modes := (fdAt 156).ms) (outs := (fdAt 156).os) (results := (fdAt 156).rs) (keep := (fdAt 156).keep) Try.func156 (by kernel_rfl) (by kernel_rfl) (by kernel_rfl)
theorem ft157 : FnTab Try.prog E 157 (fdAt 157) := fnTab_code (c := c157) (modes := (fdAt 157).ms) (outs := (fdAt 157).os) (results := (fdAt 157).rs) (keep := (fdAt 157).keep) Try.func157 (by kernel_rfl) (by kernel_rfl) (by kernel_rfl)
theorem ft158 : FnTab Try.prog E 158 (fdAt 158) := fnTab_code (c := c158) (modes := (fdAt 158).ms) (outs := (fdAt 158).os) (results := (fdAt 158).rs) (keep := (fdAt 158).keep) Try.func158 (by kernel_rfl) (by kernel_rfl) (by kernel_rfl)
theorem ft163 : FnTab Try.prog E 163 (fdAt 163) := fnTab_code (c := c163) (modes := (fdAt 163).ms) (outs := (fdAt 163).os) (results := (fdAt 163).rs) (keep := (fdAt 163).keep) Try.func163 (by kernel_rfl) (by kernel_rfl) (by kernel_rfl)
theorem ft165 : FnTab Try.prog E 165 (fdAt 165) := fnTab_code (c := c165) (modes := (fdAt 165).ms) (outs := (fdAt 165).os) (results := (fdAt 165).rs) (keep := (fdAt 165).keep) Try.func165 (by kernel_rfl) (by kernel_rfl) (by kernel_rfl)
theorem ft167 : FnTab Try.prog E 167 (fdAt 167) := fnTab_code (c := c167) (modes := (fdAt 167).ms) (outs := (fdAt 167).os) (results := (fdAt 167).rs) (keep := (fdAt 167).keep) Try.func167 (by kernel_rfl) (by kernel_rfl) (by kernel_rfl)
theorem ft168 : FnTab Try.prog E 168 (fdAt 168) := fnTab_code (c := c168) (modes := (fdAt 168).ms) (outs := (fdAt 168).os) (results := (fdAt 168).rs) (keep := (fdAt 168).keep) Try.func168 (by kernel_rfl) (by kernel_rfl) (by kernel_rfl)
theorem ft174 : FnTab Try.prog E 174 (fdAt 174) := fnTab_code (c := c174) (modes := (fdAt 174).ms) (outs := (fdAt 174).os) (results := (fdAt 174).rs) (keep := (fdAt 174).keep) Try.func174 (by kernel_rfl) (by kernel_rfl) (by kernel_rfl)
theorem ft175 : FnTab Try.prog E 175 (fdAt 175) := fnTab_code (c := c175) (modes := (fdAt 175).ms) (outs := (fdAt 175).os) (results := (fdAt 175).rs) (keep := (fdAt 175).keep) Try.func175 (by kernel_rfl) (by kernel_rfl) (by kernel_rfl)
theorem ft183 : FnTab Try.prog E 183 (.ext (pF32frombits)) := ext_pF32frombits Try.func183 (by kernel_rfl) (by kernel_rfl) (by kernel_rfl) (by kernel_rfl)
theorem ft188 : FnTab Try.prog E 188 (fdAt 188) := fnTab_code (c := c188) (modes := (fdAt 188).ms) (outs := (fdAt 188).os) (results := (fdAt 188).rs) (keep := (fdAt 188).keep) Try.func188 (by kernel_rfl) (by kernel_rfl) (by kernel_rfl)
theorem ft195 : FnTab Try.prog E 195 (fdAt 195) := fnTab_code (c := c195) (modes := (fdAt 195).ms) (outs := (fdAt 195).os) (results := (fdAt 195).rs) (keep := (fdAt 195).keep) Try.func195 (by kernel_rfl) (by kernel_rfl) (by kernel_rfl)
theorem ft196 : FnTab Try.prog E 196 (.ext (pCopysign)) := DC.signOk
theorem allFns : AllFns Try.prog E fnTab := .cons ft13 (.cons ft28 (.cons ft29 (.cons ft30 (.cons ft33 (.cons ft44 (.cons ft63 (.cons ft64 (.cons ft66 (.cons ft77 (.cons ft78 (.cons ft79 (.cons ft80 (.cons ft81 (.cons ft82 (.cons ft90 (.cons ft91 (.cons ft92 (.cons ft93 (.cons ft96 (.cons ft97 (.cons ft98 (.cons ft104 (.cons ft106 (.cons ft108 (.cons ft109 (.cons ft112 (.cons ft113 (.cons ft116 (.cons ft122 (.cons ft130 (.cons ft132 (.cons ft133 (.cons ft134 (.cons ft135 (.cons ft139 (.cons ft140 (.cons ft152 (.cons ft153 (.cons ft154 (.cons ft155 (.cons ft156 (.cons ft157 (.cons ft158 (.cons ft163 (.cons ft165 (.cons ft167 (.cons ft168 (.cons ft174 (.cons ft175 (.cons ft183 (.cons ft188 (.cons ft195 (.cons ft196 (.nil))))))))))))))))))))))))))))))))))))))))))))))))))))))
theorem fnOk : ∀ f fd, E.fn f = some fd → FnTab Try.prog E f fd := fnTab_of (l := fnTab) (fun _ => rfl) allFns
end Go.Proofs.Ytjkhhalnlodinaa.D
end
section
/- Plain functions for the law's Go functions, each tied to the reading by the kernel (printed by a program of this workplace). -/
namespace Go.Proofs.Ytjkhhalnlodinaa.D
open Go Go.Desk
set_option linter.unusedVariables false
noncomputable def x183.w : FnW E := xF32frombits.w 183 (by kernel_rfl)

noncomputable def x96.w : FnW E := xF32bits.w 96 (by kernel_rfl)

noncomputable def x196.w : FnW E := xCopysign.w 196 (by kernel_rfl)

def f28_l_b10Long : Nat → Nat → List T → Nat → List T → Option (Bool)
  | 0, _, _, _, _ => none
  | n + 1, n1, l2, n3, l4 =>
    br (decide (((n1 : Nat) : Int) > (1048576 : Int))) (
     some true) (
     some (decide (((n3 : Nat) : Int) > (1048576 : Int))))
def sg_ll : Sig (Nat × List T × Nat × List T) where
  pk := fun v => [.lst v.1 v.2.1, .lst v.2.2.1 v.2.2.2]
  up := fun ls => match ls with
    | [.lst a0 a1, .lst a2 a3] => some (a0, a1, a2, a3)
    | _ => none
  ok := by
    intro ls v h
    split at h
    · cases h; rfl
    · cases h

def sg_b : Sig (Bool) where
  pk := fun v => [.bool v]
  up := fun ls => match ls with
    | [.bool a0] => some a0
    | _ => none
  ok := by
    intro ls v h
    split at h
    · cases h; rfl
    · cases h

def f28_l_b10Long.P : List Arg := [⟨.val, ⟨false, [.sl .shr [.leaf]], [.lst 0 []]⟩⟩, ⟨.val, ⟨false, [.sl .shr [.leaf]], [.lst 0 []]⟩⟩]
def f28_l_b10Long.A : RAlt (Bool) := .one ⟨[⟨false, [.leaf], [.bool false]⟩], [none, none]⟩ sg_b
def f28_l_b10Long.F (n : Nat) (v : Nat × List T × Nat × List T) := f28_l_b10Long n v.1 v.2.1 v.2.2.1 v.2.2.2
noncomputable def f28_l_b10Long.O (n : Nat) : Orc := orcOf (E := E) [] [] n
theorem f28_l_b10Long.ok : ∀ n v x, f28_l_b10Long.F n v = some x → evalFn E n 28 (flAs f28_l_b10Long.P (sg_ll.pk v)) = some (f28_l_b10Long.A.enc x) :=
  fn_pure (modes := (fdAt 28).ms) (outs := (fdAt 28).os) (results := (fdAt 28).rs) f28_l_b10Long.O (c := c28) (keep := keepAt 28) (by kernel_rfl) (fun n => orcOf_cf _ _ n) (fun n => lpOk_of (bs := []) (by kernel_rfl) .nil) (fun _ => rfl) (fun _ _ => by kernel_rfl)
noncomputable def f28_l_b10Long.w : FnW E := fnW 28 f28_l_b10Long.P sg_ll f28_l_b10Long.A f28_l_b10Long.F f28_l_b10Long.ok

def f90_s_l00From : Nat → Nat → List T → Option (Nat × List T × Int × Int)
  | 0, _, _ => none
  | n + 1, n1, l2 =>
    some (n1, l2, (0 : Int), (0 : Int))
def sg_l : Sig (Nat × List T) where
  pk := fun v => [.lst v.1 v.2]
  up := fun ls => match ls with
    | [.lst a0 a1] => some (a0, a1)
    | _ => none
  ok := by
    intro ls v h
    split at h
    · cases h; rfl
    · cases h

def sg_lii : Sig (Nat × List T × Int × Int) where
  pk := fun v => [.lst v.1 v.2.1, .int v.2.2.1, .int v.2.2.2]
  up := fun ls => match ls with
    | [.lst a0 a1, .int a2, .int a3] => some (a0, a1, a2, a3)
    | _ => none
  ok := by
    intro ls v h
    split at h
    · cases h; rfl
    · cases h

def f90_s_l00From.P : List Arg := [⟨.val, ⟨false, [.sl .shr [.leaf]], [.lst 0 []]⟩⟩]
def f90_s_l00From.A : RAlt (Nat × List T × Int × Int) := .one ⟨[⟨false, [.rf .own [.sl .shr [.leaf], .leaf, .leaf]], [.ref [.lst 0 [], .int .i64 0, .int .u64 0]]⟩], [none]⟩ sg_lii
def f90_s_l00From.F (n : Nat) (v : Nat × List T) := f90_s_l00From n v.1 v.2
noncomputable def f90_s_l00From.O (n : Nat) : Orc := orcOf (E := E) [] [] n
theorem f90_s_l00From.ok : ∀ n v x, f90_s_l00From.F n v = some x → evalFn E n 90 (flAs f90_s_l00From.P (sg_l.pk v)) = some (f90_s_l00From.A.enc x) :=
  fn_pure (modes := (fdAt 90).ms) (outs := (fdAt 90).os) (results := (fdAt 90).rs) f90_s_l00From.O (c := c90) (keep := keepAt 90) (by kernel_rfl) (fun n => orcOf_cf _ _ n) (fun n => lpOk_of (bs := []) (by kernel_rfl) .nil) (fun _ => rfl) (fun _ _ => by kernel_rfl)
noncomputable def f90_s_l00From.w : FnW E := fnW 90 f90_s_l00From.P sg_l f90_s_l00From.A f90_s_l00From.F f90_s_l00From.ok

def f163_s_l00Srcnext : Nat → Nat → List T → Int → Int → Option (Int × Nat × List T × Int × Int)
  | 0, _, _, _, _ => none
  | n + 1, n1, l2, i3, i4 =>
    br (decide (i3 < ((n1 : Nat) : Int))) (
     gd ((decide (((0 : Int) ≤ i3) ∧ (i3 < ((n1 : Nat) : Int)))) && (okAt [(CK.int IntKind.u8)] l2 (Int.toNat i3))) (
     let i5 : Int := (IntKind.i64.wrap (iAt l2 (Int.toNat i3)))
     let i6 : Int := (IntKind.i64.wrap (i3 + (1 : Int)))
     let i7 : Int := (IntKind.u64.wrap ((IntKind.u64.wrap ((IntKind.u64.wrap (i4 * (6364136223846793005 : Int))) + (IntKind.u64.wrap i5))) + (1442695040888963407 : Int)))
     br (decide (i6 ≤ ((n1 : Nat) : Int))) (
      some (i5, n1, l2, i6, i7)) (
      some ((IntKind.i64.wrap (intBits BinOp.and IntKind.u64 (Int.fdiv i7 (1099511627776 : Int)) (255 : Int))), n1, l2, i6, i7)))) (
     let i8 : Int := (IntKind.i64.wrap (i3 + (1 : Int)))
     let i9 : Int := (IntKind.u64.wrap ((IntKind.u64.wrap ((IntKind.u64.wrap (i4 * (6364136223846793005 : Int))) + (0 : Int))) + (1442695040888963407 : Int)))
     br (decide (i8 ≤ ((n1 : Nat) : Int))) (
      some ((0 : Int), n1, l2, i8, i9)) (
      some ((IntKind.i64.wrap (intBits BinOp.and IntKind.u64 (Int.fdiv i9 (1099511627776 : Int)) (255 : Int))), n1, l2, i8, i9)))
def sg_ilii : Sig (Int × Nat × List T × Int × Int) where
  pk := fun v => [.int v.1, .lst v.2.1 v.2.2.1, .int v.2.2.2.1, .int v.2.2.2.2]
  up := fun ls => match ls with
    | [.int a0, .lst a1 a2, .int a3, .int a4] => some (a0, a1, a2, a3, a4)
    | _ => none
  ok := by
    intro ls v h
    split at h
    · cases h; rfl
    · cases h

def f163_s_l00Srcnext.P : List Arg := [⟨.iop, ⟨false, [.rf .own [.sl .shr [.leaf], .leaf, .leaf]], [.ref [.lst 0 [], .int .i64 0, .int .u64 0]]⟩⟩]
def f163_s_l00Srcnext.A : RAlt (Int × Nat × List T × Int × Int) := .one ⟨[⟨false, [.leaf], [.int .i64 0]⟩], [some ⟨false, [.rf .own [.sl .shr [.leaf], .leaf, .leaf]], [.ref [.lst 0 [], .int .i64 0, .int .u64 0]]⟩]⟩ sg_ilii
def f163_s_l00Srcnext.F (n : Nat) (v : Nat × List T × Int × Int) := f163_s_l00Srcnext n v.1 v.2.1 v.2.2.1 v.2.2.2
noncomputable def f163_s_l00Srcnext.O (n : Nat) : Orc := orcOf (E := E) [] [] n
theorem f163_s_l00Srcnext.ok : ∀ n v x, f163_s_l00Srcnext.F n v = some x → evalFn E n 163 (flAs f163_s_l00Srcnext.P (sg_lii.pk v)) = some (f163_s_l00Srcnext.A.enc x) :=
  fn_pure (modes := (fdAt 163).ms) (outs := (fdAt 163).os) (results := (fdAt 163).rs) f163_s_l00Srcnext.O (c := c163) (keep := keepAt 163) (by kernel_rfl) (fun n => orcOf_cf _ _ n) (fun n => lpOk_of (bs := []) (by kernel_rfl) .nil) (fun _ => rfl) (fun _ _ => by kernel_rfl)
noncomputable def f163_s_l00Srcnext.w : FnW E := fnW 163 f163_s_l00Srcnext.P sg_lii f163_s_l00Srcnext.A f163_s_l00Srcnext.F f163_s_l00Srcnext.ok

def f97_s_l00Srcpick : Nat → Nat → List T → Int → Int → Int → Option (Int × Nat × List T × Int × Int)
  | 0, _, _, _, _, _ => none
  | n + 1, n1, l2, i3, i4, i5 =>
    br (decide (i5 ≤ (1 : Int))) (
     some ((0 : Int), n1, l2, i3, i4)) (
     bd (f163_s_l00Srcnext n n1 l2 i3 i4) fun r6 =>
     let i7 : Int := r6.1
     let n8 : Nat := r6.2.1
     let l9 : List T := r6.2.2.1
     let i10 : Int := r6.2.2.2.1
     let i11 : Int := r6.2.2.2.2
     br (decide (i5 > (200 : Int))) (
      bd (f163_s_l00Srcnext n n8 l9 i10 i11) fun r12 =>
      let i13 : Int := r12.1
      let n14 : Nat := r12.2.1
      let l15 : List T := r12.2.2.1
      let i16 : Int := r12.2.2.2.1
      let i17 : Int := r12.2.2.2.2
      let i18 : Int := (IntKind.i64.wrap ((IntKind.i64.wrap (i7 * (256 : Int))) + i13))
      gd (!(decide (i5 = (0 : Int)))) (
      some ((Int.tmod i18 i5), n14, l15, i16, i17))) (
      gd (!(decide (i5 = (0 : Int)))) (
      some ((Int.tmod i7 i5), n8, l9, i10, i11))))
def sg_liii : Sig (Nat × List T × Int × Int × Int) where
  pk := fun v => [.lst v.1 v.2.1, .int v.2.2.1, .int v.2.2.2.1, .int v.2.2.2.2]
  up := fun ls => match ls with
    | [.lst a0 a1, .int a2, .int a3, .int a4] => some (a0, a1, a2, a3, a4)
    | _ => none
  ok := by
    intro ls v h
    split at h
    · cases h; rfl
    · cases h

def f97_s_l00Srcpick.P : List Arg := [⟨.iop, ⟨false, [.rf .own [.sl .shr [.leaf], .leaf, .leaf]], [.ref [.lst 0 [], .int .i64 0, .int .u64 0]]⟩⟩, ⟨.val, ⟨false, [.leaf], [.int .i64 0]⟩⟩]
def f97_s_l00Srcpick.A : RAlt (Int × Nat × List T × Int × Int) := .one ⟨[⟨false, [.leaf], [.int .i64 0]⟩], [some ⟨false, [.rf .own [.sl .shr [.leaf], .leaf, .leaf]], [.ref [.lst 0 [], .int .i64 0, .int .u64 0]]⟩, none]⟩ sg_ilii
def f97_s_l00Srcpick.F (n : Nat) (v : Nat × List T × Int × Int × Int) := f97_s_l00Srcpick n v.1 v.2.1 v.2.2.1 v.2.2.2.1 v.2.2.2.2
noncomputable def f97_s_l00Srcpick.O (n : Nat) : Orc := orcOf (E := E) [f163_s_l00Srcnext.w] [] n
theorem f97_s_l00Srcpick.ok : ∀ n v x, f97_s_l00Srcpick.F n v = some x → evalFn E n 97 (flAs f97_s_l00Srcpick.P (sg_liii.pk v)) = some (f97_s_l00Srcpick.A.enc x) :=
  fn_pure (modes := (fdAt 97).ms) (outs := (fdAt 97).os) (results := (fdAt 97).rs) f97_s_l00Srcpick.O (c := c97) (keep := keepAt 97) (by kernel_rfl) (fun n => orcOf_cf _ _ n) (fun n => lpOk_of (bs := []) (by kernel_rfl) .nil) (fun _ => rfl) (fun _ _ => by kernel_rfl)
noncomputable def f97_s_l00Srcpick.w : FnW E := fnW 97 f97_s_l00Srcpick.P sg_liii f97_s_l00Srcpick.A f97_s_l00Srcpick.F f97_s_l00Srcpick.ok

def f158_s_l00Srcone : Nat → Nat → List T → Int → Int → Int → Option (Bool × Nat × List T × Int × Int)
  | 0, _, _, _, _, _ => none
  | n + 1, n1, l2, i3, i4, i5 =>
    bd (f97_s_l00Srcpick n n1 l2 i3 i4 i5) fun r6 =>
    let i7 : Int := r6.1
    let n8 : Nat := r6.2.1
    let l9 : List T := r6.2.2.1
    let i10 : Int := r6.2.2.2.1
    let i11 : Int := r6.2.2.2.2
    some ((i7 == (0 : Int)), n8, l9, i10, i11)
def sg_blii : Sig (Bool × Nat × List T × Int × Int) where
  pk := fun v => [.bool v.1, .lst v.2.1 v.2.2.1, .int v.2.2.2.1, .int v.2.2.2.2]
  up := fun ls => match ls with
    | [.bool a0, .lst a1 a2, .int a3, .int a4] => some (a0, a1, a2, a3, a4)
    | _ => none
  ok := by
    intro ls v h
    split at h
    · cases h; rfl
    · cases h

def f158_s_l00Srcone.P : List Arg := [⟨.iop, ⟨false, [.rf .own [.sl .shr [.leaf], .leaf, .leaf]], [.ref [.lst 0 [], .int .i64 0, .int .u64 0]]⟩⟩, ⟨.val, ⟨false, [.leaf], [.int .i64 0]⟩⟩]
def f158_s_l00Srcone.A : RAlt (Bool × Nat × List T × Int × Int) := .one ⟨[⟨false, [.leaf], [.bool false]⟩], [some ⟨false, [.rf .own [.sl .shr [.leaf], .leaf, .leaf]], [.ref [.lst 0 [], .int .i64 0, .int .u64 0]]⟩, none]⟩ sg_blii
def f158_s_l00Srcone.F (n : Nat) (v : Nat × List T × Int × Int × Int) := f158_s_l00Srcone n v.1 v.2.1 v.2.2.1 v.2.2.2.1 v.2.2.2.2
noncomputable def f158_s_l00Srcone.O (n : Nat) : Orc := orcOf (E := E) [f97_s_l00Srcpick.w] [] n
theorem f158_s_l00Srcone.ok : ∀ n v x, f158_s_l00Srcone.F n v = some x → evalFn E n 158 (flAs f158_s_l00Srcone.P (sg_liii.pk v)) = some (f158_s_l00Srcone.A.enc x) :=
  fn_pure (modes := (fdAt 158).ms) (outs := (fdAt 158).os) (results := (fdAt 158).rs) f158_s_l00Srcone.O (c := c158) (keep := keepAt 158) (by kernel_rfl) (fun n => orcOf_cf _ _ n) (fun n => lpOk_of (bs := []) (by kernel_rfl) .nil) (fun _ => rfl) (fun _ _ => by kernel_rfl)
noncomputable def f158_s_l00Srcone.w : FnW E := fnW 158 f158_s_l00Srcone.P sg_liii f158_s_l00Srcone.A f158_s_l00Srcone.F f158_s_l00Srcone.ok

def f91_s_l01DrawPlain : Nat → Nat → List T → Int → Int → Option (Nat × Nat × List T × Int × Int)
  | 0, _, _, _, _ => none
  | n + 1, n1, l2, i3, i4 =>
    bd (f97_s_l00Srcpick n n1 l2 i3 i4 (129 : Int)) fun r5 =>
    let i6 : Int := r5.1
    let n7 : Nat := r5.2.1
    let l8 : List T := r5.2.2.1
    let i9 : Int := r5.2.2.2.1
    let i10 : Int := r5.2.2.2.2
    let i11 : Int := (IntKind.i64.wrap (i6 - (64 : Int)))
    bd (f158_s_l00Srcone n n7 l8 i9 i10 (4 : Int)) fun r12 =>
    let b13 : Bool := r12.1
    let n14 : Nat := r12.2.1
    let l15 : List T := r12.2.2.1
    let i16 : Int := r12.2.2.2.1
    let i17 : Int := r12.2.2.2.2
    br b13 (
     some ((fdiv FloatKind.f32 (FloatKind.nearest FloatKind.f32 i11) 1088421888), n14, l15, i16, i17)) (
     some ((fdiv FloatKind.f32 (FloatKind.nearest FloatKind.f32 i11) 1098907648), n14, l15, i16, i17))
def sg_flii : Sig (Nat × Nat × List T × Int × Int) where
  pk := fun v => [.flt v.1, .lst v.2.1 v.2.2.1, .int v.2.2.2.1, .int v.2.2.2.2]
  up := fun ls => match ls with
    | [.flt a0, .lst a1 a2, .int a3, .int a4] => some (a0, a1, a2, a3, a4)
    | _ => none
  ok := by
    intro ls v h
    split at h
    · cases h; rfl
    · cases h

def f91_s_l01DrawPlain.P : List Arg := [⟨.iop, ⟨false, [.rf .own [.sl .shr [.leaf], .leaf, .leaf]], [.ref [.lst 0 [], .int .i64 0, .int .u64 0]]⟩⟩]
def f91_s_l01DrawPlain.A : RAlt (Nat × Nat × List T × Int × Int) := .one ⟨[⟨false, [.leaf], [.flt .f32 0]⟩], [some ⟨false, [.rf .own [.sl .shr [.leaf], .leaf, .leaf]], [.ref [.lst 0 [], .int .i64 0, .int .u64 0]]⟩]⟩ sg_flii
def f91_s_l01DrawPlain.F (n : Nat) (v : Nat × List T × Int × Int) := f91_s_l01DrawPlain n v.1 v.2.1 v.2.2.1 v.2.2.2
noncomputable def f91_s_l01DrawPlain.O (n : Nat) : Orc := orcOf (E := E) [f97_s_l00Srcpick.w, f158_s_l00Srcone.w] [] n
theorem f91_s_l01DrawPlain.ok : ∀ n v x, f91_s_l01DrawPlain.F n v = some x → evalFn E n 91 (flAs f91_s_l01DrawPlain.P (sg_lii.pk v)) = some (f91_s_l01DrawPlain.A.enc x) :=
  fn_pure (modes := (fdAt 91).ms) (outs := (fdAt 91).os) (results := (fdAt 91).rs) f91_s_l01DrawPlain.O (c := c91) (keep := keepAt 91) (by kernel_rfl) (fun n => orcOf_cf _ _ n) (fun n => lpOk_of (bs := []) (by kernel_rfl) .nil) (fun _ => rfl) (fun _ _ => by kernel_rfl)
noncomputable def f91_s_l01DrawPlain.w : FnW E := fnW 91 f91_s_l01DrawPlain.P sg_lii f91_s_l01DrawPlain.A f91_s_l01DrawPlain.F f91_s_l01DrawPlain.ok

def f168_s_l00Srcamong : Nat → Nat → List T → Int → Int → Nat → List T → Option (Int × Nat × List T × Int × Int × Nat × List T)
  | 0, _, _, _, _, _, _ => none
  | n + 1, n1, l2, i3, i4, n5, l6 =>
    bd (f97_s_l00Srcpick n n1 l2 i3 i4 ((n5 : Nat) : Int)) fun r7 =>
    let i8 : Int := r7.1
    let n9 : Nat := r7.2.1
    let l10 : List T := r7.2.2.1
    let i11 : Int := r7.2.2.2.1
    let i12 : Int := r7.2.2.2.2
    gd (decide (((0 : Int) ≤ i8) ∧ (i8 < ((n5 : Nat) : Int)))) (
    gd (okAt [(CK.int IntKind.i64)] l6 (Int.toNat i8)) (
    some ((iAt l6 (Int.toNat i8)), n9, l10, i11, i12, n5, l6)))
def sg_liil : Sig (Nat × List T × Int × Int × Nat × List T) where
  pk := fun v => [.lst v.1 v.2.1, .int v.2.2.1, .int v.2.2.2.1, .lst v.2.2.2.2.1 v.2.2.2.2.2]
  up := fun ls => match ls with
    | [.lst a0 a1, .int a2, .int a3, .lst a4 a5] => some (a0, a1, a2, a3, a4, a5)
    | _ => none
  ok := by
    intro ls v h
    split at h
    · cases h; rfl
    · cases h

def sg_iliil : Sig (Int × Nat × List T × Int × Int × Nat × List T) where
  pk := fun v => [.int v.1, .lst v.2.1 v.2.2.1, .int v.2.2.2.1, .int v.2.2.2.2.1, .lst v.2.2.2.2.2.1 v.2.2.2.2.2.2]
  up := fun ls => match ls with
    | [.int a0, .lst a1 a2, .int a3, .int a4, .lst a5 a6] => some (a0, a1, a2, a3, a4, a5, a6)
    | _ => none
  ok := by
    intro ls v h
    split at h
    · cases h; rfl
    · cases h

def f168_s_l00Srcamong.P : List Arg := [⟨.iop, ⟨false, [.rf .own [.sl .shr [.leaf], .leaf, .leaf]], [.ref [.lst 0 [], .int .i64 0, .int .u64 0]]⟩⟩, ⟨.io, ⟨false, [.sl .own [.leaf]], [.lst 0 []]⟩⟩]
def f168_s_l00Srcamong.A : RAlt (Int × Nat × List T × Int × Int × Nat × List T) := .one ⟨[⟨false, [.leaf], [.int .i64 0]⟩], [some ⟨false, [.rf .own [.sl .shr [.leaf], .leaf, .leaf]], [.ref [.lst 0 [], .int .i64 0, .int .u64 0]]⟩, some ⟨false, [.sl .own [.leaf]], [.lst 0 []]⟩]⟩ sg_iliil
def f168_s_l00Srcamong.F (n : Nat) (v : Nat × List T × Int × Int × Nat × List T) := f168_s_l00Srcamong n v.1 v.2.1 v.2.2.1 v.2.2.2.1 v.2.2.2.2.1 v.2.2.2.2.2
noncomputable def f168_s_l00Srcamong.O (n : Nat) : Orc := orcOf (E := E) [f97_s_l00Srcpick.w] [] n
theorem f168_s_l00Srcamong.ok : ∀ n v x, f168_s_l00Srcamong.F n v = some x → evalFn E n 168 (flAs f168_s_l00Srcamong.P (sg_liil.pk v)) = some (f168_s_l00Srcamong.A.enc x) :=
  fn_pure (modes := (fdAt 168).ms) (outs := (fdAt 168).os) (results := (fdAt 168).rs) f168_s_l00Srcamong.O (c := c168) (keep := keepAt 168) (by kernel_rfl) (fun n => orcOf_cf _ _ n) (fun n => lpOk_of (bs := []) (by kernel_rfl) .nil) (fun _ => rfl) (fun _ _ => by kernel_rfl)
noncomputable def f168_s_l00Srcamong.w : FnW E := fnW 168 f168_s_l00Srcamong.P sg_liil f168_s_l00Srcamong.A f168_s_l00Srcamong.F f168_s_l00Srcamong.ok

def f167_s_l01From : Nat → Int → Option (Nat)
  | 0, _ => none
  | n + 1, i1 =>
    bd (xF32frombits n (IntKind.u32.wrap i1)) fun r2 =>
    let x3 : Nat := r2
    some x3
def sg_i : Sig (Int) where
  pk := fun v => [.int v]
  up := fun ls => match ls with
    | [.int a0] => some a0
    | _ => none
  ok := by
    intro ls v h
    split at h
    · cases h; rfl
    · cases h

def sg_f : Sig (Nat) where
  pk := fun v => [.flt v]
  up := fun ls => match ls with
    | [.flt a0] => some a0
    | _ => none
  ok := by
    intro ls v h
    split at h
    · cases h; rfl
    · cases h

def f167_s_l01From.P : List Arg := [⟨.val, ⟨false, [.leaf], [.int .i64 0]⟩⟩]
def f167_s_l01From.A : RAlt (Nat) := .one ⟨[⟨false, [.leaf], [.flt .f32 0]⟩], [none]⟩ sg_f
def f167_s_l01From.F (n : Nat) (v : Int) := f167_s_l01From n v
noncomputable def f167_s_l01From.O (n : Nat) : Orc := orcOf (E := E) [x183.w] [] n
theorem f167_s_l01From.ok : ∀ n v x, f167_s_l01From.F n v = some x → evalFn E n 167 (flAs f167_s_l01From.P (sg_i.pk v)) = some (f167_s_l01From.A.enc x) :=
  fn_pure (modes := (fdAt 167).ms) (outs := (fdAt 167).os) (results := (fdAt 167).rs) f167_s_l01From.O (c := c167) (keep := keepAt 167) (by kernel_rfl) (fun n => orcOf_cf _ _ n) (fun n => lpOk_of (bs := []) (by kernel_rfl) .nil) (fun _ => rfl) (fun _ _ => by kernel_rfl)
noncomputable def f167_s_l01From.w : FnW E := fnW 167 f167_s_l01From.P sg_i f167_s_l01From.A f167_s_l01From.F f167_s_l01From.ok

def f112_s_l01DrawFloat : Nat → Nat → List T → Int → Int → Option (Nat × Nat × List T × Int × Int)
  | 0, _, _, _, _ => none
  | n + 1, n1, l2, i3, i4 =>
    bd (f158_s_l00Srcone n n1 l2 i3 i4 (12 : Int)) fun r5 =>
    let b6 : Bool := r5.1
    let n7 : Nat := r5.2.1
    let l8 : List T := r5.2.2.1
    let i9 : Int := r5.2.2.2.1
    let i10 : Int := r5.2.2.2.2
    br (!b6) (
     bd (f91_s_l01DrawPlain n n7 l8 i9 i10) fun r11 =>
     let x12 : Nat := r11.1
     let n13 : Nat := r11.2.1
     let l14 : List T := r11.2.2.1
     let i15 : Int := r11.2.2.2.1
     let i16 : Int := r11.2.2.2.2
     some (x12, n13, l14, i15, i16)) (
     bd (f97_s_l00Srcpick n n7 l8 i9 i10 (4 : Int)) fun r17 =>
     let i18 : Int := r17.1
     let n19 : Nat := r17.2.1
     let l20 : List T := r17.2.2.1
     let i21 : Int := r17.2.2.2.1
     let i22 : Int := r17.2.2.2.2
     br (i18 == (0 : Int)) (
      bd (f168_s_l00Srcamong n n19 l20 i21 i22 10 (setN (setN (setN (setN (setN (setN (setN (setN (setN (setN (reps 10 [(T.int IntKind.i64 (0 : Int))]) 0 [(T.int IntKind.i64 (0 : Int))]) 1 [(T.int IntKind.i64 (2147483648 : Int))]) 2 [(T.int IntKind.i64 (2139095040 : Int))]) 3 [(T.int IntKind.i64 (4286578688 : Int))]) 4 [(T.int IntKind.i64 (2143289344 : Int))]) 5 [(T.int IntKind.i64 (1 : Int))]) 6 [(T.int IntKind.i64 (2139095039 : Int))]) 7 [(T.int IntKind.i64 (8388608 : Int))]) 8 [(T.int IntKind.i64 (8388607 : Int))]) 9 [(T.int IntKind.i64 (2147483649 : Int))])) fun r23 =>
      let i24 : Int := r23.1
      let n25 : Nat := r23.2.1
      let l26 : List T := r23.2.2.1
      let i27 : Int := r23.2.2.2.1
      let i28 : Int := r23.2.2.2.2.1
      let n29 : Nat := r23.2.2.2.2.2.1
      let l30 : List T := r23.2.2.2.2.2.2
      bd (f167_s_l01From n i24) fun r31 =>
      let x32 : Nat := r31
      some (x32, n25, l26, i27, i28)) (
      br (i18 == (1 : Int)) (
       bd (f97_s_l00Srcpick n n19 l20 i21 i22 (65536 : Int)) fun r33 =>
       let i34 : Int := r33.1
       let n35 : Nat := r33.2.1
       let l36 : List T := r33.2.2.1
       let i37 : Int := r33.2.2.2.1
       let i38 : Int := r33.2.2.2.2
       let i39 : Int := (IntKind.i64.wrap (i34 * (65536 : Int)))
       bd (f97_s_l00Srcpick n n35 l36 i37 i38 (65536 : Int)) fun r40 =>
       let i41 : Int := r40.1
       let n42 : Nat := r40.2.1
       let l43 : List T := r40.2.2.1
       let i44 : Int := r40.2.2.2.1
       let i45 : Int := r40.2.2.2.2
       bd (f167_s_l01From n (IntKind.i64.wrap (i39 + i41))) fun r46 =>
       let x47 : Nat := r46
       some (x47, n42, l43, i44, i45)) (
       br (i18 == (2 : Int)) (
        bd (f97_s_l00Srcpick n n19 l20 i21 i22 (65536 : Int)) fun r48 =>
        let i49 : Int := r48.1
        let n50 : Nat := r48.2.1
        let l51 : List T := r48.2.2.1
        let i52 : Int := r48.2.2.2.1
        let i53 : Int := r48.2.2.2.2
        bd (f167_s_l01From n (IntKind.i64.wrap (i49 * (65536 : Int)))) fun r54 =>
        let x55 : Nat := r54
        some (x55, n50, l51, i52, i53)) (
        bd (f91_s_l01DrawPlain n n19 l20 i21 i22) fun r56 =>
        let x57 : Nat := r56.1
        let n58 : Nat := r56.2.1
        let l59 : List T := r56.2.2.1
        let i60 : Int := r56.2.2.2.1
        let i61 : Int := r56.2.2.2.2
        bd (f168_s_l00Srcamong n n58 l59 i60 i61 4 (setN (setN (setN (setN (reps 4 [(T.int IntKind.i64 (0 : Int))]) 0 [(T.int IntKind.i64 (8388608 : Int))]) 1 [(T.int IntKind.i64 (2130706432 : Int))]) 2 [(T.int IntKind.i64 (1610612736 : Int))]) 3 [(T.int IntKind.i64 (536870912 : Int))])) fun r62 =>
        let i63 : Int := r62.1
        let n64 : Nat := r62.2.1
        let l65 : List T := r62.2.2.1
        let i66 : Int := r62.2.2.2.1
        let i67 : Int := r62.2.2.2.2.1
        let n68 : Nat := r62.2.2.2.2.2.1
        let l69 : List T := r62.2.2.2.2.2.2
        bd (f167_s_l01From n i63) fun r70 =>
        let x71 : Nat := r70
        some ((fmul FloatKind.f32 x57 x71), n64, l65, i66, i67)))))
def f112_s_l01DrawFloat.P : List Arg := [⟨.iop, ⟨false, [.rf .own [.sl .shr [.leaf], .leaf, .leaf]], [.ref [.lst 0 [], .int .i64 0, .int .u64 0]]⟩⟩]
def f112_s_l01DrawFloat.A : RAlt (Nat × Nat × List T × Int × Int) := .one ⟨[⟨false, [.leaf], [.flt .f32 0]⟩], [some ⟨false, [.rf .own [.sl .shr [.leaf], .leaf, .leaf]], [.ref [.lst 0 [], .int .i64 0, .int .u64 0]]⟩]⟩ sg_flii
def f112_s_l01DrawFloat.F (n : Nat) (v : Nat × List T × Int × Int) := f112_s_l01DrawFloat n v.1 v.2.1 v.2.2.1 v.2.2.2
noncomputable def f112_s_l01DrawFloat.O (n : Nat) : Orc := orcOf (E := E) [f97_s_l00Srcpick.w, f158_s_l00Srcone.w, f91_s_l01DrawPlain.w, f168_s_l00Srcamong.w, f167_s_l01From.w] [] n
theorem f112_s_l01DrawFloat.ok : ∀ n v x, f112_s_l01DrawFloat.F n v = some x → evalFn E n 112 (flAs f112_s_l01DrawFloat.P (sg_lii.pk v)) = some (f112_s_l01DrawFloat.A.enc x) :=
  fn_pure (modes := (fdAt 112).ms) (outs := (fdAt 112).os) (results := (fdAt 112).rs) f112_s_l01DrawFloat.O (c := c112) (keep := keepAt 112) (by kernel_rfl) (fun n => orcOf_cf _ _ n) (fun n => lpOk_of (bs := []) (by kernel_rfl) .nil) (fun _ => rfl) (fun _ _ => by kernel_rfl)
noncomputable def f112_s_l01DrawFloat.w : FnW E := fnW 112 f112_s_l01DrawFloat.P sg_lii f112_s_l01DrawFloat.A f112_s_l01DrawFloat.F f112_s_l01DrawFloat.ok

def f132_s_l03DrawDelay : Nat → Nat → List T → Int → Int → Option (Int × Nat × Nat × Nat × Bool × Nat × List T × Int × Int)
  | 0, _, _, _, _ => none
  | n + 1, n1, l2, i3, i4 =>
    bd (f97_s_l00Srcpick n n1 l2 i3 i4 (8 : Int)) fun r5 =>
    let i6 : Int := r5.1
    let n7 : Nat := r5.2.1
    let l8 : List T := r5.2.2.1
    let i9 : Int := r5.2.2.2.1
    let i10 : Int := r5.2.2.2.2
    bd (f158_s_l00Srcone n n7 l8 i9 i10 (2 : Int)) fun r11 =>
    let b12 : Bool := r11.1
    let n13 : Nat := r11.2.1
    let l14 : List T := r11.2.2.1
    let i15 : Int := r11.2.2.2.1
    let i16 : Int := r11.2.2.2.2
    let i17 : Int := (IntKind.i64.wrap ((1 : Int) + i6))
    bd (f158_s_l00Srcone n n13 l14 i15 i16 (12 : Int)) fun r18 =>
    let b19 : Bool := r18.1
    let n20 : Nat := r18.2.1
    let l21 : List T := r18.2.2.1
    let i22 : Int := r18.2.2.2.1
    let i23 : Int := r18.2.2.2.2
    br b19 (
     bd (f97_s_l00Srcpick n n20 l21 i22 i23 (33 : Int)) fun r24 =>
     let i25 : Int := r24.1
     let n26 : Nat := r24.2.1
     let l27 : List T := r24.2.2.1
     let i28 : Int := r24.2.2.2.1
     let i29 : Int := r24.2.2.2.2
     let x30 : Nat := (fdiv FloatKind.f32 (FloatKind.nearest FloatKind.f32 (IntKind.i64.wrap (i25 - (16 : Int)))) 1098907648)
     bd (f97_s_l00Srcpick n n26 l27 i28 i29 (17 : Int)) fun r31 =>
     let i32 : Int := r31.1
     let n33 : Nat := r31.2.1
     let l34 : List T := r31.2.2.1
     let i35 : Int := r31.2.2.2.1
     let i36 : Int := r31.2.2.2.2
     let x37 : Nat := (fdiv FloatKind.f32 (FloatKind.nearest FloatKind.f32 i32) 1098907648)
     bd (f97_s_l00Srcpick n n33 l34 i35 i36 (17 : Int)) fun r38 =>
     let i39 : Int := r38.1
     let n40 : Nat := r38.2.1
     let l41 : List T := r38.2.2.1
     let i42 : Int := r38.2.2.2.1
     let i43 : Int := r38.2.2.2.2
     let x44 : Nat := (fdiv FloatKind.f32 (FloatKind.nearest FloatKind.f32 i39) 1098907648)
     bd (f158_s_l00Srcone n n40 l41 i42 i43 (10 : Int)) fun r45 =>
     let b46 : Bool := r45.1
     let n47 : Nat := r45.2.1
     let l48 : List T := r45.2.2.1
     let i49 : Int := r45.2.2.2.1
     let i50 : Int := r45.2.2.2.2
     br b46 (
      bd (f112_s_l01DrawFloat n n47 l48 i49 i50) fun r51 =>
      let x52 : Nat := r51.1
      let n53 : Nat := r51.2.1
      let l54 : List T := r51.2.2.1
      let i55 : Int := r51.2.2.2.1
      let i56 : Int := r51.2.2.2.2
      some ((64 : Int), x52, x37, x44, b12, n53, l54, i55, i56)) (
      some ((64 : Int), x30, x37, x44, b12, n47, l48, i49, i50))) (
     bd (f97_s_l00Srcpick n n20 l21 i22 i23 (33 : Int)) fun r57 =>
     let i58 : Int := r57.1
     let n59 : Nat := r57.2.1
     let l60 : List T := r57.2.2.1
     let i61 : Int := r57.2.2.2.1
     let i62 : Int := r57.2.2.2.2
     let x63 : Nat := (fdiv FloatKind.f32 (FloatKind.nearest FloatKind.f32 (IntKind.i64.wrap (i58 - (16 : Int)))) 1098907648)
     bd (f97_s_l00Srcpick n n59 l60 i61 i62 (17 : Int)) fun r64 =>
     let i65 : Int := r64.1
     let n66 : Nat := r64.2.1
     let l67 : List T := r64.2.2.1
     let i68 : Int := r64.2.2.2.1
     let i69 : Int := r64.2.2.2.2
     let x70 : Nat := (fdiv FloatKind.f32 (FloatKind.nearest FloatKind.f32 i65) 1098907648)
     bd (f97_s_l00Srcpick n n66 l67 i68 i69 (17 : Int)) fun r71 =>
     let i72 : Int := r71.1
     let n73 : Nat := r71.2.1
     let l74 : List T := r71.2.2.1
     let i75 : Int := r71.2.2.2.1
     let i76 : Int := r71.2.2.2.2
     let x77 : Nat := (fdiv FloatKind.f32 (FloatKind.nearest FloatKind.f32 i72) 1098907648)
     bd (f158_s_l00Srcone n n73 l74 i75 i76 (10 : Int)) fun r78 =>
     let b79 : Bool := r78.1
     let n80 : Nat := r78.2.1
     let l81 : List T := r78.2.2.1
     let i82 : Int := r78.2.2.2.1
     let i83 : Int := r78.2.2.2.2
     br b79 (
      bd (f112_s_l01DrawFloat n n80 l81 i82 i83) fun r84 =>
      let x85 : Nat := r84.1
      let n86 : Nat := r84.2.1
      let l87 : List T := r84.2.2.1
      let i88 : Int := r84.2.2.2.1
      let i89 : Int := r84.2.2.2.2
      some (i17, x85, x70, x77, b12, n86, l87, i88, i89)) (
      some (i17, x63, x70, x77, b12, n80, l81, i82, i83)))
def sg_ifffblii : Sig (Int × Nat × Nat × Nat × Bool × Nat × List T × Int × Int) where
  pk := fun v => [.int v.1, .flt v.2.1, .flt v.2.2.1, .flt v.2.2.2.1, .bool v.2.2.2.2.1, .lst v.2.2.2.2.2.1 v.2.2.2.2.2.2.1, .int v.2.2.2.2.2.2.2.1, .int v.2.2.2.2.2.2.2.2]
  up := fun ls => match ls with
    | [.int a0, .flt a1, .flt a2, .flt a3, .bool a4, .lst a5 a6, .int a7, .int a8] => some (a0, a1, a2, a3, a4, a5, a6, a7, a8)
    | _ => none
  ok := by
    intro ls v h
    split at h
    · cases h; rfl
    · cases h

def f132_s_l03DrawDelay.P : List Arg := [⟨.iop, ⟨false, [.rf .own [.sl .shr [.leaf], .leaf, .leaf]], [.ref [.lst 0 [], .int .i64 0, .int .u64 0]]⟩⟩]
def f132_s_l03DrawDelay.A : RAlt (Int × Nat × Nat × Nat × Bool × Nat × List T × Int × Int) := .one ⟨[⟨true, [.leaf, .leaf, .leaf, .leaf, .leaf], [.int .i64 0, .flt .f32 0, .flt .f32 0, .flt .f32 0, .bool false]⟩], [some ⟨false, [.rf .own [.sl .shr [.leaf], .leaf, .leaf]], [.ref [.lst 0 [], .int .i64 0, .int .u64 0]]⟩]⟩ sg_ifffblii
def f132_s_l03DrawDelay.F (n : Nat) (v : Nat × List T × Int × Int) := f132_s_l03DrawDelay n v.1 v.2.1 v.2.2.1 v.2.2.2
noncomputable def f132_s_l03DrawDelay.O (n : Nat) : Orc := orcOf (E := E) [f97_s_l00Srcpick.w, f158_s_l00Srcone.w, f112_s_l01DrawFloat.w] [] n
theorem f132_s_l03DrawDelay.ok : ∀ n v x, f132_s_l03DrawDelay.F n v = some x → evalFn E n 132 (flAs f132_s_l03DrawDelay.P (sg_lii.pk v)) = some (f132_s_l03DrawDelay.A.enc x) :=
  fn_pure (modes := (fdAt 132).ms) (outs := (fdAt 132).os) (results := (fdAt 132).rs) f132_s_l03DrawDelay.O (c := c132) (keep := keepAt 132) (by kernel_rfl) (fun n => orcOf_cf _ _ n) (fun n => lpOk_of (bs := []) (by kernel_rfl) .nil) (fun _ => rfl) (fun _ _ => by kernel_rfl)
noncomputable def f132_s_l03DrawDelay.w : FnW E := fnW 132 f132_s_l03DrawDelay.P sg_lii f132_s_l03DrawDelay.A f132_s_l03DrawDelay.F f132_s_l03DrawDelay.ok

def f152_s_l03DrawRoom.l0 (n : Nat) : Nat → Nat → List T → Int → Int → Nat → List T → Nat → List T → Nat → Nat → Nat → List T → Nat → List T → Nat → Nat → Int → Option (Nat × List T × Int × Int × Nat × List T × Nat × List T × Nat × Nat × Nat × List T × Nat × List T × Nat × Nat)
  | 0, _, _, _, _, _, _, _, _, _, _, _, _, _, _, _, _, _ => none
  | m + 1, n1, l2, i3, i4, n5, l6, n7, l8, x9, x10, n11, l12, n13, l14, x15, x16, i17 =>
    br (decide (i17 > (0 : Int))) (
     bd (f132_s_l03DrawDelay n n1 l2 i3 i4) fun r18 =>
     let i19 : Int := r18.1
     let x20 : Nat := r18.2.1
     let x21 : Nat := r18.2.2.1
     let x22 : Nat := r18.2.2.2.1
     let b23 : Bool := r18.2.2.2.2.1
     let n24 : Nat := r18.2.2.2.2.2.1
     let l25 : List T := r18.2.2.2.2.2.2.1
     let i26 : Int := r18.2.2.2.2.2.2.2.1
     let i27 : Int := r18.2.2.2.2.2.2.2.2
     gd (Nat.ble (n11 + 1) 2147483648) (
     let n28 : Nat := (n11 + 1)
     let l29 : List T := (l12 ++ (setN (reps 1 [(T.int IntKind.i64 (0 : Int)), (T.flt FloatKind.f32 0), (T.flt FloatKind.f32 0), (T.flt FloatKind.f32 0), (T.bool false)]) 0 [(T.int IntKind.i64 i19), (T.flt FloatKind.f32 x20), (T.flt FloatKind.f32 x21), (T.flt FloatKind.f32 x22), (T.bool b23)]))
     f152_s_l03DrawRoom.l0 n m n24 l25 i26 i27 n5 l6 n7 l8 x9 x10 n28 l29 n13 l14 x15 x16 (IntKind.i64.wrap (i17 - (1 : Int))))) (
     some (n1, l2, i3, i4, n5, l6, n7, l8, x9, x10, n11, l12, n13, l14, x15, x16))
termination_by structural x => x
def f152_s_l03DrawRoom.l1 (n : Nat) : Nat → Nat → List T → Int → Int → Nat → List T → Nat → List T → Nat → Nat → Nat → List T → Nat → List T → Nat → Nat → Int → Option (Nat × List T × Int × Int × Nat × List T × Nat × List T × Nat × Nat × Nat × List T × Nat × List T × Nat × Nat)
  | 0, _, _, _, _, _, _, _, _, _, _, _, _, _, _, _, _, _ => none
  | m + 1, n1, l2, i3, i4, n5, l6, n7, l8, x9, x10, n11, l12, n13, l14, x15, x16, i17 =>
    br (decide (i17 > (0 : Int))) (
     bd (f97_s_l00Srcpick n n1 l2 i3 i4 (6 : Int)) fun r18 =>
     let i19 : Int := r18.1
     let n20 : Nat := r18.2.1
     let l21 : List T := r18.2.2.1
     let i22 : Int := r18.2.2.2.1
     let i23 : Int := r18.2.2.2.2
     let i24 : Int := (IntKind.i64.wrap ((1 : Int) + i19))
     bd (f97_s_l00Srcpick n n20 l21 i22 i23 (17 : Int)) fun r25 =>
     let i26 : Int := r25.1
     let n27 : Nat := r25.2.1
     let l28 : List T := r25.2.2.1
     let i29 : Int := r25.2.2.2.1
     let i30 : Int := r25.2.2.2.2
     let x31 : Nat := (fdiv FloatKind.f32 (FloatKind.nearest FloatKind.f32 (IntKind.i64.wrap (i26 - (8 : Int)))) 1098907648)
     gd (Nat.ble (n13 + 1) 2147483648) (
     let n32 : Nat := (n13 + 1)
     let l33 : List T := (l14 ++ (setN (reps 1 [(T.int IntKind.i64 (0 : Int)), (T.flt FloatKind.f32 0)]) 0 [(T.int IntKind.i64 i24), (T.flt FloatKind.f32 x31)]))
     f152_s_l03DrawRoom.l1 n m n27 l28 i29 i30 n5 l6 n7 l8 x9 x10 n11 l12 n32 l33 x15 x16 (IntKind.i64.wrap (i17 - (1 : Int))))) (
     some (n1, l2, i3, i4, n5, l6, n7, l8, x9, x10, n11, l12, n13, l14, x15, x16))
termination_by structural x => x
def f152_s_l03DrawRoom : Nat → Nat → List T → Int → Int → Option (Nat × List T × Nat × List T × Nat × Nat × Nat × List T × Int × Int)
  | 0, _, _, _, _ => none
  | n + 1, n1, l2, i3, i4 =>
    bd (f97_s_l00Srcpick n n1 l2 i3 i4 (3 : Int)) fun r5 =>
    let i6 : Int := r5.1
    let n7 : Nat := r5.2.1
    let l8 : List T := r5.2.2.1
    let i9 : Int := r5.2.2.2.1
    let i10 : Int := r5.2.2.2.2
    bd (f152_s_l03DrawRoom.l0 n n n7 l8 i9 i10 0 [] 0 [] 0 0 0 [] 0 [] 0 0 (IntKind.i64.wrap ((1 : Int) + i6))) fun r11 =>
    let n12 : Nat := r11.1
    let l13 : List T := r11.2.1
    let i14 : Int := r11.2.2.1
    let i15 : Int := r11.2.2.2.1
    let n16 : Nat := r11.2.2.2.2.1
    let l17 : List T := r11.2.2.2.2.2.1
    let n18 : Nat := r11.2.2.2.2.2.2.1
    let l19 : List T := r11.2.2.2.2.2.2.2.1
    let x20 : Nat := r11.2.2.2.2.2.2.2.2.1
    let x21 : Nat := r11.2.2.2.2.2.2.2.2.2.1
    let n22 : Nat := r11.2.2.2.2.2.2.2.2.2.2.1
    let l23 : List T := r11.2.2.2.2.2.2.2.2.2.2.2.1
    let n24 : Nat := r11.2.2.2.2.2.2.2.2.2.2.2.2.1
    let l25 : List T := r11.2.2.2.2.2.2.2.2.2.2.2.2.2.1
    let x26 : Nat := r11.2.2.2.2.2.2.2.2.2.2.2.2.2.2.1
    let x27 : Nat := r11.2.2.2.2.2.2.2.2.2.2.2.2.2.2.2
    bd (f97_s_l00Srcpick n n12 l13 i14 i15 (3 : Int)) fun r28 =>
    let i29 : Int := r28.1
    let n30 : Nat := r28.2.1
    let l31 : List T := r28.2.2.1
    let i32 : Int := r28.2.2.2.1
    let i33 : Int := r28.2.2.2.2
    bd (f152_s_l03DrawRoom.l1 n n n30 l31 i32 i33 n16 l17 n18 l19 x20 x21 n22 l23 n24 l25 x26 x27 i29) fun r34 =>
    let n35 : Nat := r34.1
    let l36 : List T := r34.2.1
    let i37 : Int := r34.2.2.1
    let i38 : Int := r34.2.2.2.1
    let n39 : Nat := r34.2.2.2.2.1
    let l40 : List T := r34.2.2.2.2.2.1
    let n41 : Nat := r34.2.2.2.2.2.2.1
    let l42 : List T := r34.2.2.2.2.2.2.2.1
    let x43 : Nat := r34.2.2.2.2.2.2.2.2.1
    let x44 : Nat := r34.2.2.2.2.2.2.2.2.2.1
    let n45 : Nat := r34.2.2.2.2.2.2.2.2.2.2.1
    let l46 : List T := r34.2.2.2.2.2.2.2.2.2.2.2.1
    let n47 : Nat := r34.2.2.2.2.2.2.2.2.2.2.2.2.1
    let l48 : List T := r34.2.2.2.2.2.2.2.2.2.2.2.2.2.1
    let x49 : Nat := r34.2.2.2.2.2.2.2.2.2.2.2.2.2.2.1
    let x50 : Nat := r34.2.2.2.2.2.2.2.2.2.2.2.2.2.2.2
    bd (f91_s_l01DrawPlain n n35 l36 i37 i38) fun r51 =>
    let x52 : Nat := r51.1
    let n53 : Nat := r51.2.1
    let l54 : List T := r51.2.2.1
    let i55 : Int := r51.2.2.2.1
    let i56 : Int := r51.2.2.2.2
    bd (f91_s_l01DrawPlain n n53 l54 i55 i56) fun r57 =>
    let x58 : Nat := r57.1
    let n59 : Nat := r57.2.1
    let l60 : List T := r57.2.2.1
    let i61 : Int := r57.2.2.2.1
    let i62 : Int := r57.2.2.2.2
    bd (f97_s_l00Srcpick n n59 l60 i61 i62 (30 : Int)) fun r63 =>
    let i64 : Int := r63.1
    let n65 : Nat := r63.2.1
    let l66 : List T := r63.2.2.1
    let i67 : Int := r63.2.2.2.1
    let i68 : Int := r63.2.2.2.2
    br (i64 == (0 : Int)) (
     some (0, (reps 0 [(T.int IntKind.i64 (0 : Int)), (T.flt FloatKind.f32 0), (T.flt FloatKind.f32 0), (T.flt FloatKind.f32 0), (T.bool false)]), n47, l48, x52, x58, n65, l66, i67, i68)) (
     br (i64 == (1 : Int)) (
      bd (f168_s_l00Srcamong n n65 l66 i67 i68 3 (setN (setN (setN (reps 3 [(T.int IntKind.i64 (0 : Int))]) 0 [(T.int IntKind.i64 (0 : Int))]) 1 [(T.int IntKind.i64 (-1 : Int))]) 2 [(T.int IntKind.i64 (65 : Int))])) fun r69 =>
      let i70 : Int := r69.1
      let n71 : Nat := r69.2.1
      let l72 : List T := r69.2.2.1
      let i73 : Int := r69.2.2.2.1
      let i74 : Int := r69.2.2.2.2.1
      let n75 : Nat := r69.2.2.2.2.2.1
      let l76 : List T := r69.2.2.2.2.2.2
      gd (decide (((0 : Int) ≤ (0 : Int)) ∧ ((0 : Int) < ((n45 : Nat) : Int)))) (
      gd (Nat.ble 1 (List.length l46)) (
      let l77 : List T := (setN l46 0 [(T.int IntKind.i64 i70)])
      some (n45, l77, n47, l48, x52, x58, n71, l72, i73, i74)))) (
      br (i64 == (2 : Int)) (
       gd (Nat.ble (n47 + 1) 2147483648) (
       let n78 : Nat := (n47 + 1)
       let l79 : List T := (l48 ++ (setN (reps 1 [(T.int IntKind.i64 (0 : Int)), (T.flt FloatKind.f32 0)]) 0 [(T.int IntKind.i64 (0 : Int)), (T.flt FloatKind.f32 0)]))
       some (n45, l46, n78, l79, x52, x58, n65, l66, i67, i68))) (
       some (n45, l46, n47, l48, x52, x58, n65, l66, i67, i68))))
def sg_llfflii : Sig (Nat × List T × Nat × List T × Nat × Nat × Nat × List T × Int × Int) where
  pk := fun v => [.lst v.1 v.2.1, .lst v.2.2.1 v.2.2.2.1, .flt v.2.2.2.2.1, .flt v.2.2.2.2.2.1, .lst v.2.2.2.2.2.2.1 v.2.2.2.2.2.2.2.1, .int v.2.2.2.2.2.2.2.2.1, .int v.2.2.2.2.2.2.2.2.2]
  up := fun ls => match ls with
    | [.lst a0 a1, .lst a2 a3, .flt a4, .flt a5, .lst a6 a7, .int a8, .int a9] => some (a0, a1, a2, a3, a4, a5, a6, a7, a8, a9)
    | _ => none
  ok := by
    intro ls v h
    split at h
    · cases h; rfl
    · cases h

def sg_liillffllffi : Sig (Nat × List T × Int × Int × Nat × List T × Nat × List T × Nat × Nat × Nat × List T × Nat × List T × Nat × Nat × Int) where
  pk := fun v => [.lst v.1 v.2.1, .int v.2.2.1, .int v.2.2.2.1, .lst v.2.2.2.2.1 v.2.2.2.2.2.1, .lst v.2.2.2.2.2.2.1 v.2.2.2.2.2.2.2.1, .flt v.2.2.2.2.2.2.2.2.1, .flt v.2.2.2.2.2.2.2.2.2.1, .lst v.2.2.2.2.2.2.2.2.2.2.1 v.2.2.2.2.2.2.2.2.2.2.2.1, .lst v.2.2.2.2.2.2.2.2.2.2.2.2.1 v.2.2.2.2.2.2.2.2.2.2.2.2.2.1, .flt v.2.2.2.2.2.2.2.2.2.2.2.2.2.2.1, .flt v.2.2.2.2.2.2.2.2.2.2.2.2.2.2.2.1, .int v.2.2.2.2.2.2.2.2.2.2.2.2.2.2.2.2]
  up := fun ls => match ls with
    | [.lst a0 a1, .int a2, .int a3, .lst a4 a5, .lst a6 a7, .flt a8, .flt a9, .lst a10 a11, .lst a12 a13, .flt a14, .flt a15, .int a16] => some (a0, a1, a2, a3, a4, a5, a6, a7, a8, a9, a10, a11, a12, a13, a14, a15, a16)
    | _ => none
  ok := by
    intro ls v h
    split at h
    · cases h; rfl
    · cases h

def sg_liillffllff : Sig (Nat × List T × Int × Int × Nat × List T × Nat × List T × Nat × Nat × Nat × List T × Nat × List T × Nat × Nat) where
  pk := fun v => [.lst v.1 v.2.1, .int v.2.2.1, .int v.2.2.2.1, .lst v.2.2.2.2.1 v.2.2.2.2.2.1, .lst v.2.2.2.2.2.2.1 v.2.2.2.2.2.2.2.1, .flt v.2.2.2.2.2.2.2.2.1, .flt v.2.2.2.2.2.2.2.2.2.1, .lst v.2.2.2.2.2.2.2.2.2.2.1 v.2.2.2.2.2.2.2.2.2.2.2.1, .lst v.2.2.2.2.2.2.2.2.2.2.2.2.1 v.2.2.2.2.2.2.2.2.2.2.2.2.2.1, .flt v.2.2.2.2.2.2.2.2.2.2.2.2.2.2.1, .flt v.2.2.2.2.2.2.2.2.2.2.2.2.2.2.2]
  up := fun ls => match ls with
    | [.lst a0 a1, .int a2, .int a3, .lst a4 a5, .lst a6 a7, .flt a8, .flt a9, .lst a10 a11, .lst a12 a13, .flt a14, .flt a15] => some (a0, a1, a2, a3, a4, a5, a6, a7, a8, a9, a10, a11, a12, a13, a14, a15)
    | _ => none
  ok := by
    intro ls v h
    split at h
    · cases h; rfl
    · cases h

def f152_s_l03DrawRoom.l0.P : AS := ⟨[(0, .box [.sl .shr [.leaf], .leaf, .leaf] [.lst 0 [], .int .i64 0, .int .u64 0] [] 0), (2, .box [.sl .own [.leaf, .leaf, .leaf, .leaf, .leaf], .sl .own [.leaf, .leaf], .leaf, .leaf] [.lst 0 [], .lst 0 [], .flt .f32 0, .flt .f32 0] [] 0), (3, .box [.sl .own [.leaf, .leaf, .leaf, .leaf, .leaf], .sl .own [.leaf, .leaf], .leaf, .leaf] [.lst 0 [], .lst 0 [], .flt .f32 0, .flt .f32 0] [] 0), (4, .val false [.leaf] [.int .i64 0] [] 0)], 0⟩
def f152_s_l03DrawRoom.l0.A : Alt (Nat × List T × Int × Int × Nat × List T × Nat × List T × Nat × Nat × Nat × List T × Nat × List T × Nat × Nat) := .one (.exit 0) ⟨[(0, .box [.sl .shr [.leaf], .leaf, .leaf] [.lst 0 [], .int .i64 0, .int .u64 0] [] 0), (2, .box [.sl .own [.leaf, .leaf, .leaf, .leaf, .leaf], .sl .own [.leaf, .leaf], .leaf, .leaf] [.lst 0 [], .lst 0 [], .flt .f32 0, .flt .f32 0] [] 0), (3, .box [.sl .own [.leaf, .leaf, .leaf, .leaf, .leaf], .sl .own [.leaf, .leaf], .leaf, .leaf] [.lst 0 [], .lst 0 [], .flt .f32 0, .flt .f32 0] [] 0)], 0⟩ sg_liillffllff
def f152_s_l03DrawRoom.l0.F (n m : Nat) (v : Nat × List T × Int × Int × Nat × List T × Nat × List T × Nat × Nat × Nat × List T × Nat × List T × Nat × Nat × Int) := f152_s_l03DrawRoom.l0 n m v.1 v.2.1 v.2.2.1 v.2.2.2.1 v.2.2.2.2.1 v.2.2.2.2.2.1 v.2.2.2.2.2.2.1 v.2.2.2.2.2.2.2.1 v.2.2.2.2.2.2.2.2.1 v.2.2.2.2.2.2.2.2.2.1 v.2.2.2.2.2.2.2.2.2.2.1 v.2.2.2.2.2.2.2.2.2.2.2.1 v.2.2.2.2.2.2.2.2.2.2.2.2.1 v.2.2.2.2.2.2.2.2.2.2.2.2.2.1 v.2.2.2.2.2.2.2.2.2.2.2.2.2.2.1 v.2.2.2.2.2.2.2.2.2.2.2.2.2.2.2.1 v.2.2.2.2.2.2.2.2.2.2.2.2.2.2.2.2
def f152_s_l03DrawRoom.l0.W (n : Nat) : LpW := .of 48 f152_s_l03DrawRoom.l0.P sg_liillffllffi f152_s_l03DrawRoom.l0.A (f152_s_l03DrawRoom.l0.F n n)
def f152_s_l03DrawRoom.l1.P : AS := ⟨[(0, .box [.sl .shr [.leaf], .leaf, .leaf] [.lst 0 [], .int .i64 0, .int .u64 0] [] 0), (2, .box [.sl .own [.leaf, .leaf, .leaf, .leaf, .leaf], .sl .own [.leaf, .leaf], .leaf, .leaf] [.lst 0 [], .lst 0 [], .flt .f32 0, .flt .f32 0] [] 0), (3, .box [.sl .own [.leaf, .leaf, .leaf, .leaf, .leaf], .sl .own [.leaf, .leaf], .leaf, .leaf] [.lst 0 [], .lst 0 [], .flt .f32 0, .flt .f32 0] [] 0), (5, .val false [.leaf] [.int .i64 0] [] 0)], 0⟩
def f152_s_l03DrawRoom.l1.A : Alt (Nat × List T × Int × Int × Nat × List T × Nat × List T × Nat × Nat × Nat × List T × Nat × List T × Nat × Nat) := .one (.exit 2) ⟨[(0, .box [.sl .shr [.leaf], .leaf, .leaf] [.lst 0 [], .int .i64 0, .int .u64 0] [] 0), (2, .box [.sl .own [.leaf, .leaf, .leaf, .leaf, .leaf], .sl .own [.leaf, .leaf], .leaf, .leaf] [.lst 0 [], .lst 0 [], .flt .f32 0, .flt .f32 0] [] 0), (3, .box [.sl .own [.leaf, .leaf, .leaf, .leaf, .leaf], .sl .own [.leaf, .leaf], .leaf, .leaf] [.lst 0 [], .lst 0 [], .flt .f32 0, .flt .f32 0] [] 0)], 0⟩ sg_liillffllff
def f152_s_l03DrawRoom.l1.F (n m : Nat) (v : Nat × List T × Int × Int × Nat × List T × Nat × List T × Nat × Nat × Nat × List T × Nat × List T × Nat × Nat × Int) := f152_s_l03DrawRoom.l1 n m v.1 v.2.1 v.2.2.1 v.2.2.2.1 v.2.2.2.2.1 v.2.2.2.2.2.1 v.2.2.2.2.2.2.1 v.2.2.2.2.2.2.2.1 v.2.2.2.2.2.2.2.2.1 v.2.2.2.2.2.2.2.2.2.1 v.2.2.2.2.2.2.2.2.2.2.1 v.2.2.2.2.2.2.2.2.2.2.2.1 v.2.2.2.2.2.2.2.2.2.2.2.2.1 v.2.2.2.2.2.2.2.2.2.2.2.2.2.1 v.2.2.2.2.2.2.2.2.2.2.2.2.2.2.1 v.2.2.2.2.2.2.2.2.2.2.2.2.2.2.2.1 v.2.2.2.2.2.2.2.2.2.2.2.2.2.2.2.2
def f152_s_l03DrawRoom.l1.W (n : Nat) : LpW := .of 112 f152_s_l03DrawRoom.l1.P sg_liillffllffi f152_s_l03DrawRoom.l1.A (f152_s_l03DrawRoom.l1.F n n)
def f152_s_l03DrawRoom.P : List Arg := [⟨.iop, ⟨false, [.rf .own [.sl .shr [.leaf], .leaf, .leaf]], [.ref [.lst 0 [], .int .i64 0, .int .u64 0]]⟩⟩]
def f152_s_l03DrawRoom.A : RAlt (Nat × List T × Nat × List T × Nat × Nat × Nat × List T × Int × Int) := .one ⟨[⟨true, [.sl .own [.leaf, .leaf, .leaf, .leaf, .leaf], .sl .own [.leaf, .leaf], .leaf, .leaf], [.lst 0 [], .lst 0 [], .flt .f32 0, .flt .f32 0]⟩], [some ⟨false, [.rf .own [.sl .shr [.leaf], .leaf, .leaf]], [.ref [.lst 0 [], .int .i64 0, .int .u64 0]]⟩]⟩ sg_llfflii
def f152_s_l03DrawRoom.F (n : Nat) (v : Nat × List T × Int × Int) := f152_s_l03DrawRoom n v.1 v.2.1 v.2.2.1 v.2.2.2
noncomputable def f152_s_l03DrawRoom.O (n : Nat) : Orc := orcOf (E := E) [f97_s_l00Srcpick.w, f91_s_l01DrawPlain.w, f168_s_l00Srcamong.w, f132_s_l03DrawDelay.w] [f152_s_l03DrawRoom.l0.W n, f152_s_l03DrawRoom.l1.W n] n
theorem f152_s_l03DrawRoom.l0.ok (n : Nat) : LpOk (f152_s_l03DrawRoom.O n) E (evalFn E n) n (keepAt 152) (.loop (loopAt c152 0)) :=
  lp_pure f152_s_l03DrawRoom.l0.P sg_liillffllffi f152_s_l03DrawRoom.l0.A (f152_s_l03DrawRoom.l0.F n) (orcOf_cf _ _ n) (lpOk_of (bs := []) (by kernel_rfl) .nil) (fun _ => rfl) (fun _ _ => by kernel_rfl) (fun _ _ _ => by kernel_rfl)
theorem f152_s_l03DrawRoom.l1.ok (n : Nat) : LpOk (f152_s_l03DrawRoom.O n) E (evalFn E n) n (keepAt 152) (.loop (loopAt c152 1)) :=
  lp_pure f152_s_l03DrawRoom.l1.P sg_liillffllffi f152_s_l03DrawRoom.l1.A (f152_s_l03DrawRoom.l1.F n) (orcOf_cf _ _ n) (lpOk_of (bs := []) (by kernel_rfl) .nil) (fun _ => rfl) (fun _ _ => by kernel_rfl) (fun _ _ _ => by kernel_rfl)
theorem f152_s_l03DrawRoom.ok : ∀ n v x, f152_s_l03DrawRoom.F n v = some x → evalFn E n 152 (flAs f152_s_l03DrawRoom.P (sg_lii.pk v)) = some (f152_s_l03DrawRoom.A.enc x) :=
  fn_pure (modes := (fdAt 152).ms) (outs := (fdAt 152).os) (results := (fdAt 152).rs) f152_s_l03DrawRoom.O (c := c152) (keep := keepAt 152) (by kernel_rfl) (fun n => orcOf_cf _ _ n) (fun n => lpOk_of (bs := [loopAt c152 0, loopAt c152 1]) (by kernel_rfl) (.cons (f152_s_l03DrawRoom.l0.ok n) (.cons (f152_s_l03DrawRoom.l1.ok n) .nil))) (fun _ => rfl) (fun _ _ => by kernel_rfl)
noncomputable def f152_s_l03DrawRoom.w : FnW E := fnW 152 f152_s_l03DrawRoom.P sg_lii f152_s_l03DrawRoom.A f152_s_l03DrawRoom.F f152_s_l03DrawRoom.ok

def f130_s_l00In : Nat → Int → Int → Int → Option (Bool)
  | 0, _, _, _ => none
  | n + 1, i1, i2, i3 =>
    br (decide (i1 ≥ i2)) (
     some (decide (i1 ≤ i3))) (
     some false)
def sg_iii : Sig (Int × Int × Int) where
  pk := fun v => [.int v.1, .int v.2.1, .int v.2.2]
  up := fun ls => match ls with
    | [.int a0, .int a1, .int a2] => some (a0, a1, a2)
    | _ => none
  ok := by
    intro ls v h
    split at h
    · cases h; rfl
    · cases h

def f130_s_l00In.P : List Arg := [⟨.val, ⟨false, [.leaf], [.int .i64 0]⟩⟩, ⟨.val, ⟨false, [.leaf], [.int .i64 0]⟩⟩, ⟨.val, ⟨false, [.leaf], [.int .i64 0]⟩⟩]
def f130_s_l00In.A : RAlt (Bool) := .one ⟨[⟨false, [.leaf], [.bool false]⟩], [none, none, none]⟩ sg_b
def f130_s_l00In.F (n : Nat) (v : Int × Int × Int) := f130_s_l00In n v.1 v.2.1 v.2.2
noncomputable def f130_s_l00In.O (n : Nat) : Orc := orcOf (E := E) [] [] n
theorem f130_s_l00In.ok : ∀ n v x, f130_s_l00In.F n v = some x → evalFn E n 130 (flAs f130_s_l00In.P (sg_iii.pk v)) = some (f130_s_l00In.A.enc x) :=
  fn_pure (modes := (fdAt 130).ms) (outs := (fdAt 130).os) (results := (fdAt 130).rs) f130_s_l00In.O (c := c130) (keep := keepAt 130) (by kernel_rfl) (fun n => orcOf_cf _ _ n) (fun n => lpOk_of (bs := []) (by kernel_rfl) .nil) (fun _ => rfl) (fun _ _ => by kernel_rfl)
noncomputable def f130_s_l00In.w : FnW E := fnW 130 f130_s_l00In.P sg_iii f130_s_l00In.A f130_s_l00In.F f130_s_l00In.ok

def f139_s_l03Length : Nat → Int → Option (Bool)
  | 0, _ => none
  | n + 1, i1 =>
    bd (f130_s_l00In n i1 (1 : Int) (64 : Int)) fun r2 =>
    let b3 : Bool := r2
    some b3
def f139_s_l03Length.P : List Arg := [⟨.val, ⟨false, [.leaf], [.int .i64 0]⟩⟩]
def f139_s_l03Length.A : RAlt (Bool) := .one ⟨[⟨false, [.leaf], [.bool false]⟩], [none]⟩ sg_b
def f139_s_l03Length.F (n : Nat) (v : Int) := f139_s_l03Length n v
noncomputable def f139_s_l03Length.O (n : Nat) : Orc := orcOf (E := E) [f130_s_l00In.w] [] n
theorem f139_s_l03Length.ok : ∀ n v x, f139_s_l03Length.F n v = some x → evalFn E n 139 (flAs f139_s_l03Length.P (sg_i.pk v)) = some (f139_s_l03Length.A.enc x) :=
  fn_pure (modes := (fdAt 139).ms) (outs := (fdAt 139).os) (results := (fdAt 139).rs) f139_s_l03Length.O (c := c139) (keep := keepAt 139) (by kernel_rfl) (fun n => orcOf_cf _ _ n) (fun n => lpOk_of (bs := []) (by kernel_rfl) .nil) (fun _ => rfl) (fun _ _ => by kernel_rfl)
noncomputable def f139_s_l03Length.w : FnW E := fnW 139 f139_s_l03Length.P sg_i f139_s_l03Length.A f139_s_l03Length.F f139_s_l03Length.ok

def f153_s_l03Is.l0 (n : Nat) : Nat → Nat → List T → Nat → List T → Nat → Nat → Int → Option ((Bool) ⊕ (Nat × List T × Nat × List T × Nat × Nat))
  | 0, _, _, _, _, _, _, _ => none
  | m + 1, n1, l2, n3, l4, x5, x6, i7 =>
    br (decide (i7 < ((n1 : Nat) : Int))) (
     gd ((decide (((0 : Int) ≤ i7) ∧ (i7 < ((n1 : Nat) : Int)))) && (okAt [(CK.int IntKind.i64), (CK.flt FloatKind.f32), (CK.flt FloatKind.f32), (CK.flt FloatKind.f32), CK.bool] l2 (((Int.toNat i7) * 5) + 0))) (
     bd (f139_s_l03Length n (iAt l2 (((Int.toNat i7) * 5) + 0))) fun r8 =>
     let b9 : Bool := r8
     br (!b9) (
      some (Sum.inl false)) (
      f153_s_l03Is.l0 n m n1 l2 n3 l4 x5 x6 (IntKind.i64.wrap (i7 + (1 : Int)))))) (
     some (Sum.inr (n1, l2, n3, l4, x5, x6)))
def f153_s_l03Is.l1 (n : Nat) : Nat → Nat → List T → Nat → List T → Nat → Nat → Int → Option ((Bool) ⊕ (Nat × List T × Nat × List T × Nat × Nat))
  | 0, _, _, _, _, _, _, _ => none
  | m + 1, n1, l2, n3, l4, x5, x6, i7 =>
    br (decide (i7 < ((n3 : Nat) : Int))) (
     gd ((decide (((0 : Int) ≤ i7) ∧ (i7 < ((n3 : Nat) : Int)))) && (okAt [(CK.int IntKind.i64), (CK.flt FloatKind.f32)] l4 (((Int.toNat i7) * 2) + 0))) (
     bd (f139_s_l03Length n (iAt l4 (((Int.toNat i7) * 2) + 0))) fun r8 =>
     let b9 : Bool := r8
     br (!b9) (
      some (Sum.inl false)) (
      f153_s_l03Is.l1 n m n1 l2 n3 l4 x5 x6 (IntKind.i64.wrap (i7 + (1 : Int)))))) (
     some (Sum.inr (n1, l2, n3, l4, x5, x6)))
def f153_s_l03Is : Nat → Nat → List T → Nat → List T → Nat → Nat → Option (Bool)
  | 0, _, _, _, _, _, _ => none
  | n + 1, n1, l2, n3, l4, x5, x6 =>
    bd (f153_s_l03Is.l0 n n n1 l2 n3 l4 x5 x6 (0 : Int)) fun r7 =>
    sm r7 (fun u8 =>
     let b9 : Bool := u8
     some b9) (fun u10 =>
     let n11 : Nat := u10.1
     let l12 : List T := u10.2.1
     let n13 : Nat := u10.2.2.1
     let l14 : List T := u10.2.2.2.1
     let x15 : Nat := u10.2.2.2.2.1
     let x16 : Nat := u10.2.2.2.2.2
     bd (f153_s_l03Is.l1 n n n11 l12 n13 l14 x15 x16 (0 : Int)) fun r17 =>
     sm r17 (fun u18 =>
      let b19 : Bool := u18
      some b19) (fun u20 =>
      let n21 : Nat := u20.1
      let l22 : List T := u20.2.1
      let n23 : Nat := u20.2.2.1
      let l24 : List T := u20.2.2.2.1
      let x25 : Nat := u20.2.2.2.2.1
      let x26 : Nat := u20.2.2.2.2.2
      br (decide (((n21 : Nat) : Int) ≥ (1 : Int))) (
       br (decide (((n21 : Nat) : Int) ≤ (4 : Int))) (
        some (decide (((n23 : Nat) : Int) ≤ (3 : Int)))) (
        some false)) (
       some false)))
def sg_llff : Sig (Nat × List T × Nat × List T × Nat × Nat) where
  pk := fun v => [.lst v.1 v.2.1, .lst v.2.2.1 v.2.2.2.1, .flt v.2.2.2.2.1, .flt v.2.2.2.2.2]
  up := fun ls => match ls with
    | [.lst a0 a1, .lst a2 a3, .flt a4, .flt a5] => some (a0, a1, a2, a3, a4, a5)
    | _ => none
  ok := by
    intro ls v h
    split at h
    · cases h; rfl
    · cases h

def sg_llffi : Sig (Nat × List T × Nat × List T × Nat × Nat × Int) where
  pk := fun v => [.lst v.1 v.2.1, .lst v.2.2.1 v.2.2.2.1, .flt v.2.2.2.2.1, .flt v.2.2.2.2.2.1, .int v.2.2.2.2.2.2]
  up := fun ls => match ls with
    | [.lst a0 a1, .lst a2 a3, .flt a4, .flt a5, .int a6] => some (a0, a1, a2, a3, a4, a5, a6)
    | _ => none
  ok := by
    intro ls v h
    split at h
    · cases h; rfl
    · cases h

def f153_s_l03Is.l0.P : AS := ⟨[(0, .val false [.rf .shr [.sl .shr [.leaf, .leaf, .leaf, .leaf, .leaf], .sl .shr [.leaf, .leaf], .leaf, .leaf]] [.ref [.lst 0 [], .lst 0 [], .flt .f32 0, .flt .f32 0]] [] 0), (3, .val false [.leaf] [.int .i64 0] [] 0)], 0⟩
def f153_s_l03Is.l0.A : Alt ((Bool) ⊕ (Nat × List T × Nat × List T × Nat × Nat)) := .or (.one .ret ⟨[(0, .dead), (2, .val false [.leaf] [.bool false] [] 0)], 0⟩ sg_b) (.one (.exit 0) ⟨[(0, .val false [.rf .shr [.sl .shr [.leaf, .leaf, .leaf, .leaf, .leaf], .sl .shr [.leaf, .leaf], .leaf, .leaf]] [.ref [.lst 0 [], .lst 0 [], .flt .f32 0, .flt .f32 0]] [] 0), (2, .dead)], 0⟩ sg_llff)
def f153_s_l03Is.l0.F (n m : Nat) (v : Nat × List T × Nat × List T × Nat × Nat × Int) := f153_s_l03Is.l0 n m v.1 v.2.1 v.2.2.1 v.2.2.2.1 v.2.2.2.2.1 v.2.2.2.2.2.1 v.2.2.2.2.2.2
def f153_s_l03Is.l0.W (n : Nat) : LpW := .of 32 f153_s_l03Is.l0.P sg_llffi f153_s_l03Is.l0.A (f153_s_l03Is.l0.F n n)
def f153_s_l03Is.l1.P : AS := ⟨[(0, .val false [.rf .shr [.sl .shr [.leaf, .leaf, .leaf, .leaf, .leaf], .sl .shr [.leaf, .leaf], .leaf, .leaf]] [.ref [.lst 0 [], .lst 0 [], .flt .f32 0, .flt .f32 0]] [] 0), (4, .val false [.leaf] [.int .i64 0] [] 0)], 0⟩
def f153_s_l03Is.l1.A : Alt ((Bool) ⊕ (Nat × List T × Nat × List T × Nat × Nat)) := .or (.one .ret ⟨[(0, .dead), (2, .val false [.leaf] [.bool false] [] 0)], 0⟩ sg_b) (.one (.exit 2) ⟨[(0, .val false [.rf .shr [.sl .shr [.leaf, .leaf, .leaf, .leaf, .leaf], .sl .shr [.leaf, .leaf], .leaf, .leaf]] [.ref [.lst 0 [], .lst 0 [], .flt .f32 0, .flt .f32 0]] [] 0), (2, .dead)], 0⟩ sg_llff)
def f153_s_l03Is.l1.F (n m : Nat) (v : Nat × List T × Nat × List T × Nat × Nat × Int) := f153_s_l03Is.l1 n m v.1 v.2.1 v.2.2.1 v.2.2.2.1 v.2.2.2.2.1 v.2.2.2.2.2.1 v.2.2.2.2.2.2
def f153_s_l03Is.l1.W (n : Nat) : LpW := .of 112 f153_s_l03Is.l1.P sg_llffi f153_s_l03Is.l1.A (f153_s_l03Is.l1.F n n)
def f153_s_l03Is.P : List Arg := [⟨.val, ⟨false, [.rf .shr [.sl .shr [.leaf, .leaf, .leaf, .leaf, .leaf], .sl .shr [.leaf, .leaf], .leaf, .leaf]], [.ref [.lst 0 [], .lst 0 [], .flt .f32 0, .flt .f32 0]]⟩⟩]
def f153_s_l03Is.A : RAlt (Bool) := .one ⟨[⟨false, [.leaf], [.bool false]⟩], [none]⟩ sg_b
def f153_s_l03Is.F (n : Nat) (v : Nat × List T × Nat × List T × Nat × Nat) := f153_s_l03Is n v.1 v.2.1 v.2.2.1 v.2.2.2.1 v.2.2.2.2.1 v.2.2.2.2.2
noncomputable def f153_s_l03Is.O (n : Nat) : Orc := orcOf (E := E) [f139_s_l03Length.w] [f153_s_l03Is.l0.W n, f153_s_l03Is.l1.W n] n
theorem f153_s_l03Is.l0.ok (n : Nat) : LpOk (f153_s_l03Is.O n) E (evalFn E n) n (keepAt 153) (.loop (loopAt c153 0)) :=
  lp_pure f153_s_l03Is.l0.P sg_llffi f153_s_l03Is.l0.A (f153_s_l03Is.l0.F n) (orcOf_cf _ _ n) (lpOk_of (bs := []) (by kernel_rfl) .nil) (fun _ => rfl) (fun _ _ => by kernel_rfl) (fun _ _ _ => by kernel_rfl)
theorem f153_s_l03Is.l1.ok (n : Nat) : LpOk (f153_s_l03Is.O n) E (evalFn E n) n (keepAt 153) (.loop (loopAt c153 1)) :=
  lp_pure f153_s_l03Is.l1.P sg_llffi f153_s_l03Is.l1.A (f153_s_l03Is.l1.F n) (orcOf_cf _ _ n) (lpOk_of (bs := []) (by kernel_rfl) .nil) (fun _ => rfl) (fun _ _ => by kernel_rfl) (fun _ _ _ => by kernel_rfl)
theorem f153_s_l03Is.ok : ∀ n v x, f153_s_l03Is.F n v = some x → evalFn E n 153 (flAs f153_s_l03Is.P (sg_llff.pk v)) = some (f153_s_l03Is.A.enc x) :=
  fn_pure (modes := (fdAt 153).ms) (outs := (fdAt 153).os) (results := (fdAt 153).rs) f153_s_l03Is.O (c := c153) (keep := keepAt 153) (by kernel_rfl) (fun n => orcOf_cf _ _ n) (fun n => lpOk_of (bs := [loopAt c153 0, loopAt c153 1]) (by kernel_rfl) (.cons (f153_s_l03Is.l0.ok n) (.cons (f153_s_l03Is.l1.ok n) .nil))) (fun _ => rfl) (fun _ _ => by kernel_rfl)
noncomputable def f153_s_l03Is.w : FnW E := fnW 153 f153_s_l03Is.P sg_llff f153_s_l03Is.A f153_s_l03Is.F f153_s_l03Is.ok

def f77_s_B10Room : Nat → Nat → List T → Option (Nat × List T × Nat × List T × Nat × Nat)
  | 0, _, _ => none
  | n + 1, n1, l2 =>
    bd (f90_s_l00From n n1 l2) fun r3 =>
    let n4 : Nat := r3.1
    let l5 : List T := r3.2.1
    let i6 : Int := r3.2.2.1
    let i7 : Int := r3.2.2.2
    bd (f152_s_l03DrawRoom n n4 l5 i6 i7) fun r8 =>
    let n9 : Nat := r8.1
    let l10 : List T := r8.2.1
    let n11 : Nat := r8.2.2.1
    let l12 : List T := r8.2.2.2.1
    let x13 : Nat := r8.2.2.2.2.1
    let x14 : Nat := r8.2.2.2.2.2.1
    let n15 : Nat := r8.2.2.2.2.2.2.1
    let l16 : List T := r8.2.2.2.2.2.2.2.1
    let i17 : Int := r8.2.2.2.2.2.2.2.2.1
    let i18 : Int := r8.2.2.2.2.2.2.2.2.2
    bd (f153_s_l03Is n n9 l10 n11 l12 x13 x14) fun r19 =>
    let b20 : Bool := r19
    br (!b20) (
     some (1, (setN (reps 1 [(T.int IntKind.i64 (0 : Int)), (T.flt FloatKind.f32 0), (T.flt FloatKind.f32 0), (T.flt FloatKind.f32 0), (T.bool false)]) 0 (setN (setN (setN [(T.int IntKind.i64 (0 : Int)), (T.flt FloatKind.f32 0), (T.flt FloatKind.f32 0), (T.flt FloatKind.f32 0), (T.bool false)] 0 [(T.int IntKind.i64 (2 : Int))]) 1 [(T.flt FloatKind.f32 1056964608)]) 3 [(T.flt FloatKind.f32 1065353216)])), 0, [], 0, 1065353216)) (
     some (n9, l10, n11, l12, x13, x14))
def f77_s_B10Room.P : List Arg := [⟨.val, ⟨false, [.sl .shr [.leaf]], [.lst 0 []]⟩⟩]
def f77_s_B10Room.A : RAlt (Nat × List T × Nat × List T × Nat × Nat) := .one ⟨[⟨true, [.sl .own [.leaf, .leaf, .leaf, .leaf, .leaf], .sl .own [.leaf, .leaf], .leaf, .leaf], [.lst 0 [], .lst 0 [], .flt .f32 0, .flt .f32 0]⟩], [none]⟩ sg_llff
def f77_s_B10Room.F (n : Nat) (v : Nat × List T) := f77_s_B10Room n v.1 v.2
noncomputable def f77_s_B10Room.O (n : Nat) : Orc := orcOf (E := E) [f90_s_l00From.w, f152_s_l03DrawRoom.w, f153_s_l03Is.w] [] n
theorem f77_s_B10Room.ok : ∀ n v x, f77_s_B10Room.F n v = some x → evalFn E n 77 (flAs f77_s_B10Room.P (sg_l.pk v)) = some (f77_s_B10Room.A.enc x) :=
  fn_pure (modes := (fdAt 77).ms) (outs := (fdAt 77).os) (results := (fdAt 77).rs) f77_s_B10Room.O (c := c77) (keep := keepAt 77) (by kernel_rfl) (fun n => orcOf_cf _ _ n) (fun n => lpOk_of (bs := []) (by kernel_rfl) .nil) (fun _ => rfl) (fun _ _ => by kernel_rfl)
noncomputable def f77_s_B10Room.w : FnW E := fnW 77 f77_s_B10Room.P sg_l f77_s_B10Room.A f77_s_B10Room.F f77_s_B10Room.ok

def f29_l_b10At : Nat → Nat → List T → Int → Int → Option (Int)
  | 0, _, _, _, _ => none
  | n + 1, n1, l2, i3, i4 =>
    br (decide (i4 ≤ (1 : Int))) (
     some (0 : Int)) (
     br (decide (i3 < ((n1 : Nat) : Int))) (
      gd ((decide (((0 : Int) ≤ i3) ∧ (i3 < ((n1 : Nat) : Int)))) && (okAt [(CK.int IntKind.u8)] l2 (Int.toNat i3))) (
      gd (!(decide (i4 = (0 : Int)))) (
      some (Int.tmod (IntKind.i64.wrap (iAt l2 (Int.toNat i3))) i4)))) (
      gd (!(decide (i4 = (0 : Int)))) (
      some (Int.tmod (IntKind.i64.wrap ((IntKind.i64.wrap (i3 * (37 : Int))) + (11 : Int))) i4))))
def f29_l_b10At.P : List Arg := [⟨.val, ⟨false, [.sl .shr [.leaf]], [.lst 0 []]⟩⟩, ⟨.val, ⟨false, [.leaf], [.int .i64 0]⟩⟩, ⟨.val, ⟨false, [.leaf], [.int .i64 0]⟩⟩]
def f29_l_b10At.A : RAlt (Int) := .one ⟨[⟨false, [.leaf], [.int .i64 0]⟩], [none, none, none]⟩ sg_i
def f29_l_b10At.F (n : Nat) (v : Nat × List T × Int × Int) := f29_l_b10At n v.1 v.2.1 v.2.2.1 v.2.2.2
noncomputable def f29_l_b10At.O (n : Nat) : Orc := orcOf (E := E) [] [] n
theorem f29_l_b10At.ok : ∀ n v x, f29_l_b10At.F n v = some x → evalFn E n 29 (flAs f29_l_b10At.P (sg_lii.pk v)) = some (f29_l_b10At.A.enc x) :=
  fn_pure (modes := (fdAt 29).ms) (outs := (fdAt 29).os) (results := (fdAt 29).rs) f29_l_b10At.O (c := c29) (keep := keepAt 29) (by kernel_rfl) (fun n => orcOf_cf _ _ n) (fun n => lpOk_of (bs := []) (by kernel_rfl) .nil) (fun _ => rfl) (fun _ _ => by kernel_rfl)
noncomputable def f29_l_b10At.w : FnW E := fnW 29 f29_l_b10At.P sg_lii f29_l_b10At.A f29_l_b10At.F f29_l_b10At.ok

def f98_s_l01DrawFloats.l0 (n : Nat) : Nat → Nat → List T → Int → Int → Int → Nat → List T → Bool → Option (Nat × List T × Int × Int × Nat × List T)
  | 0, _, _, _, _, _, _, _, _ => none
  | m + 1, n1, l2, i3, i4, i5, n6, l7, b8 =>
    br (decide (i5 > (0 : Int))) (
     br b8 (
      bd (f112_s_l01DrawFloat n n1 l2 i3 i4) fun r9 =>
      let x10 : Nat := r9.1
      let n11 : Nat := r9.2.1
      let l12 : List T := r9.2.2.1
      let i13 : Int := r9.2.2.2.1
      let i14 : Int := r9.2.2.2.2
      gd (Nat.ble (n6 + 1) 2147483648) (
      let n15 : Nat := (n6 + 1)
      let l16 : List T := (l7 ++ (setN (reps 1 [(T.flt FloatKind.f32 0)]) 0 [(T.flt FloatKind.f32 x10)]))
      f98_s_l01DrawFloats.l0 n m n11 l12 i13 i14 (IntKind.i64.wrap (i5 - (1 : Int))) n15 l16 b8)) (
      bd (f91_s_l01DrawPlain n n1 l2 i3 i4) fun r17 =>
      let x18 : Nat := r17.1
      let n19 : Nat := r17.2.1
      let l20 : List T := r17.2.2.1
      let i21 : Int := r17.2.2.2.1
      let i22 : Int := r17.2.2.2.2
      gd (Nat.ble (n6 + 1) 2147483648) (
      let n23 : Nat := (n6 + 1)
      let l24 : List T := (l7 ++ (setN (reps 1 [(T.flt FloatKind.f32 0)]) 0 [(T.flt FloatKind.f32 x18)]))
      f98_s_l01DrawFloats.l0 n m n19 l20 i21 i22 (IntKind.i64.wrap (i5 - (1 : Int))) n23 l24 b8))) (
     some (n1, l2, i3, i4, n6, l7))
def f98_s_l01DrawFloats : Nat → Nat → List T → Int → Int → Int → Option (Nat × List T × Nat × List T × Int × Int)
  | 0, _, _, _, _, _ => none
  | n + 1, n1, l2, i3, i4, i5 =>
    bd (f158_s_l00Srcone n n1 l2 i3 i4 (4 : Int)) fun r6 =>
    let b7 : Bool := r6.1
    let n8 : Nat := r6.2.1
    let l9 : List T := r6.2.2.1
    let i10 : Int := r6.2.2.2.1
    let i11 : Int := r6.2.2.2.2
    bd (f98_s_l01DrawFloats.l0 n n n8 l9 i10 i11 i5 0 (reps 0 [(T.flt FloatKind.f32 0)]) b7) fun r12 =>
    let n13 : Nat := r12.1
    let l14 : List T := r12.2.1
    let i15 : Int := r12.2.2.1
    let i16 : Int := r12.2.2.2.1
    let n17 : Nat := r12.2.2.2.2.1
    let l18 : List T := r12.2.2.2.2.2
    some (n17, l18, n13, l14, i15, i16)
def sg_llii : Sig (Nat × List T × Nat × List T × Int × Int) where
  pk := fun v => [.lst v.1 v.2.1, .lst v.2.2.1 v.2.2.2.1, .int v.2.2.2.2.1, .int v.2.2.2.2.2]
  up := fun ls => match ls with
    | [.lst a0 a1, .lst a2 a3, .int a4, .int a5] => some (a0, a1, a2, a3, a4, a5)
    | _ => none
  ok := by
    intro ls v h
    split at h
    · cases h; rfl
    · cases h

def sg_liiilb : Sig (Nat × List T × Int × Int × Int × Nat × List T × Bool) where
  pk := fun v => [.lst v.1 v.2.1, .int v.2.2.1, .int v.2.2.2.1, .int v.2.2.2.2.1, .lst v.2.2.2.2.2.1 v.2.2.2.2.2.2.1, .bool v.2.2.2.2.2.2.2]
  up := fun ls => match ls with
    | [.lst a0 a1, .int a2, .int a3, .int a4, .lst a5 a6, .bool a7] => some (a0, a1, a2, a3, a4, a5, a6, a7)
    | _ => none
  ok := by
    intro ls v h
    split at h
    · cases h; rfl
    · cases h

def f98_s_l01DrawFloats.l0.P : AS := ⟨[(0, .box [.sl .shr [.leaf], .leaf, .leaf] [.lst 0 [], .int .i64 0, .int .u64 0] [] 0), (1, .val false [.leaf] [.int .i64 0] [] 0), (5, .val false [.sl .own [.leaf]] [.lst 0 []] [] 0), (6, .val false [.leaf] [.bool false] [] 0)], 0⟩
def f98_s_l01DrawFloats.l0.A : Alt (Nat × List T × Int × Int × Nat × List T) := .one (.exit 0) ⟨[(0, .box [.sl .shr [.leaf], .leaf, .leaf] [.lst 0 [], .int .i64 0, .int .u64 0] [] 0), (5, .val false [.sl .own [.leaf]] [.lst 0 []] [] 0)], 0⟩ sg_liil
def f98_s_l01DrawFloats.l0.F (n m : Nat) (v : Nat × List T × Int × Int × Int × Nat × List T × Bool) := f98_s_l01DrawFloats.l0 n m v.1 v.2.1 v.2.2.1 v.2.2.2.1 v.2.2.2.2.1 v.2.2.2.2.2.1 v.2.2.2.2.2.2.1 v.2.2.2.2.2.2.2
def f98_s_l01DrawFloats.l0.W (n : Nat) : LpW := .of 48 f98_s_l01DrawFloats.l0.P sg_liiilb f98_s_l01DrawFloats.l0.A (f98_s_l01DrawFloats.l0.F n n)
def f98_s_l01DrawFloats.P : List Arg := [⟨.iop, ⟨false, [.rf .own [.sl .shr [.leaf], .leaf, .leaf]], [.ref [.lst 0 [], .int .i64 0, .int .u64 0]]⟩⟩, ⟨.val, ⟨false, [.leaf], [.int .i64 0]⟩⟩]
def f98_s_l01DrawFloats.A : RAlt (Nat × List T × Nat × List T × Int × Int) := .one ⟨[⟨false, [.sl .own [.leaf]], [.lst 0 []]⟩], [some ⟨false, [.rf .own [.sl .shr [.leaf], .leaf, .leaf]], [.ref [.lst 0 [], .int .i64 0, .int .u64 0]]⟩, none]⟩ sg_llii
def f98_s_l01DrawFloats.F (n : Nat) (v : Nat × List T × Int × Int × Int) := f98_s_l01DrawFloats n v.1 v.2.1 v.2.2.1 v.2.2.2.1 v.2.2.2.2
noncomputable def f98_s_l01DrawFloats.O (n : Nat) : Orc := orcOf (E := E) [f158_s_l00Srcone.w, f91_s_l01DrawPlain.w, f112_s_l01DrawFloat.w] [f98_s_l01DrawFloats.l0.W n] n
theorem f98_s_l01DrawFloats.l0.ok (n : Nat) : LpOk (f98_s_l01DrawFloats.O n) E (evalFn E n) n (keepAt 98) (.loop (loopAt c98 0)) :=
  lp_pure f98_s_l01DrawFloats.l0.P sg_liiilb f98_s_l01DrawFloats.l0.A (f98_s_l01DrawFloats.l0.F n) (orcOf_cf _ _ n) (lpOk_of (bs := []) (by kernel_rfl) .nil) (fun _ => rfl) (fun _ _ => by kernel_rfl) (fun _ _ _ => by kernel_rfl)
theorem f98_s_l01DrawFloats.ok : ∀ n v x, f98_s_l01DrawFloats.F n v = some x → evalFn E n 98 (flAs f98_s_l01DrawFloats.P (sg_liii.pk v)) = some (f98_s_l01DrawFloats.A.enc x) :=
  fn_pure (modes := (fdAt 98).ms) (outs := (fdAt 98).os) (results := (fdAt 98).rs) f98_s_l01DrawFloats.O (c := c98) (keep := keepAt 98) (by kernel_rfl) (fun n => orcOf_cf _ _ n) (fun n => lpOk_of (bs := [loopAt c98 0]) (by kernel_rfl) (.cons (f98_s_l01DrawFloats.l0.ok n) .nil)) (fun _ => rfl) (fun _ _ => by kernel_rfl)
noncomputable def f98_s_l01DrawFloats.w : FnW E := fnW 98 f98_s_l01DrawFloats.P sg_liii f98_s_l01DrawFloats.A f98_s_l01DrawFloats.F f98_s_l01DrawFloats.ok

def f30_s_B10Numbers : Nat → Nat → List T → Int → Option (Nat × List T)
  | 0, _, _, _ => none
  | n + 1, n1, l2, i3 =>
    bd (f90_s_l00From n n1 l2) fun r4 =>
    let n5 : Nat := r4.1
    let l6 : List T := r4.2.1
    let i7 : Int := r4.2.2.1
    let i8 : Int := r4.2.2.2
    bd (f98_s_l01DrawFloats n n5 l6 i7 i8 i3) fun r9 =>
    let n10 : Nat := r9.1
    let l11 : List T := r9.2.1
    let n12 : Nat := r9.2.2.1
    let l13 : List T := r9.2.2.2.1
    let i14 : Int := r9.2.2.2.2.1
    let i15 : Int := r9.2.2.2.2.2
    some (n10, l11)
def sg_li : Sig (Nat × List T × Int) where
  pk := fun v => [.lst v.1 v.2.1, .int v.2.2]
  up := fun ls => match ls with
    | [.lst a0 a1, .int a2] => some (a0, a1, a2)
    | _ => none
  ok := by
    intro ls v h
    split at h
    · cases h; rfl
    · cases h

def f30_s_B10Numbers.P : List Arg := [⟨.val, ⟨false, [.sl .shr [.leaf]], [.lst 0 []]⟩⟩, ⟨.val, ⟨false, [.leaf], [.int .i64 0]⟩⟩]
def f30_s_B10Numbers.A : RAlt (Nat × List T) := .one ⟨[⟨false, [.sl .own [.leaf]], [.lst 0 []]⟩], [none, none]⟩ sg_l
def f30_s_B10Numbers.F (n : Nat) (v : Nat × List T × Int) := f30_s_B10Numbers n v.1 v.2.1 v.2.2
noncomputable def f30_s_B10Numbers.O (n : Nat) : Orc := orcOf (E := E) [f90_s_l00From.w, f98_s_l01DrawFloats.w] [] n
theorem f30_s_B10Numbers.ok : ∀ n v x, f30_s_B10Numbers.F n v = some x → evalFn E n 30 (flAs f30_s_B10Numbers.P (sg_li.pk v)) = some (f30_s_B10Numbers.A.enc x) :=
  fn_pure (modes := (fdAt 30).ms) (outs := (fdAt 30).os) (results := (fdAt 30).rs) f30_s_B10Numbers.O (c := c30) (keep := keepAt 30) (by kernel_rfl) (fun n => orcOf_cf _ _ n) (fun n => lpOk_of (bs := []) (by kernel_rfl) .nil) (fun _ => rfl) (fun _ _ => by kernel_rfl)
noncomputable def f30_s_B10Numbers.w : FnW E := fnW 30 f30_s_B10Numbers.P sg_li f30_s_B10Numbers.A f30_s_B10Numbers.F f30_s_B10Numbers.ok

def f113_i_size : Nat → Int → Option (Int)
  | 0, _ => none
  | n + 1, i1 =>
    some i1
def f113_i_size.P : List Arg := [⟨.val, ⟨false, [.leaf], [.int .i64 0]⟩⟩]
def f113_i_size.A : RAlt (Int) := .one ⟨[⟨false, [.leaf], [.int .i64 0]⟩], [none]⟩ sg_i
def f113_i_size.F (n : Nat) (v : Int) := f113_i_size n v
noncomputable def f113_i_size.O (n : Nat) : Orc := orcOf (E := E) [] [] n
theorem f113_i_size.ok : ∀ n v x, f113_i_size.F n v = some x → evalFn E n 113 (flAs f113_i_size.P (sg_i.pk v)) = some (f113_i_size.A.enc x) :=
  fn_pure (modes := (fdAt 113).ms) (outs := (fdAt 113).os) (results := (fdAt 113).rs) f113_i_size.O (c := c113) (keep := keepAt 113) (by kernel_rfl) (fun n => orcOf_cf _ _ n) (fun n => lpOk_of (bs := []) (by kernel_rfl) .nil) (fun _ => rfl) (fun _ _ => by kernel_rfl)
noncomputable def f113_i_size.w : FnW E := fnW 113 f113_i_size.P sg_i f113_i_size.A f113_i_size.F f113_i_size.ok

def f93_i_within : Nat → Int → Int → Int → Option (Bool)
  | 0, _, _, _ => none
  | n + 1, i1, i2, i3 =>
    br (decide (i2 ≤ i1)) (
     some (decide (i1 ≤ i3))) (
     some false)
def f93_i_within.P : List Arg := [⟨.val, ⟨false, [.leaf], [.int .i64 0]⟩⟩, ⟨.val, ⟨false, [.leaf], [.int .i64 0]⟩⟩, ⟨.val, ⟨false, [.leaf], [.int .i64 0]⟩⟩]
def f93_i_within.A : RAlt (Bool) := .one ⟨[⟨false, [.leaf], [.bool false]⟩], [none, none, none]⟩ sg_b
def f93_i_within.F (n : Nat) (v : Int × Int × Int) := f93_i_within n v.1 v.2.1 v.2.2
noncomputable def f93_i_within.O (n : Nat) : Orc := orcOf (E := E) [] [] n
theorem f93_i_within.ok : ∀ n v x, f93_i_within.F n v = some x → evalFn E n 93 (flAs f93_i_within.P (sg_iii.pk v)) = some (f93_i_within.A.enc x) :=
  fn_pure (modes := (fdAt 93).ms) (outs := (fdAt 93).os) (results := (fdAt 93).rs) f93_i_within.O (c := c93) (keep := keepAt 93) (by kernel_rfl) (fun n => orcOf_cf _ _ n) (fun n => lpOk_of (bs := []) (by kernel_rfl) .nil) (fun _ => rfl) (fun _ _ => by kernel_rfl)
noncomputable def f93_i_within.w : FnW E := fnW 93 f93_i_within.P sg_iii f93_i_within.A f93_i_within.F f93_i_within.ok

def f157_i_Roomlengths.l0 (n : Nat) : Nat → Nat → List T → Nat → List T → Nat → Nat → Nat → List T → Nat → List T → Int → Int → Option (Nat × List T × Nat × List T × Nat × Nat × Nat × List T)
  | 0, _, _, _, _, _, _, _, _, _, _, _, _ => none
  | m + 1, n1, l2, n3, l4, x5, x6, n7, l8, n9, l10, i11, i12 =>
    br (decide (i12 < i11)) (
     gd ((decide (((0 : Int) ≤ i12) ∧ (i12 < ((n9 : Nat) : Int)))) && (okAt [(CK.int IntKind.i64), (CK.flt FloatKind.f32), (CK.flt FloatKind.f32), (CK.flt FloatKind.f32), CK.bool] l10 (((Int.toNat i12) * 5) + 0))) (
     let i13 : Int := (iAt l10 (((Int.toNat i12) * 5) + 0))
     let x14 : Nat := (fAt l10 ((((Int.toNat i12) * 5) + 0) + 1))
     let x15 : Nat := (fAt l10 (((((Int.toNat i12) * 5) + 0) + 1) + 1))
     let x16 : Nat := (fAt l10 ((((((Int.toNat i12) * 5) + 0) + 1) + 1) + 1))
     let b17 : Bool := (bAt l10 (((((((Int.toNat i12) * 5) + 0) + 1) + 1) + 1) + 1))
     gd (Nat.ble (n7 + 1) 2147483648) (
     let n18 : Nat := (n7 + 1)
     let l19 : List T := (l8 ++ (setN (reps 1 [(T.int IntKind.i64 (0 : Int))]) 0 [(T.int IntKind.i64 i13)]))
     f157_i_Roomlengths.l0 n m n1 l2 n3 l4 x5 x6 n18 l19 n9 l10 i11 (IntKind.i64.wrap (i12 + (1 : Int)))))) (
     some (n1, l2, n3, l4, x5, x6, n7, l8))
termination_by structural x => x
def f157_i_Roomlengths.l1 (n : Nat) : Nat → Nat → List T → Nat → List T → Nat → Nat → Nat → List T → Nat → List T → Int → Int → Option (Nat × List T)
  | 0, _, _, _, _, _, _, _, _, _, _, _, _ => none
  | m + 1, n1, l2, n3, l4, x5, x6, n7, l8, n9, l10, i11, i12 =>
    br (decide (i12 < i11)) (
     gd ((decide (((0 : Int) ≤ i12) ∧ (i12 < ((n9 : Nat) : Int)))) && (okAt [(CK.int IntKind.i64), (CK.flt FloatKind.f32)] l10 (((Int.toNat i12) * 2) + 0))) (
     let i13 : Int := (iAt l10 (((Int.toNat i12) * 2) + 0))
     let x14 : Nat := (fAt l10 ((((Int.toNat i12) * 2) + 0) + 1))
     gd (Nat.ble (n7 + 1) 2147483648) (
     let n15 : Nat := (n7 + 1)
     let l16 : List T := (l8 ++ (setN (reps 1 [(T.int IntKind.i64 (0 : Int))]) 0 [(T.int IntKind.i64 i13)]))
     f157_i_Roomlengths.l1 n m n1 l2 n3 l4 x5 x6 n15 l16 n9 l10 i11 (IntKind.i64.wrap (i12 + (1 : Int)))))) (
     some (n7, l8))
termination_by structural x => x
def f157_i_Roomlengths : Nat → Nat → List T → Nat → List T → Nat → Nat → Option (Nat × List T)
  | 0, _, _, _, _, _, _ => none
  | n + 1, n1, l2, n3, l4, x5, x6 =>
    bd (f157_i_Roomlengths.l0 n n n1 l2 n3 l4 x5 x6 0 [] n1 l2 ((n1 : Nat) : Int) (0 : Int)) fun r7 =>
    let n8 : Nat := r7.1
    let l9 : List T := r7.2.1
    let n10 : Nat := r7.2.2.1
    let l11 : List T := r7.2.2.2.1
    let x12 : Nat := r7.2.2.2.2.1
    let x13 : Nat := r7.2.2.2.2.2.1
    let n14 : Nat := r7.2.2.2.2.2.2.1
    let l15 : List T := r7.2.2.2.2.2.2.2
    bd (f157_i_Roomlengths.l1 n n n8 l9 n10 l11 x12 x13 n14 l15 n10 l11 ((n10 : Nat) : Int) (0 : Int)) fun r16 =>
    let n17 : Nat := r16.1
    let l18 : List T := r16.2
    some (n17, l18)
def sg_llffllii : Sig (Nat × List T × Nat × List T × Nat × Nat × Nat × List T × Nat × List T × Int × Int) where
  pk := fun v => [.lst v.1 v.2.1, .lst v.2.2.1 v.2.2.2.1, .flt v.2.2.2.2.1, .flt v.2.2.2.2.2.1, .lst v.2.2.2.2.2.2.1 v.2.2.2.2.2.2.2.1, .lst v.2.2.2.2.2.2.2.2.1 v.2.2.2.2.2.2.2.2.2.1, .int v.2.2.2.2.2.2.2.2.2.2.1, .int v.2.2.2.2.2.2.2.2.2.2.2]
  up := fun ls => match ls with
    | [.lst a0 a1, .lst a2 a3, .flt a4, .flt a5, .lst a6 a7, .lst a8 a9, .int a10, .int a11] => some (a0, a1, a2, a3, a4, a5, a6, a7, a8, a9, a10, a11)
    | _ => none
  ok := by
    intro ls v h
    split at h
    · cases h; rfl
    · cases h

def sg_llffl : Sig (Nat × List T × Nat × List T × Nat × Nat × Nat × List T) where
  pk := fun v => [.lst v.1 v.2.1, .lst v.2.2.1 v.2.2.2.1, .flt v.2.2.2.2.1, .flt v.2.2.2.2.2.1, .lst v.2.2.2.2.2.2.1 v.2.2.2.2.2.2.2]
  up := fun ls => match ls with
    | [.lst a0 a1, .lst a2 a3, .flt a4, .flt a5, .lst a6 a7] => some (a0, a1, a2, a3, a4, a5, a6, a7)
    | _ => none
  ok := by
    intro ls v h
    split at h
    · cases h; rfl
    · cases h

def f157_i_Roomlengths.l0.P : AS := ⟨[(1, .box [.sl .shr [.leaf, .leaf, .leaf, .leaf, .leaf], .sl .shr [.leaf, .leaf], .leaf, .leaf] [.lst 0 [], .lst 0 [], .flt .f32 0, .flt .f32 0] [] 0), (3, .val false [.sl .own [.leaf]] [.lst 0 []] [] 0), (9, .val false [.sl .shr [.leaf, .leaf, .leaf, .leaf, .leaf]] [.lst 0 []] [] 0), (10, .val false [.leaf] [.int .i64 0] [] 0), (11, .val false [.leaf] [.int .i64 0] [] 0)], 0⟩
def f157_i_Roomlengths.l0.A : Alt (Nat × List T × Nat × List T × Nat × Nat × Nat × List T) := .one (.exit 0) ⟨[(1, .box [.sl .shr [.leaf, .leaf, .leaf, .leaf, .leaf], .sl .shr [.leaf, .leaf], .leaf, .leaf] [.lst 0 [], .lst 0 [], .flt .f32 0, .flt .f32 0] [] 0), (3, .val false [.sl .own [.leaf]] [.lst 0 []] [] 0), (33, .dead)], 0⟩ sg_llffl
def f157_i_Roomlengths.l0.F (n m : Nat) (v : Nat × List T × Nat × List T × Nat × Nat × Nat × List T × Nat × List T × Int × Int) := f157_i_Roomlengths.l0 n m v.1 v.2.1 v.2.2.1 v.2.2.2.1 v.2.2.2.2.1 v.2.2.2.2.2.1 v.2.2.2.2.2.2.1 v.2.2.2.2.2.2.2.1 v.2.2.2.2.2.2.2.2.1 v.2.2.2.2.2.2.2.2.2.1 v.2.2.2.2.2.2.2.2.2.2.1 v.2.2.2.2.2.2.2.2.2.2.2
def f157_i_Roomlengths.l0.W (n : Nat) : LpW := .of 48 f157_i_Roomlengths.l0.P sg_llffllii f157_i_Roomlengths.l0.A (f157_i_Roomlengths.l0.F n n)
def f157_i_Roomlengths.l1.P : AS := ⟨[(1, .box [.sl .shr [.leaf, .leaf, .leaf, .leaf, .leaf], .sl .shr [.leaf, .leaf], .leaf, .leaf] [.lst 0 [], .lst 0 [], .flt .f32 0, .flt .f32 0] [] 0), (3, .val false [.sl .own [.leaf]] [.lst 0 []] [] 0), (22, .val false [.sl .shr [.leaf, .leaf]] [.lst 0 []] [] 0), (23, .val false [.leaf] [.int .i64 0] [] 0), (24, .val false [.leaf] [.int .i64 0] [] 0)], 0⟩
def f157_i_Roomlengths.l1.A : Alt (Nat × List T) := .one (.exit 2) ⟨[(3, .val false [.sl .own [.leaf]] [.lst 0 []] [] 0)], 0⟩ sg_l
def f157_i_Roomlengths.l1.F (n m : Nat) (v : Nat × List T × Nat × List T × Nat × Nat × Nat × List T × Nat × List T × Int × Int) := f157_i_Roomlengths.l1 n m v.1 v.2.1 v.2.2.1 v.2.2.2.1 v.2.2.2.2.1 v.2.2.2.2.2.1 v.2.2.2.2.2.2.1 v.2.2.2.2.2.2.2.1 v.2.2.2.2.2.2.2.2.1 v.2.2.2.2.2.2.2.2.2.1 v.2.2.2.2.2.2.2.2.2.2.1 v.2.2.2.2.2.2.2.2.2.2.2
def f157_i_Roomlengths.l1.W (n : Nat) : LpW := .of 128 f157_i_Roomlengths.l1.P sg_llffllii f157_i_Roomlengths.l1.A (f157_i_Roomlengths.l1.F n n)
def f157_i_Roomlengths.P : List Arg := [⟨.val, ⟨true, [.sl .shr [.leaf, .leaf, .leaf, .leaf, .leaf], .sl .shr [.leaf, .leaf], .leaf, .leaf], [.lst 0 [], .lst 0 [], .flt .f32 0, .flt .f32 0]⟩⟩]
def f157_i_Roomlengths.A : RAlt (Nat × List T) := .one ⟨[⟨false, [.sl .own [.leaf]], [.lst 0 []]⟩], [none]⟩ sg_l
def f157_i_Roomlengths.F (n : Nat) (v : Nat × List T × Nat × List T × Nat × Nat) := f157_i_Roomlengths n v.1 v.2.1 v.2.2.1 v.2.2.2.1 v.2.2.2.2.1 v.2.2.2.2.2
noncomputable def f157_i_Roomlengths.O (n : Nat) : Orc := orcOf (E := E) [] [f157_i_Roomlengths.l0.W n, f157_i_Roomlengths.l1.W n] n
theorem f157_i_Roomlengths.l0.ok (n : Nat) : LpOk (f157_i_Roomlengths.O n) E (evalFn E n) n (keepAt 157) (.loop (loopAt c157 0)) :=
  lp_pure f157_i_Roomlengths.l0.P sg_llffllii f157_i_Roomlengths.l0.A (f157_i_Roomlengths.l0.F n) (orcOf_cf _ _ n) (lpOk_of (bs := []) (by kernel_rfl) .nil) (fun _ => rfl) (fun _ _ => by kernel_rfl) (fun _ _ _ => by kernel_rfl)
theorem f157_i_Roomlengths.l1.ok (n : Nat) : LpOk (f157_i_Roomlengths.O n) E (evalFn E n) n (keepAt 157) (.loop (loopAt c157 1)) :=
  lp_pure f157_i_Roomlengths.l1.P sg_llffllii f157_i_Roomlengths.l1.A (f157_i_Roomlengths.l1.F n) (orcOf_cf _ _ n) (lpOk_of (bs := []) (by kernel_rfl) .nil) (fun _ => rfl) (fun _ _ => by kernel_rfl) (fun _ _ _ => by kernel_rfl)
theorem f157_i_Roomlengths.ok : ∀ n v x, f157_i_Roomlengths.F n v = some x → evalFn E n 157 (flAs f157_i_Roomlengths.P (sg_llff.pk v)) = some (f157_i_Roomlengths.A.enc x) :=
  fn_pure (modes := (fdAt 157).ms) (outs := (fdAt 157).os) (results := (fdAt 157).rs) f157_i_Roomlengths.O (c := c157) (keep := keepAt 157) (by kernel_rfl) (fun n => orcOf_cf _ _ n) (fun n => lpOk_of (bs := [loopAt c157 0, loopAt c157 1]) (by kernel_rfl) (.cons (f157_i_Roomlengths.l0.ok n) (.cons (f157_i_Roomlengths.l1.ok n) .nil))) (fun _ => rfl) (fun _ _ => by kernel_rfl)
noncomputable def f157_i_Roomlengths.w : FnW E := fnW 157 f157_i_Roomlengths.P sg_llff f157_i_Roomlengths.A f157_i_Roomlengths.F f157_i_Roomlengths.ok

def f116_i_allWithin.l0 (n : Nat) : Nat → Nat → List T → Int → Int → Nat → List T → Int → Int → Option ((Bool) ⊕ (Unit))
  | 0, _, _, _, _, _, _, _, _ => none
  | m + 1, n1, l2, i3, i4, n5, l6, i7, i8 =>
    br (decide (i8 < i7)) (
     gd ((decide (((0 : Int) ≤ i8) ∧ (i8 < ((n5 : Nat) : Int)))) && (okAt [(CK.int IntKind.i64)] l6 (Int.toNat i8))) (
     let i9 : Int := (iAt l6 (Int.toNat i8))
     bd (f93_i_within n i9 i3 i4) fun r10 =>
     let b11 : Bool := r10
     br (!b11) (
      some (Sum.inl false)) (
      f116_i_allWithin.l0 n m n1 l2 i3 i4 n5 l6 i7 (IntKind.i64.wrap (i8 + (1 : Int)))))) (
     some (Sum.inr ()))
def f116_i_allWithin : Nat → Nat → List T → Int → Int → Option (Bool)
  | 0, _, _, _, _ => none
  | n + 1, n1, l2, i3, i4 =>
    bd (f116_i_allWithin.l0 n n n1 l2 i3 i4 n1 l2 ((n1 : Nat) : Int) (0 : Int)) fun r5 =>
    sm r5 (fun u6 =>
     let b7 : Bool := u6
     some b7) (fun u8 =>
     some true)
def sg_liilii : Sig (Nat × List T × Int × Int × Nat × List T × Int × Int) where
  pk := fun v => [.lst v.1 v.2.1, .int v.2.2.1, .int v.2.2.2.1, .lst v.2.2.2.2.1 v.2.2.2.2.2.1, .int v.2.2.2.2.2.2.1, .int v.2.2.2.2.2.2.2]
  up := fun ls => match ls with
    | [.lst a0 a1, .int a2, .int a3, .lst a4 a5, .int a6, .int a7] => some (a0, a1, a2, a3, a4, a5, a6, a7)
    | _ => none
  ok := by
    intro ls v h
    split at h
    · cases h; rfl
    · cases h

def sg : Sig (Unit) where
  pk := fun v => []
  up := fun ls => match ls with
    | [] => some ()
    | _ => none
  ok := by
    intro ls v h
    split at h
    · cases h; rfl
    · cases h

def f116_i_allWithin.l0.P : AS := ⟨[(0, .val false [.sl .shr [.leaf]] [.lst 0 []] [] 0), (1, .val false [.leaf] [.int .i64 0] [] 0), (2, .val false [.leaf] [.int .i64 0] [] 0), (9, .val false [.sl .shr [.leaf]] [.lst 0 []] [] 0), (10, .val false [.leaf] [.int .i64 0] [] 0), (11, .val false [.leaf] [.int .i64 0] [] 0)], 0⟩
def f116_i_allWithin.l0.A : Alt ((Bool) ⊕ (Unit)) := .or (.one .ret ⟨[(6, .val false [.leaf] [.bool false] [] 0)], 0⟩ sg_b) (.one (.exit 0) ⟨[(6, .dead)], 0⟩ sg)
def f116_i_allWithin.l0.F (n m : Nat) (v : Nat × List T × Int × Int × Nat × List T × Int × Int) := f116_i_allWithin.l0 n m v.1 v.2.1 v.2.2.1 v.2.2.2.1 v.2.2.2.2.1 v.2.2.2.2.2.1 v.2.2.2.2.2.2.1 v.2.2.2.2.2.2.2
def f116_i_allWithin.l0.W (n : Nat) : LpW := .of 32 f116_i_allWithin.l0.P sg_liilii f116_i_allWithin.l0.A (f116_i_allWithin.l0.F n n)
def f116_i_allWithin.P : List Arg := [⟨.val, ⟨false, [.sl .shr [.leaf]], [.lst 0 []]⟩⟩, ⟨.val, ⟨false, [.leaf], [.int .i64 0]⟩⟩, ⟨.val, ⟨false, [.leaf], [.int .i64 0]⟩⟩]
def f116_i_allWithin.A : RAlt (Bool) := .one ⟨[⟨false, [.leaf], [.bool false]⟩], [none, none, none]⟩ sg_b
def f116_i_allWithin.F (n : Nat) (v : Nat × List T × Int × Int) := f116_i_allWithin n v.1 v.2.1 v.2.2.1 v.2.2.2
noncomputable def f116_i_allWithin.O (n : Nat) : Orc := orcOf (E := E) [f93_i_within.w] [f116_i_allWithin.l0.W n] n
theorem f116_i_allWithin.l0.ok (n : Nat) : LpOk (f116_i_allWithin.O n) E (evalFn E n) n (keepAt 116) (.loop (loopAt c116 0)) :=
  lp_pure f116_i_allWithin.l0.P sg_liilii f116_i_allWithin.l0.A (f116_i_allWithin.l0.F n) (orcOf_cf _ _ n) (lpOk_of (bs := []) (by kernel_rfl) .nil) (fun _ => rfl) (fun _ _ => by kernel_rfl) (fun _ _ _ => by kernel_rfl)
theorem f116_i_allWithin.ok : ∀ n v x, f116_i_allWithin.F n v = some x → evalFn E n 116 (flAs f116_i_allWithin.P (sg_lii.pk v)) = some (f116_i_allWithin.A.enc x) :=
  fn_pure (modes := (fdAt 116).ms) (outs := (fdAt 116).os) (results := (fdAt 116).rs) f116_i_allWithin.O (c := c116) (keep := keepAt 116) (by kernel_rfl) (fun n => orcOf_cf _ _ n) (fun n => lpOk_of (bs := [loopAt c116 0]) (by kernel_rfl) (.cons (f116_i_allWithin.l0.ok n) .nil)) (fun _ => rfl) (fun _ _ => by kernel_rfl)
noncomputable def f116_i_allWithin.w : FnW E := fnW 116 f116_i_allWithin.P sg_lii f116_i_allWithin.A f116_i_allWithin.F f116_i_allWithin.ok

def f80_i_ValidRoom : Nat → Nat → List T → Nat → List T → Nat → Nat → Option (Bool)
  | 0, _, _, _, _, _, _ => none
  | n + 1, n1, l2, n3, l4, x5, x6 =>
    bd (f113_i_size n ((n1 : Nat) : Int)) fun r7 =>
    let i8 : Int := r7
    bd (f93_i_within n i8 (1 : Int) (4 : Int)) fun r9 =>
    let b10 : Bool := r9
    br b10 (
     br (decide (((n3 : Nat) : Int) ≤ (3 : Int))) (
      bd (f157_i_Roomlengths n n1 l2 n3 l4 x5 x6) fun r11 =>
      let n12 : Nat := r11.1
      let l13 : List T := r11.2
      bd (f116_i_allWithin n n12 l13 (1 : Int) (64 : Int)) fun r14 =>
      let b15 : Bool := r14
      some b15) (
      some false)) (
     some false)
def f80_i_ValidRoom.P : List Arg := [⟨.val, ⟨true, [.sl .shr [.leaf, .leaf, .leaf, .leaf, .leaf], .sl .shr [.leaf, .leaf], .leaf, .leaf], [.lst 0 [], .lst 0 [], .flt .f32 0, .flt .f32 0]⟩⟩]
def f80_i_ValidRoom.A : RAlt (Bool) := .one ⟨[⟨false, [.leaf], [.bool false]⟩], [none]⟩ sg_b
def f80_i_ValidRoom.F (n : Nat) (v : Nat × List T × Nat × List T × Nat × Nat) := f80_i_ValidRoom n v.1 v.2.1 v.2.2.1 v.2.2.2.1 v.2.2.2.2.1 v.2.2.2.2.2
noncomputable def f80_i_ValidRoom.O (n : Nat) : Orc := orcOf (E := E) [f113_i_size.w, f93_i_within.w, f157_i_Roomlengths.w, f116_i_allWithin.w] [] n
theorem f80_i_ValidRoom.ok : ∀ n v x, f80_i_ValidRoom.F n v = some x → evalFn E n 80 (flAs f80_i_ValidRoom.P (sg_llff.pk v)) = some (f80_i_ValidRoom.A.enc x) :=
  fn_pure (modes := (fdAt 80).ms) (outs := (fdAt 80).os) (results := (fdAt 80).rs) f80_i_ValidRoom.O (c := c80) (keep := keepAt 80) (by kernel_rfl) (fun n => orcOf_cf _ _ n) (fun n => lpOk_of (bs := []) (by kernel_rfl) .nil) (fun _ => rfl) (fun _ _ => by kernel_rfl)
noncomputable def f80_i_ValidRoom.w : FnW E := fnW 80 f80_i_ValidRoom.P sg_llff f80_i_ValidRoom.A f80_i_ValidRoom.F f80_i_ValidRoom.ok

def f108_i_zeros : Nat → Int → Option (Nat × List T)
  | 0, _ => none
  | n + 1, i1 =>
    gd (decide (((0 : Int) ≤ i1) ∧ (i1 ≤ (2147483648 : Int)))) (
    some ((Int.toNat i1), (reps (Int.toNat i1) [(T.flt FloatKind.f32 0)])))
def f108_i_zeros.P : List Arg := [⟨.val, ⟨false, [.leaf], [.int .i64 0]⟩⟩]
def f108_i_zeros.A : RAlt (Nat × List T) := .one ⟨[⟨false, [.sl .own [.leaf]], [.lst 0 []]⟩], [none]⟩ sg_l
def f108_i_zeros.F (n : Nat) (v : Int) := f108_i_zeros n v
noncomputable def f108_i_zeros.O (n : Nat) : Orc := orcOf (E := E) [] [] n
theorem f108_i_zeros.ok : ∀ n v x, f108_i_zeros.F n v = some x → evalFn E n 108 (flAs f108_i_zeros.P (sg_i.pk v)) = some (f108_i_zeros.A.enc x) :=
  fn_pure (modes := (fdAt 108).ms) (outs := (fdAt 108).os) (results := (fdAt 108).rs) f108_i_zeros.O (c := c108) (keep := keepAt 108) (by kernel_rfl) (fun n => orcOf_cf _ _ n) (fun n => lpOk_of (bs := []) (by kernel_rfl) .nil) (fun _ => rfl) (fun _ _ => by kernel_rfl)
noncomputable def f108_i_zeros.w : FnW E := fnW 108 f108_i_zeros.P sg_i f108_i_zeros.A f108_i_zeros.F f108_i_zeros.ok

def f154_i_Roomempty.l0 (n : Nat) : Nat → Nat → List T → Nat → List T → Int → Int → Option (Nat × List T)
  | 0, _, _, _, _, _, _ => none
  | m + 1, n1, l2, n3, l4, i5, i6 =>
    br (decide (i6 < i5)) (
     gd (decide (((0 : Int) ≤ i6) ∧ (i6 < ((n3 : Nat) : Int)))) (
     gd (okAt [(CK.int IntKind.i64)] l4 (Int.toNat i6)) (
     let i7 : Int := (iAt l4 (Int.toNat i6))
     bd (f108_i_zeros n i7) fun r8 =>
     let n9 : Nat := r8.1
     let l10 : List T := r8.2
     gd (Nat.ble (n1 + 1) 2147483648) (
     let n11 : Nat := (n1 + 1)
     let l12 : List T := (l2 ++ (setN (reps 1 [(T.lst 0 [])]) 0 [(T.lst n9 l10)]))
     f154_i_Roomempty.l0 n m n11 l12 n3 l4 i5 (IntKind.i64.wrap (i6 + (1 : Int))))))) (
     some (n1, l2))
def f154_i_Roomempty : Nat → Nat → List T → Nat → List T → Nat → Nat → Option (Nat × List T)
  | 0, _, _, _, _, _, _ => none
  | n + 1, n1, l2, n3, l4, x5, x6 =>
    bd (f157_i_Roomlengths n n1 l2 n3 l4 x5 x6) fun r7 =>
    let n8 : Nat := r7.1
    let l9 : List T := r7.2
    bd (f154_i_Roomempty.l0 n n 0 [] n8 l9 ((n8 : Nat) : Int) (0 : Int)) fun r10 =>
    let n11 : Nat := r10.1
    let l12 : List T := r10.2
    some (n11, l12)
def f154_i_Roomempty.l0.P : AS := ⟨[(3, .val false [.sl .own [.sl .own [.leaf]]] [.lst 0 []] [] 0), (7, .val false [.sl .own [.leaf]] [.lst 0 []] [] 0), (8, .val false [.leaf] [.int .i64 0] [] 0), (9, .val false [.leaf] [.int .i64 0] [] 0)], 0⟩
def f154_i_Roomempty.l0.A : Alt (Nat × List T) := .one (.exit 0) ⟨[(3, .val false [.sl .own [.sl .own [.leaf]]] [.lst 0 []] [] 0)], 0⟩ sg_l
def f154_i_Roomempty.l0.F (n m : Nat) (v : Nat × List T × Nat × List T × Int × Int) := f154_i_Roomempty.l0 n m v.1 v.2.1 v.2.2.1 v.2.2.2.1 v.2.2.2.2.1 v.2.2.2.2.2
def f154_i_Roomempty.l0.W (n : Nat) : LpW := .of 48 f154_i_Roomempty.l0.P sg_llii f154_i_Roomempty.l0.A (f154_i_Roomempty.l0.F n n)
def f154_i_Roomempty.P : List Arg := [⟨.val, ⟨true, [.sl .shr [.leaf, .leaf, .leaf, .leaf, .leaf], .sl .shr [.leaf, .leaf], .leaf, .leaf], [.lst 0 [], .lst 0 [], .flt .f32 0, .flt .f32 0]⟩⟩]
def f154_i_Roomempty.A : RAlt (Nat × List T) := .one ⟨[⟨false, [.sl .own [.sl .own [.leaf]]], [.lst 0 []]⟩], [none]⟩ sg_l
def f154_i_Roomempty.F (n : Nat) (v : Nat × List T × Nat × List T × Nat × Nat) := f154_i_Roomempty n v.1 v.2.1 v.2.2.1 v.2.2.2.1 v.2.2.2.2.1 v.2.2.2.2.2
noncomputable def f154_i_Roomempty.O (n : Nat) : Orc := orcOf (E := E) [f157_i_Roomlengths.w, f108_i_zeros.w] [f154_i_Roomempty.l0.W n] n
theorem f154_i_Roomempty.l0.ok (n : Nat) : LpOk (f154_i_Roomempty.O n) E (evalFn E n) n (keepAt 154) (.loop (loopAt c154 0)) :=
  lp_pure f154_i_Roomempty.l0.P sg_llii f154_i_Roomempty.l0.A (f154_i_Roomempty.l0.F n) (orcOf_cf _ _ n) (lpOk_of (bs := []) (by kernel_rfl) .nil) (fun _ => rfl) (fun _ _ => by kernel_rfl) (fun _ _ _ => by kernel_rfl)
theorem f154_i_Roomempty.ok : ∀ n v x, f154_i_Roomempty.F n v = some x → evalFn E n 154 (flAs f154_i_Roomempty.P (sg_llff.pk v)) = some (f154_i_Roomempty.A.enc x) :=
  fn_pure (modes := (fdAt 154).ms) (outs := (fdAt 154).os) (results := (fdAt 154).rs) f154_i_Roomempty.O (c := c154) (keep := keepAt 154) (by kernel_rfl) (fun n => orcOf_cf _ _ n) (fun n => lpOk_of (bs := [loopAt c154 0]) (by kernel_rfl) (.cons (f154_i_Roomempty.l0.ok n) .nil)) (fun _ => rfl) (fun _ _ => by kernel_rfl)
noncomputable def f154_i_Roomempty.w : FnW E := fnW 154 f154_i_Roomempty.P sg_llff f154_i_Roomempty.A f154_i_Roomempty.F f154_i_Roomempty.ok

def f78_i_EmptyRoom : Nat → Nat → List T → Nat → List T → Nat → Nat → Option (Nat × List T × Bool)
  | 0, _, _, _, _, _, _ => none
  | n + 1, n1, l2, n3, l4, x5, x6 =>
    bd (f80_i_ValidRoom n n1 l2 n3 l4 x5 x6) fun r7 =>
    let b8 : Bool := r7
    br (!b8) (
     some (0, [], false)) (
     bd (f154_i_Roomempty n n1 l2 n3 l4 x5 x6) fun r9 =>
     let n10 : Nat := r9.1
     let l11 : List T := r9.2
     some (n10, l11, true))
def sg_lb : Sig (Nat × List T × Bool) where
  pk := fun v => [.lst v.1 v.2.1, .bool v.2.2]
  up := fun ls => match ls with
    | [.lst a0 a1, .bool a2] => some (a0, a1, a2)
    | _ => none
  ok := by
    intro ls v h
    split at h
    · cases h; rfl
    · cases h

def f78_i_EmptyRoom.P : List Arg := [⟨.val, ⟨true, [.sl .shr [.leaf, .leaf, .leaf, .leaf, .leaf], .sl .shr [.leaf, .leaf], .leaf, .leaf], [.lst 0 [], .lst 0 [], .flt .f32 0, .flt .f32 0]⟩⟩]
def f78_i_EmptyRoom.A : RAlt (Nat × List T × Bool) := .one ⟨[⟨false, [.sl .own [.sl .own [.leaf]]], [.lst 0 []]⟩, ⟨false, [.leaf], [.bool false]⟩], [none]⟩ sg_lb
def f78_i_EmptyRoom.F (n : Nat) (v : Nat × List T × Nat × List T × Nat × Nat) := f78_i_EmptyRoom n v.1 v.2.1 v.2.2.1 v.2.2.2.1 v.2.2.2.2.1 v.2.2.2.2.2
noncomputable def f78_i_EmptyRoom.O (n : Nat) : Orc := orcOf (E := E) [f80_i_ValidRoom.w, f154_i_Roomempty.w] [] n
theorem f78_i_EmptyRoom.ok : ∀ n v x, f78_i_EmptyRoom.F n v = some x → evalFn E n 78 (flAs f78_i_EmptyRoom.P (sg_llff.pk v)) = some (f78_i_EmptyRoom.A.enc x) :=
  fn_pure (modes := (fdAt 78).ms) (outs := (fdAt 78).os) (results := (fdAt 78).rs) f78_i_EmptyRoom.O (c := c78) (keep := keepAt 78) (by kernel_rfl) (fun n => orcOf_cf _ _ n) (fun n => lpOk_of (bs := []) (by kernel_rfl) .nil) (fun _ => rfl) (fun _ _ => by kernel_rfl)
noncomputable def f78_i_EmptyRoom.w : FnW E := fnW 78 f78_i_EmptyRoom.P sg_llff f78_i_EmptyRoom.A f78_i_EmptyRoom.F f78_i_EmptyRoom.ok

def f92_i_areSamples : Nat → Nat → List T → Option (Bool)
  | 0, _, _ => none
  | n + 1, n1, l2 =>
    some (decide (((n1 : Nat) : Int) ≤ (256 : Int)))
def f92_i_areSamples.P : List Arg := [⟨.val, ⟨false, [.sl .shr [.leaf]], [.lst 0 []]⟩⟩]
def f92_i_areSamples.A : RAlt (Bool) := .one ⟨[⟨false, [.leaf], [.bool false]⟩], [none]⟩ sg_b
def f92_i_areSamples.F (n : Nat) (v : Nat × List T) := f92_i_areSamples n v.1 v.2
noncomputable def f92_i_areSamples.O (n : Nat) : Orc := orcOf (E := E) [] [] n
theorem f92_i_areSamples.ok : ∀ n v x, f92_i_areSamples.F n v = some x → evalFn E n 92 (flAs f92_i_areSamples.P (sg_l.pk v)) = some (f92_i_areSamples.A.enc x) :=
  fn_pure (modes := (fdAt 92).ms) (outs := (fdAt 92).os) (results := (fdAt 92).rs) f92_i_areSamples.O (c := c92) (keep := keepAt 92) (by kernel_rfl) (fun n => orcOf_cf _ _ n) (fun n => lpOk_of (bs := []) (by kernel_rfl) .nil) (fun _ => rfl) (fun _ _ => by kernel_rfl)
noncomputable def f92_i_areSamples.w : FnW E := fnW 92 f92_i_areSamples.P sg_l f92_i_areSamples.A f92_i_areSamples.F f92_i_areSamples.ok

def f155_i_RoomareLines.l0 (n : Nat) : Nat → Nat → List T → Nat → List T → Nat → List T → Int → Int → Option ((Bool) ⊕ (Unit))
  | 0, _, _, _, _, _, _, _, _ => none
  | m + 1, n1, l2, n3, l4, n5, l6, i7, i8 =>
    br (decide (i8 < i7)) (
     gd ((decide (((0 : Int) ≤ i8) ∧ (i8 < ((n5 : Nat) : Int)))) && (okAt [CK.lst] l6 (Int.toNat i8))) (
     let n9 : Nat := (nAt l6 (Int.toNat i8))
     let l10 : List T := (lAt l6 (Int.toNat i8))
     bd (f113_i_size n ((n9 : Nat) : Int)) fun r11 =>
     let i12 : Int := r11
     gd (decide (((0 : Int) ≤ i8) ∧ (i8 < ((n3 : Nat) : Int)))) (
     gd (okAt [(CK.int IntKind.i64)] l4 (Int.toNat i8)) (
     br (i12 != (iAt l4 (Int.toNat i8))) (
      some (Sum.inl false)) (
      f155_i_RoomareLines.l0 n m n1 l2 n3 l4 n5 l6 i7 (IntKind.i64.wrap (i8 + (1 : Int)))))))) (
     some (Sum.inr ()))
def f155_i_RoomareLines : Nat → Nat → List T → Nat → List T → Nat → Nat → Nat → List T → Option (Bool)
  | 0, _, _, _, _, _, _, _, _ => none
  | n + 1, n1, l2, n3, l4, x5, x6, n7, l8 =>
    bd (f157_i_Roomlengths n n1 l2 n3 l4 x5 x6) fun r9 =>
    let n10 : Nat := r9.1
    let l11 : List T := r9.2
    br (((n7 : Nat) : Int) != ((n10 : Nat) : Int)) (
     some false) (
     bd (f155_i_RoomareLines.l0 n n n7 l8 n10 l11 n7 l8 ((n7 : Nat) : Int) (0 : Int)) fun r12 =>
     sm r12 (fun u13 =>
      let b14 : Bool := u13
      some b14) (fun u15 =>
      some true))
def sg_lllii : Sig (Nat × List T × Nat × List T × Nat × List T × Int × Int) where
  pk := fun v => [.lst v.1 v.2.1, .lst v.2.2.1 v.2.2.2.1, .lst v.2.2.2.2.1 v.2.2.2.2.2.1, .int v.2.2.2.2.2.2.1, .int v.2.2.2.2.2.2.2]
  up := fun ls => match ls with
    | [.lst a0 a1, .lst a2 a3, .lst a4 a5, .int a6, .int a7] => some (a0, a1, a2, a3, a4, a5, a6, a7)
    | _ => none
  ok := by
    intro ls v h
    split at h
    · cases h; rfl
    · cases h

def f155_i_RoomareLines.l0.P : AS := ⟨[(1, .val false [.sl .shr [.sl .shr [.leaf]]] [.lst 0 []] [] 0), (5, .val false [.sl .own [.leaf]] [.lst 0 []] [] 0), (15, .val false [.sl .shr [.sl .shr [.leaf]]] [.lst 0 []] [] 0), (16, .val false [.leaf] [.int .i64 0] [] 0), (17, .val false [.leaf] [.int .i64 0] [] 0)], 0⟩
def f155_i_RoomareLines.l0.A : Alt ((Bool) ⊕ (Unit)) := .or (.one .ret ⟨[(4, .val false [.leaf] [.bool false] [] 0)], 0⟩ sg_b) (.one (.exit 0) ⟨[(4, .dead)], 0⟩ sg)
def f155_i_RoomareLines.l0.F (n m : Nat) (v : Nat × List T × Nat × List T × Nat × List T × Int × Int) := f155_i_RoomareLines.l0 n m v.1 v.2.1 v.2.2.1 v.2.2.2.1 v.2.2.2.2.1 v.2.2.2.2.2.1 v.2.2.2.2.2.2.1 v.2.2.2.2.2.2.2
def f155_i_RoomareLines.l0.W (n : Nat) : LpW := .of 80 f155_i_RoomareLines.l0.P sg_lllii f155_i_RoomareLines.l0.A (f155_i_RoomareLines.l0.F n n)
def f155_i_RoomareLines.P : List Arg := [⟨.val, ⟨true, [.sl .shr [.leaf, .leaf, .leaf, .leaf, .leaf], .sl .shr [.leaf, .leaf], .leaf, .leaf], [.lst 0 [], .lst 0 [], .flt .f32 0, .flt .f32 0]⟩⟩, ⟨.val, ⟨false, [.sl .shr [.sl .shr [.leaf]]], [.lst 0 []]⟩⟩]
def f155_i_RoomareLines.A : RAlt (Bool) := .one ⟨[⟨false, [.leaf], [.bool false]⟩], [none, none]⟩ sg_b
def f155_i_RoomareLines.F (n : Nat) (v : Nat × List T × Nat × List T × Nat × Nat × Nat × List T) := f155_i_RoomareLines n v.1 v.2.1 v.2.2.1 v.2.2.2.1 v.2.2.2.2.1 v.2.2.2.2.2.1 v.2.2.2.2.2.2.1 v.2.2.2.2.2.2.2
noncomputable def f155_i_RoomareLines.O (n : Nat) : Orc := orcOf (E := E) [f113_i_size.w, f157_i_Roomlengths.w] [f155_i_RoomareLines.l0.W n] n
theorem f155_i_RoomareLines.l0.ok (n : Nat) : LpOk (f155_i_RoomareLines.O n) E (evalFn E n) n (keepAt 155) (.loop (loopAt c155 0)) :=
  lp_pure f155_i_RoomareLines.l0.P sg_lllii f155_i_RoomareLines.l0.A (f155_i_RoomareLines.l0.F n) (orcOf_cf _ _ n) (lpOk_of (bs := []) (by kernel_rfl) .nil) (fun _ => rfl) (fun _ _ => by kernel_rfl) (fun _ _ _ => by kernel_rfl)
theorem f155_i_RoomareLines.ok : ∀ n v x, f155_i_RoomareLines.F n v = some x → evalFn E n 155 (flAs f155_i_RoomareLines.P (sg_llffl.pk v)) = some (f155_i_RoomareLines.A.enc x) :=
  fn_pure (modes := (fdAt 155).ms) (outs := (fdAt 155).os) (results := (fdAt 155).rs) f155_i_RoomareLines.O (c := c155) (keep := keepAt 155) (by kernel_rfl) (fun n => orcOf_cf _ _ n) (fun n => lpOk_of (bs := [loopAt c155 0]) (by kernel_rfl) (.cons (f155_i_RoomareLines.l0.ok n) .nil)) (fun _ => rfl) (fun _ _ => by kernel_rfl)
noncomputable def f155_i_RoomareLines.w : FnW E := fnW 155 f155_i_RoomareLines.P sg_llffl f155_i_RoomareLines.A f155_i_RoomareLines.F f155_i_RoomareLines.ok

def f109_i_copyNumbers : Nat → Nat → List T → Option (Nat × List T)
  | 0, _, _ => none
  | n + 1, n1, l2 =>
    gd (Nat.ble (0 + n1) 2147483648) (
    some ((0 + n1), ((reps 0 [(T.flt FloatKind.f32 0)]) ++ l2)))
def f109_i_copyNumbers.P : List Arg := [⟨.val, ⟨false, [.sl .shr [.leaf]], [.lst 0 []]⟩⟩]
def f109_i_copyNumbers.A : RAlt (Nat × List T) := .one ⟨[⟨false, [.sl .own [.leaf]], [.lst 0 []]⟩], [none]⟩ sg_l
def f109_i_copyNumbers.F (n : Nat) (v : Nat × List T) := f109_i_copyNumbers n v.1 v.2
noncomputable def f109_i_copyNumbers.O (n : Nat) : Orc := orcOf (E := E) [] [] n
theorem f109_i_copyNumbers.ok : ∀ n v x, f109_i_copyNumbers.F n v = some x → evalFn E n 109 (flAs f109_i_copyNumbers.P (sg_l.pk v)) = some (f109_i_copyNumbers.A.enc x) :=
  fn_pure (modes := (fdAt 109).ms) (outs := (fdAt 109).os) (results := (fdAt 109).rs) f109_i_copyNumbers.O (c := c109) (keep := keepAt 109) (by kernel_rfl) (fun n => orcOf_cf _ _ n) (fun n => lpOk_of (bs := []) (by kernel_rfl) .nil) (fun _ => rfl) (fun _ _ => by kernel_rfl)
noncomputable def f109_i_copyNumbers.w : FnW E := fnW 109 f109_i_copyNumbers.P sg_l f109_i_copyNumbers.A f109_i_copyNumbers.F f109_i_copyNumbers.ok

def f156_i_Roomrun.l0 (n : Nat) : Nat → Nat → List T → Nat → List T → Nat → List T → Nat → List T → Nat → Nat → Nat → List T → Nat → List T → Int → Int → Option (Nat × List T × Nat × List T × Nat × List T × Nat × Nat × Nat × List T)
  | 0, _, _, _, _, _, _, _, _, _, _, _, _, _, _, _, _ => none
  | m + 1, n1, l2, n3, l4, n5, l6, n7, l8, x9, x10, n11, l12, n13, l14, i15, i16 =>
    br (decide (i16 < i15)) (
     gd ((decide (((0 : Int) ≤ i16) ∧ (i16 < ((n13 : Nat) : Int)))) && (okAt [CK.lst] l14 (Int.toNat i16))) (
     let n17 : Nat := (nAt l14 (Int.toNat i16))
     let l18 : List T := (lAt l14 (Int.toNat i16))
     bd (f109_i_copyNumbers n n17 l18) fun r19 =>
     let n20 : Nat := r19.1
     let l21 : List T := r19.2
     gd (Nat.ble (n11 + 1) 2147483648) (
     let n22 : Nat := (n11 + 1)
     let l23 : List T := (l12 ++ (setN (reps 1 [(T.lst 0 [])]) 0 [(T.lst n20 l21)]))
     f156_i_Roomrun.l0 n m n1 l2 n3 l4 n5 l6 n7 l8 x9 x10 n22 l23 n13 l14 i15 (IntKind.i64.wrap (i16 + (1 : Int)))))) (
     some (n3, l4, n5, l6, n7, l8, x9, x10, n11, l12))
termination_by structural x => x
def f195_i_IsSubnormal : Nat → Nat → Option (Bool)
  | 0, _ => none
  | n + 1, x1 =>
    br (fne FloatKind.f32 x1 0) (
     br (flt FloatKind.f32 x1 8388608) (
      some (fgt FloatKind.f32 x1 2155872256)) (
      some false)) (
     some false)
def f195_i_IsSubnormal.P : List Arg := [⟨.val, ⟨false, [.leaf], [.flt .f32 0]⟩⟩]
def f195_i_IsSubnormal.A : RAlt (Bool) := .one ⟨[⟨false, [.leaf], [.bool false]⟩], [none]⟩ sg_b
def f195_i_IsSubnormal.F (n : Nat) (v : Nat) := f195_i_IsSubnormal n v
noncomputable def f195_i_IsSubnormal.O (n : Nat) : Orc := orcOf (E := E) [] [] n
theorem f195_i_IsSubnormal.ok : ∀ n v x, f195_i_IsSubnormal.F n v = some x → evalFn E n 195 (flAs f195_i_IsSubnormal.P (sg_f.pk v)) = some (f195_i_IsSubnormal.A.enc x) :=
  fn_pure (modes := (fdAt 195).ms) (outs := (fdAt 195).os) (results := (fdAt 195).rs) f195_i_IsSubnormal.O (c := c195) (keep := keepAt 195) (by kernel_rfl) (fun n => orcOf_cf _ _ n) (fun n => lpOk_of (bs := []) (by kernel_rfl) .nil) (fun _ => rfl) (fun _ _ => by kernel_rfl)
noncomputable def f195_i_IsSubnormal.w : FnW E := fnW 195 f195_i_IsSubnormal.P sg_f f195_i_IsSubnormal.A f195_i_IsSubnormal.F f195_i_IsSubnormal.ok

def f188_i_FlushNumber : Nat → Nat → Option (Nat)
  | 0, _ => none
  | n + 1, x1 =>
    bd (f195_i_IsSubnormal n x1) fun r2 =>
    let b3 : Bool := r2
    br (!b3) (
     some x1) (
     bd ((fltToFlt FloatKind.f32 x1 FloatKind.f64)) fun y4 =>
     bd (xCopysign n 0 y4) fun r5 =>
     let x6 : Nat := r5
     bd ((fltToFlt FloatKind.f64 x6 FloatKind.f32)) fun y7 =>
     some y7)
def f188_i_FlushNumber.P : List Arg := [⟨.val, ⟨false, [.leaf], [.flt .f32 0]⟩⟩]
def f188_i_FlushNumber.A : RAlt (Nat) := .one ⟨[⟨false, [.leaf], [.flt .f32 0]⟩], [none]⟩ sg_f
def f188_i_FlushNumber.F (n : Nat) (v : Nat) := f188_i_FlushNumber n v
noncomputable def f188_i_FlushNumber.O (n : Nat) : Orc := orcOf (E := E) [x196.w, f195_i_IsSubnormal.w] [] n
theorem f188_i_FlushNumber.ok : ∀ n v x, f188_i_FlushNumber.F n v = some x → evalFn E n 188 (flAs f188_i_FlushNumber.P (sg_f.pk v)) = some (f188_i_FlushNumber.A.enc x) :=
  fn_pure (modes := (fdAt 188).ms) (outs := (fdAt 188).os) (results := (fdAt 188).rs) f188_i_FlushNumber.O (c := c188) (keep := keepAt 188) (by kernel_rfl) (fun n => orcOf_cf _ _ n) (fun n => lpOk_of (bs := []) (by kernel_rfl) .nil) (fun _ => rfl) (fun _ _ => by kernel_rfl)
noncomputable def f188_i_FlushNumber.w : FnW E := fnW 188 f188_i_FlushNumber.P sg_f f188_i_FlushNumber.A f188_i_FlushNumber.F f188_i_FlushNumber.ok

def f175_i_flushed : Nat → Nat → Bool → Option (Nat)
  | 0, _, _ => none
  | n + 1, x1, b2 =>
    br b2 (
     bd (f188_i_FlushNumber n x1) fun r3 =>
     let x4 : Nat := r3
     some x4) (
     some x1)
def sg_fb : Sig (Nat × Bool) where
  pk := fun v => [.flt v.1, .bool v.2]
  up := fun ls => match ls with
    | [.flt a0, .bool a1] => some (a0, a1)
    | _ => none
  ok := by
    intro ls v h
    split at h
    · cases h; rfl
    · cases h

def f175_i_flushed.P : List Arg := [⟨.val, ⟨false, [.leaf], [.flt .f32 0]⟩⟩, ⟨.val, ⟨false, [.leaf], [.bool false]⟩⟩]
def f175_i_flushed.A : RAlt (Nat) := .one ⟨[⟨false, [.leaf], [.flt .f32 0]⟩], [none, none]⟩ sg_f
def f175_i_flushed.F (n : Nat) (v : Nat × Bool) := f175_i_flushed n v.1 v.2
noncomputable def f175_i_flushed.O (n : Nat) : Orc := orcOf (E := E) [f188_i_FlushNumber.w] [] n
theorem f175_i_flushed.ok : ∀ n v x, f175_i_flushed.F n v = some x → evalFn E n 175 (flAs f175_i_flushed.P (sg_fb.pk v)) = some (f175_i_flushed.A.enc x) :=
  fn_pure (modes := (fdAt 175).ms) (outs := (fdAt 175).os) (results := (fdAt 175).rs) f175_i_flushed.O (c := c175) (keep := keepAt 175) (by kernel_rfl) (fun n => orcOf_cf _ _ n) (fun n => lpOk_of (bs := []) (by kernel_rfl) .nil) (fun _ => rfl) (fun _ _ => by kernel_rfl)
noncomputable def f175_i_flushed.w : FnW E := fnW 175 f175_i_flushed.P sg_fb f175_i_flushed.A f175_i_flushed.F f175_i_flushed.ok

def f174_i_take : Nat → Nat → List T → Nat → Option (Nat × List T)
  | 0, _, _, _ => none
  | n + 1, n1, l2, x3 =>
    gd (decide (((0 : Int) ≤ (1 : Int)) ∧ (((1 : Int) ≤ ((n1 : Nat) : Int)) ∧ (((n1 : Nat) : Int) ≤ ((n1 : Nat) : Int))))) (
    bd (f109_i_copyNumbers n (n1 - 1) (List.take (n1 - 1) (List.drop 1 l2))) fun r4 =>
    let n5 : Nat := r4.1
    let l6 : List T := r4.2
    gd (Nat.ble (n5 + 1) 2147483648) (
    some ((n5 + 1), (l6 ++ (setN (reps 1 [(T.flt FloatKind.f32 0)]) 0 [(T.flt FloatKind.f32 x3)])))))
def sg_lf : Sig (Nat × List T × Nat) where
  pk := fun v => [.lst v.1 v.2.1, .flt v.2.2]
  up := fun ls => match ls with
    | [.lst a0 a1, .flt a2] => some (a0, a1, a2)
    | _ => none
  ok := by
    intro ls v h
    split at h
    · cases h; rfl
    · cases h

def f174_i_take.P : List Arg := [⟨.val, ⟨false, [.sl .shr [.leaf]], [.lst 0 []]⟩⟩, ⟨.val, ⟨false, [.leaf], [.flt .f32 0]⟩⟩]
def f174_i_take.A : RAlt (Nat × List T) := .one ⟨[⟨false, [.sl .own [.leaf]], [.lst 0 []]⟩], [none, none]⟩ sg_l
def f174_i_take.F (n : Nat) (v : Nat × List T × Nat) := f174_i_take n v.1 v.2.1 v.2.2
noncomputable def f174_i_take.O (n : Nat) : Orc := orcOf (E := E) [f109_i_copyNumbers.w] [] n
theorem f174_i_take.ok : ∀ n v x, f174_i_take.F n v = some x → evalFn E n 174 (flAs f174_i_take.P (sg_lf.pk v)) = some (f174_i_take.A.enc x) :=
  fn_pure (modes := (fdAt 174).ms) (outs := (fdAt 174).os) (results := (fdAt 174).rs) f174_i_take.O (c := c174) (keep := keepAt 174) (by kernel_rfl) (fun n => orcOf_cf _ _ n) (fun n => lpOk_of (bs := []) (by kernel_rfl) .nil) (fun _ => rfl) (fun _ _ => by kernel_rfl)
noncomputable def f174_i_take.w : FnW E := fnW 174 f174_i_take.P sg_lf f174_i_take.A f174_i_take.F f174_i_take.ok

def f133_i_Delaystep : Nat → Int → Nat → Nat → Nat → Bool → Nat → List T → Nat → Option (Nat × Nat × List T)
  | 0, _, _, _, _, _, _, _, _ => none
  | n + 1, i1, x2, x3, x4, b5, n6, l7, x8 =>
    gd ((decide (((0 : Int) ≤ (0 : Int)) ∧ ((0 : Int) < ((n6 : Nat) : Int)))) && (okAt [(CK.flt FloatKind.f32)] l7 0)) (
    let x9 : Nat := (fAt l7 0)
    bd (f175_i_flushed n (fadd FloatKind.f32 x8 (fmul FloatKind.f32 x2 x9)) b5) fun r10 =>
    let x11 : Nat := r10
    bd (f174_i_take n n6 l7 x11) fun r12 =>
    let n13 : Nat := r12.1
    let l14 : List T := r12.2
    some ((fadd FloatKind.f32 (fmul FloatKind.f32 x3 x8) (fmul FloatKind.f32 x4 x9)), n13, l14))
def sg_ifffblf : Sig (Int × Nat × Nat × Nat × Bool × Nat × List T × Nat) where
  pk := fun v => [.int v.1, .flt v.2.1, .flt v.2.2.1, .flt v.2.2.2.1, .bool v.2.2.2.2.1, .lst v.2.2.2.2.2.1 v.2.2.2.2.2.2.1, .flt v.2.2.2.2.2.2.2]
  up := fun ls => match ls with
    | [.int a0, .flt a1, .flt a2, .flt a3, .bool a4, .lst a5 a6, .flt a7] => some (a0, a1, a2, a3, a4, a5, a6, a7)
    | _ => none
  ok := by
    intro ls v h
    split at h
    · cases h; rfl
    · cases h

def sg_fl : Sig (Nat × Nat × List T) where
  pk := fun v => [.flt v.1, .lst v.2.1 v.2.2]
  up := fun ls => match ls with
    | [.flt a0, .lst a1 a2] => some (a0, a1, a2)
    | _ => none
  ok := by
    intro ls v h
    split at h
    · cases h; rfl
    · cases h

def f133_i_Delaystep.P : List Arg := [⟨.val, ⟨true, [.leaf, .leaf, .leaf, .leaf, .leaf], [.int .i64 0, .flt .f32 0, .flt .f32 0, .flt .f32 0, .bool false]⟩⟩, ⟨.val, ⟨false, [.sl .shr [.leaf]], [.lst 0 []]⟩⟩, ⟨.val, ⟨false, [.leaf], [.flt .f32 0]⟩⟩]
def f133_i_Delaystep.A : RAlt (Nat × Nat × List T) := .one ⟨[⟨false, [.leaf], [.flt .f32 0]⟩, ⟨false, [.sl .own [.leaf]], [.lst 0 []]⟩], [none, none, none]⟩ sg_fl
def f133_i_Delaystep.F (n : Nat) (v : Int × Nat × Nat × Nat × Bool × Nat × List T × Nat) := f133_i_Delaystep n v.1 v.2.1 v.2.2.1 v.2.2.2.1 v.2.2.2.2.1 v.2.2.2.2.2.1 v.2.2.2.2.2.2.1 v.2.2.2.2.2.2.2
noncomputable def f133_i_Delaystep.O (n : Nat) : Orc := orcOf (E := E) [f175_i_flushed.w, f174_i_take.w] [] n
theorem f133_i_Delaystep.ok : ∀ n v x, f133_i_Delaystep.F n v = some x → evalFn E n 133 (flAs f133_i_Delaystep.P (sg_ifffblf.pk v)) = some (f133_i_Delaystep.A.enc x) :=
  fn_pure (modes := (fdAt 133).ms) (outs := (fdAt 133).os) (results := (fdAt 133).rs) f133_i_Delaystep.O (c := c133) (keep := keepAt 133) (by kernel_rfl) (fun n => orcOf_cf _ _ n) (fun n => lpOk_of (bs := []) (by kernel_rfl) .nil) (fun _ => rfl) (fun _ _ => by kernel_rfl)
noncomputable def f133_i_Delaystep.w : FnW E := fnW 133 f133_i_Delaystep.P sg_ifffblf f133_i_Delaystep.A f133_i_Delaystep.F f133_i_Delaystep.ok

def f156_i_Roomrun.l2 (n : Nat) : Nat → Nat → List T → Nat → List T → Nat → List T → Nat → Nat → Nat → List T → Nat → List T → Nat → Nat → List T → Nat → List T → Int → Int → Nat → List T → Int → Int → Option (Nat × List T × Nat × List T × Nat × List T × Nat × Nat × Nat × List T × Nat × List T × Nat × Nat × List T × Nat × List T × Int × Int)
  | 0, _, _, _, _, _, _, _, _, _, _, _, _, _, _, _, _, _, _, _, _, _, _, _ => none
  | m + 1, n1, l2, n3, l4, n5, l6, x7, x8, n9, l10, n11, l12, x13, n14, l15, n16, l17, i18, i19, n20, l21, i22, i23 =>
    br (decide (i23 < i22)) (
     gd ((decide (((0 : Int) ≤ i23) ∧ (i23 < ((n20 : Nat) : Int)))) && (okAt [(CK.int IntKind.i64), (CK.flt FloatKind.f32), (CK.flt FloatKind.f32), (CK.flt FloatKind.f32), CK.bool] l21 (((Int.toNat i23) * 5) + 0))) (
     let i24 : Int := (iAt l21 (((Int.toNat i23) * 5) + 0))
     let x25 : Nat := (fAt l21 ((((Int.toNat i23) * 5) + 0) + 1))
     let x26 : Nat := (fAt l21 (((((Int.toNat i23) * 5) + 0) + 1) + 1))
     let x27 : Nat := (fAt l21 ((((((Int.toNat i23) * 5) + 0) + 1) + 1) + 1))
     let b28 : Bool := (bAt l21 (((((((Int.toNat i23) * 5) + 0) + 1) + 1) + 1) + 1))
     gd (decide (((0 : Int) ≤ i23) ∧ (i23 < ((n9 : Nat) : Int)))) (
     gd (okAt [CK.lst] l10 (Int.toNat i23)) (
     gd ((okAt [CK.lst] l10 (Int.toNat i23)) && true) (
     bd (f133_i_Delaystep n i24 x25 x26 x27 b28 (nAt l10 (Int.toNat i23)) (lAt l10 (Int.toNat i23)) x13) fun r29 =>
     let x30 : Nat := r29.1
     let n31 : Nat := r29.2.1
     let l32 : List T := r29.2.2
     gd (decide (((0 : Int) ≤ i23) ∧ (i23 < ((n9 : Nat) : Int)))) (
     gd (Nat.ble ((Int.toNat i23) + 1) (List.length l10)) (
     let l33 : List T := (setN l10 (Int.toNat i23) [(T.lst n31 l32)])
     gd (Nat.ble (n14 + 1) 2147483648) (
     let n34 : Nat := (n14 + 1)
     let l35 : List T := (l15 ++ (setN (reps 1 [(T.flt FloatKind.f32 0)]) 0 [(T.flt FloatKind.f32 x30)]))
     f156_i_Roomrun.l2 n m n1 l2 n3 l4 n5 l6 x7 x8 n9 l33 n11 l12 x13 n34 l35 n16 l17 i18 i19 n20 l21 i22 (IntKind.i64.wrap (i23 + (1 : Int))))))))))) (
     some (n1, l2, n3, l4, n5, l6, x7, x8, n9, l10, n11, l12, x13, n14, l15, n16, l17, i18, i19))
termination_by structural x => x
def f104_i_sumOf.l0 (n : Nat) : Nat → Nat → List T → Nat → Nat → List T → Int → Int → Option (Nat)
  | 0, _, _, _, _, _, _, _ => none
  | m + 1, n1, l2, x3, n4, l5, i6, i7 =>
    br (decide (i7 < i6)) (
     gd ((decide (((0 : Int) ≤ i7) ∧ (i7 < ((n4 : Nat) : Int)))) && (okAt [(CK.flt FloatKind.f32)] l5 (Int.toNat i7))) (
     let x8 : Nat := (fAt l5 (Int.toNat i7))
     let x9 : Nat := (fadd FloatKind.f32 x3 x8)
     f104_i_sumOf.l0 n m n1 l2 x9 n4 l5 i6 (IntKind.i64.wrap (i7 + (1 : Int))))) (
     some x3)
def f104_i_sumOf : Nat → Nat → List T → Option (Nat)
  | 0, _, _ => none
  | n + 1, n1, l2 =>
    bd (f104_i_sumOf.l0 n n n1 l2 0 n1 l2 ((n1 : Nat) : Int) (0 : Int)) fun r3 =>
    let x4 : Nat := r3
    some x4
def sg_lflii : Sig (Nat × List T × Nat × Nat × List T × Int × Int) where
  pk := fun v => [.lst v.1 v.2.1, .flt v.2.2.1, .lst v.2.2.2.1 v.2.2.2.2.1, .int v.2.2.2.2.2.1, .int v.2.2.2.2.2.2]
  up := fun ls => match ls with
    | [.lst a0 a1, .flt a2, .lst a3 a4, .int a5, .int a6] => some (a0, a1, a2, a3, a4, a5, a6)
    | _ => none
  ok := by
    intro ls v h
    split at h
    · cases h; rfl
    · cases h

def f104_i_sumOf.l0.P : AS := ⟨[(0, .val false [.sl .shr [.leaf]] [.lst 0 []] [] 0), (3, .val false [.leaf] [.flt .f32 0] [] 0), (6, .val false [.sl .shr [.leaf]] [.lst 0 []] [] 0), (7, .val false [.leaf] [.int .i64 0] [] 0), (8, .val false [.leaf] [.int .i64 0] [] 0)], 0⟩
def f104_i_sumOf.l0.A : Alt (Nat) := .one (.exit 0) ⟨[(3, .val false [.leaf] [.flt .f32 0] [] 0)], 0⟩ sg_f
def f104_i_sumOf.l0.F (n m : Nat) (v : Nat × List T × Nat × Nat × List T × Int × Int) := f104_i_sumOf.l0 n m v.1 v.2.1 v.2.2.1 v.2.2.2.1 v.2.2.2.2.1 v.2.2.2.2.2.1 v.2.2.2.2.2.2
def f104_i_sumOf.l0.W (n : Nat) : LpW := .of 48 f104_i_sumOf.l0.P sg_lflii f104_i_sumOf.l0.A (f104_i_sumOf.l0.F n n)
def f104_i_sumOf.P : List Arg := [⟨.val, ⟨false, [.sl .shr [.leaf]], [.lst 0 []]⟩⟩]
def f104_i_sumOf.A : RAlt (Nat) := .one ⟨[⟨false, [.leaf], [.flt .f32 0]⟩], [none]⟩ sg_f
def f104_i_sumOf.F (n : Nat) (v : Nat × List T) := f104_i_sumOf n v.1 v.2
noncomputable def f104_i_sumOf.O (n : Nat) : Orc := orcOf (E := E) [] [f104_i_sumOf.l0.W n] n
theorem f104_i_sumOf.l0.ok (n : Nat) : LpOk (f104_i_sumOf.O n) E (evalFn E n) n (keepAt 104) (.loop (loopAt c104 0)) :=
  lp_pure f104_i_sumOf.l0.P sg_lflii f104_i_sumOf.l0.A (f104_i_sumOf.l0.F n) (orcOf_cf _ _ n) (lpOk_of (bs := []) (by kernel_rfl) .nil) (fun _ => rfl) (fun _ _ => by kernel_rfl) (fun _ _ _ => by kernel_rfl)
theorem f104_i_sumOf.ok : ∀ n v x, f104_i_sumOf.F n v = some x → evalFn E n 104 (flAs f104_i_sumOf.P (sg_l.pk v)) = some (f104_i_sumOf.A.enc x) :=
  fn_pure (modes := (fdAt 104).ms) (outs := (fdAt 104).os) (results := (fdAt 104).rs) f104_i_sumOf.O (c := c104) (keep := keepAt 104) (by kernel_rfl) (fun n => orcOf_cf _ _ n) (fun n => lpOk_of (bs := [loopAt c104 0]) (by kernel_rfl) (.cons (f104_i_sumOf.l0.ok n) .nil)) (fun _ => rfl) (fun _ _ => by kernel_rfl)
noncomputable def f104_i_sumOf.w : FnW E := fnW 104 f104_i_sumOf.P sg_l f104_i_sumOf.A f104_i_sumOf.F f104_i_sumOf.ok

def f135_i_Passstep : Nat → Int → Nat → Nat → List T → Nat → Option (Nat × Nat × List T)
  | 0, _, _, _, _, _ => none
  | n + 1, i1, x2, n3, l4, x5 =>
    gd ((decide (((0 : Int) ≤ (0 : Int)) ∧ ((0 : Int) < ((n3 : Nat) : Int)))) && (okAt [(CK.flt FloatKind.f32)] l4 0)) (
    let x6 : Nat := (fAt l4 0)
    let x7 : Nat := (fadd FloatKind.f32 x5 (fmul FloatKind.f32 x2 x6))
    bd (f174_i_take n n3 l4 x7) fun r8 =>
    let n9 : Nat := r8.1
    let l10 : List T := r8.2
    some ((fsub FloatKind.f32 x6 (fmul FloatKind.f32 x2 x7)), n9, l10))
def sg_iflf : Sig (Int × Nat × Nat × List T × Nat) where
  pk := fun v => [.int v.1, .flt v.2.1, .lst v.2.2.1 v.2.2.2.1, .flt v.2.2.2.2]
  up := fun ls => match ls with
    | [.int a0, .flt a1, .lst a2 a3, .flt a4] => some (a0, a1, a2, a3, a4)
    | _ => none
  ok := by
    intro ls v h
    split at h
    · cases h; rfl
    · cases h

def f135_i_Passstep.P : List Arg := [⟨.val, ⟨true, [.leaf, .leaf], [.int .i64 0, .flt .f32 0]⟩⟩, ⟨.val, ⟨false, [.sl .shr [.leaf]], [.lst 0 []]⟩⟩, ⟨.val, ⟨false, [.leaf], [.flt .f32 0]⟩⟩]
def f135_i_Passstep.A : RAlt (Nat × Nat × List T) := .one ⟨[⟨false, [.leaf], [.flt .f32 0]⟩, ⟨false, [.sl .own [.leaf]], [.lst 0 []]⟩], [none, none, none]⟩ sg_fl
def f135_i_Passstep.F (n : Nat) (v : Int × Nat × Nat × List T × Nat) := f135_i_Passstep n v.1 v.2.1 v.2.2.1 v.2.2.2.1 v.2.2.2.2
noncomputable def f135_i_Passstep.O (n : Nat) : Orc := orcOf (E := E) [f174_i_take.w] [] n
theorem f135_i_Passstep.ok : ∀ n v x, f135_i_Passstep.F n v = some x → evalFn E n 135 (flAs f135_i_Passstep.P (sg_iflf.pk v)) = some (f135_i_Passstep.A.enc x) :=
  fn_pure (modes := (fdAt 135).ms) (outs := (fdAt 135).os) (results := (fdAt 135).rs) f135_i_Passstep.O (c := c135) (keep := keepAt 135) (by kernel_rfl) (fun n => orcOf_cf _ _ n) (fun n => lpOk_of (bs := []) (by kernel_rfl) .nil) (fun _ => rfl) (fun _ _ => by kernel_rfl)
noncomputable def f135_i_Passstep.w : FnW E := fnW 135 f135_i_Passstep.P sg_iflf f135_i_Passstep.A f135_i_Passstep.F f135_i_Passstep.ok

def f156_i_Roomrun.l3 (n : Nat) : Nat → Nat → List T → Nat → List T → Nat → List T → Nat → Nat → Nat → List T → Nat → List T → Nat → Nat → Nat → List T → Int → Int → Nat → List T → Int → Int → Option (Nat × List T × Nat × List T × Nat × List T × Nat × Nat × Nat × List T × Nat × List T × Nat × Nat × Nat × List T × Int × Int)
  | 0, _, _, _, _, _, _, _, _, _, _, _, _, _, _, _, _, _, _, _, _, _, _ => none
  | m + 1, n1, l2, n3, l4, n5, l6, x7, x8, n9, l10, n11, l12, x13, x14, n15, l16, i17, i18, n19, l20, i21, i22 =>
    br (decide (i22 < i21)) (
     gd ((decide (((0 : Int) ≤ i22) ∧ (i22 < ((n19 : Nat) : Int)))) && (okAt [(CK.int IntKind.i64), (CK.flt FloatKind.f32)] l20 (((Int.toNat i22) * 2) + 0))) (
     let i23 : Int := (iAt l20 (((Int.toNat i22) * 2) + 0))
     let x24 : Nat := (fAt l20 ((((Int.toNat i22) * 2) + 0) + 1))
     let i25 : Int := (IntKind.i64.wrap (((n3 : Nat) : Int) + i22))
     gd (decide (((0 : Int) ≤ i25) ∧ (i25 < ((n9 : Nat) : Int)))) (
     gd (okAt [CK.lst] l10 (Int.toNat i25)) (
     gd ((okAt [CK.lst] l10 (Int.toNat i25)) && true) (
     bd (f135_i_Passstep n i23 x24 (nAt l10 (Int.toNat i25)) (lAt l10 (Int.toNat i25)) x14) fun r26 =>
     let x27 : Nat := r26.1
     let n28 : Nat := r26.2.1
     let l29 : List T := r26.2.2
     gd (decide (((0 : Int) ≤ i25) ∧ (i25 < ((n9 : Nat) : Int)))) (
     gd (Nat.ble ((Int.toNat i25) + 1) (List.length l10)) (
     let l30 : List T := (setN l10 (Int.toNat i25) [(T.lst n28 l29)])
     f156_i_Roomrun.l3 n m n1 l2 n3 l4 n5 l6 x7 x8 n9 l30 n11 l12 x13 x27 n15 l16 i17 i18 n19 l20 i21 (IntKind.i64.wrap (i22 + (1 : Int)))))))))) (
     some (n1, l2, n3, l4, n5, l6, x7, x8, n9, l10, n11, l12, x13, x14, n15, l16, i17, i18))
termination_by structural x => x
def f156_i_Roomrun.l1 (n : Nat) : Nat → Nat → List T → Nat → List T → Nat → List T → Nat → Nat → Nat → List T → Nat → List T → Nat → List T → Int → Int → Option (Nat × List T × Nat × List T)
  | 0, _, _, _, _, _, _, _, _, _, _, _, _, _, _, _, _ => none
  | m + 1, n1, l2, n3, l4, n5, l6, x7, x8, n9, l10, n11, l12, n13, l14, i15, i16 =>
    br (decide (i16 < i15)) (
     gd ((decide (((0 : Int) ≤ i16) ∧ (i16 < ((n13 : Nat) : Int)))) && (okAt [(CK.flt FloatKind.f32)] l14 (Int.toNat i16))) (
     let x17 : Nat := (fAt l14 (Int.toNat i16))
     bd (f156_i_Roomrun.l2 n n n1 l2 n3 l4 n5 l6 x7 x8 n9 l10 n11 l12 x17 0 [] n13 l14 i15 i16 n3 l4 ((n3 : Nat) : Int) (0 : Int)) fun r18 =>
     let n19 : Nat := r18.1
     let l20 : List T := r18.2.1
     let n21 : Nat := r18.2.2.1
     let l22 : List T := r18.2.2.2.1
     let n23 : Nat := r18.2.2.2.2.1
     let l24 : List T := r18.2.2.2.2.2.1
     let x25 : Nat := r18.2.2.2.2.2.2.1
     let x26 : Nat := r18.2.2.2.2.2.2.2.1
     let n27 : Nat := r18.2.2.2.2.2.2.2.2.1
     let l28 : List T := r18.2.2.2.2.2.2.2.2.2.1
     let n29 : Nat := r18.2.2.2.2.2.2.2.2.2.2.1
     let l30 : List T := r18.2.2.2.2.2.2.2.2.2.2.2.1
     let x31 : Nat := r18.2.2.2.2.2.2.2.2.2.2.2.2.1
     let n32 : Nat := r18.2.2.2.2.2.2.2.2.2.2.2.2.2.1
     let l33 : List T := r18.2.2.2.2.2.2.2.2.2.2.2.2.2.2.1
     let n34 : Nat := r18.2.2.2.2.2.2.2.2.2.2.2.2.2.2.2.1
     let l35 : List T := r18.2.2.2.2.2.2.2.2.2.2.2.2.2.2.2.2.1
     let i36 : Int := r18.2.2.2.2.2.2.2.2.2.2.2.2.2.2.2.2.2.1
     let i37 : Int := r18.2.2.2.2.2.2.2.2.2.2.2.2.2.2.2.2.2.2
     bd (f104_i_sumOf n n32 l33) fun r38 =>
     let x39 : Nat := r38
     bd (f156_i_Roomrun.l3 n n n19 l20 n21 l22 n23 l24 x25 x26 n27 l28 n29 l30 x31 x39 n34 l35 i36 i37 n23 l24 ((n23 : Nat) : Int) (0 : Int)) fun r40 =>
     let n41 : Nat := r40.1
     let l42 : List T := r40.2.1
     let n43 : Nat := r40.2.2.1
     let l44 : List T := r40.2.2.2.1
     let n45 : Nat := r40.2.2.2.2.1
     let l46 : List T := r40.2.2.2.2.2.1
     let x47 : Nat := r40.2.2.2.2.2.2.1
     let x48 : Nat := r40.2.2.2.2.2.2.2.1
     let n49 : Nat := r40.2.2.2.2.2.2.2.2.1
     let l50 : List T := r40.2.2.2.2.2.2.2.2.2.1
     let n51 : Nat := r40.2.2.2.2.2.2.2.2.2.2.1
     let l52 : List T := r40.2.2.2.2.2.2.2.2.2.2.2.1
     let x53 : Nat := r40.2.2.2.2.2.2.2.2.2.2.2.2.1
     let x54 : Nat := r40.2.2.2.2.2.2.2.2.2.2.2.2.2.1
     let n55 : Nat := r40.2.2.2.2.2.2.2.2.2.2.2.2.2.2.1
     let l56 : List T := r40.2.2.2.2.2.2.2.2.2.2.2.2.2.2.2.1
     let i57 : Int := r40.2.2.2.2.2.2.2.2.2.2.2.2.2.2.2.2.1
     let i58 : Int := r40.2.2.2.2.2.2.2.2.2.2.2.2.2.2.2.2.2
     gd (Nat.ble (n51 + 1) 2147483648) (
     let n59 : Nat := (n51 + 1)
     let l60 : List T := (l52 ++ (setN (reps 1 [(T.flt FloatKind.f32 0)]) 0 [(T.flt FloatKind.f32 (fadd FloatKind.f32 (fmul FloatKind.f32 x47 x53) (fmul FloatKind.f32 x48 x54)))]))
     f156_i_Roomrun.l1 n m n41 l42 n43 l44 n45 l46 x47 x48 n49 l50 n59 l60 n55 l56 i57 (IntKind.i64.wrap (i58 + (1 : Int)))))) (
     some (n9, l10, n11, l12))
termination_by structural x => x
def f156_i_Roomrun : Nat → Nat → List T → Nat → List T → Nat → Nat → Nat → List T → Nat → List T → Option (Nat × List T × Nat × List T)
  | 0, _, _, _, _, _, _, _, _, _, _ => none
  | n + 1, n1, l2, n3, l4, x5, x6, n7, l8, n9, l10 =>
    bd (f156_i_Roomrun.l0 n n n7 l8 n9 l10 n1 l2 n3 l4 x5 x6 0 [] n7 l8 ((n7 : Nat) : Int) (0 : Int)) fun r11 =>
    let n12 : Nat := r11.1
    let l13 : List T := r11.2.1
    let n14 : Nat := r11.2.2.1
    let l15 : List T := r11.2.2.2.1
    let n16 : Nat := r11.2.2.2.2.1
    let l17 : List T := r11.2.2.2.2.2.1
    let x18 : Nat := r11.2.2.2.2.2.2.1
    let x19 : Nat := r11.2.2.2.2.2.2.2.1
    let n20 : Nat := r11.2.2.2.2.2.2.2.2.1
    let l21 : List T := r11.2.2.2.2.2.2.2.2.2
    bd (f156_i_Roomrun.l1 n n n12 l13 n14 l15 n16 l17 x18 x19 n20 l21 0 [] n12 l13 ((n12 : Nat) : Int) (0 : Int)) fun r22 =>
    let n23 : Nat := r22.1
    let l24 : List T := r22.2.1
    let n25 : Nat := r22.2.2.1
    let l26 : List T := r22.2.2.2
    some (n25, l26, n23, l24)
def sg_llffll : Sig (Nat × List T × Nat × List T × Nat × Nat × Nat × List T × Nat × List T) where
  pk := fun v => [.lst v.1 v.2.1, .lst v.2.2.1 v.2.2.2.1, .flt v.2.2.2.2.1, .flt v.2.2.2.2.2.1, .lst v.2.2.2.2.2.2.1 v.2.2.2.2.2.2.2.1, .lst v.2.2.2.2.2.2.2.2.1 v.2.2.2.2.2.2.2.2.2]
  up := fun ls => match ls with
    | [.lst a0 a1, .lst a2 a3, .flt a4, .flt a5, .lst a6 a7, .lst a8 a9] => some (a0, a1, a2, a3, a4, a5, a6, a7, a8, a9)
    | _ => none
  ok := by
    intro ls v h
    split at h
    · cases h; rfl
    · cases h

def sg_llllffllii : Sig (Nat × List T × Nat × List T × Nat × List T × Nat × List T × Nat × Nat × Nat × List T × Nat × List T × Int × Int) where
  pk := fun v => [.lst v.1 v.2.1, .lst v.2.2.1 v.2.2.2.1, .lst v.2.2.2.2.1 v.2.2.2.2.2.1, .lst v.2.2.2.2.2.2.1 v.2.2.2.2.2.2.2.1, .flt v.2.2.2.2.2.2.2.2.1, .flt v.2.2.2.2.2.2.2.2.2.1, .lst v.2.2.2.2.2.2.2.2.2.2.1 v.2.2.2.2.2.2.2.2.2.2.2.1, .lst v.2.2.2.2.2.2.2.2.2.2.2.2.1 v.2.2.2.2.2.2.2.2.2.2.2.2.2.1, .int v.2.2.2.2.2.2.2.2.2.2.2.2.2.2.1, .int v.2.2.2.2.2.2.2.2.2.2.2.2.2.2.2]
  up := fun ls => match ls with
    | [.lst a0 a1, .lst a2 a3, .lst a4 a5, .lst a6 a7, .flt a8, .flt a9, .lst a10 a11, .lst a12 a13, .int a14, .int a15] => some (a0, a1, a2, a3, a4, a5, a6, a7, a8, a9, a10, a11, a12, a13, a14, a15)
    | _ => none
  ok := by
    intro ls v h
    split at h
    · cases h; rfl
    · cases h

def sg_lllffl : Sig (Nat × List T × Nat × List T × Nat × List T × Nat × Nat × Nat × List T) where
  pk := fun v => [.lst v.1 v.2.1, .lst v.2.2.1 v.2.2.2.1, .lst v.2.2.2.2.1 v.2.2.2.2.2.1, .flt v.2.2.2.2.2.2.1, .flt v.2.2.2.2.2.2.2.1, .lst v.2.2.2.2.2.2.2.2.1 v.2.2.2.2.2.2.2.2.2]
  up := fun ls => match ls with
    | [.lst a0 a1, .lst a2 a3, .lst a4 a5, .flt a6, .flt a7, .lst a8 a9] => some (a0, a1, a2, a3, a4, a5, a6, a7, a8, a9)
    | _ => none
  ok := by
    intro ls v h
    split at h
    · cases h; rfl
    · cases h

def sg_lllffllflliilii : Sig (Nat × List T × Nat × List T × Nat × List T × Nat × Nat × Nat × List T × Nat × List T × Nat × Nat × List T × Nat × List T × Int × Int × Nat × List T × Int × Int) where
  pk := fun v => [.lst v.1 v.2.1, .lst v.2.2.1 v.2.2.2.1, .lst v.2.2.2.2.1 v.2.2.2.2.2.1, .flt v.2.2.2.2.2.2.1, .flt v.2.2.2.2.2.2.2.1, .lst v.2.2.2.2.2.2.2.2.1 v.2.2.2.2.2.2.2.2.2.1, .lst v.2.2.2.2.2.2.2.2.2.2.1 v.2.2.2.2.2.2.2.2.2.2.2.1, .flt v.2.2.2.2.2.2.2.2.2.2.2.2.1, .lst v.2.2.2.2.2.2.2.2.2.2.2.2.2.1 v.2.2.2.2.2.2.2.2.2.2.2.2.2.2.1, .lst v.2.2.2.2.2.2.2.2.2.2.2.2.2.2.2.1 v.2.2.2.2.2.2.2.2.2.2.2.2.2.2.2.2.1, .int v.2.2.2.2.2.2.2.2.2.2.2.2.2.2.2.2.2.1, .int v.2.2.2.2.2.2.2.2.2.2.2.2.2.2.2.2.2.2.1, .lst v.2.2.2.2.2.2.2.2.2.2.2.2.2.2.2.2.2.2.2.1 v.2.2.2.2.2.2.2.2.2.2.2.2.2.2.2.2.2.2.2.2.1, .int v.2.2.2.2.2.2.2.2.2.2.2.2.2.2.2.2.2.2.2.2.2.1, .int v.2.2.2.2.2.2.2.2.2.2.2.2.2.2.2.2.2.2.2.2.2.2]
  up := fun ls => match ls with
    | [.lst a0 a1, .lst a2 a3, .lst a4 a5, .flt a6, .flt a7, .lst a8 a9, .lst a10 a11, .flt a12, .lst a13 a14, .lst a15 a16, .int a17, .int a18, .lst a19 a20, .int a21, .int a22] => some (a0, a1, a2, a3, a4, a5, a6, a7, a8, a9, a10, a11, a12, a13, a14, a15, a16, a17, a18, a19, a20, a21, a22)
    | _ => none
  ok := by
    intro ls v h
    split at h
    · cases h; rfl
    · cases h

def sg_lllffllfllii : Sig (Nat × List T × Nat × List T × Nat × List T × Nat × Nat × Nat × List T × Nat × List T × Nat × Nat × List T × Nat × List T × Int × Int) where
  pk := fun v => [.lst v.1 v.2.1, .lst v.2.2.1 v.2.2.2.1, .lst v.2.2.2.2.1 v.2.2.2.2.2.1, .flt v.2.2.2.2.2.2.1, .flt v.2.2.2.2.2.2.2.1, .lst v.2.2.2.2.2.2.2.2.1 v.2.2.2.2.2.2.2.2.2.1, .lst v.2.2.2.2.2.2.2.2.2.2.1 v.2.2.2.2.2.2.2.2.2.2.2.1, .flt v.2.2.2.2.2.2.2.2.2.2.2.2.1, .lst v.2.2.2.2.2.2.2.2.2.2.2.2.2.1 v.2.2.2.2.2.2.2.2.2.2.2.2.2.2.1, .lst v.2.2.2.2.2.2.2.2.2.2.2.2.2.2.2.1 v.2.2.2.2.2.2.2.2.2.2.2.2.2.2.2.2.1, .int v.2.2.2.2.2.2.2.2.2.2.2.2.2.2.2.2.2.1, .int v.2.2.2.2.2.2.2.2.2.2.2.2.2.2.2.2.2.2]
  up := fun ls => match ls with
    | [.lst a0 a1, .lst a2 a3, .lst a4 a5, .flt a6, .flt a7, .lst a8 a9, .lst a10 a11, .flt a12, .lst a13 a14, .lst a15 a16, .int a17, .int a18] => some (a0, a1, a2, a3, a4, a5, a6, a7, a8, a9, a10, a11, a12, a13, a14, a15, a16, a17, a18)
    | _ => none
  ok := by
    intro ls v h
    split at h
    · cases h; rfl
    · cases h

def sg_lllffllffliilii : Sig (Nat × List T × Nat × List T × Nat × List T × Nat × Nat × Nat × List T × Nat × List T × Nat × Nat × Nat × List T × Int × Int × Nat × List T × Int × Int) where
  pk := fun v => [.lst v.1 v.2.1, .lst v.2.2.1 v.2.2.2.1, .lst v.2.2.2.2.1 v.2.2.2.2.2.1, .flt v.2.2.2.2.2.2.1, .flt v.2.2.2.2.2.2.2.1, .lst v.2.2.2.2.2.2.2.2.1 v.2.2.2.2.2.2.2.2.2.1, .lst v.2.2.2.2.2.2.2.2.2.2.1 v.2.2.2.2.2.2.2.2.2.2.2.1, .flt v.2.2.2.2.2.2.2.2.2.2.2.2.1, .flt v.2.2.2.2.2.2.2.2.2.2.2.2.2.1, .lst v.2.2.2.2.2.2.2.2.2.2.2.2.2.2.1 v.2.2.2.2.2.2.2.2.2.2.2.2.2.2.2.1, .int v.2.2.2.2.2.2.2.2.2.2.2.2.2.2.2.2.1, .int v.2.2.2.2.2.2.2.2.2.2.2.2.2.2.2.2.2.1, .lst v.2.2.2.2.2.2.2.2.2.2.2.2.2.2.2.2.2.2.1 v.2.2.2.2.2.2.2.2.2.2.2.2.2.2.2.2.2.2.2.1, .int v.2.2.2.2.2.2.2.2.2.2.2.2.2.2.2.2.2.2.2.2.1, .int v.2.2.2.2.2.2.2.2.2.2.2.2.2.2.2.2.2.2.2.2.2]
  up := fun ls => match ls with
    | [.lst a0 a1, .lst a2 a3, .lst a4 a5, .flt a6, .flt a7, .lst a8 a9, .lst a10 a11, .flt a12, .flt a13, .lst a14 a15, .int a16, .int a17, .lst a18 a19, .int a20, .int a21] => some (a0, a1, a2, a3, a4, a5, a6, a7, a8, a9, a10, a11, a12, a13, a14, a15, a16, a17, a18, a19, a20, a21)
    | _ => none
  ok := by
    intro ls v h
    split at h
    · cases h; rfl
    · cases h

def sg_lllffllfflii : Sig (Nat × List T × Nat × List T × Nat × List T × Nat × Nat × Nat × List T × Nat × List T × Nat × Nat × Nat × List T × Int × Int) where
  pk := fun v => [.lst v.1 v.2.1, .lst v.2.2.1 v.2.2.2.1, .lst v.2.2.2.2.1 v.2.2.2.2.2.1, .flt v.2.2.2.2.2.2.1, .flt v.2.2.2.2.2.2.2.1, .lst v.2.2.2.2.2.2.2.2.1 v.2.2.2.2.2.2.2.2.2.1, .lst v.2.2.2.2.2.2.2.2.2.2.1 v.2.2.2.2.2.2.2.2.2.2.2.1, .flt v.2.2.2.2.2.2.2.2.2.2.2.2.1, .flt v.2.2.2.2.2.2.2.2.2.2.2.2.2.1, .lst v.2.2.2.2.2.2.2.2.2.2.2.2.2.2.1 v.2.2.2.2.2.2.2.2.2.2.2.2.2.2.2.1, .int v.2.2.2.2.2.2.2.2.2.2.2.2.2.2.2.2.1, .int v.2.2.2.2.2.2.2.2.2.2.2.2.2.2.2.2.2]
  up := fun ls => match ls with
    | [.lst a0 a1, .lst a2 a3, .lst a4 a5, .flt a6, .flt a7, .lst a8 a9, .lst a10 a11, .flt a12, .flt a13, .lst a14 a15, .int a16, .int a17] => some (a0, a1, a2, a3, a4, a5, a6, a7, a8, a9, a10, a11, a12, a13, a14, a15, a16, a17)
    | _ => none
  ok := by
    intro ls v h
    split at h
    · cases h; rfl
    · cases h

def sg_lllfflllii : Sig (Nat × List T × Nat × List T × Nat × List T × Nat × Nat × Nat × List T × Nat × List T × Nat × List T × Int × Int) where
  pk := fun v => [.lst v.1 v.2.1, .lst v.2.2.1 v.2.2.2.1, .lst v.2.2.2.2.1 v.2.2.2.2.2.1, .flt v.2.2.2.2.2.2.1, .flt v.2.2.2.2.2.2.2.1, .lst v.2.2.2.2.2.2.2.2.1 v.2.2.2.2.2.2.2.2.2.1, .lst v.2.2.2.2.2.2.2.2.2.2.1 v.2.2.2.2.2.2.2.2.2.2.2.1, .lst v.2.2.2.2.2.2.2.2.2.2.2.2.1 v.2.2.2.2.2.2.2.2.2.2.2.2.2.1, .int v.2.2.2.2.2.2.2.2.2.2.2.2.2.2.1, .int v.2.2.2.2.2.2.2.2.2.2.2.2.2.2.2]
  up := fun ls => match ls with
    | [.lst a0 a1, .lst a2 a3, .lst a4 a5, .flt a6, .flt a7, .lst a8 a9, .lst a10 a11, .lst a12 a13, .int a14, .int a15] => some (a0, a1, a2, a3, a4, a5, a6, a7, a8, a9, a10, a11, a12, a13, a14, a15)
    | _ => none
  ok := by
    intro ls v h
    split at h
    · cases h; rfl
    · cases h

def f156_i_Roomrun.l0.P : AS := ⟨[(1, .val false [.sl .shr [.sl .shr [.leaf]]] [.lst 0 []] [] 0), (2, .val false [.sl .shr [.leaf]] [.lst 0 []] [] 0), (3, .box [.sl .shr [.leaf, .leaf, .leaf, .leaf, .leaf], .sl .shr [.leaf, .leaf], .leaf, .leaf] [.lst 0 [], .lst 0 [], .flt .f32 0, .flt .f32 0] [] 0), (8, .val false [.sl .own [.sl .own [.leaf]]] [.lst 0 []] [] 0), (23, .val false [.sl .shr [.sl .shr [.leaf]]] [.lst 0 []] [] 0), (24, .val false [.leaf] [.int .i64 0] [] 0), (25, .val false [.leaf] [.int .i64 0] [] 0)], 0⟩
def f156_i_Roomrun.l0.A : Alt (Nat × List T × Nat × List T × Nat × List T × Nat × Nat × Nat × List T) := .one (.exit 0) ⟨[(2, .val false [.sl .shr [.leaf]] [.lst 0 []] [] 0), (3, .box [.sl .shr [.leaf, .leaf, .leaf, .leaf, .leaf], .sl .shr [.leaf, .leaf], .leaf, .leaf] [.lst 0 [], .lst 0 [], .flt .f32 0, .flt .f32 0] [] 0), (8, .val false [.sl .own [.sl .own [.leaf]]] [.lst 0 []] [] 0), (67, .dead), (96, .dead), (109, .dead)], 0⟩ sg_lllffl
def f156_i_Roomrun.l0.F (n m : Nat) (v : Nat × List T × Nat × List T × Nat × List T × Nat × List T × Nat × Nat × Nat × List T × Nat × List T × Int × Int) := f156_i_Roomrun.l0 n m v.1 v.2.1 v.2.2.1 v.2.2.2.1 v.2.2.2.2.1 v.2.2.2.2.2.1 v.2.2.2.2.2.2.1 v.2.2.2.2.2.2.2.1 v.2.2.2.2.2.2.2.2.1 v.2.2.2.2.2.2.2.2.2.1 v.2.2.2.2.2.2.2.2.2.2.1 v.2.2.2.2.2.2.2.2.2.2.2.1 v.2.2.2.2.2.2.2.2.2.2.2.2.1 v.2.2.2.2.2.2.2.2.2.2.2.2.2.1 v.2.2.2.2.2.2.2.2.2.2.2.2.2.2.1 v.2.2.2.2.2.2.2.2.2.2.2.2.2.2.2
def f156_i_Roomrun.l0.W (n : Nat) : LpW := .of 48 f156_i_Roomrun.l0.P sg_llllffllii f156_i_Roomrun.l0.A (f156_i_Roomrun.l0.F n n)
def f156_i_Roomrun.l2.P : AS := ⟨[(2, .val false [.sl .shr [.leaf]] [.lst 0 []] [] 0), (3, .box [.sl .shr [.leaf, .leaf, .leaf, .leaf, .leaf], .sl .shr [.leaf, .leaf], .leaf, .leaf] [.lst 0 [], .lst 0 [], .flt .f32 0, .flt .f32 0] [] 0), (8, .val false [.sl .own [.sl .own [.leaf]]] [.lst 0 []] [] 0), (11, .val false [.sl .own [.leaf]] [.lst 0 []] [] 0), (13, .val false [.leaf] [.flt .f32 0] [] 0), (14, .val false [.sl .own [.leaf]] [.lst 0 []] [] 0), (35, .val false [.sl .shr [.leaf]] [.lst 0 []] [] 0), (36, .val false [.leaf] [.int .i64 0] [] 0), (37, .val false [.leaf] [.int .i64 0] [] 0), (42, .val false [.sl .shr [.leaf, .leaf, .leaf, .leaf, .leaf]] [.lst 0 []] [] 0), (43, .val false [.leaf] [.int .i64 0] [] 0), (44, .val false [.leaf] [.int .i64 0] [] 0)], 0⟩
def f156_i_Roomrun.l2.A : Alt (Nat × List T × Nat × List T × Nat × List T × Nat × Nat × Nat × List T × Nat × List T × Nat × Nat × List T × Nat × List T × Int × Int) := .one (.exit 4) ⟨[(2, .val false [.sl .shr [.leaf]] [.lst 0 []] [] 0), (3, .box [.sl .shr [.leaf, .leaf, .leaf, .leaf, .leaf], .sl .shr [.leaf, .leaf], .leaf, .leaf] [.lst 0 [], .lst 0 [], .flt .f32 0, .flt .f32 0] [] 0), (8, .val false [.sl .own [.sl .own [.leaf]]] [.lst 0 []] [] 0), (11, .val false [.sl .own [.leaf]] [.lst 0 []] [] 0), (13, .val false [.leaf] [.flt .f32 0] [] 0), (14, .val false [.sl .own [.leaf]] [.lst 0 []] [] 0), (35, .val false [.sl .shr [.leaf]] [.lst 0 []] [] 0), (36, .val false [.leaf] [.int .i64 0] [] 0), (37, .val false [.leaf] [.int .i64 0] [] 0), (67, .dead), (96, .dead), (109, .dead)], 0⟩ sg_lllffllfllii
def f156_i_Roomrun.l2.F (n m : Nat) (v : Nat × List T × Nat × List T × Nat × List T × Nat × Nat × Nat × List T × Nat × List T × Nat × Nat × List T × Nat × List T × Int × Int × Nat × List T × Int × Int) := f156_i_Roomrun.l2 n m v.1 v.2.1 v.2.2.1 v.2.2.2.1 v.2.2.2.2.1 v.2.2.2.2.2.1 v.2.2.2.2.2.2.1 v.2.2.2.2.2.2.2.1 v.2.2.2.2.2.2.2.2.1 v.2.2.2.2.2.2.2.2.2.1 v.2.2.2.2.2.2.2.2.2.2.1 v.2.2.2.2.2.2.2.2.2.2.2.1 v.2.2.2.2.2.2.2.2.2.2.2.2.1 v.2.2.2.2.2.2.2.2.2.2.2.2.2.1 v.2.2.2.2.2.2.2.2.2.2.2.2.2.2.1 v.2.2.2.2.2.2.2.2.2.2.2.2.2.2.2.1 v.2.2.2.2.2.2.2.2.2.2.2.2.2.2.2.2.1 v.2.2.2.2.2.2.2.2.2.2.2.2.2.2.2.2.2.1 v.2.2.2.2.2.2.2.2.2.2.2.2.2.2.2.2.2.2.1 v.2.2.2.2.2.2.2.2.2.2.2.2.2.2.2.2.2.2.2.1 v.2.2.2.2.2.2.2.2.2.2.2.2.2.2.2.2.2.2.2.2.1 v.2.2.2.2.2.2.2.2.2.2.2.2.2.2.2.2.2.2.2.2.2.1 v.2.2.2.2.2.2.2.2.2.2.2.2.2.2.2.2.2.2.2.2.2.2
def f156_i_Roomrun.l2.W (n : Nat) : LpW := .of 208 f156_i_Roomrun.l2.P sg_lllffllflliilii f156_i_Roomrun.l2.A (f156_i_Roomrun.l2.F n n)
def f156_i_Roomrun.l3.P : AS := ⟨[(2, .val false [.sl .shr [.leaf]] [.lst 0 []] [] 0), (3, .box [.sl .shr [.leaf, .leaf, .leaf, .leaf, .leaf], .sl .shr [.leaf, .leaf], .leaf, .leaf] [.lst 0 [], .lst 0 [], .flt .f32 0, .flt .f32 0] [] 0), (8, .val false [.sl .own [.sl .own [.leaf]]] [.lst 0 []] [] 0), (11, .val false [.sl .own [.leaf]] [.lst 0 []] [] 0), (13, .val false [.leaf] [.flt .f32 0] [] 0), (19, .val false [.leaf] [.flt .f32 0] [] 0), (35, .val false [.sl .shr [.leaf]] [.lst 0 []] [] 0), (36, .val false [.leaf] [.int .i64 0] [] 0), (37, .val false [.leaf] [.int .i64 0] [] 0), (71, .val false [.sl .shr [.leaf, .leaf]] [.lst 0 []] [] 0), (72, .val false [.leaf] [.int .i64 0] [] 0), (73, .val false [.leaf] [.int .i64 0] [] 0)], 0⟩
def f156_i_Roomrun.l3.A : Alt (Nat × List T × Nat × List T × Nat × List T × Nat × Nat × Nat × List T × Nat × List T × Nat × Nat × Nat × List T × Int × Int) := .one (.exit 6) ⟨[(2, .val false [.sl .shr [.leaf]] [.lst 0 []] [] 0), (3, .box [.sl .shr [.leaf, .leaf, .leaf, .leaf, .leaf], .sl .shr [.leaf, .leaf], .leaf, .leaf] [.lst 0 [], .lst 0 [], .flt .f32 0, .flt .f32 0] [] 0), (8, .val false [.sl .own [.sl .own [.leaf]]] [.lst 0 []] [] 0), (11, .val false [.sl .own [.leaf]] [.lst 0 []] [] 0), (13, .val false [.leaf] [.flt .f32 0] [] 0), (19, .val false [.leaf] [.flt .f32 0] [] 0), (35, .val false [.sl .shr [.leaf]] [.lst 0 []] [] 0), (36, .val false [.leaf] [.int .i64 0] [] 0), (37, .val false [.leaf] [.int .i64 0] [] 0), (67, .dead), (96, .dead), (109, .dead)], 0⟩ sg_lllffllfflii
def f156_i_Roomrun.l3.F (n m : Nat) (v : Nat × List T × Nat × List T × Nat × List T × Nat × Nat × Nat × List T × Nat × List T × Nat × Nat × Nat × List T × Int × Int × Nat × List T × Int × Int) := f156_i_Roomrun.l3 n m v.1 v.2.1 v.2.2.1 v.2.2.2.1 v.2.2.2.2.1 v.2.2.2.2.2.1 v.2.2.2.2.2.2.1 v.2.2.2.2.2.2.2.1 v.2.2.2.2.2.2.2.2.1 v.2.2.2.2.2.2.2.2.2.1 v.2.2.2.2.2.2.2.2.2.2.1 v.2.2.2.2.2.2.2.2.2.2.2.1 v.2.2.2.2.2.2.2.2.2.2.2.2.1 v.2.2.2.2.2.2.2.2.2.2.2.2.2.1 v.2.2.2.2.2.2.2.2.2.2.2.2.2.2.1 v.2.2.2.2.2.2.2.2.2.2.2.2.2.2.2.1 v.2.2.2.2.2.2.2.2.2.2.2.2.2.2.2.2.1 v.2.2.2.2.2.2.2.2.2.2.2.2.2.2.2.2.2.1 v.2.2.2.2.2.2.2.2.2.2.2.2.2.2.2.2.2.2.1 v.2.2.2.2.2.2.2.2.2.2.2.2.2.2.2.2.2.2.2.1 v.2.2.2.2.2.2.2.2.2.2.2.2.2.2.2.2.2.2.2.2.1 v.2.2.2.2.2.2.2.2.2.2.2.2.2.2.2.2.2.2.2.2.2
def f156_i_Roomrun.l3.W (n : Nat) : LpW := .of 336 f156_i_Roomrun.l3.P sg_lllffllffliilii f156_i_Roomrun.l3.A (f156_i_Roomrun.l3.F n n)
def f156_i_Roomrun.l1.P : AS := ⟨[(2, .val false [.sl .shr [.leaf]] [.lst 0 []] [] 0), (3, .box [.sl .shr [.leaf, .leaf, .leaf, .leaf, .leaf], .sl .shr [.leaf, .leaf], .leaf, .leaf] [.lst 0 [], .lst 0 [], .flt .f32 0, .flt .f32 0] [] 0), (8, .val false [.sl .own [.sl .own [.leaf]]] [.lst 0 []] [] 0), (11, .val false [.sl .own [.leaf]] [.lst 0 []] [] 0), (35, .val false [.sl .shr [.leaf]] [.lst 0 []] [] 0), (36, .val false [.leaf] [.int .i64 0] [] 0), (37, .val false [.leaf] [.int .i64 0] [] 0)], 0⟩
def f156_i_Roomrun.l1.A : Alt (Nat × List T × Nat × List T) := .one (.exit 2) ⟨[(8, .val false [.sl .own [.sl .own [.leaf]]] [.lst 0 []] [] 0), (11, .val false [.sl .own [.leaf]] [.lst 0 []] [] 0)], 0⟩ sg_ll
def f156_i_Roomrun.l1.F (n m : Nat) (v : Nat × List T × Nat × List T × Nat × List T × Nat × Nat × Nat × List T × Nat × List T × Nat × List T × Int × Int) := f156_i_Roomrun.l1 n m v.1 v.2.1 v.2.2.1 v.2.2.2.1 v.2.2.2.2.1 v.2.2.2.2.2.1 v.2.2.2.2.2.2.1 v.2.2.2.2.2.2.2.1 v.2.2.2.2.2.2.2.2.1 v.2.2.2.2.2.2.2.2.2.1 v.2.2.2.2.2.2.2.2.2.2.1 v.2.2.2.2.2.2.2.2.2.2.2.1 v.2.2.2.2.2.2.2.2.2.2.2.2.1 v.2.2.2.2.2.2.2.2.2.2.2.2.2.1 v.2.2.2.2.2.2.2.2.2.2.2.2.2.2.1 v.2.2.2.2.2.2.2.2.2.2.2.2.2.2.2
def f156_i_Roomrun.l1.W (n : Nat) : LpW := .of 144 f156_i_Roomrun.l1.P sg_lllfflllii f156_i_Roomrun.l1.A (f156_i_Roomrun.l1.F n n)
def f156_i_Roomrun.P : List Arg := [⟨.val, ⟨true, [.sl .shr [.leaf, .leaf, .leaf, .leaf, .leaf], .sl .shr [.leaf, .leaf], .leaf, .leaf], [.lst 0 [], .lst 0 [], .flt .f32 0, .flt .f32 0]⟩⟩, ⟨.val, ⟨false, [.sl .shr [.sl .shr [.leaf]]], [.lst 0 []]⟩⟩, ⟨.val, ⟨false, [.sl .shr [.leaf]], [.lst 0 []]⟩⟩]
def f156_i_Roomrun.A : RAlt (Nat × List T × Nat × List T) := .one ⟨[⟨false, [.sl .own [.leaf]], [.lst 0 []]⟩, ⟨false, [.sl .own [.sl .own [.leaf]]], [.lst 0 []]⟩], [none, none, none]⟩ sg_ll
def f156_i_Roomrun.F (n : Nat) (v : Nat × List T × Nat × List T × Nat × Nat × Nat × List T × Nat × List T) := f156_i_Roomrun n v.1 v.2.1 v.2.2.1 v.2.2.2.1 v.2.2.2.2.1 v.2.2.2.2.2.1 v.2.2.2.2.2.2.1 v.2.2.2.2.2.2.2.1 v.2.2.2.2.2.2.2.2.1 v.2.2.2.2.2.2.2.2.2
noncomputable def f156_i_Roomrun.O (n : Nat) : Orc := orcOf (E := E) [f109_i_copyNumbers.w, f133_i_Delaystep.w, f104_i_sumOf.w, f135_i_Passstep.w] [f156_i_Roomrun.l0.W n, f156_i_Roomrun.l2.W n, f156_i_Roomrun.l3.W n, f156_i_Roomrun.l1.W n] n
theorem f156_i_Roomrun.l0.ok (n : Nat) : LpOk (f156_i_Roomrun.O n) E (evalFn E n) n (keepAt 156) (.loop (loopAt c156 0)) :=
  lp_pure f156_i_Roomrun.l0.P sg_llllffllii f156_i_Roomrun.l0.A (f156_i_Roomrun.l0.F n) (orcOf_cf _ _ n) (lpOk_of (bs := []) (by kernel_rfl) .nil) (fun _ => rfl) (fun _ _ => by kernel_rfl) (fun _ _ _ => by kernel_rfl)
theorem f156_i_Roomrun.l2.ok (n : Nat) : LpOk (f156_i_Roomrun.O n) E (evalFn E n) n (keepAt 156) (.loop (loopAt c156 2)) :=
  lp_pure f156_i_Roomrun.l2.P sg_lllffllflliilii f156_i_Roomrun.l2.A (f156_i_Roomrun.l2.F n) (orcOf_cf _ _ n) (lpOk_of (bs := []) (by kernel_rfl) .nil) (fun _ => rfl) (fun _ _ => by kernel_rfl) (fun _ _ _ => by kernel_rfl)
theorem f156_i_Roomrun.l3.ok (n : Nat) : LpOk (f156_i_Roomrun.O n) E (evalFn E n) n (keepAt 156) (.loop (loopAt c156 3)) :=
  lp_pure f156_i_Roomrun.l3.P sg_lllffllffliilii f156_i_Roomrun.l3.A (f156_i_Roomrun.l3.F n) (orcOf_cf _ _ n) (lpOk_of (bs := []) (by kernel_rfl) .nil) (fun _ => rfl) (fun _ _ => by kernel_rfl) (fun _ _ _ => by kernel_rfl)
theorem f156_i_Roomrun.l1.ok (n : Nat) : LpOk (f156_i_Roomrun.O n) E (evalFn E n) n (keepAt 156) (.loop (loopAt c156 1)) :=
  lp_pure f156_i_Roomrun.l1.P sg_lllfflllii f156_i_Roomrun.l1.A (f156_i_Roomrun.l1.F n) (orcOf_cf _ _ n) (lpOk_of (bs := [loopAt c156 2, loopAt c156 3]) (by kernel_rfl) (.cons (f156_i_Roomrun.l2.ok n) (.cons (f156_i_Roomrun.l3.ok n) .nil))) (fun _ => rfl) (fun _ _ => by kernel_rfl) (fun _ _ _ => by kernel_rfl)
theorem f156_i_Roomrun.ok : ∀ n v x, f156_i_Roomrun.F n v = some x → evalFn E n 156 (flAs f156_i_Roomrun.P (sg_llffll.pk v)) = some (f156_i_Roomrun.A.enc x) :=
  fn_pure (modes := (fdAt 156).ms) (outs := (fdAt 156).os) (results := (fdAt 156).rs) f156_i_Roomrun.O (c := c156) (keep := keepAt 156) (by kernel_rfl) (fun n => orcOf_cf _ _ n) (fun n => lpOk_of (bs := [loopAt c156 0, loopAt c156 1]) (by kernel_rfl) (.cons (f156_i_Roomrun.l0.ok n) (.cons (f156_i_Roomrun.l1.ok n) .nil))) (fun _ => rfl) (fun _ _ => by kernel_rfl)
noncomputable def f156_i_Roomrun.w : FnW E := fnW 156 f156_i_Roomrun.P sg_llffll f156_i_Roomrun.A f156_i_Roomrun.F f156_i_Roomrun.ok

def f79_i_RunRoom : Nat → Nat → List T → Nat → List T → Nat → Nat → Nat → List T → Nat → List T → Option (Nat × List T × Nat × List T × Bool)
  | 0, _, _, _, _, _, _, _, _, _, _ => none
  | n + 1, n1, l2, n3, l4, x5, x6, n7, l8, n9, l10 =>
    bd (f80_i_ValidRoom n n1 l2 n3 l4 x5 x6) fun r11 =>
    let b12 : Bool := r11
    br (!b12) (
     some (0, [], 0, [], false)) (
     bd (f92_i_areSamples n n9 l10) fun r13 =>
     let b14 : Bool := r13
     br (!b14) (
      some (0, [], 0, [], false)) (
      bd (f155_i_RoomareLines n n1 l2 n3 l4 x5 x6 n7 l8) fun r15 =>
      let b16 : Bool := r15
      br (!b16) (
       some (0, [], 0, [], false)) (
       bd (f156_i_Roomrun n n1 l2 n3 l4 x5 x6 n7 l8 n9 l10) fun r17 =>
       let n18 : Nat := r17.1
       let l19 : List T := r17.2.1
       let n20 : Nat := r17.2.2.1
       let l21 : List T := r17.2.2.2
       some (n18, l19, n20, l21, true))))
def sg_llb : Sig (Nat × List T × Nat × List T × Bool) where
  pk := fun v => [.lst v.1 v.2.1, .lst v.2.2.1 v.2.2.2.1, .bool v.2.2.2.2]
  up := fun ls => match ls with
    | [.lst a0 a1, .lst a2 a3, .bool a4] => some (a0, a1, a2, a3, a4)
    | _ => none
  ok := by
    intro ls v h
    split at h
    · cases h; rfl
    · cases h

def f79_i_RunRoom.P : List Arg := [⟨.val, ⟨true, [.sl .shr [.leaf, .leaf, .leaf, .leaf, .leaf], .sl .shr [.leaf, .leaf], .leaf, .leaf], [.lst 0 [], .lst 0 [], .flt .f32 0, .flt .f32 0]⟩⟩, ⟨.val, ⟨false, [.sl .shr [.sl .shr [.leaf]]], [.lst 0 []]⟩⟩, ⟨.val, ⟨false, [.sl .shr [.leaf]], [.lst 0 []]⟩⟩]
def f79_i_RunRoom.A : RAlt (Nat × List T × Nat × List T × Bool) := .one ⟨[⟨false, [.sl .own [.leaf]], [.lst 0 []]⟩, ⟨false, [.sl .own [.sl .own [.leaf]]], [.lst 0 []]⟩, ⟨false, [.leaf], [.bool false]⟩], [none, none, none]⟩ sg_llb
def f79_i_RunRoom.F (n : Nat) (v : Nat × List T × Nat × List T × Nat × Nat × Nat × List T × Nat × List T) := f79_i_RunRoom n v.1 v.2.1 v.2.2.1 v.2.2.2.1 v.2.2.2.2.1 v.2.2.2.2.2.1 v.2.2.2.2.2.2.1 v.2.2.2.2.2.2.2.1 v.2.2.2.2.2.2.2.2.1 v.2.2.2.2.2.2.2.2.2
noncomputable def f79_i_RunRoom.O (n : Nat) : Orc := orcOf (E := E) [f80_i_ValidRoom.w, f92_i_areSamples.w, f155_i_RoomareLines.w, f156_i_Roomrun.w] [] n
theorem f79_i_RunRoom.ok : ∀ n v x, f79_i_RunRoom.F n v = some x → evalFn E n 79 (flAs f79_i_RunRoom.P (sg_llffll.pk v)) = some (f79_i_RunRoom.A.enc x) :=
  fn_pure (modes := (fdAt 79).ms) (outs := (fdAt 79).os) (results := (fdAt 79).rs) f79_i_RunRoom.O (c := c79) (keep := keepAt 79) (by kernel_rfl) (fun n => orcOf_cf _ _ n) (fun n => lpOk_of (bs := []) (by kernel_rfl) .nil) (fun _ => rfl) (fun _ _ => by kernel_rfl)
noncomputable def f79_i_RunRoom.w : FnW E := fnW 79 f79_i_RunRoom.P sg_llffll f79_i_RunRoom.A f79_i_RunRoom.F f79_i_RunRoom.ok

def f165_s_l01Bits : Nat → Nat → Option (Int)
  | 0, _ => none
  | n + 1, x1 =>
    br (fne FloatKind.f32 x1 x1) (
     some (2143289344 : Int)) (
     bd (xF32bits n x1) fun r2 =>
     let i3 : Int := r2
     some (IntKind.i64.wrap i3))
def f165_s_l01Bits.P : List Arg := [⟨.val, ⟨false, [.leaf], [.flt .f32 0]⟩⟩]
def f165_s_l01Bits.A : RAlt (Int) := .one ⟨[⟨false, [.leaf], [.int .i64 0]⟩], [none]⟩ sg_i
def f165_s_l01Bits.F (n : Nat) (v : Nat) := f165_s_l01Bits n v
noncomputable def f165_s_l01Bits.O (n : Nat) : Orc := orcOf (E := E) [x96.w] [] n
theorem f165_s_l01Bits.ok : ∀ n v x, f165_s_l01Bits.F n v = some x → evalFn E n 165 (flAs f165_s_l01Bits.P (sg_f.pk v)) = some (f165_s_l01Bits.A.enc x) :=
  fn_pure (modes := (fdAt 165).ms) (outs := (fdAt 165).os) (results := (fdAt 165).rs) f165_s_l01Bits.O (c := c165) (keep := keepAt 165) (by kernel_rfl) (fun n => orcOf_cf _ _ n) (fun n => lpOk_of (bs := []) (by kernel_rfl) .nil) (fun _ => rfl) (fun _ _ => by kernel_rfl)
noncomputable def f165_s_l01Bits.w : FnW E := fnW 165 f165_s_l01Bits.P sg_f f165_s_l01Bits.A f165_s_l01Bits.F f165_s_l01Bits.ok

def f106_s_l01Same : Nat → Nat → Nat → Option (Bool)
  | 0, _, _ => none
  | n + 1, x1, x2 =>
    bd (f165_s_l01Bits n x1) fun r3 =>
    let i4 : Int := r3
    bd (f165_s_l01Bits n x2) fun r5 =>
    let i6 : Int := r5
    some (i4 == i6)
def sg_ff : Sig (Nat × Nat) where
  pk := fun v => [.flt v.1, .flt v.2]
  up := fun ls => match ls with
    | [.flt a0, .flt a1] => some (a0, a1)
    | _ => none
  ok := by
    intro ls v h
    split at h
    · cases h; rfl
    · cases h

def f106_s_l01Same.P : List Arg := [⟨.val, ⟨false, [.leaf], [.flt .f32 0]⟩⟩, ⟨.val, ⟨false, [.leaf], [.flt .f32 0]⟩⟩]
def f106_s_l01Same.A : RAlt (Bool) := .one ⟨[⟨false, [.leaf], [.bool false]⟩], [none, none]⟩ sg_b
def f106_s_l01Same.F (n : Nat) (v : Nat × Nat) := f106_s_l01Same n v.1 v.2
noncomputable def f106_s_l01Same.O (n : Nat) : Orc := orcOf (E := E) [f165_s_l01Bits.w] [] n
theorem f106_s_l01Same.ok : ∀ n v x, f106_s_l01Same.F n v = some x → evalFn E n 106 (flAs f106_s_l01Same.P (sg_ff.pk v)) = some (f106_s_l01Same.A.enc x) :=
  fn_pure (modes := (fdAt 106).ms) (outs := (fdAt 106).os) (results := (fdAt 106).rs) f106_s_l01Same.O (c := c106) (keep := keepAt 106) (by kernel_rfl) (fun n => orcOf_cf _ _ n) (fun n => lpOk_of (bs := []) (by kernel_rfl) .nil) (fun _ => rfl) (fun _ _ => by kernel_rfl)
noncomputable def f106_s_l01Same.w : FnW E := fnW 106 f106_s_l01Same.P sg_ff f106_s_l01Same.A f106_s_l01Same.F f106_s_l01Same.ok

def f33_s_SameNumber : Nat → Nat → Nat → Option (Bool)
  | 0, _, _ => none
  | n + 1, x1, x2 =>
    bd (f106_s_l01Same n x1 x2) fun r3 =>
    let b4 : Bool := r3
    some b4
def f33_s_SameNumber.P : List Arg := [⟨.val, ⟨false, [.leaf], [.flt .f32 0]⟩⟩, ⟨.val, ⟨false, [.leaf], [.flt .f32 0]⟩⟩]
def f33_s_SameNumber.A : RAlt (Bool) := .one ⟨[⟨false, [.leaf], [.bool false]⟩], [none, none]⟩ sg_b
def f33_s_SameNumber.F (n : Nat) (v : Nat × Nat) := f33_s_SameNumber n v.1 v.2
noncomputable def f33_s_SameNumber.O (n : Nat) : Orc := orcOf (E := E) [f106_s_l01Same.w] [] n
theorem f33_s_SameNumber.ok : ∀ n v x, f33_s_SameNumber.F n v = some x → evalFn E n 33 (flAs f33_s_SameNumber.P (sg_ff.pk v)) = some (f33_s_SameNumber.A.enc x) :=
  fn_pure (modes := (fdAt 33).ms) (outs := (fdAt 33).os) (results := (fdAt 33).rs) f33_s_SameNumber.O (c := c33) (keep := keepAt 33) (by kernel_rfl) (fun n => orcOf_cf _ _ n) (fun n => lpOk_of (bs := []) (by kernel_rfl) .nil) (fun _ => rfl) (fun _ _ => by kernel_rfl)
noncomputable def f33_s_SameNumber.w : FnW E := fnW 33 f33_s_SameNumber.P sg_ff f33_s_SameNumber.A f33_s_SameNumber.F f33_s_SameNumber.ok

def f44_l_b10Same.l0 (n : Nat) : Nat → Nat → List T → Nat → List T → Int → Option ((Bool) ⊕ (Unit))
  | 0, _, _, _, _, _ => none
  | m + 1, n1, l2, n3, l4, i5 =>
    br (decide (i5 < ((n1 : Nat) : Int))) (
     gd ((decide (((0 : Int) ≤ i5) ∧ (i5 < ((n1 : Nat) : Int)))) && (okAt [(CK.flt FloatKind.f32)] l2 (Int.toNat i5))) (
     gd ((decide (((0 : Int) ≤ i5) ∧ (i5 < ((n3 : Nat) : Int)))) && (okAt [(CK.flt FloatKind.f32)] l4 (Int.toNat i5))) (
     bd (f33_s_SameNumber n (fAt l2 (Int.toNat i5)) (fAt l4 (Int.toNat i5))) fun r6 =>
     let b7 : Bool := r6
     br (!b7) (
      some (Sum.inl false)) (
      f44_l_b10Same.l0 n m n1 l2 n3 l4 (IntKind.i64.wrap (i5 + (1 : Int))))))) (
     some (Sum.inr ()))
def f44_l_b10Same : Nat → Nat → List T → Nat → List T → Option (Bool)
  | 0, _, _, _, _ => none
  | n + 1, n1, l2, n3, l4 =>
    br (((n1 : Nat) : Int) != ((n3 : Nat) : Int)) (
     some false) (
     bd (f44_l_b10Same.l0 n n n1 l2 n3 l4 (0 : Int)) fun r5 =>
     sm r5 (fun u6 =>
      let b7 : Bool := u6
      some b7) (fun u8 =>
      some true))
def sg_lli : Sig (Nat × List T × Nat × List T × Int) where
  pk := fun v => [.lst v.1 v.2.1, .lst v.2.2.1 v.2.2.2.1, .int v.2.2.2.2]
  up := fun ls => match ls with
    | [.lst a0 a1, .lst a2 a3, .int a4] => some (a0, a1, a2, a3, a4)
    | _ => none
  ok := by
    intro ls v h
    split at h
    · cases h; rfl
    · cases h

def f44_l_b10Same.l0.P : AS := ⟨[(0, .val false [.sl .shr [.leaf]] [.lst 0 []] [] 0), (1, .val false [.sl .shr [.leaf]] [.lst 0 []] [] 0), (5, .val false [.leaf] [.int .i64 0] [] 0)], 0⟩
def f44_l_b10Same.l0.A : Alt ((Bool) ⊕ (Unit)) := .or (.one .ret ⟨[(4, .val false [.leaf] [.bool false] [] 0)], 0⟩ sg_b) (.one (.exit 0) ⟨[(4, .dead)], 0⟩ sg)
def f44_l_b10Same.l0.F (n m : Nat) (v : Nat × List T × Nat × List T × Int) := f44_l_b10Same.l0 n m v.1 v.2.1 v.2.2.1 v.2.2.2.1 v.2.2.2.2
def f44_l_b10Same.l0.W (n : Nat) : LpW := .of 64 f44_l_b10Same.l0.P sg_lli f44_l_b10Same.l0.A (f44_l_b10Same.l0.F n n)
def f44_l_b10Same.P : List Arg := [⟨.val, ⟨false, [.sl .shr [.leaf]], [.lst 0 []]⟩⟩, ⟨.val, ⟨false, [.sl .shr [.leaf]], [.lst 0 []]⟩⟩]
def f44_l_b10Same.A : RAlt (Bool) := .one ⟨[⟨false, [.leaf], [.bool false]⟩], [none, none]⟩ sg_b
def f44_l_b10Same.F (n : Nat) (v : Nat × List T × Nat × List T) := f44_l_b10Same n v.1 v.2.1 v.2.2.1 v.2.2.2
noncomputable def f44_l_b10Same.O (n : Nat) : Orc := orcOf (E := E) [f33_s_SameNumber.w] [f44_l_b10Same.l0.W n] n
theorem f44_l_b10Same.l0.ok (n : Nat) : LpOk (f44_l_b10Same.O n) E (evalFn E n) n (keepAt 44) (.loop (loopAt c44 0)) :=
  lp_pure f44_l_b10Same.l0.P sg_lli f44_l_b10Same.l0.A (f44_l_b10Same.l0.F n) (orcOf_cf _ _ n) (lpOk_of (bs := []) (by kernel_rfl) .nil) (fun _ => rfl) (fun _ _ => by kernel_rfl) (fun _ _ _ => by kernel_rfl)
theorem f44_l_b10Same.ok : ∀ n v x, f44_l_b10Same.F n v = some x → evalFn E n 44 (flAs f44_l_b10Same.P (sg_ll.pk v)) = some (f44_l_b10Same.A.enc x) :=
  fn_pure (modes := (fdAt 44).ms) (outs := (fdAt 44).os) (results := (fdAt 44).rs) f44_l_b10Same.O (c := c44) (keep := keepAt 44) (by kernel_rfl) (fun n => orcOf_cf _ _ n) (fun n => lpOk_of (bs := [loopAt c44 0]) (by kernel_rfl) (.cons (f44_l_b10Same.l0.ok n) .nil)) (fun _ => rfl) (fun _ _ => by kernel_rfl)
noncomputable def f44_l_b10Same.w : FnW E := fnW 44 f44_l_b10Same.P sg_ll f44_l_b10Same.A f44_l_b10Same.F f44_l_b10Same.ok

def f13_l_FnRooms.l0 (n : Nat) : Nat → Nat → List T → Nat → List T → Nat → Nat → Int → Nat → List T → Nat → List T → Nat → List T → Nat → List T → Int → Int → Option ((Bool) ⊕ (Nat × List T × Nat × List T × Nat × Nat × Int × Nat × List T × Nat × List T))
  | 0, _, _, _, _, _, _, _, _, _, _, _, _, _, _, _, _, _ => none
  | m + 1, n1, l2, n3, l4, x5, x6, i7, n8, l9, n10, l11, n12, l13, n14, l15, i16, i17 =>
    br (decide (i17 < i16)) (
     gd (decide (((0 : Int) ≤ i17) ∧ (i17 < ((n12 : Nat) : Int)))) (
     gd (okAt [CK.lst] l13 (Int.toNat i17)) (
     gd (decide (((0 : Int) ≤ i17) ∧ (i17 < ((n14 : Nat) : Int)))) (
     gd (okAt [CK.lst] l15 (Int.toNat i17)) (
     gd ((okAt [CK.lst] l13 (Int.toNat i17)) && ((okAt [CK.lst] l15 (Int.toNat i17)) && true)) (
     bd (f44_l_b10Same n (nAt l13 (Int.toNat i17)) (lAt l13 (Int.toNat i17)) (nAt l15 (Int.toNat i17)) (lAt l15 (Int.toNat i17))) fun r18 =>
     let b19 : Bool := r18
     br (!b19) (
      some (Sum.inl false)) (
      f13_l_FnRooms.l0 n m n1 l2 n3 l4 x5 x6 i7 n8 l9 n10 l11 n12 l13 n14 l15 i16 (IntKind.i64.wrap (i17 + (1 : Int)))))))))) (
     some (Sum.inr (n1, l2, n3, l4, x5, x6, i7, n8, l9, n10, l11)))
termination_by structural x => x
def f122_i_impulse : Nat → Int → Option (Nat × List T)
  | 0, _ => none
  | n + 1, i1 =>
    bd (f108_i_zeros n i1) fun r2 =>
    let n3 : Nat := r2.1
    let l4 : List T := r2.2
    br (decide (i1 > (0 : Int))) (
     gd (decide (((0 : Int) ≤ (0 : Int)) ∧ ((0 : Int) < ((n3 : Nat) : Int)))) (
     gd (Nat.ble 1 (List.length l4)) (
     let l5 : List T := (setN l4 0 [(T.flt FloatKind.f32 1065353216)])
     some (n3, l5)))) (
     some (n3, l4))
def f122_i_impulse.P : List Arg := [⟨.val, ⟨false, [.leaf], [.int .i64 0]⟩⟩]
def f122_i_impulse.A : RAlt (Nat × List T) := .one ⟨[⟨false, [.sl .own [.leaf]], [.lst 0 []]⟩], [none]⟩ sg_l
def f122_i_impulse.F (n : Nat) (v : Int) := f122_i_impulse n v
noncomputable def f122_i_impulse.O (n : Nat) : Orc := orcOf (E := E) [f108_i_zeros.w] [] n
theorem f122_i_impulse.ok : ∀ n v x, f122_i_impulse.F n v = some x → evalFn E n 122 (flAs f122_i_impulse.P (sg_i.pk v)) = some (f122_i_impulse.A.enc x) :=
  fn_pure (modes := (fdAt 122).ms) (outs := (fdAt 122).os) (results := (fdAt 122).rs) f122_i_impulse.O (c := c122) (keep := keepAt 122) (by kernel_rfl) (fun n => orcOf_cf _ _ n) (fun n => lpOk_of (bs := []) (by kernel_rfl) .nil) (fun _ => rfl) (fun _ _ => by kernel_rfl)
noncomputable def f122_i_impulse.w : FnW E := fnW 122 f122_i_impulse.P sg_i f122_i_impulse.A f122_i_impulse.F f122_i_impulse.ok

def f81_i_AnswerOf : Nat → Nat → List T → Nat → List T → Nat → Nat → Int → Option (Nat × List T × Bool)
  | 0, _, _, _, _, _, _, _ => none
  | n + 1, n1, l2, n3, l4, x5, x6, i7 =>
    bd (f80_i_ValidRoom n n1 l2 n3 l4 x5 x6) fun r8 =>
    let b9 : Bool := r8
    br (!b9) (
     some (0, [], false)) (
     bd (f93_i_within n i7 (1 : Int) (256 : Int)) fun r10 =>
     let b11 : Bool := r10
     br (!b11) (
      some (0, [], false)) (
      bd (f154_i_Roomempty n n1 l2 n3 l4 x5 x6) fun r12 =>
      let n13 : Nat := r12.1
      let l14 : List T := r12.2
      bd (f122_i_impulse n i7) fun r15 =>
      let n16 : Nat := r15.1
      let l17 : List T := r15.2
      bd (f156_i_Roomrun n n1 l2 n3 l4 x5 x6 n13 l14 n16 l17) fun r18 =>
      let n19 : Nat := r18.1
      let l20 : List T := r18.2.1
      let n21 : Nat := r18.2.2.1
      let l22 : List T := r18.2.2.2
      some (n19, l20, true)))
def f81_i_AnswerOf.P : List Arg := [⟨.val, ⟨true, [.sl .shr [.leaf, .leaf, .leaf, .leaf, .leaf], .sl .shr [.leaf, .leaf], .leaf, .leaf], [.lst 0 [], .lst 0 [], .flt .f32 0, .flt .f32 0]⟩⟩, ⟨.val, ⟨false, [.leaf], [.int .i64 0]⟩⟩]
def f81_i_AnswerOf.A : RAlt (Nat × List T × Bool) := .one ⟨[⟨false, [.sl .own [.leaf]], [.lst 0 []]⟩, ⟨false, [.leaf], [.bool false]⟩], [none, none]⟩ sg_lb
def f81_i_AnswerOf.F (n : Nat) (v : Nat × List T × Nat × List T × Nat × Nat × Int) := f81_i_AnswerOf n v.1 v.2.1 v.2.2.1 v.2.2.2.1 v.2.2.2.2.1 v.2.2.2.2.2.1 v.2.2.2.2.2.2
noncomputable def f81_i_AnswerOf.O (n : Nat) : Orc := orcOf (E := E) [f93_i_within.w, f80_i_ValidRoom.w, f154_i_Roomempty.w, f156_i_Roomrun.w, f122_i_impulse.w] [] n
theorem f81_i_AnswerOf.ok : ∀ n v x, f81_i_AnswerOf.F n v = some x → evalFn E n 81 (flAs f81_i_AnswerOf.P (sg_llffi.pk v)) = some (f81_i_AnswerOf.A.enc x) :=
  fn_pure (modes := (fdAt 81).ms) (outs := (fdAt 81).os) (results := (fdAt 81).rs) f81_i_AnswerOf.O (c := c81) (keep := keepAt 81) (by kernel_rfl) (fun n => orcOf_cf _ _ n) (fun n => lpOk_of (bs := []) (by kernel_rfl) .nil) (fun _ => rfl) (fun _ _ => by kernel_rfl)
noncomputable def f81_i_AnswerOf.w : FnW E := fnW 81 f81_i_AnswerOf.P sg_llffi f81_i_AnswerOf.A f81_i_AnswerOf.F f81_i_AnswerOf.ok

def f134_i_isLength : Nat → Int → Option (Bool)
  | 0, _ => none
  | n + 1, i1 =>
    bd (f93_i_within n i1 (1 : Int) (64 : Int)) fun r2 =>
    let b3 : Bool := r2
    some b3
def f134_i_isLength.P : List Arg := [⟨.val, ⟨false, [.leaf], [.int .i64 0]⟩⟩]
def f134_i_isLength.A : RAlt (Bool) := .one ⟨[⟨false, [.leaf], [.bool false]⟩], [none]⟩ sg_b
def f134_i_isLength.F (n : Nat) (v : Int) := f134_i_isLength n v
noncomputable def f134_i_isLength.O (n : Nat) : Orc := orcOf (E := E) [f93_i_within.w] [] n
theorem f134_i_isLength.ok : ∀ n v x, f134_i_isLength.F n v = some x → evalFn E n 134 (flAs f134_i_isLength.P (sg_i.pk v)) = some (f134_i_isLength.A.enc x) :=
  fn_pure (modes := (fdAt 134).ms) (outs := (fdAt 134).os) (results := (fdAt 134).rs) f134_i_isLength.O (c := c134) (keep := keepAt 134) (by kernel_rfl) (fun n => orcOf_cf _ _ n) (fun n => lpOk_of (bs := []) (by kernel_rfl) .nil) (fun _ => rfl) (fun _ _ => by kernel_rfl)
noncomputable def f134_i_isLength.w : FnW E := fnW 134 f134_i_isLength.P sg_i f134_i_isLength.A f134_i_isLength.F f134_i_isLength.ok

def f66_i_EmptyLine : Nat → Int → Option (Nat × List T × Bool)
  | 0, _ => none
  | n + 1, i1 =>
    bd (f134_i_isLength n i1) fun r2 =>
    let b3 : Bool := r2
    br (!b3) (
     some (0, [], false)) (
     bd (f108_i_zeros n i1) fun r4 =>
     let n5 : Nat := r4.1
     let l6 : List T := r4.2
     some (n5, l6, true))
def f66_i_EmptyLine.P : List Arg := [⟨.val, ⟨false, [.leaf], [.int .i64 0]⟩⟩]
def f66_i_EmptyLine.A : RAlt (Nat × List T × Bool) := .one ⟨[⟨false, [.sl .own [.leaf]], [.lst 0 []]⟩, ⟨false, [.leaf], [.bool false]⟩], [none]⟩ sg_lb
def f66_i_EmptyLine.F (n : Nat) (v : Int) := f66_i_EmptyLine n v
noncomputable def f66_i_EmptyLine.O (n : Nat) : Orc := orcOf (E := E) [f108_i_zeros.w, f134_i_isLength.w] [] n
theorem f66_i_EmptyLine.ok : ∀ n v x, f66_i_EmptyLine.F n v = some x → evalFn E n 66 (flAs f66_i_EmptyLine.P (sg_i.pk v)) = some (f66_i_EmptyLine.A.enc x) :=
  fn_pure (modes := (fdAt 66).ms) (outs := (fdAt 66).os) (results := (fdAt 66).rs) f66_i_EmptyLine.O (c := c66) (keep := keepAt 66) (by kernel_rfl) (fun n => orcOf_cf _ _ n) (fun n => lpOk_of (bs := []) (by kernel_rfl) .nil) (fun _ => rfl) (fun _ _ => by kernel_rfl)
noncomputable def f66_i_EmptyLine.w : FnW E := fnW 66 f66_i_EmptyLine.P sg_i f66_i_EmptyLine.A f66_i_EmptyLine.F f66_i_EmptyLine.ok

def f64_i_ValidDelay : Nat → Int → Nat → Nat → Nat → Bool → Option (Bool)
  | 0, _, _, _, _, _ => none
  | n + 1, i1, x2, x3, x4, b5 =>
    bd (f134_i_isLength n i1) fun r6 =>
    let b7 : Bool := r6
    some b7
def sg_ifffb : Sig (Int × Nat × Nat × Nat × Bool) where
  pk := fun v => [.int v.1, .flt v.2.1, .flt v.2.2.1, .flt v.2.2.2.1, .bool v.2.2.2.2]
  up := fun ls => match ls with
    | [.int a0, .flt a1, .flt a2, .flt a3, .bool a4] => some (a0, a1, a2, a3, a4)
    | _ => none
  ok := by
    intro ls v h
    split at h
    · cases h; rfl
    · cases h

def f64_i_ValidDelay.P : List Arg := [⟨.val, ⟨true, [.leaf, .leaf, .leaf, .leaf, .leaf], [.int .i64 0, .flt .f32 0, .flt .f32 0, .flt .f32 0, .bool false]⟩⟩]
def f64_i_ValidDelay.A : RAlt (Bool) := .one ⟨[⟨false, [.leaf], [.bool false]⟩], [none]⟩ sg_b
def f64_i_ValidDelay.F (n : Nat) (v : Int × Nat × Nat × Nat × Bool) := f64_i_ValidDelay n v.1 v.2.1 v.2.2.1 v.2.2.2.1 v.2.2.2.2
noncomputable def f64_i_ValidDelay.O (n : Nat) : Orc := orcOf (E := E) [f134_i_isLength.w] [] n
theorem f64_i_ValidDelay.ok : ∀ n v x, f64_i_ValidDelay.F n v = some x → evalFn E n 64 (flAs f64_i_ValidDelay.P (sg_ifffb.pk v)) = some (f64_i_ValidDelay.A.enc x) :=
  fn_pure (modes := (fdAt 64).ms) (outs := (fdAt 64).os) (results := (fdAt 64).rs) f64_i_ValidDelay.O (c := c64) (keep := keepAt 64) (by kernel_rfl) (fun n => orcOf_cf _ _ n) (fun n => lpOk_of (bs := []) (by kernel_rfl) .nil) (fun _ => rfl) (fun _ _ => by kernel_rfl)
noncomputable def f64_i_ValidDelay.w : FnW E := fnW 64 f64_i_ValidDelay.P sg_ifffb f64_i_ValidDelay.A f64_i_ValidDelay.F f64_i_ValidDelay.ok

def f63_i_RunDelay.l0 (n : Nat) : Nat → Nat → List T → Int → Nat → Nat → Nat → Bool → Nat → List T → Nat → List T → Nat → List T → Int → Int → Option (Nat × List T × Nat × List T)
  | 0, _, _, _, _, _, _, _, _, _, _, _, _, _, _, _ => none
  | m + 1, n1, l2, i3, x4, x5, x6, b7, n8, l9, n10, l11, n12, l13, i14, i15 =>
    br (decide (i15 < i14)) (
     gd ((decide (((0 : Int) ≤ i15) ∧ (i15 < ((n12 : Nat) : Int)))) && (okAt [(CK.flt FloatKind.f32)] l13 (Int.toNat i15))) (
     let x16 : Nat := (fAt l13 (Int.toNat i15))
     bd (f133_i_Delaystep n i3 x4 x5 x6 b7 n8 l9 x16) fun r17 =>
     let x18 : Nat := r17.1
     let n19 : Nat := r17.2.1
     let l20 : List T := r17.2.2
     gd (Nat.ble (n10 + 1) 2147483648) (
     let n21 : Nat := (n10 + 1)
     let l22 : List T := (l11 ++ (setN (reps 1 [(T.flt FloatKind.f32 0)]) 0 [(T.flt FloatKind.f32 x18)]))
     f63_i_RunDelay.l0 n m n1 l2 i3 x4 x5 x6 b7 n19 l20 n21 l22 n12 l13 i14 (IntKind.i64.wrap (i15 + (1 : Int)))))) (
     some (n8, l9, n10, l11))
termination_by structural x => x
def f63_i_RunDelay : Nat → Int → Nat → Nat → Nat → Bool → Nat → List T → Nat → List T → Option (Nat × List T × Nat × List T × Bool)
  | 0, _, _, _, _, _, _, _, _, _ => none
  | n + 1, i1, x2, x3, x4, b5, n6, l7, n8, l9 =>
    bd (f64_i_ValidDelay n i1 x2 x3 x4 b5) fun r10 =>
    let b11 : Bool := r10
    br (!b11) (
     some (0, [], 0, [], false)) (
     bd (f113_i_size n ((n6 : Nat) : Int)) fun r12 =>
     let i13 : Int := r12
     br (i13 != i1) (
      some (0, [], 0, [], false)) (
      bd (f92_i_areSamples n n8 l9) fun r14 =>
      let b15 : Bool := r14
      br (!b15) (
       some (0, [], 0, [], false)) (
       bd (f109_i_copyNumbers n n6 l7) fun r16 =>
       let n17 : Nat := r16.1
       let l18 : List T := r16.2
       bd (f63_i_RunDelay.l0 n n n8 l9 i1 x2 x3 x4 b5 n17 l18 0 [] n8 l9 ((n8 : Nat) : Int) (0 : Int)) fun r19 =>
       let n20 : Nat := r19.1
       let l21 : List T := r19.2.1
       let n22 : Nat := r19.2.2.1
       let l23 : List T := r19.2.2.2
       some (n22, l23, n20, l21, true))))
def sg_ifffbll : Sig (Int × Nat × Nat × Nat × Bool × Nat × List T × Nat × List T) where
  pk := fun v => [.int v.1, .flt v.2.1, .flt v.2.2.1, .flt v.2.2.2.1, .bool v.2.2.2.2.1, .lst v.2.2.2.2.2.1 v.2.2.2.2.2.2.1, .lst v.2.2.2.2.2.2.2.1 v.2.2.2.2.2.2.2.2]
  up := fun ls => match ls with
    | [.int a0, .flt a1, .flt a2, .flt a3, .bool a4, .lst a5 a6, .lst a7 a8] => some (a0, a1, a2, a3, a4, a5, a6, a7, a8)
    | _ => none
  ok := by
    intro ls v h
    split at h
    · cases h; rfl
    · cases h

def sg_lifffblllii : Sig (Nat × List T × Int × Nat × Nat × Nat × Bool × Nat × List T × Nat × List T × Nat × List T × Int × Int) where
  pk := fun v => [.lst v.1 v.2.1, .int v.2.2.1, .flt v.2.2.2.1, .flt v.2.2.2.2.1, .flt v.2.2.2.2.2.1, .bool v.2.2.2.2.2.2.1, .lst v.2.2.2.2.2.2.2.1 v.2.2.2.2.2.2.2.2.1, .lst v.2.2.2.2.2.2.2.2.2.1 v.2.2.2.2.2.2.2.2.2.2.1, .lst v.2.2.2.2.2.2.2.2.2.2.2.1 v.2.2.2.2.2.2.2.2.2.2.2.2.1, .int v.2.2.2.2.2.2.2.2.2.2.2.2.2.1, .int v.2.2.2.2.2.2.2.2.2.2.2.2.2.2]
  up := fun ls => match ls with
    | [.lst a0 a1, .int a2, .flt a3, .flt a4, .flt a5, .bool a6, .lst a7 a8, .lst a9 a10, .lst a11 a12, .int a13, .int a14] => some (a0, a1, a2, a3, a4, a5, a6, a7, a8, a9, a10, a11, a12, a13, a14)
    | _ => none
  ok := by
    intro ls v h
    split at h
    · cases h; rfl
    · cases h

def f63_i_RunDelay.l0.P : AS := ⟨[(2, .val false [.sl .shr [.leaf]] [.lst 0 []] [] 0), (3, .box [.leaf, .leaf, .leaf, .leaf, .leaf] [.int .i64 0, .flt .f32 0, .flt .f32 0, .flt .f32 0, .bool false] [] 0), (9, .val false [.sl .own [.leaf]] [.lst 0 []] [] 0), (10, .val false [.sl .own [.leaf]] [.lst 0 []] [] 0), (33, .val false [.sl .shr [.leaf]] [.lst 0 []] [] 0), (34, .val false [.leaf] [.int .i64 0] [] 0), (35, .val false [.leaf] [.int .i64 0] [] 0)], 0⟩
def f63_i_RunDelay.l0.A : Alt (Nat × List T × Nat × List T) := .one (.exit 0) ⟨[(9, .val false [.sl .own [.leaf]] [.lst 0 []] [] 0), (10, .val false [.sl .own [.leaf]] [.lst 0 []] [] 0)], 0⟩ sg_ll
def f63_i_RunDelay.l0.F (n m : Nat) (v : Nat × List T × Int × Nat × Nat × Nat × Bool × Nat × List T × Nat × List T × Nat × List T × Int × Int) := f63_i_RunDelay.l0 n m v.1 v.2.1 v.2.2.1 v.2.2.2.1 v.2.2.2.2.1 v.2.2.2.2.2.1 v.2.2.2.2.2.2.1 v.2.2.2.2.2.2.2.1 v.2.2.2.2.2.2.2.2.1 v.2.2.2.2.2.2.2.2.2.1 v.2.2.2.2.2.2.2.2.2.2.1 v.2.2.2.2.2.2.2.2.2.2.2.1 v.2.2.2.2.2.2.2.2.2.2.2.2.1 v.2.2.2.2.2.2.2.2.2.2.2.2.2.1 v.2.2.2.2.2.2.2.2.2.2.2.2.2.2
def f63_i_RunDelay.l0.W (n : Nat) : LpW := .of 96 f63_i_RunDelay.l0.P sg_lifffblllii f63_i_RunDelay.l0.A (f63_i_RunDelay.l0.F n n)
def f63_i_RunDelay.P : List Arg := [⟨.val, ⟨true, [.leaf, .leaf, .leaf, .leaf, .leaf], [.int .i64 0, .flt .f32 0, .flt .f32 0, .flt .f32 0, .bool false]⟩⟩, ⟨.val, ⟨false, [.sl .shr [.leaf]], [.lst 0 []]⟩⟩, ⟨.val, ⟨false, [.sl .shr [.leaf]], [.lst 0 []]⟩⟩]
def f63_i_RunDelay.A : RAlt (Nat × List T × Nat × List T × Bool) := .one ⟨[⟨false, [.sl .own [.leaf]], [.lst 0 []]⟩, ⟨false, [.sl .own [.leaf]], [.lst 0 []]⟩, ⟨false, [.leaf], [.bool false]⟩], [none, none, none]⟩ sg_llb
def f63_i_RunDelay.F (n : Nat) (v : Int × Nat × Nat × Nat × Bool × Nat × List T × Nat × List T) := f63_i_RunDelay n v.1 v.2.1 v.2.2.1 v.2.2.2.1 v.2.2.2.2.1 v.2.2.2.2.2.1 v.2.2.2.2.2.2.1 v.2.2.2.2.2.2.2.1 v.2.2.2.2.2.2.2.2
noncomputable def f63_i_RunDelay.O (n : Nat) : Orc := orcOf (E := E) [f113_i_size.w, f92_i_areSamples.w, f109_i_copyNumbers.w, f133_i_Delaystep.w, f64_i_ValidDelay.w] [f63_i_RunDelay.l0.W n] n
theorem f63_i_RunDelay.l0.ok (n : Nat) : LpOk (f63_i_RunDelay.O n) E (evalFn E n) n (keepAt 63) (.loop (loopAt c63 0)) :=
  lp_pure f63_i_RunDelay.l0.P sg_lifffblllii f63_i_RunDelay.l0.A (f63_i_RunDelay.l0.F n) (orcOf_cf _ _ n) (lpOk_of (bs := []) (by kernel_rfl) .nil) (fun _ => rfl) (fun _ _ => by kernel_rfl) (fun _ _ _ => by kernel_rfl)
theorem f63_i_RunDelay.ok : ∀ n v x, f63_i_RunDelay.F n v = some x → evalFn E n 63 (flAs f63_i_RunDelay.P (sg_ifffbll.pk v)) = some (f63_i_RunDelay.A.enc x) :=
  fn_pure (modes := (fdAt 63).ms) (outs := (fdAt 63).os) (results := (fdAt 63).rs) f63_i_RunDelay.O (c := c63) (keep := keepAt 63) (by kernel_rfl) (fun n => orcOf_cf _ _ n) (fun n => lpOk_of (bs := [loopAt c63 0]) (by kernel_rfl) (.cons (f63_i_RunDelay.l0.ok n) .nil)) (fun _ => rfl) (fun _ _ => by kernel_rfl)
noncomputable def f63_i_RunDelay.w : FnW E := fnW 63 f63_i_RunDelay.P sg_ifffbll f63_i_RunDelay.A f63_i_RunDelay.F f63_i_RunDelay.ok

def f140_s_l01Finite : Nat → Nat → Option (Bool)
  | 0, _ => none
  | n + 1, x1 =>
    some (feq FloatKind.f32 (fsub FloatKind.f32 x1 x1) 0)
def f140_s_l01Finite.P : List Arg := [⟨.val, ⟨false, [.leaf], [.flt .f32 0]⟩⟩]
def f140_s_l01Finite.A : RAlt (Bool) := .one ⟨[⟨false, [.leaf], [.bool false]⟩], [none]⟩ sg_b
def f140_s_l01Finite.F (n : Nat) (v : Nat) := f140_s_l01Finite n v
noncomputable def f140_s_l01Finite.O (n : Nat) : Orc := orcOf (E := E) [] [] n
theorem f140_s_l01Finite.ok : ∀ n v x, f140_s_l01Finite.F n v = some x → evalFn E n 140 (flAs f140_s_l01Finite.P (sg_f.pk v)) = some (f140_s_l01Finite.A.enc x) :=
  fn_pure (modes := (fdAt 140).ms) (outs := (fdAt 140).os) (results := (fdAt 140).rs) f140_s_l01Finite.O (c := c140) (keep := keepAt 140) (by kernel_rfl) (fun n => orcOf_cf _ _ n) (fun n => lpOk_of (bs := []) (by kernel_rfl) .nil) (fun _ => rfl) (fun _ _ => by kernel_rfl)
noncomputable def f140_s_l01Finite.w : FnW E := fnW 140 f140_s_l01Finite.P sg_f f140_s_l01Finite.A f140_s_l01Finite.F f140_s_l01Finite.ok

def f82_s_IsFinite : Nat → Nat → Option (Bool)
  | 0, _ => none
  | n + 1, x1 =>
    bd (f140_s_l01Finite n x1) fun r2 =>
    let b3 : Bool := r2
    some b3
def f82_s_IsFinite.P : List Arg := [⟨.val, ⟨false, [.leaf], [.flt .f32 0]⟩⟩]
def f82_s_IsFinite.A : RAlt (Bool) := .one ⟨[⟨false, [.leaf], [.bool false]⟩], [none]⟩ sg_b
def f82_s_IsFinite.F (n : Nat) (v : Nat) := f82_s_IsFinite n v
noncomputable def f82_s_IsFinite.O (n : Nat) : Orc := orcOf (E := E) [f140_s_l01Finite.w] [] n
theorem f82_s_IsFinite.ok : ∀ n v x, f82_s_IsFinite.F n v = some x → evalFn E n 82 (flAs f82_s_IsFinite.P (sg_f.pk v)) = some (f82_s_IsFinite.A.enc x) :=
  fn_pure (modes := (fdAt 82).ms) (outs := (fdAt 82).os) (results := (fdAt 82).rs) f82_s_IsFinite.O (c := c82) (keep := keepAt 82) (by kernel_rfl) (fun n => orcOf_cf _ _ n) (fun n => lpOk_of (bs := []) (by kernel_rfl) .nil) (fun _ => rfl) (fun _ _ => by kernel_rfl)
noncomputable def f82_s_IsFinite.w : FnW E := fnW 82 f82_s_IsFinite.P sg_f f82_s_IsFinite.A f82_s_IsFinite.F f82_s_IsFinite.ok

def f13_l_FnRooms.l1 (n : Nat) : Nat → Nat → List T → Nat → List T → Nat → List T → Int → Int → Option ((Bool) ⊕ (Unit))
  | 0, _, _, _, _, _, _, _, _ => none
  | m + 1, n1, l2, n3, l4, n5, l6, i7, i8 =>
    br (decide (i8 < i7)) (
     gd (decide (((0 : Int) ≤ i8) ∧ (i8 < ((n1 : Nat) : Int)))) (
     gd (okAt [(CK.flt FloatKind.f32)] l2 (Int.toNat i8)) (
     bd (f82_s_IsFinite n (fAt l2 (Int.toNat i8))) fun r9 =>
     let b10 : Bool := r9
     br b10 (
      gd (decide (((0 : Int) ≤ i8) ∧ (i8 < ((n3 : Nat) : Int)))) (
      gd (okAt [(CK.flt FloatKind.f32)] l4 (Int.toNat i8)) (
      gd (decide (((0 : Int) ≤ i8) ∧ (i8 < ((n5 : Nat) : Int)))) (
      gd (okAt [(CK.flt FloatKind.f32)] l6 (Int.toNat i8)) (
      br (feq FloatKind.f32 (fAt l4 (Int.toNat i8)) (fAt l6 (Int.toNat i8))) (
       f13_l_FnRooms.l1 n m n1 l2 n3 l4 n5 l6 i7 (IntKind.i64.wrap (i8 + (1 : Int)))) (
       gd (decide (((0 : Int) ≤ i8) ∧ (i8 < ((n3 : Nat) : Int)))) (
       gd (okAt [(CK.flt FloatKind.f32)] l4 (Int.toNat i8)) (
       gd (decide (((0 : Int) ≤ i8) ∧ (i8 < ((n3 : Nat) : Int)))) (
       gd (okAt [(CK.flt FloatKind.f32)] l4 (Int.toNat i8)) (
       br (fne FloatKind.f32 (fAt l4 (Int.toNat i8)) (fAt l4 (Int.toNat i8))) (
        gd (decide (((0 : Int) ≤ i8) ∧ (i8 < ((n5 : Nat) : Int)))) (
        gd (okAt [(CK.flt FloatKind.f32)] l6 (Int.toNat i8)) (
        gd (decide (((0 : Int) ≤ i8) ∧ (i8 < ((n5 : Nat) : Int)))) (
        gd (okAt [(CK.flt FloatKind.f32)] l6 (Int.toNat i8)) (
        br (!(fne FloatKind.f32 (fAt l6 (Int.toNat i8)) (fAt l6 (Int.toNat i8)))) (
         some (Sum.inl false)) (
         f13_l_FnRooms.l1 n m n1 l2 n3 l4 n5 l6 i7 (IntKind.i64.wrap (i8 + (1 : Int))))))))) (
        some (Sum.inl false)))))))))))) (
      f13_l_FnRooms.l1 n m n1 l2 n3 l4 n5 l6 i7 (IntKind.i64.wrap (i8 + (1 : Int))))))) (
     some (Sum.inr ()))
def f13_l_FnRooms : Nat → Nat → List T → Nat → List T → Option (Bool)
  | 0, _, _, _, _ => none
  | n + 1, n1, l2, n3, l4 =>
    bd (f28_l_b10Long n n1 l2 n3 l4) fun r5 =>
    let b6 : Bool := r5
    br b6 (
     some true) (
     bd (f77_s_B10Room n n1 l2) fun r7 =>
     let n8 : Nat := r7.1
     let l9 : List T := r7.2.1
     let n10 : Nat := r7.2.2.1
     let l11 : List T := r7.2.2.2.1
     let x12 : Nat := r7.2.2.2.2.1
     let x13 : Nat := r7.2.2.2.2.2
     bd (f29_l_b10At n n3 l4 (0 : Int) (20 : Int)) fun r14 =>
     let i15 : Int := r14
     let i16 : Int := (IntKind.i64.wrap ((1 : Int) + i15))
     bd (f30_s_B10Numbers n n3 l4 i16) fun r17 =>
     let n18 : Nat := r17.1
     let l19 : List T := r17.2
     bd (f29_l_b10At n n3 l4 (1 : Int) (IntKind.i64.wrap (i16 + (1 : Int)))) fun r20 =>
     let i21 : Int := r20
     bd (f78_i_EmptyRoom n n8 l9 n10 l11 x12 x13) fun r22 =>
     let n23 : Nat := r22.1
     let l24 : List T := r22.2.1
     let b25 : Bool := r22.2.2
     bd (f79_i_RunRoom n n8 l9 n10 l11 x12 x13 n23 l24 n18 l19) fun r26 =>
     let n27 : Nat := r26.1
     let l28 : List T := r26.2.1
     let n29 : Nat := r26.2.2.1
     let l30 : List T := r26.2.2.2.1
     let b31 : Bool := r26.2.2.2.2
     gd (decide (((0 : Int) ≤ (0 : Int)) ∧ (((0 : Int) ≤ i21) ∧ (i21 ≤ ((n18 : Nat) : Int))))) (
     bd (f79_i_RunRoom n n8 l9 n10 l11 x12 x13 n23 l24 ((Int.toNat i21) - 0) (List.take ((Int.toNat i21) - 0) (List.drop 0 l19))) fun r32 =>
     let n33 : Nat := r32.1
     let l34 : List T := r32.2.1
     let n35 : Nat := r32.2.2.1
     let l36 : List T := r32.2.2.2.1
     let b37 : Bool := r32.2.2.2.2
     gd (decide (((0 : Int) ≤ i21) ∧ ((i21 ≤ ((n18 : Nat) : Int)) ∧ (((n18 : Nat) : Int) ≤ ((n18 : Nat) : Int))))) (
     bd (f79_i_RunRoom n n8 l9 n10 l11 x12 x13 n35 l36 (n18 - (Int.toNat i21)) (List.take (n18 - (Int.toNat i21)) (List.drop (Int.toNat i21) l19))) fun r38 =>
     let n39 : Nat := r38.1
     let l40 : List T := r38.2.1
     let n41 : Nat := r38.2.2.1
     let l42 : List T := r38.2.2.2.1
     let b43 : Bool := r38.2.2.2.2
     br (!b25) (
      some false) (
      br (!b31) (
       some false) (
       br (!b37) (
        some false) (
        br (!b43) (
         some false) (
         bd (f80_i_ValidRoom n n8 l9 n10 l11 x12 x13) fun r44 =>
         let b45 : Bool := r44
         br (!b45) (
          some false) (
          gd (Nat.ble (0 + n33) 2147483648) (
          gd (Nat.ble ((0 + n33) + n39) 2147483648) (
          bd (f44_l_b10Same n ((0 + n33) + n39) (((reps 0 [(T.flt FloatKind.f32 0)]) ++ l34) ++ l40) n27 l28) fun r46 =>
          let b47 : Bool := r46
          br (!b47) (
           some false) (
           br (((n29 : Nat) : Int) != ((n41 : Nat) : Int)) (
            some false) (
            bd (f13_l_FnRooms.l0 n n n8 l9 n10 l11 x12 x13 i16 n18 l19 n23 l24 n29 l30 n41 l42 ((n29 : Nat) : Int) (0 : Int)) fun r48 =>
            sm r48 (fun u49 =>
             let b50 : Bool := u49
             some b50) (fun u51 =>
             let n52 : Nat := u51.1
             let l53 : List T := u51.2.1
             let n54 : Nat := u51.2.2.1
             let l55 : List T := u51.2.2.2.1
             let x56 : Nat := u51.2.2.2.2.1
             let x57 : Nat := u51.2.2.2.2.2.1
             let i58 : Int := u51.2.2.2.2.2.2.1
             let n59 : Nat := u51.2.2.2.2.2.2.2.1
             let l60 : List T := u51.2.2.2.2.2.2.2.2.1
             let n61 : Nat := u51.2.2.2.2.2.2.2.2.2.1
             let l62 : List T := u51.2.2.2.2.2.2.2.2.2.2
             gd (decide (((0 : Int) ≤ i58) ∧ (i58 ≤ (2147483648 : Int)))) (
             let n63 : Nat := (Int.toNat i58)
             let l64 : List T := (reps (Int.toNat i58) [(T.flt FloatKind.f32 0)])
             gd (decide (((0 : Int) ≤ (0 : Int)) ∧ ((0 : Int) < ((n63 : Nat) : Int)))) (
             gd (Nat.ble 1 (List.length l64)) (
             let l65 : List T := (setN l64 0 [(T.flt FloatKind.f32 1065353216)])
             bd (f81_i_AnswerOf n n52 l53 n54 l55 x56 x57 i58) fun r66 =>
             let n67 : Nat := r66.1
             let l68 : List T := r66.2.1
             let b69 : Bool := r66.2.2
             bd (f79_i_RunRoom n n52 l53 n54 l55 x56 x57 n61 l62 n63 l65) fun r70 =>
             let n71 : Nat := r70.1
             let l72 : List T := r70.2.1
             let n73 : Nat := r70.2.2.1
             let l74 : List T := r70.2.2.2.1
             let b75 : Bool := r70.2.2.2.2
             br (!b69) (
              some false) (
              br (!b75) (
               some false) (
               bd (f44_l_b10Same n n67 l68 n71 l72) fun r76 =>
               let b77 : Bool := r76
               br (!b77) (
                some false) (
                gd (decide (((0 : Int) ≤ (0 : Int)) ∧ (((0 : Int) ≤ (1 : Int)) ∧ ((1 : Int) ≤ ((n52 : Nat) : Int))))) (
                let l78 : List T := (List.take 5 (List.drop 0 l53))
                gd (decide (((0 : Int) ≤ (0 : Int)) ∧ ((0 : Int) < ((n52 : Nat) : Int)))) (
                gd (okAt [(CK.int IntKind.i64)] l53 0) (
                bd (f66_i_EmptyLine n (iAt l53 0)) fun r79 =>
                let n80 : Nat := r79.1
                let l81 : List T := r79.2.1
                let b82 : Bool := r79.2.2
                bd (f79_i_RunRoom n 1 l78 0 [] 0 1065353216 1 (setN (reps 1 [(T.lst 0 [])]) 0 [(T.lst n80 l81)]) n59 l60) fun r83 =>
                let n84 : Nat := r83.1
                let l85 : List T := r83.2.1
                let n86 : Nat := r83.2.2.1
                let l87 : List T := r83.2.2.2.1
                let b88 : Bool := r83.2.2.2.2
                gd (decide (((0 : Int) ≤ (0 : Int)) ∧ ((0 : Int) < ((n52 : Nat) : Int)))) (
                gd (okAt [(CK.int IntKind.i64), (CK.flt FloatKind.f32), (CK.flt FloatKind.f32), (CK.flt FloatKind.f32), CK.bool] l53 0) (
                bd (f63_i_RunDelay n (iAt l53 0) (fAt l53 1) (fAt l53 2) (fAt l53 3) (bAt l53 4) n80 l81 n59 l60) fun r89 =>
                let n90 : Nat := r89.1
                let l91 : List T := r89.2.1
                let n92 : Nat := r89.2.2.1
                let l93 : List T := r89.2.2.2.1
                let b94 : Bool := r89.2.2.2.2
                br (!b82) (
                 some false) (
                 br (!b88) (
                  some false) (
                  br (!b94) (
                   some false) (
                   br (((n84 : Nat) : Int) != ((n90 : Nat) : Int)) (
                    some false) (
                    bd (f13_l_FnRooms.l1 n n n59 l60 n84 l85 n90 l91 ((n84 : Nat) : Int) (0 : Int)) fun r95 =>
                    sm r95 (fun u96 =>
                     let b97 : Bool := u96
                     some b97) (fun u98 =>
                     some true)))))))))))))))))))))))))))))
def sg_llffillllii : Sig (Nat × List T × Nat × List T × Nat × Nat × Int × Nat × List T × Nat × List T × Nat × List T × Nat × List T × Int × Int) where
  pk := fun v => [.lst v.1 v.2.1, .lst v.2.2.1 v.2.2.2.1, .flt v.2.2.2.2.1, .flt v.2.2.2.2.2.1, .int v.2.2.2.2.2.2.1, .lst v.2.2.2.2.2.2.2.1 v.2.2.2.2.2.2.2.2.1, .lst v.2.2.2.2.2.2.2.2.2.1 v.2.2.2.2.2.2.2.2.2.2.1, .lst v.2.2.2.2.2.2.2.2.2.2.2.1 v.2.2.2.2.2.2.2.2.2.2.2.2.1, .lst v.2.2.2.2.2.2.2.2.2.2.2.2.2.1 v.2.2.2.2.2.2.2.2.2.2.2.2.2.2.1, .int v.2.2.2.2.2.2.2.2.2.2.2.2.2.2.2.1, .int v.2.2.2.2.2.2.2.2.2.2.2.2.2.2.2.2]
  up := fun ls => match ls with
    | [.lst a0 a1, .lst a2 a3, .flt a4, .flt a5, .int a6, .lst a7 a8, .lst a9 a10, .lst a11 a12, .lst a13 a14, .int a15, .int a16] => some (a0, a1, a2, a3, a4, a5, a6, a7, a8, a9, a10, a11, a12, a13, a14, a15, a16)
    | _ => none
  ok := by
    intro ls v h
    split at h
    · cases h; rfl
    · cases h

def sg_llffill : Sig (Nat × List T × Nat × List T × Nat × Nat × Int × Nat × List T × Nat × List T) where
  pk := fun v => [.lst v.1 v.2.1, .lst v.2.2.1 v.2.2.2.1, .flt v.2.2.2.2.1, .flt v.2.2.2.2.2.1, .int v.2.2.2.2.2.2.1, .lst v.2.2.2.2.2.2.2.1 v.2.2.2.2.2.2.2.2.1, .lst v.2.2.2.2.2.2.2.2.2.1 v.2.2.2.2.2.2.2.2.2.2]
  up := fun ls => match ls with
    | [.lst a0 a1, .lst a2 a3, .flt a4, .flt a5, .int a6, .lst a7 a8, .lst a9 a10] => some (a0, a1, a2, a3, a4, a5, a6, a7, a8, a9, a10)
    | _ => none
  ok := by
    intro ls v h
    split at h
    · cases h; rfl
    · cases h

def f13_l_FnRooms.l0.P : AS := ⟨[(5, .box [.sl .own [.leaf, .leaf, .leaf, .leaf, .leaf], .sl .own [.leaf, .leaf], .leaf, .leaf] [.lst 0 [], .lst 0 [], .flt .f32 0, .flt .f32 0] [] 0), (6, .val false [.leaf] [.int .i64 0] [] 0), (7, .val false [.sl .own [.leaf]] [.lst 0 []] [] 0), (9, .val false [.sl .own [.sl .own [.leaf]]] [.lst 0 []] [] 0), (12, .val false [.sl .own [.sl .own [.leaf]]] [.lst 0 []] [] 0), (18, .val false [.sl .own [.sl .own [.leaf]]] [.lst 0 []] [] 0), (122, .val false [.leaf] [.int .i64 0] [] 0), (123, .val false [.leaf] [.int .i64 0] [] 0)], 0⟩
def f13_l_FnRooms.l0.A : Alt ((Bool) ⊕ (Nat × List T × Nat × List T × Nat × Nat × Int × Nat × List T × Nat × List T)) := .or (.one .ret ⟨[(4, .val false [.leaf] [.bool false] [] 0), (5, .dead), (6, .dead), (7, .dead), (9, .dead), (261, .dead)], 0⟩ sg_b) (.one (.exit 0) ⟨[(4, .dead), (5, .box [.sl .own [.leaf, .leaf, .leaf, .leaf, .leaf], .sl .own [.leaf, .leaf], .leaf, .leaf] [.lst 0 [], .lst 0 [], .flt .f32 0, .flt .f32 0] [] 0), (6, .val false [.leaf] [.int .i64 0] [] 0), (7, .val false [.sl .own [.leaf]] [.lst 0 []] [] 0), (9, .val false [.sl .own [.sl .own [.leaf]]] [.lst 0 []] [] 0), (261, .dead)], 0⟩ sg_llffill)
def f13_l_FnRooms.l0.F (n m : Nat) (v : Nat × List T × Nat × List T × Nat × Nat × Int × Nat × List T × Nat × List T × Nat × List T × Nat × List T × Int × Int) := f13_l_FnRooms.l0 n m v.1 v.2.1 v.2.2.1 v.2.2.2.1 v.2.2.2.2.1 v.2.2.2.2.2.1 v.2.2.2.2.2.2.1 v.2.2.2.2.2.2.2.1 v.2.2.2.2.2.2.2.2.1 v.2.2.2.2.2.2.2.2.2.1 v.2.2.2.2.2.2.2.2.2.2.1 v.2.2.2.2.2.2.2.2.2.2.2.1 v.2.2.2.2.2.2.2.2.2.2.2.2.1 v.2.2.2.2.2.2.2.2.2.2.2.2.2.1 v.2.2.2.2.2.2.2.2.2.2.2.2.2.2.1 v.2.2.2.2.2.2.2.2.2.2.2.2.2.2.2.1 v.2.2.2.2.2.2.2.2.2.2.2.2.2.2.2.2
def f13_l_FnRooms.l0.W (n : Nat) : LpW := .of 224 f13_l_FnRooms.l0.P sg_llffillllii f13_l_FnRooms.l0.A (f13_l_FnRooms.l0.F n n)
def f13_l_FnRooms.l1.P : AS := ⟨[(7, .val false [.sl .own [.leaf]] [.lst 0 []] [] 0), (30, .val false [.sl .own [.leaf]] [.lst 0 []] [] 0), (33, .val false [.sl .own [.leaf]] [.lst 0 []] [] 0), (218, .val false [.leaf] [.int .i64 0] [] 0), (219, .val false [.leaf] [.int .i64 0] [] 0)], 0⟩
def f13_l_FnRooms.l1.A : Alt ((Bool) ⊕ (Unit)) := .or (.one .ret ⟨[(4, .val false [.leaf] [.bool false] [] 0)], 0⟩ sg_b) (.one (.exit 2) ⟨[(4, .dead)], 0⟩ sg)
def f13_l_FnRooms.l1.F (n m : Nat) (v : Nat × List T × Nat × List T × Nat × List T × Int × Int) := f13_l_FnRooms.l1 n m v.1 v.2.1 v.2.2.1 v.2.2.2.1 v.2.2.2.2.1 v.2.2.2.2.2.1 v.2.2.2.2.2.2.1 v.2.2.2.2.2.2.2
def f13_l_FnRooms.l1.W (n : Nat) : LpW := .of 512 f13_l_FnRooms.l1.P sg_lllii f13_l_FnRooms.l1.A (f13_l_FnRooms.l1.F n n)
def f13_l_FnRooms.P : List Arg := [⟨.val, ⟨false, [.sl .shr [.leaf]], [.lst 0 []]⟩⟩, ⟨.val, ⟨false, [.sl .shr [.leaf]], [.lst 0 []]⟩⟩]
def f13_l_FnRooms.A : RAlt (Bool) := .one ⟨[⟨false, [.leaf], [.bool false]⟩], [none, none]⟩ sg_b
def f13_l_FnRooms.F (n : Nat) (v : Nat × List T × Nat × List T) := f13_l_FnRooms n v.1 v.2.1 v.2.2.1 v.2.2.2
noncomputable def f13_l_FnRooms.O (n : Nat) : Orc := orcOf (E := E) [f28_l_b10Long.w, f77_s_B10Room.w, f29_l_b10At.w, f30_s_B10Numbers.w, f80_i_ValidRoom.w, f78_i_EmptyRoom.w, f79_i_RunRoom.w, f44_l_b10Same.w, f81_i_AnswerOf.w, f66_i_EmptyLine.w, f63_i_RunDelay.w, f82_s_IsFinite.w] [f13_l_FnRooms.l0.W n, f13_l_FnRooms.l1.W n] n
theorem f13_l_FnRooms.l0.ok (n : Nat) : LpOk (f13_l_FnRooms.O n) E (evalFn E n) n (keepAt 13) (.loop (loopAt c13 0)) :=
  lp_pure f13_l_FnRooms.l0.P sg_llffillllii f13_l_FnRooms.l0.A (f13_l_FnRooms.l0.F n) (orcOf_cf _ _ n) (lpOk_of (bs := []) (by kernel_rfl) .nil) (fun _ => rfl) (fun _ _ => by kernel_rfl) (fun _ _ _ => by kernel_rfl)
theorem f13_l_FnRooms.l1.ok (n : Nat) : LpOk (f13_l_FnRooms.O n) E (evalFn E n) n (keepAt 13) (.loop (loopAt c13 1)) :=
  lp_pure f13_l_FnRooms.l1.P sg_lllii f13_l_FnRooms.l1.A (f13_l_FnRooms.l1.F n) (orcOf_cf _ _ n) (lpOk_of (bs := []) (by kernel_rfl) .nil) (fun _ => rfl) (fun _ _ => by kernel_rfl) (fun _ _ _ => by kernel_rfl)
theorem f13_l_FnRooms.ok : ∀ n v x, f13_l_FnRooms.F n v = some x → evalFn E n 13 (flAs f13_l_FnRooms.P (sg_ll.pk v)) = some (f13_l_FnRooms.A.enc x) :=
  fn_pure (modes := (fdAt 13).ms) (outs := (fdAt 13).os) (results := (fdAt 13).rs) f13_l_FnRooms.O (c := c13) (keep := keepAt 13) (by kernel_rfl) (fun n => orcOf_cf _ _ n) (fun n => lpOk_of (bs := [loopAt c13 0, loopAt c13 1]) (by kernel_rfl) (.cons (f13_l_FnRooms.l0.ok n) (.cons (f13_l_FnRooms.l1.ok n) .nil))) (fun _ => rfl) (fun _ _ => by kernel_rfl)
noncomputable def f13_l_FnRooms.w : FnW E := fnW 13 f13_l_FnRooms.P sg_ll f13_l_FnRooms.A f13_l_FnRooms.F f13_l_FnRooms.ok
end Go.Proofs.Ytjkhhalnlodinaa.D
end
