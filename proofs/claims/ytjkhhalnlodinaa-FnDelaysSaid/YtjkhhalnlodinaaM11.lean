/- FnDelays holds: for every input the law returns true, and its arguments read as before. -/
import Derived.Test.YtjkhhalnlodinaaChecked
import Derived.Test.YtjkhhalnlodinaaDeskF
import Derived.KernelRfl
import Derived.Test.YtjkhhalnlodinaaRows
import Derived.WalkKit
import Derived.ProofKit
import Derived.OpenShut
import Derived.ShutString
import Derived.ChangeOld
import Derived.Below
import Derived.SizedLaws
set_option linter.all false
section
/- What math.Copysign owes: tables of its own, and the reading of its code. -/
namespace Go.Proofs.Ytjkhhalnlodinaa.DC
open Go Go.Desk
def bodyOf (f : Func) : Code := match f.body with
  | some c => c
  | none => .skip
def tyTab : List (Nat × TD) := [
  (34, ⟨false, 1, 8, [.leaf], [.flt .f64 0], .flt .f64⟩),
  (174, ⟨false, 1, 8, [.leaf], [.int .u64 0], .int .u64⟩)]
noncomputable def c196 : Code := bodyOf Try.f196
noncomputable def fnTab : List (Nat × FD) := [
  (178, .ext (pF64frombits)),
  (189, .ext (pF64bits)),
  (196, .code c196 [.val, .val] [] [(4, none)] [(0, [0, 1]), (1, [0, 1])])]
noncomputable def E : Env := ⟨fun t => lookT tyTab t, lookF fnTab⟩
noncomputable def fdAt (n : Nat) : FD := match lookF fnTab n with
  | some d => d
  | none => .ext fun _ => none
noncomputable def keepAt (n : Nat) : List (Nat × List Nat) := match lookF fnTab n with
  | some d => d.keep
  | none => []
theorem tysOk : TysOk Try.prog E := tysOk_of (l := tyTab) (fun _ => rfl) (by kernel_rfl)
theorem ft178 : FnTab Try.prog E 178 (.ext (pF64frombits)) := ext_pF64frombits Try.func178 (by kernel_rfl) (by kernel_rfl) (by kernel_rfl) (by kernel_rfl)
theorem ft189 : FnTab Try.prog E 189 (.ext (pF64bits)) := ext_pF64bits Try.func189 (by kernel_rfl) (by kernel_rfl) (by kernel_rfl) (by kernel_rfl)
theorem ft196 : FnTab Try.prog E 196 (fdAt 196) := fnTab_code (c := c196) (modes := (fdAt 196).ms) (outs := (fdAt 196).os) (results := (fdAt 196).rs) (keep := (fdAt 196).keep) Try.func196 (by kernel_rfl) (by kernel_rfl) (by kernel_rfl)
theorem allFns : AllFns Try.prog E fnTab := .cons ft178 (.cons ft189 (.cons ft196 (.nil)))
theorem fnOk : ∀ f fd, E.fn f = some fd → FnTab Try.prog E f fd := fnTab_of (l := fnTab) (fun _ => rfl) allFns
end Go.Proofs.Ytjkhhalnlodinaa.DC
section
namespace Go.Proofs.Ytjkhhalnlodinaa.DC
open Go Go.Desk
set_option linter.unusedVariables false
noncomputable def x178.w : FnW E := xF64frombits.w 178 (by kernel_rfl)

noncomputable def x189.w : FnW E := xF64bits.w 189 (by kernel_rfl)

def f196_mathCopysign : Nat → Nat → Nat → Option (Nat)
  | 0, _, _ => none
  | n + 1, x1, x2 =>
    bd (xF64bits n x1) fun r3 =>
    let i4 : Int := r3
    bd (xF64bits n x2) fun r5 =>
    let i6 : Int := r5
    bd (xF64frombits n (intBits BinOp.or IntKind.u64 (intBits BinOp.andNot IntKind.u64 i4 (9223372036854775808 : Int)) (intBits BinOp.and IntKind.u64 i6 (9223372036854775808 : Int)))) fun r7 =>
    let x8 : Nat := r7
    some x8
def sg_ff : Sig (Nat × Nat) where
  pk := fun v => [.flt v.1, .flt v.2]
  up := fun ls => match ls with
    | [.flt a0, .flt a1] => some (a0, a1)
    | _ => none
  ok := by
    intro ls v h
    split at h
    · cases h; rfl
    · cases h

def sg_f : Sig (Nat) where
  pk := fun v => [.flt v]
  up := fun ls => match ls with
    | [.flt a0] => some a0
    | _ => none
  ok := by
    intro ls v h
    split at h
    · cases h; rfl
    · cases h

def f196_mathCopysign.P : List Arg := [⟨.val, ⟨false, [.leaf], [.flt .f64 0]⟩⟩, ⟨.val, ⟨false, [.leaf], [.flt .f64 0]⟩⟩]
def f196_mathCopysign.A : RAlt (Nat) := .one ⟨[⟨false, [.leaf], [.flt .f64 0]⟩], [none, none]⟩ sg_f
def f196_mathCopysign.F (n : Nat) (v : Nat × Nat) := f196_mathCopysign n v.1 v.2
noncomputable def f196_mathCopysign.O (n : Nat) : Orc := orcOf (E := E) [x178.w, x189.w] [] n
theorem f196_mathCopysign.ok : ∀ n v x, f196_mathCopysign.F n v = some x → evalFn E n 196 (flAs f196_mathCopysign.P (sg_ff.pk v)) = some (f196_mathCopysign.A.enc x) :=
  fn_pure (modes := (fdAt 196).ms) (outs := (fdAt 196).os) (results := (fdAt 196).rs) f196_mathCopysign.O (c := c196) (keep := keepAt 196) (by kernel_rfl) (fun n => orcOf_cf _ _ n) (fun n => lpOk_of (bs := []) (by kernel_rfl) .nil) (fun _ => rfl) (fun _ _ => by kernel_rfl)
noncomputable def f196_mathCopysign.w : FnW E := fnW 196 f196_mathCopysign.P sg_ff f196_mathCopysign.A f196_mathCopysign.F f196_mathCopysign.ok
end Go.Proofs.Ytjkhhalnlodinaa.DC
end
namespace Go.Proofs.Ytjkhhalnlodinaa.DC
open Go Go.Desk
theorem signOk : ExtOk Try.prog 196 pCopysign := ext_pCopysign_of Try.checked.mixed tysOk fnOk
  (fun x s hx hs hx' hs' => ⟨3, f196_mathCopysign.ok 3 (x, s) _ (copysign_plain 1 hx hs hx' hs')⟩)
end Go.Proofs.Ytjkhhalnlodinaa.DC
end
section
/- The tables of the reading: types and functions of the translation, with what is kept at each region's beginning (written by a program of this workplace). -/
namespace Go.Proofs.Ytjkhhalnlodinaa.D
open Go Go.Desk
def bodyOf (f : Func) : Code := match f.body with
  | some c => c
  | none => .skip
def tyTab : List (Nat × TD) := [
  (2, ⟨false, 1, 8, [.leaf], [.int .i64 0], .int .i64⟩),
  (3, ⟨false, 1, 8, [.leaf], [.int .i64 0], .int .i64⟩),
  (4, ⟨false, 1, 1, [.leaf], [.bool false], .bool⟩),
  (5, ⟨false, 1, 1, [.leaf], [.int .u8 0], .int .u8⟩),
  (22, ⟨false, 1, 24, [.sl .own [.leaf]], [.lst 0 []], .slc 5⟩),
  (24, ⟨false, 1, 24, [.sl .own [.leaf]], [.lst 0 []], .slc 29⟩),
  (29, ⟨false, 1, 4, [.leaf], [.flt .f32 0], .flt .f32⟩),
  (34, ⟨false, 1, 8, [.leaf], [.flt .f64 0], .flt .f64⟩),
  (35, ⟨false, 1, 8, [.leaf], [.int .u64 0], .int .u64⟩),
  (36, ⟨false, 1, 24, [.sl .own [.leaf]], [.lst 0 []], .slc 2⟩),
  (86, ⟨true, 5, 24, [.leaf, .leaf, .leaf, .leaf, .leaf], [.int .i64 0, .flt .f32 0, .flt .f32 0, .flt .f32 0, .bool false], .st [(0, 2), (1, 29), (2, 29), (3, 29), (4, 4)]⟩),
  (92, ⟨true, 2, 16, [.leaf, .leaf], [.int .i64 0, .flt .f32 0], .st [(0, 2), (1, 29)]⟩),
  (120, ⟨false, 1, 8, [.leaf], [.nil], .ptr 176⟩),
  (128, ⟨false, 1, 4, [.leaf], [.int .u32 0], .int .u32⟩),
  (158, ⟨false, 1, 8, [.leaf], [.nil], .ptr 86⟩),
  (174, ⟨false, 1, 8, [.leaf], [.int .u64 0], .int .u64⟩),
  (176, ⟨true, 3, 40, [.sl .own [.leaf], .leaf, .leaf], [.lst 0 [], .int .i64 0, .int .u64 0], .st [(0, 22), (1, 3), (2, 174)]⟩)]
noncomputable def c11 : Code := bodyOf Try.f11
noncomputable def c28 : Code := bodyOf Try.f28
noncomputable def c29 : Code := bodyOf Try.f29
noncomputable def c30 : Code := bodyOf Try.f30
noncomputable def c33 : Code := bodyOf Try.f33
noncomputable def c34 : Code := bodyOf Try.f34
noncomputable def c44 : Code := bodyOf Try.f44
noncomputable def c62 : Code := bodyOf Try.f62
noncomputable def c63 : Code := bodyOf Try.f63
noncomputable def c64 : Code := bodyOf Try.f64
noncomputable def c65 : Code := bodyOf Try.f65
noncomputable def c66 : Code := bodyOf Try.f66
noncomputable def c67 : Code := bodyOf Try.f67
noncomputable def c68 : Code := bodyOf Try.f68
noncomputable def c90 : Code := bodyOf Try.f90
noncomputable def c91 : Code := bodyOf Try.f91
noncomputable def c92 : Code := bodyOf Try.f92
noncomputable def c93 : Code := bodyOf Try.f93
noncomputable def c97 : Code := bodyOf Try.f97
noncomputable def c98 : Code := bodyOf Try.f98
noncomputable def c106 : Code := bodyOf Try.f106
noncomputable def c108 : Code := bodyOf Try.f108
noncomputable def c109 : Code := bodyOf Try.f109
noncomputable def c112 : Code := bodyOf Try.f112
noncomputable def c113 : Code := bodyOf Try.f113
noncomputable def c130 : Code := bodyOf Try.f130
noncomputable def c132 : Code := bodyOf Try.f132
noncomputable def c133 : Code := bodyOf Try.f133
noncomputable def c134 : Code := bodyOf Try.f134
noncomputable def c135 : Code := bodyOf Try.f135
noncomputable def c136 : Code := bodyOf Try.f136
noncomputable def c137 : Code := bodyOf Try.f137
noncomputable def c138 : Code := bodyOf Try.f138
noncomputable def c139 : Code := bodyOf Try.f139
noncomputable def c140 : Code := bodyOf Try.f140
noncomputable def c141 : Code := bodyOf Try.f141
noncomputable def c142 : Code := bodyOf Try.f142
noncomputable def c143 : Code := bodyOf Try.f143
noncomputable def c158 : Code := bodyOf Try.f158
noncomputable def c163 : Code := bodyOf Try.f163
noncomputable def c165 : Code := bodyOf Try.f165
noncomputable def c167 : Code := bodyOf Try.f167
noncomputable def c168 : Code := bodyOf Try.f168
noncomputable def c174 : Code := bodyOf Try.f174
noncomputable def c175 : Code := bodyOf Try.f175
noncomputable def c176 : Code := bodyOf Try.f176
noncomputable def c177 : Code := bodyOf Try.f177
noncomputable def c188 : Code := bodyOf Try.f188
noncomputable def c195 : Code := bodyOf Try.f195
noncomputable def fnTab : List (Nat × FD) := [
  (11, .code c11 [.val, .val] [] [(4, none)] [(0, [0, 1]), (1, [0, 1]), (2, []), (3, [0, 1]), (4, [0, 1, 5]), (5, [0, 1, 5, 6]), (6, [0, 1, 5, 6, 7]), (7, [1, 5, 6, 7, 8]), (8, [1, 5, 6, 7, 8, 9]), (9, [1, 5, 6, 7, 8, 9, 10, 11, 12]), (10, [1, 5, 6, 7, 8, 9, 10, 11, 12, 13, 14, 15]), (11, [1, 5, 6, 7, 8, 9, 10, 11, 12, 13, 15, 16, 17, 18]), (12, []), (13, [1, 5, 6, 7, 8, 9]), (14, [1, 5, 6, 7, 8, 9, 19]), (15, [1, 5, 6, 7, 8, 9, 10, 11, 12, 19]), (16, [1, 5, 6, 7, 8, 9, 10, 11, 12, 13, 14, 15, 19]), (17, [1, 5, 6, 8, 10, 11, 12, 13, 15, 16, 17, 18]), (18, []), (19, [1, 5, 6, 8]), (20, [1, 5, 6, 8, 20]), (21, [1, 5, 6, 8, 20, 21, 22]), (22, [5, 6, 8, 20, 21, 22, 23]), (23, [5, 6, 8, 22, 23, 24, 26]), (24, []), (25, [5, 6, 8, 23, 24]), (26, [5, 6, 8, 23, 24, 27]), (27, [5, 6, 8, 23, 24, 27]), (28, [5, 6, 8, 23, 24, 27]), (29, [5, 6, 8, 23, 24, 27, 28]), (30, [5, 6, 8, 23, 24, 27, 28]), (31, [5, 6, 8, 23, 24, 27, 28]), (32, []), (33, [5, 8]), (34, [5, 8, 29, 30]), (35, [5, 8, 29, 30, 32]), (36, [30, 32]), (37, [5, 8, 29]), (38, [5, 8, 29, 33]), (39, [5, 8, 29, 33, 35, 36]), (40, []), (41, [5, 8, 29, 33, 35]), (42, [5, 8, 29, 33, 35, 288, 289]), (43, [5, 8, 29, 33, 35, 288, 289]), (44, [5, 8, 29, 33, 35, 37, 288, 289]), (45, []), (46, [5, 8, 29, 33, 35, 288, 289]), (47, [5, 8, 29, 33]), (48, []), (49, [5, 8, 33]), (50, [39, 40]), (51, [39, 40, 41]), (52, [39, 40, 41, 310, 311]), (53, [39, 40, 41, 310, 311]), (54, [39, 40, 41, 42, 310, 311]), (55, [39, 40, 41, 310, 311]), (56, [40, 41]), (1000026, [4, 5, 8, 297, 322]), (1000042, [4, 5, 8, 29, 33, 322]), (1000052, [40, 41])]),
  (28, .code c28 [.val, .val] [] [(4, none)] [(0, [0, 1]), (1, [0, 1])]),
  (29, .code c29 [.val, .val, .val] [] [(6, none)] [(0, [0, 1, 2]), (1, [0, 1, 2]), (2, []), (3, [0, 1, 2]), (4, [0, 1, 2]), (5, [1, 2])]),
  (30, .code c30 [.val, .val] [] [(4, none)] [(0, [0, 1]), (1, [0, 1]), (2, [1, 5])]),
  (33, .code c33 [.val, .val] [] [(4, none)] [(0, [0, 1]), (1, [0, 1])]),
  (34, .code c34 [.val, .val, .val] [] [(6, none)] [(0, [0, 1, 2]), (1, [0, 1, 2]), (2, [1, 2, 7]), (3, [1, 2, 7, 8]), (4, [1, 2, 7, 8]), (5, [1, 2, 7, 8]), (6, [8]), (1000003, [8])]),
  (44, .code c44 [.val, .val] [] [(4, none)] [(0, [0, 1]), (1, [0, 1]), (2, []), (3, [0, 1]), (4, [0, 1, 5]), (5, [0, 1, 5]), (6, [0, 1, 5]), (7, []), (8, []), (1000004, [4])]),
  (62, .code c62 [.val] [] [(2, some (true, 5))] [(0, [0]), (1, [0, 2]), (2, [2, 3])]),
  (63, .code c63 [.val, .val, .val] [] [(6, none), (7, none), (8, none)] [(0, [0, 1, 2]), (1, [1, 2, 3]), (2, []), (3, [1, 2, 3]), (4, [2, 3, 9]), (5, [2, 3, 9, 10]), (6, [2, 3, 9, 10, 33, 34, 35]), (7, [2, 3, 9, 10, 33, 34, 35]), (8, [2, 3, 9, 10, 12, 33, 34, 35]), (9, [2, 3, 10, 13, 14, 33, 34, 35]), (10, [2, 3, 9, 10, 13, 33, 34, 35]), (11, [2, 3, 9, 10, 33, 34, 35]), (12, [9, 10]), (1000006, [9, 10])]),
  (64, .code c64 [.val] [] [(2, none)] [(0, [0]), (1, [1])]),
  (65, .code c65 [.val, .val, .val] [] [(6, none), (7, none), (8, none)] [(0, [0, 1, 2]), (1, [1, 2, 3]), (2, []), (3, [1, 2, 3]), (4, [2, 3, 9]), (5, [2, 3, 9, 10]), (6, [2, 3, 9, 10, 34, 35, 36]), (7, [2, 3, 9, 10, 34, 35, 36]), (8, [2, 3, 9, 10, 12, 34, 35, 36]), (9, [2, 3, 10, 13, 14, 34, 35, 36]), (10, [2, 3, 9, 10, 13, 34, 35, 36]), (11, [2, 3, 9, 10, 34, 35, 36]), (12, [9, 10]), (1000006, [9, 10])]),
  (66, .code c66 [.val] [] [(2, none), (3, none)] [(0, [0]), (1, [0]), (2, []), (3, [0])]),
  (67, .code c67 [.val, .val] [] [(4, none), (5, none)] [(0, [0, 1]), (1, [1, 2]), (2, []), (3, [1, 2]), (4, [2, 6]), (5, [2, 6, 7]), (6, [2, 6, 7]), (7, [2, 6, 7]), (8, [7]), (9, [2, 6, 7]), (10, []), (1000005, [4, 5])]),
  (68, .code c68 [.val, .val] [] [(4, none), (5, none)] [(0, [0, 1]), (1, [1, 2]), (2, []), (3, [1, 2]), (4, [1, 2, 27, 28]), (5, [1, 2, 27, 28]), (6, [1, 2, 6, 27, 28]), (7, []), (8, [1, 2, 27, 28]), (9, [1, 2]), (10, [2, 7]), (11, [2, 7, 8]), (12, [2, 7, 8]), (13, [2, 7, 8]), (14, [8]), (15, [2, 7, 8]), (16, []), (1000004, [1, 2, 4, 5]), (1000011, [4, 5])]),
  (90, .code c90 [.val] [] [(2, none)] [(0, [0]), (1, [0])]),
  (91, .code c91 [.iop] [0] [(2, none)] [(0, [0]), (1, [0]), (2, [0, 3]), (3, [0, 3]), (4, [0, 3])]),
  (92, .code c92 [.val] [] [(2, none)] [(0, [0]), (1, [0])]),
  (93, .code c93 [.val, .val, .val] [] [(6, none)] [(0, [0, 1, 2]), (1, [0, 1, 2])]),
  (96, .ext (pF32bits)),
  (97, .code c97 [.iop, .val] [0] [(4, none)] [(0, [0, 1]), (1, [0, 1]), (2, [0]), (3, [0, 1]), (4, [0, 1, 5]), (5, [0, 1, 5]), (6, [0, 1, 5])]),
  (98, .code c98 [.iop, .val] [0] [(4, none)] [(0, [0, 1]), (1, [0, 1]), (2, [0, 1, 5]), (3, [0, 1, 5, 6]), (4, [0, 1, 5, 6]), (5, [0, 1, 5, 6]), (6, [0, 1, 5, 6]), (7, [0, 1, 5, 6]), (8, [0, 5]), (1000003, [0, 5])]),
  (106, .code c106 [.val, .val] [] [(4, none)] [(0, [0, 1]), (1, [0, 1])]),
  (108, .code c108 [.val] [] [(2, none)] [(0, [0]), (1, [0])]),
  (109, .code c109 [.val] [] [(2, none)] [(0, [0]), (1, [0])]),
  (112, .code c112 [.iop] [0] [(2, none)] [(0, [0]), (1, [0]), (2, [0]), (3, [0]), (4, [0, 10]), (5, [0]), (6, [0, 10]), (7, [0]), (8, [0, 3]), (9, [0, 10]), (10, [0]), (11, [0])]),
  (113, .code c113 [.val] [] [(2, none)] [(0, [0]), (1, [0])]),
  (130, .code c130 [.val, .val, .val] [] [(6, none)] [(0, [0, 1, 2]), (1, [0, 1, 2])]),
  (132, .code c132 [.iop] [0] [(2, some (true, 5))] [(0, [0]), (1, [0, 2]), (2, [0, 2, 3]), (3, [0, 2, 3]), (4, [0, 2, 3]), (5, [0, 2, 3]), (6, [0, 2, 3]), (7, [0, 2, 3]), (8, [0, 2, 3]), (9, [0, 2, 3])]),
  (133, .code c133 [.val, .val, .val] [] [(6, none), (7, none)] [(0, [0, 1, 2]), (1, [1, 2, 3]), (2, [1, 2, 3, 8])]),
  (134, .code c134 [.val] [] [(2, none)] [(0, [0]), (1, [0])]),
  (135, .code c135 [.val, .val, .val] [] [(6, none), (7, none)] [(0, [0, 1, 2]), (1, [1, 2, 3]), (2, [1, 2, 3, 8]), (3, [1, 3, 8, 9])]),
  (136, .code c136 [.val] [] [(2, none)] [(0, [0]), (1, [0])]),
  (137, .code c137 [.val] [] [(2, none)] [(0, [0]), (1, [0]), (2, [0, 5, 6, 7]), (3, [0, 5, 6, 7]), (4, [0, 4, 5, 6, 7]), (5, []), (6, [0, 5, 6, 7]), (7, []), (1000002, [2])]),
  (138, .code c138 [.val] [] [(2, none)] [(0, [0]), (1, [0]), (2, [0, 5, 6, 7]), (3, [0, 5, 6, 7]), (4, [0, 4, 5, 6, 7]), (5, []), (6, [0, 5, 6, 7]), (7, []), (1000002, [2])]),
  (139, .code c139 [.val] [] [(2, none)] [(0, [0]), (1, [0])]),
  (140, .code c140 [.val] [] [(2, none)] [(0, [0]), (1, [0])]),
  (141, .code c141 [.val] [] [(2, none)] [(0, [0]), (1, [0])]),
  (142, .code c142 [.val] [] [(2, none)] [(0, [0]), (1, [0]), (2, [0, 5, 6]), (3, [0, 5, 6]), (4, [0, 3, 5, 6]), (5, []), (6, [0, 5, 6]), (7, []), (1000002, [2])]),
  (143, .code c143 [.val, .io, .val] [1] [(6, none)] [(0, [0, 1, 2]), (1, [0, 1, 2]), (2, [0, 1, 2, 7]), (3, [0, 1, 2, 7, 8]), (4, [0, 1, 2, 7, 8]), (5, [0, 1, 2, 7, 8]), (6, [0, 1, 2, 7])]),
  (158, .code c158 [.iop, .val] [0] [(4, none)] [(0, [0, 1]), (1, [0, 1])]),
  (163, .code c163 [.iop] [0] [(2, none)] [(0, [0]), (1, [0]), (2, [0, 3]), (3, [0]), (4, [0, 3]), (5, [0, 3]), (6, [0, 3]), (7, [0, 3]), (8, [0])]),
  (165, .code c165 [.val] [] [(2, none)] [(0, [0]), (1, [0]), (2, []), (3, [0])]),
  (167, .code c167 [.val] [] [(2, none)] [(0, [0]), (1, [0])]),
  (168, .code c168 [.iop, .io] [0, 1] [(4, none)] [(0, [0, 1]), (1, [0, 1])]),
  (174, .code c174 [.val, .val] [] [(4, none)] [(0, [0, 1]), (1, [0, 1])]),
  (175, .code c175 [.val, .val] [] [(4, none)] [(0, [0, 1]), (1, [0, 1]), (2, [0]), (3, [0])]),
  (176, .code c176 [.val] [] [(2, none)] [(0, [0]), (1, [0]), (2, [0, 3]), (3, [3]), (4, [0])]),
  (177, .code c177 [.io, .val] [0] [] [(0, [0, 1]), (1, [0, 1, 4]), (2, [0, 1, 4]), (3, [0, 1, 4]), (4, [0, 1]), (1000001, [0, 1])]),
  (183, .ext (pF32frombits)),
  (188, .code c188 [.val] [] [(2, none)] [(0, [0]), (1, [0]), (2, [0]), (3, [0])]),
  (195, .code c195 [.val] [] [(2, none)] [(0, [0]), (1, [0])]),
  (196, .ext (pCopysign))]
noncomputable def E : Env := ⟨fun t => lookT tyTab t, lookF fnTab⟩
noncomputable def fdAt (n : Nat) : FD := match lookF fnTab n with
  | some d => d
  | none => .ext fun _ => none
noncomputable def keepAt (n : Nat) : List (Nat × List Nat) := match lookF fnTab n with
  | some d => d.keep
  | none => []
theorem tysOk : TysOk Try.prog E := tysOk_of (l := tyTab) (fun _ => rfl) (by kernel_rfl)
theorem ft11 : FnTab Try.prog E 11 (fdAt 11) := fnTab_code (c := c11) (modes := (fdAt 11).ms) (outs := (fdAt 11).os) (results := (fdAt 11).rs) (keep := (fdAt 11).keep) Try.func11 (by kernel_rfl) (by kernel_rfl) (by kernel_rfl)
theorem ft28 : FnTab Try.prog E 28 (fdAt 28) := fnTab_code (c := c28) (modes := (fdAt 28).ms) (outs := (fdAt 28).os) (results := (fdAt 28).rs) (keep := (fdAt 28).keep) Try.func28 (by kernel_rfl) (by kernel_rfl) (by kernel_rfl)
theorem ft29 : FnTab Try.prog E 29 (fdAt 29) := fnTab_code (c := c29) (modes := (fdAt 29).ms) (outs := (fdAt 29).os) (results := (fdAt 29).rs) (keep := (fdAt 29).keep) Try.func29 (by kernel_rfl) (by kernel_rfl) (by kernel_rfl)
theorem ft30 : FnTab Try.prog E 30 (fdAt 30) := fnTab_code (c := c30) (modes := (fdAt 30).ms) (outs := (fdAt 30).os) (results := (fdAt 30).rs) (keep := (fdAt 30).keep) Try.func30 (by kernel_rfl) (by kernel_rfl) (by kernel_rfl)
theorem ft33 : FnTab Try.prog E 33 (fdAt 33) := fnTab_code (c := c33) (modes := (fdAt 33).ms) (outs := (fdAt 33).os) (results := (fdAt 33).rs) (keep := (fdAt 33).keep) Try.func33 (by kernel_rfl) (by kernel_rfl) (by kernel_rfl)
theorem ft34 : FnTab Try.prog E 34 (fdAt 34) := fnTab_code (c := c34) (modes := (fdAt 34).ms) (outs := (fdAt 34).os) (results := (fdAt 34).rs) (keep := (fdAt 34).keep) Try.func34 (by kernel_rfl) (by kernel_rfl) (by kernel_rfl)
theorem ft44 : FnTab Try.prog E 44 (fdAt 44) := fnTab_code (c := c44) (modes := (fdAt 44).ms) (outs := (fdAt 44).os) (results := (fdAt 44).rs) (keep := (fdAt 44).keep) Try.func44 (by kernel_rfl) (by kernel_rfl) (by kernel_rfl)
theorem ft62 : FnTab Try.prog E 62 (fdAt 62) := fnTab_code (c := c62) (modes := (fdAt 62).ms) (outs := (fdAt 62).os) (results := (fdAt 62).rs) (keep := (fdAt 62).keep) Try.func62 (by kernel_rfl) (by kernel_rfl) (by kernel_rfl)
theorem ft63 : FnTab Try.prog E 63 (fdAt 63) := fnTab_code (c := c63) (modes := (fdAt 63).ms) (outs := (fdAt 63).os) (results := (fdAt 63).rs) (keep := (fdAt 63).keep) Try.func63 (by kernel_rfl) (by kernel_rfl) (by kernel_rfl)
theorem ft64 : FnTab Try.prog E 64 (fdAt 64) := fnTab_code (c := c64) (modes := (fdAt 64).ms) (outs := (fdAt 64).os) (results := (fdAt 64).rs) (keep := (fdAt 64).keep) Try.func64 (by kernel_rfl) (by kernel_rfl) (by kernel_rfl)
theorem ft65 : FnTab Try.prog E 65 (fdAt 65) := fnTab_code (c := c65) (modes := (fdAt 65).ms) (outs := (fdAt 65).os) (results := (fdAt 65).rs) (keep := (fdAt 65).keep) Try.func65 (by kernel_rfl) (by kernel_rfl) (by kernel_rfl)
theorem ft66 : FnTab Try.prog E 66 (fdAt 66) := fnTab_code (c := c66) (modes := (fdAt 66).ms) (outs := (fdAt 66).os) (results := (fdAt 66).rs) (keep := (fdAt 66).keep) Try.func66 (by kernel_rfl) (by kernel_rfl) (by kernel_rfl)
theorem ft67 : FnTab Try.prog E 67 (fdAt 67) := fnTab_code (c := c67) (modes := (fdAt 67).ms) (outs := (fdAt 67).os) (results := (fdAt 67).rs) (keep := (fdAt 67).keep) Try.func67 (by kernel_rfl) (by kernel_rfl) (by kernel_rfl)
theorem ft68 : FnTab Try.prog E 68 (fdAt 68) := fnTab_code (c := c68) (modes := (fdAt 68).ms) (outs := (fdAt 68).os) (results := (fdAt 68).rs) (keep := (fdAt 68).keep) Try.func68 (by kernel_rfl) (by kernel_rfl) (by kernel_rfl)
theorem ft90 : FnTab Try.prog E 90 (fdAt 90) := fnTab_code (c := c90) (modes := (fdAt 90).ms) (outs := (fdAt 90).os) (results := (fdAt 90).rs) (keep := (fdAt 90).keep) Try.func90 (by kernel_rfl) (by kernel_rfl) (by kernel_rfl)
theorem ft91 : FnTab Try.prog E 91 (fdAt 91) := fnTab_code (c := c91) (modes := (fdAt 91).ms) (outs := (fdAt 91).os) (results := (fdAt 91).rs) (keep := (fdAt 91).keep) Try.func91 (by kernel_rfl) (by kernel_rfl) (by kernel_rfl)
theorem ft92 : FnTab Try.prog E 92 (fdAt 92) := fnTab_code (c := c92) (modes := (fdAt 92).ms) (outs := (fdAt 92).os) (results := (fdAt 92).rs) (keep := (fdAt 92).keep) Try.func92 (by kernel_rfl) (by kernel_rfl) (by kernel_rfl)
theorem ft93 : FnTab Try.prog E 93 (fdAt 93) := fnTab_code (c := c93) (modes := (fdAt 93).ms) (outs := (fdAt 93).os) (results := (fdAt 93).rs) (keep := (fdAt 93).keep) Try.func93 (by kernel_rfl) (by kernel_rfl) (by kernel_rfl)
theorem ft96 : FnTab Try.prog E 96 (.ext (pF32bits)) := ext_pF32bits Try.func96 (by kernel_rfl) (by kernel_rfl) (by kernel_rfl) (by kernel_rfl)
theorem ft97 : FnTab Try.prog E 97 (fdAt 97) := fnTab_code (c := c97) (modes := (fdAt 97).ms) (outs := (fdAt 97).os) (results := (fdAt 97).rs) (keep := (fdAt 97).keep) Try.func97 (by kernel_rfl) (by kernel_rfl) (by kernel_rfl)
theorem ft98 : FnTab Try.prog E 98 (fdAt 98) := fnTab_code (c := c98) (modes := (fdAt 98).ms) (outs := (fdAt 98).os) (results := (fdAt 98).rs) (keep := (fdAt 98).keep) Try.func98 (by kernel_rfl) (by kernel_rfl) (by kernel_rfl)
theorem ft106 : FnTab Try.prog E 106 (fdAt 106) := fnTab_code (c := c106) (modes := (fdAt 106).ms) (outs := (fdAt 106).os) (results := (fdAt 106).rs) (keep := (fdAt 106).keep) Try.func106 (by kernel_rfl) (by kernel_rfl) (by kernel_rfl)
theorem ft108 : FnTab Try.prog E 108 (fdAt 108) := fnTab_code (c := c108) (modes := (fdAt 108).ms) (outs := (fdAt 108).os) (results := (fdAt 108).rs) (keep := (fdAt 108).keep) Try.func108 (by kernel_rfl) (by kernel_rfl) (by kernel_rfl)
theorem ft109 : FnTab Try.prog E 109 (fdAt 109) := fnTab_code (c := c109) (modes := (fdAt 109).ms) (outs := (fdAt 109).os) (results := (fdAt 109).rs) (keep := (fdAt 109).keep) Try.func109 (by kernel_rfl) (by kernel_rfl) (by kernel_rfl)
theorem ft112 : FnTab Try.prog E 112 (fdAt 112) := fnTab_code (c := c112) (modes := (fdAt 112).ms) (outs := (fdAt 112).os) (results := (fdAt 112).rs) (keep := (fdAt 112).keep) Try.func112 (by kernel_rfl) (by kernel_rfl) (by kernel_rfl)
theorem ft113 : FnTab Try.prog E 113 (fdAt 113) := fnTab_code (c := c113) (modes := (fdAt 113).ms) (outs := (fdAt 113).os) (results := (fdAt 113).rs) (keep := (fdAt 113).keep) Try.func113 (by kernel_rfl) (by kernel_rfl) (by kernel_rfl)
theorem ft130 : FnTab Try.prog E 130 (fdAt 130) := fnTab_code (c := c130) (modes := (fdAt 130).ms) (outs := (fdAt 130).os) (results := (fdAt 130).rs) (keep := (fdAt 130).keep) Try.func130 (by kernel_rfl) (by kernel_rfl) (by kernel_rfl)
theorem ft132 : FnTab Try.prog E 132 (fdAt 132) := fnTab_code (c := c132) (modes := (fdAt 132).ms) (outs := (fdAt 132).os) (results := (fdAt 132).rs) (keep := (fdAt 132).keep) Try.func132 (by kernel_rfl) (by kernel_rfl) (by kernel_rfl)
theorem ft133 : FnTab Try.prog E 133 (fdAt 133) := fnTab_code (c := c133) (modes := (fdAt 133).ms) (outs := (fdAt 133).os) (results := (fdAt 133).rs) (keep := (fdAt 133).keep) Try.func133 (by kernel_rfl) (by kernel_rfl) (by kernel_rfl)
theorem ft134 : FnTab Try.prog E 134 (fdAt 134) := fnTab_code (c := c134) (modes := (fdAt 134).ms) (outs := (fdAt 134).os) (results := (fdAt 134).rs) (keep := (fdAt 134).keep) Try.func134 (by kernel_rfl) (by kernel_rfl) (by kernel_rfl)
theorem ft135 : FnTab Try.prog E 135 (fdAt 135) := fnTab_code (c := c135) (modes := (fdAt 135).ms) (outs := (fdAt 135).os) (results := (fdAt 135).rs) (keep := (fdAt 135).keep) Try.func135 (by kernel_rfl) (by kernel_rfl) (by kernel_rfl)
theorem ft136 : FnTab Try.prog E 136 (fdAt 136) := fnTab_code (c := c136) (modes := (fdAt 136).ms) (outs := (fdAt 136).os) (results := (fdAt 136).rs) (keep := (fdAt 136).keep) Try.func136 (by kernel_rfl) (by kernel_rfl) (by kernel_rfl)
theorem ft137 : FnTab Try.prog E 137 (fdAt 137) := fnTab_code (c := c137) (modes := (fdAt 137).ms) (outs := (fdAt 137).os) (results := (fdAt 137).rs) (keep := (fdAt 137).keep) Try.func137 (by kernel_rfl) (by kernel_rfl) (by kernel_rfl)
theorem ft138 : FnTab Try.prog E 138 (fdAt 138) := fnTab_code (c := c138) (modes := (fdAt 138).ms) (outs := (fdAt 138).os) (results := (fdAt 138).rs) (keep := (fdAt 138).keep) Try.func138 (by kernel_rfl) (by kernel_rfl) (by kernel_rfl)
theorem ft139 : FnTab Try.prog E 139 (fdAt 139) := fnTab_code (c := c139) (modes := (fdAt 139).ms) (outs := (fdAt 139).os) (results := (fdAt 139).rs) (keep := (fdAt 139).keep) Try.func139 (by kernel_rfl) (by kernel_rfl) (by kernel_rfl)
theorem ft140 : FnTab Try.prog E 140 (fdAt 140) := fnTab_code (c := c140) (modes := (fdAt 140).ms) (outs := (fdAt 140).os) (results := (fdAt 140).rs) (keep := (fdAt 140).keep) Try.func140 (by kernel_rfl) (by kernel_rfl) (by kernel_rfl)
theorem ft141 : FnTab Try.prog E 141 (fdAt 141) := fnTab_code (c := c141) (modes := (fdAt 141).ms) (outs := (fdAt 141).os) (results := (fdAt 141).rs) (keep := (fdAt 141).keep) Try.func141 (by kernel_rfl) (by kernel_rfl) (by kernel_rfl)
theorem ft142 : FnTab Try.prog E 142 (fdAt 142) := fnTab_code (c := c142) (modes := (fdAt 142).ms) (outs := (fdAt 142).os) (results := (fdAt 142).rs) (keep := (fdAt 142).keep) Try.func142 (by kernel_rfl) (by kernel_rfl) (by kernel_rfl)
theorem ft143 : FnTab Try.prog E 143 (fdAt 143) := fnTab_code (c := c143) (modes := (fdAt 143).ms) (outs := (fdAt 143).os) (results := (fdAt 143).rs) (keep := (fdAt 143).keep) Try.func143 (by kernel_rfl) (by kernel_rfl) (by kernel_rfl)
theorem ft158 : FnTab Try.prog E 158 (fdAt 158) := fnTab_code (c := c158) (modes := (fdAt 158).ms) (outs := (fdAt 158).os) (results := (fdAt 158).rs) (keep := (fdAt 158).keep) Try.func158 (by kernel_rfl) (by kernel_rfl) (by kernel_rfl)
theorem ft163 : FnTab Try.prog E 163 (fdAt 163) := fnTab_code (c := c163) (modes := (fdAt 163).ms) (outs := (fdAt 163).os) (results := (fdAt 163).rs) (keep := (fdAt 163).keep) Try.func163 (by kernel_rfl) (by kernel_rfl) (by kernel_rfl)
theorem ft165 : FnTab Try.prog E 165 (fdAt 165) := fnTab_code (c := c165) (modes := (fdAt 165).ms) (outs := (fdAt 165).os) (results := (fdAt 165).rs) (keep := (fdAt 165).keep) Try.func165 (by kernel_rfl) (by kernel_rfl) (by kernel_rfl)
theorem ft167 : FnTab Try.prog E 167 (fdAt 167) := fnTab_code (c := c167) (modes := (fdAt 167).ms) (outs := (fdAt 167).os) (results := (fdAt 167).rs) (keep := (fdAt 167).keep) Try.func167 (by kernel_rfl) (by kernel_rfl) (by kernel_rfl)
theorem ft168 : FnTab Try.prog E 168 (fdAt 168) := fnTab_code (c := c168) (modes := (fdAt 168).ms) (outs := (fdAt 168).os) (results := (fdAt 168).rs) (keep := (fdAt 168).keep) Try.func168 (by kernel_rfl) (by kernel_rfl) (by kernel_rfl)
theorem ft174 : FnTab Try.prog E 174 (fdAt 174) := fnTab_code (c := c174) (modes := (fdAt 174).ms) (outs := (fdAt 174).os) (results := (fdAt 174).rs) (keep := (fdAt 174).keep) Try.func174 (by kernel_rfl) (by kernel_rfl) (by kernel_rfl)
theorem ft175 : FnTab Try.prog E 175 (fdAt 175) := fnTab_code (c := c175) (modes := (fdAt 175).ms) (outs := (fdAt 175).os) (results := (fdAt 175).rs) (keep := (fdAt 175).keep) Try.func175 (by kernel_rfl) (by kernel_rfl) (by kernel_rfl)
theorem ft176 : FnTab Try.prog E 176 (fdAt 176) := fnTab_code (c := c176) (modes := (fdAt 176).ms) (outs := (fdAt 176).os) (results := (fdAt 176).rs) (keep := (fdAt 176).keep) Try.func176 (by kernel_rfl) (by kernel_rfl) (by kernel_rfl)
theorem ft177 : FnTab Try.prog E 177 (fdAt 177) := fnTab_code (c := c177) (modes := (fdAt 177).ms) (outs := (fdAt 177).os) (results := (fdAt 177).rs) (keep := (fdAt 177).keep) Try.func177 (by kernel_rfl) (by kernel_rfl) (by kernel_rfl)
theorem ft183 : FnTab Try.prog E 183 (.ext (pF32frombits)) := ext_pF32frombits Try.func183 (by kernel_rfl) (by kernel_rfl) (by kernel_rfl) (by kernel_rfl)
theorem ft188 : FnTab Try.prog E 188 (fdAt 188) := fnTab_code (c := c188) (modes := (fdAt 188).ms) (outs := (fdAt 188).os) (results := (fdAt 188).rs) (keep := (fdAt 188).keep) Try.func188 (by kernel_rfl) (by kernel_rfl) (by kernel_rfl)
theorem ft195 : FnTab Try.prog E 195 (fdAt 195) := fnTab_code (c := c195) (modes := (fdAt 195).ms) (outs := (fdAt 195).os) (results := (fdAt 195).rs) (keep := (fdAt 195).keep) Try.func195 (by kernel_rfl) (by kernel_rfl) (by kernel_rfl)
theorem ft196 : FnTab Try.prog E 196 (.ext (pCopysign)) := DC.signOk
theorem allFns : AllFns Try.prog E fnTab := .cons ft11 (.cons ft28 (.cons ft29 (.cons ft30 (.cons ft33 (.cons ft34 (.cons ft44 (.cons ft62 (.cons ft63 (.cons ft64 (.cons ft65 (.cons ft66 (.cons ft67 (.cons ft68 (.cons ft90 (.cons ft91 (.cons ft92 (.cons ft93 (.cons ft96 (.cons ft97 (.cons ft98 (.cons ft106 (.cons ft108 (.cons ft109 (.cons ft112 (.cons ft113 (.cons ft130 (.cons ft132 (.cons ft133 (.cons ft134 (.cons ft135 (.cons ft136 (.cons ft137 (.cons ft138 (.cons ft139 (.cons ft140 (.cons ft141 (.cons ft142 (.cons ft143 (.cons ft158 (.cons ft163 (.cons ft165 (.cons ft167 (.cons ft168 (.cons ft174 (.cons ft175 (.cons ft176 (.cons ft177 (.cons ft183 (.cons ft188 (.cons ft195 (.cons ft196 (.nil))))))))))))))))))))))))))))))))))))))))))))))))))))
theorem fnOk : ∀ f fd, E.fn f = some fd → FnTab Try.prog E f fd := fnTab_of (l := fnTab) (fun _ => rfl) allFns
end Go.Proofs.Ytjkhhalnlodinaa.D
end
section
/- Plain functions for the law's Go functions, each tied to the reading by the kernel (printed by a program of this workplace). -/
namespace Go.Proofs.Ytjkhhalnlodinaa.D
open Go Go.Desk
set_option linter.unusedVariables false
noncomputable def x183.w : FnW E := xF32frombits.w 183 (by kernel_rfl)

noncomputable def x96.w : FnW E := xF32bits.w 96 (by kernel_rfl)

noncomputable def x196.w : FnW E := xCopysign.w 196 (by kernel_rfl)

def f28_l_b10Long : Nat → Nat → List T → Nat → List T → Option (Bool)
  | 0, _, _, _, _ => none
  | n + 1, n1, l2, n3, l4 =>
    br (decide (((n1 : Nat) : Int) > (1048576 : Int))) (
     some true) (
     some (decide (((n3 : Nat) : Int) > (1048576 : Int))))
def sg_ll : Sig (Nat × List T × Nat × List T) where
  pk := fun v => [.lst v.1 v.2.1, .lst v.2.2.1 v.2.2.2]
  up := fun ls => match ls with
    | [.lst a0 a1, .lst a2 a3] => some (a0, a1, a2, a3)
    | _ => none
  ok := by
    intro ls v h
    split at h
    · cases h; rfl
    · cases h

def sg_b : Sig (Bool) where
  pk := fun v => [.bool v]
  up := fun ls => match ls with
    | [.bool a0] => some a0
    | _ => none
  ok := by
    intro ls v h
    split at h
    · cases h; rfl
    · cases h

def f28_l_b10Long.P : List Arg := [⟨.val, ⟨false, [.sl .shr [.leaf]], [.lst 0 []]⟩⟩, ⟨.val, ⟨false, [.sl .shr [.leaf]], [.lst 0 []]⟩⟩]
def f28_l_b10Long.A : RAlt (Bool) := .one ⟨[⟨false, [.leaf], [.bool false]⟩], [none, none]⟩ sg_b
def f28_l_b10Long.F (n : Nat) (v : Nat × List T × Nat × List T) := f28_l_b10Long n v.1 v.2.1 v.2.2.1 v.2.2.2
noncomputable def f28_l_b10Long.O (n : Nat) : Orc := orcOf (E := E) [] [] n
theorem f28_l_b10Long.ok : ∀ n v x, f28_l_b10Long.F n v = some x → evalFn E n 28 (flAs f28_l_b10Long.P (sg_ll.pk v)) = some (f28_l_b10Long.A.enc x) :=
  fn_pure (modes := (fdAt 28).ms) (outs := (fdAt 28).os) (results := (fdAt 28).rs) f28_l_b10Long.O (c := c28) (keep := keepAt 28) (by kernel_rfl) (fun n => orcOf_cf _ _ n) (fun n => lpOk_of (bs := []) (by kernel_rfl) .nil) (fun _ => rfl) (fun _ _ => by kernel_rfl)
noncomputable def f28_l_b10Long.w : FnW E := fnW 28 f28_l_b10Long.P sg_ll f28_l_b10Long.A f28_l_b10Long.F f28_l_b10Long.ok

def f90_s_l00From : Nat → Nat → List T → Option (Nat × List T × Int × Int)
  | 0, _, _ => none
  | n + 1, n1, l2 =>
    some (n1, l2, (0 : Int), (0 : Int))
def sg_l : Sig (Nat × List T) where
  pk := fun v => [.lst v.1 v.2]
  up := fun ls => match ls with
    | [.lst a0 a1] => some (a0, a1)
    | _ => none
  ok := by
    intro ls v h
    split at h
    · cases h; rfl
    · cases h

def sg_lii : Sig (Nat × List T × Int × Int) where
  pk := fun v => [.lst v.1 v.2.1, .int v.2.2.1, .int v.2.2.2]
  up := fun ls => match ls with
    | [.lst a0 a1, .int a2, .int a3] => some (a0, a1, a2, a3)
    | _ => none
  ok := by
    intro ls v h
    split at h
    · cases h; rfl
    · cases h

def f90_s_l00From.P : List Arg := [⟨.val, ⟨false, [.sl .shr [.leaf]], [.lst 0 []]⟩⟩]
def f90_s_l00From.A : RAlt (Nat × List T × Int × Int) := .one ⟨[⟨false, [.rf .own [.sl .shr [.leaf], .leaf, .leaf]], [.ref [.lst 0 [], .int .i64 0, .int .u64 0]]⟩], [none]⟩ sg_lii
def f90_s_l00From.F (n : Nat) (v : Nat × List T) := f90_s_l00From n v.1 v.2
noncomputable def f90_s_l00From.O (n : Nat) : Orc := orcOf (E := E) [] [] n
theorem f90_s_l00From.ok : ∀ n v x, f90_s_l00From.F n v = some x → evalFn E n 90 (flAs f90_s_l00From.P (sg_l.pk v)) = some (f90_s_l00From.A.enc x) :=
  fn_pure (modes := (fdAt 90).ms) (outs := (fdAt 90).os) (results := (fdAt 90).rs) f90_s_l00From.O (c := c90) (keep := keepAt 90) (by kernel_rfl) (fun n => orcOf_cf _ _ n) (fun n => lpOk_of (bs := []) (by kernel_rfl) .nil) (fun _ => rfl) (fun _ _ => by kernel_rfl)
noncomputable def f90_s_l00From.w : FnW E := fnW 90 f90_s_l00From.P sg_l f90_s_l00From.A f90_s_l00From.F f90_s_l00From.ok

def f163_s_l00Srcnext : Nat → Nat → List T → Int → Int → Option (Int × Nat × List T × Int × Int)
  | 0, _, _, _, _ => none
  | n + 1, n1, l2, i3, i4 =>
    br (decide (i3 < ((n1 : Nat) : Int))) (
     gd ((decide (((0 : Int) ≤ i3) ∧ (i3 < ((n1 : Nat) : Int)))) && (okAt [(CK.int IntKind.u8)] l2 (Int.toNat i3))) (
     let i5 : Int := (IntKind.i64.wrap (iAt l2 (Int.toNat i3)))
     let i6 : Int := (IntKind.i64.wrap (i3 + (1 : Int)))
     let i7 : Int := (IntKind.u64.wrap ((IntKind.u64.wrap ((IntKind.u64.wrap (i4 * (6364136223846793005 : Int))) + (IntKind.u64.wrap i5))) + (1442695040888963407 : Int)))
     br (decide (i6 ≤ ((n1 : Nat) : Int))) (
      some (i5, n1, l2, i6, i7)) (
      some ((IntKind.i64.wrap (intBits BinOp.and IntKind.u64 (Int.fdiv i7 (1099511627776 : Int)) (255 : Int))), n1, l2, i6, i7)))) (
     let i8 : Int := (IntKind.i64.wrap (i3 + (1 : Int)))
     let i9 : Int := (IntKind.u64.wrap ((IntKind.u64.wrap ((IntKind.u64.wrap (i4 * (6364136223846793005 : Int))) + (0 : Int))) + (1442695040888963407 : Int)))
     br (decide (i8 ≤ ((n1 : Nat) : Int))) (
      some ((0 : Int), n1, l2, i8, i9)) (
      some ((IntKind.i64.wrap (intBits BinOp.and IntKind.u64 (Int.fdiv i9 (1099511627776 : Int)) (255 : Int))), n1, l2, i8, i9)))
def sg_ilii : Sig (Int × Nat × List T × Int × Int) where
  pk := fun v => [.int v.1, .lst v.2.1 v.2.2.1, .int v.2.2.2.1, .int v.2.2.2.2]
  up := fun ls => match ls with
    | [.int a0, .lst a1 a2, .int a3, .int a4] => some (a0, a1, a2, a3, a4)
    | _ => none
  ok := by
    intro ls v h
    split at h
    · cases h; rfl
    · cases h

def f163_s_l00Srcnext.P : List Arg := [⟨.iop, ⟨false, [.rf .own [.sl .shr [.leaf], .leaf, .leaf]], [.ref [.lst 0 [], .int .i64 0, .int .u64 0]]⟩⟩]
def f163_s_l00Srcnext.A : RAlt (Int × Nat × List T × Int × Int) := .one ⟨[⟨false, [.leaf], [.int .i64 0]⟩], [some ⟨false, [.rf .own [.sl .shr [.leaf], .leaf, .leaf]], [.ref [.lst 0 [], .int .i64 0, .int .u64 0]]⟩]⟩ sg_ilii
def f163_s_l00Srcnext.F (n : Nat) (v : Nat × List T × Int × Int) := f163_s_l00Srcnext n v.1 v.2.1 v.2.2.1 v.2.2.2
noncomputable def f163_s_l00Srcnext.O (n : Nat) : Orc := orcOf (E := E) [] [] n
theorem f163_s_l00Srcnext.ok : ∀ n v x, f163_s_l00Srcnext.F n v = some x → evalFn E n 163 (flAs f163_s_l00Srcnext.P (sg_lii.pk v)) = some (f163_s_l00Srcnext.A.enc x) :=
  fn_pure (modes := (fdAt 163).ms) (outs := (fdAt 163).os) (results := (fdAt 163).rs) f163_s_l00Srcnext.O (c := c163) (keep := keepAt 163) (by kernel_rfl) (fun n => orcOf_cf _ _ n) (fun n => lpOk_of (bs := []) (by kernel_rfl) .nil) (fun _ => rfl) (fun _ _ => by kernel_rfl)
noncomputable def f163_s_l00Srcnext.w : FnW E := fnW 163 f163_s_l00Srcnext.P sg_lii f163_s_l00Srcnext.A f163_s_l00Srcnext.F f163_s_l00Srcnext.ok

def f97_s_l00Srcpick : Nat → Nat → List T → Int → Int → Int → Option (Int × Nat × List T × Int × Int)
  | 0, _, _, _, _, _ => none
  | n + 1, n1, l2, i3, i4, i5 =>
    br (decide (i5 ≤ (1 : Int))) (
     some ((0 : Int), n1, l2, i3, i4)) (
     bd (f163_s_l00Srcnext n n1 l2 i3 i4) fun r6 =>
     let i7 : Int := r6.1
     let n8 : Nat := r6.2.1
     let l9 : List T := r6.2.2.1
     let i10 : Int := r6.2.2.2.1
     let i11 : Int := r6.2.2.2.2
     br (decide (i5 > (200 : Int))) (
      bd (f163_s_l00Srcnext n n8 l9 i10 i11) fun r12 =>
      let i13 : Int := r12.1
      let n14 : Nat := r12.2.1
      let l15 : List T := r12.2.2.1
      let i16 : Int := r12.2.2.2.1
      let i17 : Int := r12.2.2.2.2
      let i18 : Int := (IntKind.i64.wrap ((IntKind.i64.wrap (i7 * (256 : Int))) + i13))
      gd (!(decide (i5 = (0 : Int)))) (
      some ((Int.tmod i18 i5), n14, l15, i16, i17))) (
      gd (!(decide (i5 = (0 : Int)))) (
      some ((Int.tmod i7 i5), n8, l9, i10, i11))))
def sg_liii : Sig (Nat × List T × Int × Int × Int) where
  pk := fun v => [.lst v.1 v.2.1, .int v.2.2.1, .int v.2.2.2.1, .int v.2.2.2.2]
  up := fun ls => match ls with
    | [.lst a0 a1, .int a2, .int a3, .int a4] => some (a0, a1, a2, a3, a4)
    | _ => none
  ok := by
    intro ls v h
    split at h
    · cases h; rfl
    · cases h

def f97_s_l00Srcpick.P : List Arg := [⟨.iop, ⟨false, [.rf .own [.sl .shr [.leaf], .leaf, .leaf]], [.ref [.lst 0 [], .int .i64 0, .int .u64 0]]⟩⟩, ⟨.val, ⟨false, [.leaf], [.int .i64 0]⟩⟩]
def f97_s_l00Srcpick.A : RAlt (Int × Nat × List T × Int × Int) := .one ⟨[⟨false, [.leaf], [.int .i64 0]⟩], [some ⟨false, [.rf .own [.sl .shr [.leaf], .leaf, .leaf]], [.ref [.lst 0 [], .int .i64 0, .int .u64 0]]⟩, none]⟩ sg_ilii
def f97_s_l00Srcpick.F (n : Nat) (v : Nat × List T × Int × Int × Int) := f97_s_l00Srcpick n v.1 v.2.1 v.2.2.1 v.2.2.2.1 v.2.2.2.2
noncomputable def f97_s_l00Srcpick.O (n : Nat) : Orc := orcOf (E := E) [f163_s_l00Srcnext.w] [] n
theorem f97_s_l00Srcpick.ok : ∀ n v x, f97_s_l00Srcpick.F n v = some x → evalFn E n 97 (flAs f97_s_l00Srcpick.P (sg_liii.pk v)) = some (f97_s_l00Srcpick.A.enc x) :=
  fn_pure (modes := (fdAt 97).ms) (outs := (fdAt 97).os) (results := (fdAt 97).rs) f97_s_l00Srcpick.O (c := c97) (keep := keepAt 97) (by kernel_rfl) (fun n => orcOf_cf _ _ n) (fun n => lpOk_of (bs := []) (by kernel_rfl) .nil) (fun _ => rfl) (fun _ _ => by kernel_rfl)
noncomputable def f97_s_l00Srcpick.w : FnW E := fnW 97 f97_s_l00Srcpick.P sg_liii f97_s_l00Srcpick.A f97_s_l00Srcpick.F f97_s_l00Srcpick.ok

def f158_s_l00Srcone : Nat → Nat → List T → Int → Int → Int → Option (Bool × Nat × List T × Int × Int)
  | 0, _, _, _, _, _ => none
  | n + 1, n1, l2, i3, i4, i5 =>
    bd (f97_s_l00Srcpick n n1 l2 i3 i4 i5) fun r6 =>
    let i7 : Int := r6.1
    let n8 : Nat := r6.2.1
    let l9 : List T := r6.2.2.1
    let i10 : Int := r6.2.2.2.1
    let i11 : Int := r6.2.2.2.2
    some ((i7 == (0 : Int)), n8, l9, i10, i11)
def sg_blii : Sig (Bool × Nat × List T × Int × Int) where
  pk := fun v => [.bool v.1, .lst v.2.1 v.2.2.1, .int v.2.2.2.1, .int v.2.2.2.2]
  up := fun ls => match ls with
    | [.bool a0, .lst a1 a2, .int a3, .int a4] => some (a0, a1, a2, a3, a4)
    | _ => none
  ok := by
    intro ls v h
    split at h
    · cases h; rfl
    · cases h

def f158_s_l00Srcone.P : List Arg := [⟨.iop, ⟨false, [.rf .own [.sl .shr [.leaf], .leaf, .leaf]], [.ref [.lst 0 [], .int .i64 0, .int .u64 0]]⟩⟩, ⟨.val, ⟨false, [.leaf], [.int .i64 0]⟩⟩]
def f158_s_l00Srcone.A : RAlt (Bool × Nat × List T × Int × Int) := .one ⟨[⟨false, [.leaf], [.bool false]⟩], [some ⟨false, [.rf .own [.sl .shr [.leaf], .leaf, .leaf]], [.ref [.lst 0 [], .int .i64 0, .int .u64 0]]⟩, none]⟩ sg_blii
def f158_s_l00Srcone.F (n : Nat) (v : Nat × List T × Int × Int × Int) := f158_s_l00Srcone n v.1 v.2.1 v.2.2.1 v.2.2.2.1 v.2.2.2.2
noncomputable def f158_s_l00Srcone.O (n : Nat) : Orc := orcOf (E := E) [f97_s_l00Srcpick.w] [] n
theorem f158_s_l00Srcone.ok : ∀ n v x, f158_s_l00Srcone.F n v = some x → evalFn E n 158 (flAs f158_s_l00Srcone.P (sg_liii.pk v)) = some (f158_s_l00Srcone.A.enc x) :=
  fn_pure (modes := (fdAt 158).ms) (outs := (fdAt 158).os) (results := (fdAt 158).rs) f158_s_l00Srcone.O (c := c158) (keep := keepAt 158) (by kernel_rfl) (fun n => orcOf_cf _ _ n) (fun n => lpOk_of (bs := []) (by kernel_rfl) .nil) (fun _ => rfl) (fun _ _ => by kernel_rfl)
noncomputable def f158_s_l00Srcone.w : FnW E := fnW 158 f158_s_l00Srcone.P sg_liii f158_s_l00Srcone.A f158_s_l00Srcone.F f158_s_l00Srcone.ok

def f91_s_l01DrawPlain : Nat → Nat → List T → Int → Int → Option (Nat × Nat × List T × Int × Int)
  | 0, _, _, _, _ => none
  | n + 1, n1, l2, i3, i4 =>
    bd (f97_s_l00Srcpick n n1 l2 i3 i4 (129 : Int)) fun r5 =>
    let i6 : Int := r5.1
    let n7 : Nat := r5.2.1
    let l8 : List T := r5.2.2.1
    let i9 : Int := r5.2.2.2.1
    let i10 : Int := r5.2.2.2.2
    let i11 : Int := (IntKind.i64.wrap (i6 - (64 : Int)))
    bd (f158_s_l00Srcone n n7 l8 i9 i10 (4 : Int)) fun r12 =>
    let b13 : Bool := r12.1
    let n14 : Nat := r12.2.1
    let l15 : List T := r12.2.2.1
    let i16 : Int := r12.2.2.2.1
    let i17 : Int := r12.2.2.2.2
    br b13 (
     some ((fdiv FloatKind.f32 (FloatKind.nearest FloatKind.f32 i11) 1088421888), n14, l15, i16, i17)) (
     some ((fdiv FloatKind.f32 (FloatKind.nearest FloatKind.f32 i11) 1098907648), n14, l15, i16, i17))
def sg_flii : Sig (Nat × Nat × List T × Int × Int) where
  pk := fun v => [.flt v.1, .lst v.2.1 v.2.2.1, .int v.2.2.2.1, .int v.2.2.2.2]
  up := fun ls => match ls with
    | [.flt a0, .lst a1 a2, .int a3, .int a4] => some (a0, a1, a2, a3, a4)
    | _ => none
  ok := by
    intro ls v h
    split at h
    · cases h; rfl
    · cases h

def f91_s_l01DrawPlain.P : List Arg := [⟨.iop, ⟨false, [.rf .own [.sl .shr [.leaf], .leaf, .leaf]], [.ref [.lst 0 [], .int .i64 0, .int .u64 0]]⟩⟩]
def f91_s_l01DrawPlain.A : RAlt (Nat × Nat × List T × Int × Int) := .one ⟨[⟨false, [.leaf], [.flt .f32 0]⟩], [some ⟨false, [.rf .own [.sl .shr [.leaf], .leaf, .leaf]], [.ref [.lst 0 [], .int .i64 0, .int .u64 0]]⟩]⟩ sg_flii
def f91_s_l01DrawPlain.F (n : Nat) (v : Nat × List T × Int × Int) := f91_s_l01DrawPlain n v.1 v.2.1 v.2.2.1 v.2.2.2
noncomputable def f91_s_l01DrawPlain.O (n : Nat) : Orc := orcOf (E := E) [f97_s_l00Srcpick.w, f158_s_l00Srcone.w] [] n
theorem f91_s_l01DrawPlain.ok : ∀ n v x, f91_s_l01DrawPlain.F n v = some x → evalFn E n 91 (flAs f91_s_l01DrawPlain.P (sg_lii.pk v)) = some (f91_s_l01DrawPlain.A.enc x) :=
  fn_pure (modes := (fdAt 91).ms) (outs := (fdAt 91).os) (results := (fdAt 91).rs) f91_s_l01DrawPlain.O (c := c91) (keep := keepAt 91) (by kernel_rfl) (fun n => orcOf_cf _ _ n) (fun n => lpOk_of (bs := []) (by kernel_rfl) .nil) (fun _ => rfl) (fun _ _ => by kernel_rfl)
noncomputable def f91_s_l01DrawPlain.w : FnW E := fnW 91 f91_s_l01DrawPlain.P sg_lii f91_s_l01DrawPlain.A f91_s_l01DrawPlain.F f91_s_l01DrawPlain.ok

def f168_s_l00Srcamong : Nat → Nat → List T → Int → Int → Nat → List T → Option (Int × Nat × List T × Int × Int × Nat × List T)
  | 0, _, _, _, _, _, _ => none
  | n + 1, n1, l2, i3, i4, n5, l6 =>
    bd (f97_s_l00Srcpick n n1 l2 i3 i4 ((n5 : Nat) : Int)) fun r7 =>
    let i8 : Int := r7.1
    let n9 : Nat := r7.2.1
    let l10 : List T := r7.2.2.1
    let i11 : Int := r7.2.2.2.1
    let i12 : Int := r7.2.2.2.2
    gd (decide (((0 : Int) ≤ i8) ∧ (i8 < ((n5 : Nat) : Int)))) (
    gd (okAt [(CK.int IntKind.i64)] l6 (Int.toNat i8)) (
    some ((iAt l6 (Int.toNat i8)), n9, l10, i11, i12, n5, l6)))
def sg_liil : Sig (Nat × List T × Int × Int × Nat × List T) where
  pk := fun v => [.lst v.1 v.2.1, .int v.2.2.1, .int v.2.2.2.1, .lst v.2.2.2.2.1 v.2.2.2.2.2]
  up := fun ls => match ls with
    | [.lst a0 a1, .int a2, .int a3, .lst a4 a5] => some (a0, a1, a2, a3, a4, a5)
    | _ => none
  ok := by
    intro ls v h
    split at h
    · cases h; rfl
    · cases h

def sg_iliil : Sig (Int × Nat × List T × Int × Int × Nat × List T) where
  pk := fun v => [.int v.1, .lst v.2.1 v.2.2.1, .int v.2.2.2.1, .int v.2.2.2.2.1, .lst v.2.2.2.2.2.1 v.2.2.2.2.2.2]
  up := fun ls => match ls with
    | [.int a0, .lst a1 a2, .int a3, .int a4, .lst a5 a6] => some (a0, a1, a2, a3, a4, a5, a6)
    | _ => none
  ok := by
    intro ls v h
    split at h
    · cases h; rfl
    · cases h

def f168_s_l00Srcamong.P : List Arg := [⟨.iop, ⟨false, [.rf .own [.sl .shr [.leaf], .leaf, .leaf]], [.ref [.lst 0 [], .int .i64 0, .int .u64 0]]⟩⟩, ⟨.io, ⟨false, [.sl .own [.leaf]], [.lst 0 []]⟩⟩]
def f168_s_l00Srcamong.A : RAlt (Int × Nat × List T × Int × Int × Nat × List T) := .one ⟨[⟨false, [.leaf], [.int .i64 0]⟩], [some ⟨false, [.rf .own [.sl .shr [.leaf], .leaf, .leaf]], [.ref [.lst 0 [], .int .i64 0, .int .u64 0]]⟩, some ⟨false, [.sl .own [.leaf]], [.lst 0 []]⟩]⟩ sg_iliil
def f168_s_l00Srcamong.F (n : Nat) (v : Nat × List T × Int × Int × Nat × List T) := f168_s_l00Srcamong n v.1 v.2.1 v.2.2.1 v.2.2.2.1 v.2.2.2.2.1 v.2.2.2.2.2
noncomputable def f168_s_l00Srcamong.O (n : Nat) : Orc := orcOf (E := E) [f97_s_l00Srcpick.w] [] n
theorem f168_s_l00Srcamong.ok : ∀ n v x, f168_s_l00Srcamong.F n v = some x → evalFn E n 168 (flAs f168_s_l00Srcamong.P (sg_liil.pk v)) = some (f168_s_l00Srcamong.A.enc x) :=
  fn_pure (modes := (fdAt 168).ms) (outs := (fdAt 168).os) (results := (fdAt 168).rs) f168_s_l00Srcamong.O (c := c168) (keep := keepAt 168) (by kernel_rfl) (fun n => orcOf_cf _ _ n) (fun n => lpOk_of (bs := []) (by kernel_rfl) .nil) (fun _ => rfl) (fun _ _ => by kernel_rfl)
noncomputable def f168_s_l00Srcamong.w : FnW E := fnW 168 f168_s_l00Srcamong.P sg_liil f168_s_l00Srcamong.A f168_s_l00Srcamong.F f168_s_l00Srcamong.ok

def f167_s_l01From : Nat → Int → Option (Nat)
  | 0, _ => none
  | n + 1, i1 =>
    bd (xF32frombits n (IntKind.u32.wrap i1)) fun r2 =>
    let x3 : Nat := r2
    some x3
def sg_i : Sig (Int) where
  pk := fun v => [.int v]
  up := fun ls => match ls with
    | [.int a0] => some a0
    | _ => none
  ok := by
    intro ls v h
    split at h
    · cases h; rfl
    · cases h

def sg_f : Sig (Nat) where
  pk := fun v => [.flt v]
  up := fun ls => match ls with
    | [.flt a0] => some a0
    | _ => none
  ok := by
    intro ls v h
    split at h
    · cases h; rfl
    · cases h

def f167_s_l01From.P : List Arg := [⟨.val, ⟨false, [.leaf], [.int .i64 0]⟩⟩]
def f167_s_l01From.A : RAlt (Nat) := .one ⟨[⟨false, [.leaf], [.flt .f32 0]⟩], [none]⟩ sg_f
def f167_s_l01From.F (n : Nat) (v : Int) := f167_s_l01From n v
noncomputable def f167_s_l01From.O (n : Nat) : Orc := orcOf (E := E) [x183.w] [] n
theorem f167_s_l01From.ok : ∀ n v x, f167_s_l01From.F n v = some x → evalFn E n 167 (flAs f167_s_l01From.P (sg_i.pk v)) = some (f167_s_l01From.A.enc x) :=
  fn_pure (modes := (fdAt 167).ms) (outs := (fdAt 167).os) (results := (fdAt 167).rs) f167_s_l01From.O (c := c167) (keep := keepAt 167) (by kernel_rfl) (fun n => orcOf_cf _ _ n) (fun n => lpOk_of (bs := []) (by kernel_rfl) .nil) (fun _ => rfl) (fun _ _ => by kernel_rfl)
noncomputable def f167_s_l01From.w : FnW E := fnW 167 f167_s_l01From.P sg_i f167_s_l01From.A f167_s_l01From.F f167_s_l01From.ok

def f112_s_l01DrawFloat : Nat → Nat → List T → Int → Int → Option (Nat × Nat × List T × Int × Int)
  | 0, _, _, _, _ => none
  | n + 1, n1, l2, i3, i4 =>
    bd (f158_s_l00Srcone n n1 l2 i3 i4 (12 : Int)) fun r5 =>
    let b6 : Bool := r5.1
    let n7 : Nat := r5.2.1
    let l8 : List T := r5.2.2.1
    let i9 : Int := r5.2.2.2.1
    let i10 : Int := r5.2.2.2.2
    br (!b6) (
     bd (f91_s_l01DrawPlain n n7 l8 i9 i10) fun r11 =>
     let x12 : Nat := r11.1
     let n13 : Nat := r11.2.1
     let l14 : List T := r11.2.2.1
     let i15 : Int := r11.2.2.2.1
     let i16 : Int := r11.2.2.2.2
     some (x12, n13, l14, i15, i16)) (
     bd (f97_s_l00Srcpick n n7 l8 i9 i10 (4 : Int)) fun r17 =>
     let i18 : Int := r17.1
     let n19 : Nat := r17.2.1
     let l20 : List T := r17.2.2.1
     let i21 : Int := r17.2.2.2.1
     let i22 : Int := r17.2.2.2.2
     br (i18 == (0 : Int)) (
      bd (f168_s_l00Srcamong n n19 l20 i21 i22 10 (setN (setN (setN (setN (setN (setN (setN (setN (setN (setN (reps 10 [(T.int IntKind.i64 (0 : Int))]) 0 [(T.int IntKind.i64 (0 : Int))]) 1 [(T.int IntKind.i64 (2147483648 : Int))]) 2 [(T.int IntKind.i64 (2139095040 : Int))]) 3 [(T.int IntKind.i64 (4286578688 : Int))]) 4 [(T.int IntKind.i64 (2143289344 : Int))]) 5 [(T.int IntKind.i64 (1 : Int))]) 6 [(T.int IntKind.i64 (2139095039 : Int))]) 7 [(T.int IntKind.i64 (8388608 : Int))]) 8 [(T.int IntKind.i64 (8388607 : Int))]) 9 [(T.int IntKind.i64 (2147483649 : Int))])) fun r23 =>
      let i24 : Int := r23.1
      let n25 : Nat := r23.2.1
      let l26 : List T := r23.2.2.1
      let i27 : Int := r23.2.2.2.1
      let i28 : Int := r23.2.2.2.2.1
      let n29 : Nat := r23.2.2.2.2.2.1
      let l30 : List T := r23.2.2.2.2.2.2
      bd (f167_s_l01From n i24) fun r31 =>
      let x32 : Nat := r31
      some (x32, n25, l26, i27, i28)) (
      br (i18 == (1 : Int)) (
       bd (f97_s_l00Srcpick n n19 l20 i21 i22 (65536 : Int)) fun r33 =>
       let i34 : Int := r33.1
       let n35 : Nat := r33.2.1
       let l36 : List T := r33.2.2.1
       let i37 : Int := r33.2.2.2.1
       let i38 : Int := r33.2.2.2.2
       let i39 : Int := (IntKind.i64.wrap (i34 * (65536 : Int)))
       bd (f97_s_l00Srcpick n n35 l36 i37 i38 (65536 : Int)) fun r40 =>
       let i41 : Int := r40.1
       let n42 : Nat := r40.2.1
       let l43 : List T := r40.2.2.1
       let i44 : Int := r40.2.2.2.1
       let i45 : Int := r40.2.2.2.2
       bd (f167_s_l01From n (IntKind.i64.wrap (i39 + i41))) fun r46 =>
       let x47 : Nat := r46
       some (x47, n42, l43, i44, i45)) (
       br (i18 == (2 : Int)) (
        bd (f97_s_l00Srcpick n n19 l20 i21 i22 (65536 : Int)) fun r48 =>
        let i49 : Int := r48.1
        let n50 : Nat := r48.2.1
        let l51 : List T := r48.2.2.1
        let i52 : Int := r48.2.2.2.1
        let i53 : Int := r48.2.2.2.2
        bd (f167_s_l01From n (IntKind.i64.wrap (i49 * (65536 : Int)))) fun r54 =>
        let x55 : Nat := r54
        some (x55, n50, l51, i52, i53)) (
        bd (f91_s_l01DrawPlain n n19 l20 i21 i22) fun r56 =>
        let x57 : Nat := r56.1
        let n58 : Nat := r56.2.1
        let l59 : List T := r56.2.2.1
        let i60 : Int := r56.2.2.2.1
        let i61 : Int := r56.2.2.2.2
        bd (f168_s_l00Srcamong n n58 l59 i60 i61 4 (setN (setN (setN (setN (reps 4 [(T.int IntKind.i64 (0 : Int))]) 0 [(T.int IntKind.i64 (8388608 : Int))]) 1 [(T.int IntKind.i64 (2130706432 : Int))]) 2 [(T.int IntKind.i64 (1610612736 : Int))]) 3 [(T.int IntKind.i64 (536870912 : Int))])) fun r62 =>
        let i63 : Int := r62.1
        let n64 : Nat := r62.2.1
        let l65 : List T := r62.2.2.1
        let i66 : Int := r62.2.2.2.1
        let i67 : Int := r62.2.2.2.2.1
        let n68 : Nat := r62.2.2.2.2.2.1
        let l69 : List T := r62.2.2.2.2.2.2
        bd (f167_s_l01From n i63) fun r70 =>
        let x71 : Nat := r70
        some ((fmul FloatKind.f32 x57 x71), n64, l65, i66, i67)))))
def f112_s_l01DrawFloat.P : List Arg := [⟨.iop, ⟨false, [.rf .own [.sl .shr [.leaf], .leaf, .leaf]], [.ref [.lst 0 [], .int .i64 0, .int .u64 0]]⟩⟩]
def f112_s_l01DrawFloat.A : RAlt (Nat × Nat × List T × Int × Int) := .one ⟨[⟨false, [.leaf], [.flt .f32 0]⟩], [some ⟨false, [.rf .own [.sl .shr [.leaf], .leaf, .leaf]], [.ref [.lst 0 [], .int .i64 0, .int .u64 0]]⟩]⟩ sg_flii
def f112_s_l01DrawFloat.F (n : Nat) (v : Nat × List T × Int × Int) := f112_s_l01DrawFloat n v.1 v.2.1 v.2.2.1 v.2.2.2
noncomputable def f112_s_l01DrawFloat.O (n : Nat) : Orc := orcOf (E := E) [f97_s_l00Srcpick.w, f158_s_l00Srcone.w, f91_s_l01DrawPlain.w, f168_s_l00Srcamong.w, f167_s_l01From.w] [] n
theorem f112_s_l01DrawFloat.ok : ∀ n v x, f112_s_l01DrawFloat.F n v = some x → evalFn E n 112 (flAs f112_s_l01DrawFloat.P (sg_lii.pk v)) = some (f112_s_l01DrawFloat.A.enc x) :=
  fn_pure (modes := (fdAt 112).ms) (outs := (fdAt 112).os) (results := (fdAt 112).rs) f112_s_l01DrawFloat.O (c := c112) (keep := keepAt 112) (by kernel_rfl) (fun n => orcOf_cf _ _ n) (fun n => lpOk_of (bs := []) (by kernel_rfl) .nil) (fun _ => rfl) (fun _ _ => by kernel_rfl)
noncomputable def f112_s_l01DrawFloat.w : FnW E := fnW 112 f112_s_l01DrawFloat.P sg_lii f112_s_l01DrawFloat.A f112_s_l01DrawFloat.F f112_s_l01DrawFloat.ok

def f132_s_l03DrawDelay : Nat → Nat → List T → Int → Int → Option (Int × Nat × Nat × Nat × Bool × Nat × List T × Int × Int)
  | 0, _, _, _, _ => none
  | n + 1, n1, l2, i3, i4 =>
    bd (f97_s_l00Srcpick n n1 l2 i3 i4 (8 : Int)) fun r5 =>
    let i6 : Int := r5.1
    let n7 : Nat := r5.2.1
    let l8 : List T := r5.2.2.1
    let i9 : Int := r5.2.2.2.1
    let i10 : Int := r5.2.2.2.2
    bd (f158_s_l00Srcone n n7 l8 i9 i10 (2 : Int)) fun r11 =>
    let b12 : Bool := r11.1
    let n13 : Nat := r11.2.1
    let l14 : List T := r11.2.2.1
    let i15 : Int := r11.2.2.2.1
    let i16 : Int := r11.2.2.2.2
    let i17 : Int := (IntKind.i64.wrap ((1 : Int) + i6))
    bd (f158_s_l00Srcone n n13 l14 i15 i16 (12 : Int)) fun r18 =>
    let b19 : Bool := r18.1
    let n20 : Nat := r18.2.1
    let l21 : List T := r18.2.2.1
    let i22 : Int := r18.2.2.2.1
    let i23 : Int := r18.2.2.2.2
    br b19 (
     bd (f97_s_l00Srcpick n n20 l21 i22 i23 (33 : Int)) fun r24 =>
     let i25 : Int := r24.1
     let n26 : Nat := r24.2.1
     let l27 : List T := r24.2.2.1
     let i28 : Int := r24.2.2.2.1
     let i29 : Int := r24.2.2.2.2
     let x30 : Nat := (fdiv FloatKind.f32 (FloatKind.nearest FloatKind.f32 (IntKind.i64.wrap (i25 - (16 : Int)))) 1098907648)
     bd (f97_s_l00Srcpick n n26 l27 i28 i29 (17 : Int)) fun r31 =>
     let i32 : Int := r31.1
     let n33 : Nat := r31.2.1
     let l34 : List T := r31.2.2.1
     let i35 : Int := r31.2.2.2.1
     let i36 : Int := r31.2.2.2.2
     let x37 : Nat := (fdiv FloatKind.f32 (FloatKind.nearest FloatKind.f32 i32) 1098907648)
     bd (f97_s_l00Srcpick n n33 l34 i35 i36 (17 : Int)) fun r38 =>
     let i39 : Int := r38.1
     let n40 : Nat := r38.2.1
     let l41 : List T := r38.2.2.1
     let i42 : Int := r38.2.2.2.1
     let i43 : Int := r38.2.2.2.2
     let x44 : Nat := (fdiv FloatKind.f32 (FloatKind.nearest FloatKind.f32 i39) 1098907648)
     bd (f158_s_l00Srcone n n40 l41 i42 i43 (10 : Int)) fun r45 =>
     let b46 : Bool := r45.1
     let n47 : Nat := r45.2.1
     let l48 : List T := r45.2.2.1
     let i49 : Int := r45.2.2.2.1
     let i50 : Int := r45.2.2.2.2
     br b46 (
      bd (f112_s_l01DrawFloat n n47 l48 i49 i50) fun r51 =>
      let x52 : Nat := r51.1
      let n53 : Nat := r51.2.1
      let l54 : List T := r51.2.2.1
      let i55 : Int := r51.2.2.2.1
      let i56 : Int := r51.2.2.2.2
      some ((64 : Int), x52, x37, x44, b12, n53, l54, i55, i56)) (
      some ((64 : Int), x30, x37, x44, b12, n47, l48, i49, i50))) (
     bd (f97_s_l00Srcpick n n20 l21 i22 i23 (33 : Int)) fun r57 =>
     let i58 : Int := r57.1
     let n59 : Nat := r57.2.1
     let l60 : List T := r57.2.2.1
     let i61 : Int := r57.2.2.2.1
     let i62 : Int := r57.2.2.2.2
     let x63 : Nat := (fdiv FloatKind.f32 (FloatKind.nearest FloatKind.f32 (IntKind.i64.wrap (i58 - (16 : Int)))) 1098907648)
     bd (f97_s_l00Srcpick n n59 l60 i61 i62 (17 : Int)) fun r64 =>
     let i65 : Int := r64.1
     let n66 : Nat := r64.2.1
     let l67 : List T := r64.2.2.1
     let i68 : Int := r64.2.2.2.1
     let i69 : Int := r64.2.2.2.2
     let x70 : Nat := (fdiv FloatKind.f32 (FloatKind.nearest FloatKind.f32 i65) 1098907648)
     bd (f97_s_l00Srcpick n n66 l67 i68 i69 (17 : Int)) fun r71 =>
     let i72 : Int := r71.1
     let n73 : Nat := r71.2.1
     let l74 : List T := r71.2.2.1
     let i75 : Int := r71.2.2.2.1
     let i76 : Int := r71.2.2.2.2
     let x77 : Nat := (fdiv FloatKind.f32 (FloatKind.nearest FloatKind.f32 i72) 1098907648)
     bd (f158_s_l00Srcone n n73 l74 i75 i76 (10 : Int)) fun r78 =>
     let b79 : Bool := r78.1
     let n80 : Nat := r78.2.1
     let l81 : List T := r78.2.2.1
     let i82 : Int := r78.2.2.2.1
     let i83 : Int := r78.2.2.2.2
     br b79 (
      bd (f112_s_l01DrawFloat n n80 l81 i82 i83) fun r84 =>
      let x85 : Nat := r84.1
      let n86 : Nat := r84.2.1
      let l87 : List T := r84.2.2.1
      let i88 : Int := r84.2.2.2.1
      let i89 : Int := r84.2.2.2.2
      some (i17, x85, x70, x77, b12, n86, l87, i88, i89)) (
      some (i17, x63, x70, x77, b12, n80, l81, i82, i83)))
def sg_ifffblii : Sig (Int × Nat × Nat × Nat × Bool × Nat × List T × Int × Int) where
  pk := fun v => [.int v.1, .flt v.2.1, .flt v.2.2.1, .flt v.2.2.2.1, .bool v.2.2.2.2.1, .lst v.2.2.2.2.2.1 v.2.2.2.2.2.2.1, .int v.2.2.2.2.2.2.2.1, .int v.2.2.2.2.2.2.2.2]
  up := fun ls => match ls with
    | [.int a0, .flt a1, .flt a2, .flt a3, .bool a4, .lst a5 a6, .int a7, .int a8] => some (a0, a1, a2, a3, a4, a5, a6, a7, a8)
    | _ => none
  ok := by
    intro ls v h
    split at h
    · cases h; rfl
    · cases h

def f132_s_l03DrawDelay.P : List Arg := [⟨.iop, ⟨false, [.rf .own [.sl .shr [.leaf], .leaf, .leaf]], [.ref [.lst 0 [], .int .i64 0, .int .u64 0]]⟩⟩]
def f132_s_l03DrawDelay.A : RAlt (Int × Nat × Nat × Nat × Bool × Nat × List T × Int × Int) := .one ⟨[⟨true, [.leaf, .leaf, .leaf, .leaf, .leaf], [.int .i64 0, .flt .f32 0, .flt .f32 0, .flt .f32 0, .bool false]⟩], [some ⟨false, [.rf .own [.sl .shr [.leaf], .leaf, .leaf]], [.ref [.lst 0 [], .int .i64 0, .int .u64 0]]⟩]⟩ sg_ifffblii
def f132_s_l03DrawDelay.F (n : Nat) (v : Nat × List T × Int × Int) := f132_s_l03DrawDelay n v.1 v.2.1 v.2.2.1 v.2.2.2
noncomputable def f132_s_l03DrawDelay.O (n : Nat) : Orc := orcOf (E := E) [f97_s_l00Srcpick.w, f158_s_l00Srcone.w, f112_s_l01DrawFloat.w] [] n
theorem f132_s_l03DrawDelay.ok : ∀ n v x, f132_s_l03DrawDelay.F n v = some x → evalFn E n 132 (flAs f132_s_l03DrawDelay.P (sg_lii.pk v)) = some (f132_s_l03DrawDelay.A.enc x) :=
  fn_pure (modes := (fdAt 132).ms) (outs := (fdAt 132).os) (results := (fdAt 132).rs) f132_s_l03DrawDelay.O (c := c132) (keep := keepAt 132) (by kernel_rfl) (fun n => orcOf_cf _ _ n) (fun n => lpOk_of (bs := []) (by kernel_rfl) .nil) (fun _ => rfl) (fun _ _ => by kernel_rfl)
noncomputable def f132_s_l03DrawDelay.w : FnW E := fnW 132 f132_s_l03DrawDelay.P sg_lii f132_s_l03DrawDelay.A f132_s_l03DrawDelay.F f132_s_l03DrawDelay.ok

def f62_s_B10Delay : Nat → Nat → List T → Option (Int × Nat × Nat × Nat × Bool)
  | 0, _, _ => none
  | n + 1, n1, l2 =>
    bd (f90_s_l00From n n1 l2) fun r3 =>
    let n4 : Nat := r3.1
    let l5 : List T := r3.2.1
    let i6 : Int := r3.2.2.1
    let i7 : Int := r3.2.2.2
    bd (f132_s_l03DrawDelay n n4 l5 i6 i7) fun r8 =>
    let i9 : Int := r8.1
    let x10 : Nat := r8.2.1
    let x11 : Nat := r8.2.2.1
    let x12 : Nat := r8.2.2.2.1
    let b13 : Bool := r8.2.2.2.2.1
    let n14 : Nat := r8.2.2.2.2.2.1
    let l15 : List T := r8.2.2.2.2.2.2.1
    let i16 : Int := r8.2.2.2.2.2.2.2.1
    let i17 : Int := r8.2.2.2.2.2.2.2.2
    some (i9, x10, x11, x12, b13)
def sg_ifffb : Sig (Int × Nat × Nat × Nat × Bool) where
  pk := fun v => [.int v.1, .flt v.2.1, .flt v.2.2.1, .flt v.2.2.2.1, .bool v.2.2.2.2]
  up := fun ls => match ls with
    | [.int a0, .flt a1, .flt a2, .flt a3, .bool a4] => some (a0, a1, a2, a3, a4)
    | _ => none
  ok := by
    intro ls v h
    split at h
    · cases h; rfl
    · cases h

def f62_s_B10Delay.P : List Arg := [⟨.val, ⟨false, [.sl .shr [.leaf]], [.lst 0 []]⟩⟩]
def f62_s_B10Delay.A : RAlt (Int × Nat × Nat × Nat × Bool) := .one ⟨[⟨true, [.leaf, .leaf, .leaf, .leaf, .leaf], [.int .i64 0, .flt .f32 0, .flt .f32 0, .flt .f32 0, .bool false]⟩], [none]⟩ sg_ifffb
def f62_s_B10Delay.F (n : Nat) (v : Nat × List T) := f62_s_B10Delay n v.1 v.2
noncomputable def f62_s_B10Delay.O (n : Nat) : Orc := orcOf (E := E) [f90_s_l00From.w, f132_s_l03DrawDelay.w] [] n
theorem f62_s_B10Delay.ok : ∀ n v x, f62_s_B10Delay.F n v = some x → evalFn E n 62 (flAs f62_s_B10Delay.P (sg_l.pk v)) = some (f62_s_B10Delay.A.enc x) :=
  fn_pure (modes := (fdAt 62).ms) (outs := (fdAt 62).os) (results := (fdAt 62).rs) f62_s_B10Delay.O (c := c62) (keep := keepAt 62) (by kernel_rfl) (fun n => orcOf_cf _ _ n) (fun n => lpOk_of (bs := []) (by kernel_rfl) .nil) (fun _ => rfl) (fun _ _ => by kernel_rfl)
noncomputable def f62_s_B10Delay.w : FnW E := fnW 62 f62_s_B10Delay.P sg_l f62_s_B10Delay.A f62_s_B10Delay.F f62_s_B10Delay.ok

def f29_l_b10At : Nat → Nat → List T → Int → Int → Option (Int)
  | 0, _, _, _, _ => none
  | n + 1, n1, l2, i3, i4 =>
    br (decide (i4 ≤ (1 : Int))) (
     some (0 : Int)) (
     br (decide (i3 < ((n1 : Nat) : Int))) (
      gd ((decide (((0 : Int) ≤ i3) ∧ (i3 < ((n1 : Nat) : Int)))) && (okAt [(CK.int IntKind.u8)] l2 (Int.toNat i3))) (
      gd (!(decide (i4 = (0 : Int)))) (
      some (Int.tmod (IntKind.i64.wrap (iAt l2 (Int.toNat i3))) i4)))) (
      gd (!(decide (i4 = (0 : Int)))) (
      some (Int.tmod (IntKind.i64.wrap ((IntKind.i64.wrap (i3 * (37 : Int))) + (11 : Int))) i4))))
def f29_l_b10At.P : List Arg := [⟨.val, ⟨false, [.sl .shr [.leaf]], [.lst 0 []]⟩⟩, ⟨.val, ⟨false, [.leaf], [.int .i64 0]⟩⟩, ⟨.val, ⟨false, [.leaf], [.int .i64 0]⟩⟩]
def f29_l_b10At.A : RAlt (Int) := .one ⟨[⟨false, [.leaf], [.int .i64 0]⟩], [none, none, none]⟩ sg_i
def f29_l_b10At.F (n : Nat) (v : Nat × List T × Int × Int) := f29_l_b10At n v.1 v.2.1 v.2.2.1 v.2.2.2
noncomputable def f29_l_b10At.O (n : Nat) : Orc := orcOf (E := E) [] [] n
theorem f29_l_b10At.ok : ∀ n v x, f29_l_b10At.F n v = some x → evalFn E n 29 (flAs f29_l_b10At.P (sg_lii.pk v)) = some (f29_l_b10At.A.enc x) :=
  fn_pure (modes := (fdAt 29).ms) (outs := (fdAt 29).os) (results := (fdAt 29).rs) f29_l_b10At.O (c := c29) (keep := keepAt 29) (by kernel_rfl) (fun n => orcOf_cf _ _ n) (fun n => lpOk_of (bs := []) (by kernel_rfl) .nil) (fun _ => rfl) (fun _ _ => by kernel_rfl)
noncomputable def f29_l_b10At.w : FnW E := fnW 29 f29_l_b10At.P sg_lii f29_l_b10At.A f29_l_b10At.F f29_l_b10At.ok

def f98_s_l01DrawFloats.l0 (n : Nat) : Nat → Nat → List T → Int → Int → Int → Nat → List T → Bool → Option (Nat × List T × Int × Int × Nat × List T)
  | 0, _, _, _, _, _, _, _, _ => none
  | m + 1, n1, l2, i3, i4, i5, n6, l7, b8 =>
    br (decide (i5 > (0 : Int))) (
     br b8 (
      bd (f112_s_l01DrawFloat n n1 l2 i3 i4) fun r9 =>
      let x10 : Nat := r9.1
      let n11 : Nat := r9.2.1
      let l12 : List T := r9.2.2.1
      let i13 : Int := r9.2.2.2.1
      let i14 : Int := r9.2.2.2.2
      gd (Nat.ble (n6 + 1) 2147483648) (
      let n15 : Nat := (n6 + 1)
      let l16 : List T := (l7 ++ (setN (reps 1 [(T.flt FloatKind.f32 0)]) 0 [(T.flt FloatKind.f32 x10)]))
      f98_s_l01DrawFloats.l0 n m n11 l12 i13 i14 (IntKind.i64.wrap (i5 - (1 : Int))) n15 l16 b8)) (
      bd (f91_s_l01DrawPlain n n1 l2 i3 i4) fun r17 =>
      let x18 : Nat := r17.1
      let n19 : Nat := r17.2.1
      let l20 : List T := r17.2.2.1
      let i21 : Int := r17.2.2.2.1
      let i22 : Int := r17.2.2.2.2
      gd (Nat.ble (n6 + 1) 2147483648) (
      let n23 : Nat := (n6 + 1)
      let l24 : List T := (l7 ++ (setN (reps 1 [(T.flt FloatKind.f32 0)]) 0 [(T.flt FloatKind.f32 x18)]))
      f98_s_l01DrawFloats.l0 n m n19 l20 i21 i22 (IntKind.i64.wrap (i5 - (1 : Int))) n23 l24 b8))) (
     some (n1, l2, i3, i4, n6, l7))
def f98_s_l01DrawFloats : Nat → Nat → List T → Int → Int → Int → Option (Nat × List T × Nat × List T × Int × Int)
  | 0, _, _, _, _, _ => none
  | n + 1, n1, l2, i3, i4, i5 =>
    bd (f158_s_l00Srcone n n1 l2 i3 i4 (4 : Int)) fun r6 =>
    let b7 : Bool := r6.1
    let n8 : Nat := r6.2.1
    let l9 : List T := r6.2.2.1
    let i10 : Int := r6.2.2.2.1
    let i11 : Int := r6.2.2.2.2
    bd (f98_s_l01DrawFloats.l0 n n n8 l9 i10 i11 i5 0 (reps 0 [(T.flt FloatKind.f32 0)]) b7) fun r12 =>
    let n13 : Nat := r12.1
    let l14 : List T := r12.2.1
    let i15 : Int := r12.2.2.1
    let i16 : Int := r12.2.2.2.1
    let n17 : Nat := r12.2.2.2.2.1
    let l18 : List T := r12.2.2.2.2.2
    some (n17, l18, n13, l14, i15, i16)
def sg_llii : Sig (Nat × List T × Nat × List T × Int × Int) where
  pk := fun v => [.lst v.1 v.2.1, .lst v.2.2.1 v.2.2.2.1, .int v.2.2.2.2.1, .int v.2.2.2.2.2]
  up := fun ls => match ls with
    | [.lst a0 a1, .lst a2 a3, .int a4, .int a5] => some (a0, a1, a2, a3, a4, a5)
    | _ => none
  ok := by
    intro ls v h
    split at h
    · cases h; rfl
    · cases h

def sg_liiilb : Sig (Nat × List T × Int × Int × Int × Nat × List T × Bool) where
  pk := fun v => [.lst v.1 v.2.1, .int v.2.2.1, .int v.2.2.2.1, .int v.2.2.2.2.1, .lst v.2.2.2.2.2.1 v.2.2.2.2.2.2.1, .bool v.2.2.2.2.2.2.2]
  up := fun ls => match ls with
    | [.lst a0 a1, .int a2, .int a3, .int a4, .lst a5 a6, .bool a7] => some (a0, a1, a2, a3, a4, a5, a6, a7)
    | _ => none
  ok := by
    intro ls v h
    split at h
    · cases h; rfl
    · cases h

def f98_s_l01DrawFloats.l0.P : AS := ⟨[(0, .box [.sl .shr [.leaf], .leaf, .leaf] [.lst 0 [], .int .i64 0, .int .u64 0] [] 0), (1, .val false [.leaf] [.int .i64 0] [] 0), (5, .val false [.sl .own [.leaf]] [.lst 0 []] [] 0), (6, .val false [.leaf] [.bool false] [] 0)], 0⟩
def f98_s_l01DrawFloats.l0.A : Alt (Nat × List T × Int × Int × Nat × List T) := .one (.exit 0) ⟨[(0, .box [.sl .shr [.leaf], .leaf, .leaf] [.lst 0 [], .int .i64 0, .int .u64 0] [] 0), (5, .val false [.sl .own [.leaf]] [.lst 0 []] [] 0)], 0⟩ sg_liil
def f98_s_l01DrawFloats.l0.F (n m : Nat) (v : Nat × List T × Int × Int × Int × Nat × List T × Bool) := f98_s_l01DrawFloats.l0 n m v.1 v.2.1 v.2.2.1 v.2.2.2.1 v.2.2.2.2.1 v.2.2.2.2.2.1 v.2.2.2.2.2.2.1 v.2.2.2.2.2.2.2
def f98_s_l01DrawFloats.l0.W (n : Nat) : LpW := .of 48 f98_s_l01DrawFloats.l0.P sg_liiilb f98_s_l01DrawFloats.l0.A (f98_s_l01DrawFloats.l0.F n n)
def f98_s_l01DrawFloats.P : List Arg := [⟨.iop, ⟨false, [.rf .own [.sl .shr [.leaf], .leaf, .leaf]], [.ref [.lst 0 [], .int .i64 0, .int .u64 0]]⟩⟩, ⟨.val, ⟨false, [.leaf], [.int .i64 0]⟩⟩]
def f98_s_l01DrawFloats.A : RAlt (Nat × List T × Nat × List T × Int × Int) := .one ⟨[⟨false, [.sl .own [.leaf]], [.lst 0 []]⟩], [some ⟨false, [.rf .own [.sl .shr [.leaf], .leaf, .leaf]], [.ref [.lst 0 [], .int .i64 0, .int .u64 0]]⟩, none]⟩ sg_llii
def f98_s_l01DrawFloats.F (n : Nat) (v : Nat × List T × Int × Int × Int) := f98_s_l01DrawFloats n v.1 v.2.1 v.2.2.1 v.2.2.2.1 v.2.2.2.2
noncomputable def f98_s_l01DrawFloats.O (n : Nat) : Orc := orcOf (E := E) [f158_s_l00Srcone.w, f91_s_l01DrawPlain.w, f112_s_l01DrawFloat.w] [f98_s_l01DrawFloats.l0.W n] n
theorem f98_s_l01DrawFloats.l0.ok (n : Nat) : LpOk (f98_s_l01DrawFloats.O n) E (evalFn E n) n (keepAt 98) (.loop (loopAt c98 0)) :=
  lp_pure f98_s_l01DrawFloats.l0.P sg_liiilb f98_s_l01DrawFloats.l0.A (f98_s_l01DrawFloats.l0.F n) (orcOf_cf _ _ n) (lpOk_of (bs := []) (by kernel_rfl) .nil) (fun _ => rfl) (fun _ _ => by kernel_rfl) (fun _ _ _ => by kernel_rfl)
theorem f98_s_l01DrawFloats.ok : ∀ n v x, f98_s_l01DrawFloats.F n v = some x → evalFn E n 98 (flAs f98_s_l01DrawFloats.P (sg_liii.pk v)) = some (f98_s_l01DrawFloats.A.enc x) :=
  fn_pure (modes := (fdAt 98).ms) (outs := (fdAt 98).os) (results := (fdAt 98).rs) f98_s_l01DrawFloats.O (c := c98) (keep := keepAt 98) (by kernel_rfl) (fun n => orcOf_cf _ _ n) (fun n => lpOk_of (bs := [loopAt c98 0]) (by kernel_rfl) (.cons (f98_s_l01DrawFloats.l0.ok n) .nil)) (fun _ => rfl) (fun _ _ => by kernel_rfl)
noncomputable def f98_s_l01DrawFloats.w : FnW E := fnW 98 f98_s_l01DrawFloats.P sg_liii f98_s_l01DrawFloats.A f98_s_l01DrawFloats.F f98_s_l01DrawFloats.ok

def f30_s_B10Numbers : Nat → Nat → List T → Int → Option (Nat × List T)
  | 0, _, _, _ => none
  | n + 1, n1, l2, i3 =>
    bd (f90_s_l00From n n1 l2) fun r4 =>
    let n5 : Nat := r4.1
    let l6 : List T := r4.2.1
    let i7 : Int := r4.2.2.1
    let i8 : Int := r4.2.2.2
    bd (f98_s_l01DrawFloats n n5 l6 i7 i8 i3) fun r9 =>
    let n10 : Nat := r9.1
    let l11 : List T := r9.2.1
    let n12 : Nat := r9.2.2.1
    let l13 : List T := r9.2.2.2.1
    let i14 : Int := r9.2.2.2.2.1
    let i15 : Int := r9.2.2.2.2.2
    some (n10, l11)
def sg_li : Sig (Nat × List T × Int) where
  pk := fun v => [.lst v.1 v.2.1, .int v.2.2]
  up := fun ls => match ls with
    | [.lst a0 a1, .int a2] => some (a0, a1, a2)
    | _ => none
  ok := by
    intro ls v h
    split at h
    · cases h; rfl
    · cases h

def f30_s_B10Numbers.P : List Arg := [⟨.val, ⟨false, [.sl .shr [.leaf]], [.lst 0 []]⟩⟩, ⟨.val, ⟨false, [.leaf], [.int .i64 0]⟩⟩]
def f30_s_B10Numbers.A : RAlt (Nat × List T) := .one ⟨[⟨false, [.sl .own [.leaf]], [.lst 0 []]⟩], [none, none]⟩ sg_l
def f30_s_B10Numbers.F (n : Nat) (v : Nat × List T × Int) := f30_s_B10Numbers n v.1 v.2.1 v.2.2
noncomputable def f30_s_B10Numbers.O (n : Nat) : Orc := orcOf (E := E) [f90_s_l00From.w, f98_s_l01DrawFloats.w] [] n
theorem f30_s_B10Numbers.ok : ∀ n v x, f30_s_B10Numbers.F n v = some x → evalFn E n 30 (flAs f30_s_B10Numbers.P (sg_li.pk v)) = some (f30_s_B10Numbers.A.enc x) :=
  fn_pure (modes := (fdAt 30).ms) (outs := (fdAt 30).os) (results := (fdAt 30).rs) f30_s_B10Numbers.O (c := c30) (keep := keepAt 30) (by kernel_rfl) (fun n => orcOf_cf _ _ n) (fun n => lpOk_of (bs := []) (by kernel_rfl) .nil) (fun _ => rfl) (fun _ _ => by kernel_rfl)
noncomputable def f30_s_B10Numbers.w : FnW E := fnW 30 f30_s_B10Numbers.P sg_li f30_s_B10Numbers.A f30_s_B10Numbers.F f30_s_B10Numbers.ok

def f93_i_within : Nat → Int → Int → Int → Option (Bool)
  | 0, _, _, _ => none
  | n + 1, i1, i2, i3 =>
    br (decide (i2 ≤ i1)) (
     some (decide (i1 ≤ i3))) (
     some false)
def sg_iii : Sig (Int × Int × Int) where
  pk := fun v => [.int v.1, .int v.2.1, .int v.2.2]
  up := fun ls => match ls with
    | [.int a0, .int a1, .int a2] => some (a0, a1, a2)
    | _ => none
  ok := by
    intro ls v h
    split at h
    · cases h; rfl
    · cases h

def f93_i_within.P : List Arg := [⟨.val, ⟨false, [.leaf], [.int .i64 0]⟩⟩, ⟨.val, ⟨false, [.leaf], [.int .i64 0]⟩⟩, ⟨.val, ⟨false, [.leaf], [.int .i64 0]⟩⟩]
def f93_i_within.A : RAlt (Bool) := .one ⟨[⟨false, [.leaf], [.bool false]⟩], [none, none, none]⟩ sg_b
def f93_i_within.F (n : Nat) (v : Int × Int × Int) := f93_i_within n v.1 v.2.1 v.2.2
noncomputable def f93_i_within.O (n : Nat) : Orc := orcOf (E := E) [] [] n
theorem f93_i_within.ok : ∀ n v x, f93_i_within.F n v = some x → evalFn E n 93 (flAs f93_i_within.P (sg_iii.pk v)) = some (f93_i_within.A.enc x) :=
  fn_pure (modes := (fdAt 93).ms) (outs := (fdAt 93).os) (results := (fdAt 93).rs) f93_i_within.O (c := c93) (keep := keepAt 93) (by kernel_rfl) (fun n => orcOf_cf _ _ n) (fun n => lpOk_of (bs := []) (by kernel_rfl) .nil) (fun _ => rfl) (fun _ _ => by kernel_rfl)
noncomputable def f93_i_within.w : FnW E := fnW 93 f93_i_within.P sg_iii f93_i_within.A f93_i_within.F f93_i_within.ok

def f134_i_isLength : Nat → Int → Option (Bool)
  | 0, _ => none
  | n + 1, i1 =>
    bd (f93_i_within n i1 (1 : Int) (64 : Int)) fun r2 =>
    let b3 : Bool := r2
    some b3
def f134_i_isLength.P : List Arg := [⟨.val, ⟨false, [.leaf], [.int .i64 0]⟩⟩]
def f134_i_isLength.A : RAlt (Bool) := .one ⟨[⟨false, [.leaf], [.bool false]⟩], [none]⟩ sg_b
def f134_i_isLength.F (n : Nat) (v : Int) := f134_i_isLength n v
noncomputable def f134_i_isLength.O (n : Nat) : Orc := orcOf (E := E) [f93_i_within.w] [] n
theorem f134_i_isLength.ok : ∀ n v x, f134_i_isLength.F n v = some x → evalFn E n 134 (flAs f134_i_isLength.P (sg_i.pk v)) = some (f134_i_isLength.A.enc x) :=
  fn_pure (modes := (fdAt 134).ms) (outs := (fdAt 134).os) (results := (fdAt 134).rs) f134_i_isLength.O (c := c134) (keep := keepAt 134) (by kernel_rfl) (fun n => orcOf_cf _ _ n) (fun n => lpOk_of (bs := []) (by kernel_rfl) .nil) (fun _ => rfl) (fun _ _ => by kernel_rfl)
noncomputable def f134_i_isLength.w : FnW E := fnW 134 f134_i_isLength.P sg_i f134_i_isLength.A f134_i_isLength.F f134_i_isLength.ok

def f64_i_ValidDelay : Nat → Int → Nat → Nat → Nat → Bool → Option (Bool)
  | 0, _, _, _, _, _ => none
  | n + 1, i1, x2, x3, x4, b5 =>
    bd (f134_i_isLength n i1) fun r6 =>
    let b7 : Bool := r6
    some b7
def f64_i_ValidDelay.P : List Arg := [⟨.val, ⟨true, [.leaf, .leaf, .leaf, .leaf, .leaf], [.int .i64 0, .flt .f32 0, .flt .f32 0, .flt .f32 0, .bool false]⟩⟩]
def f64_i_ValidDelay.A : RAlt (Bool) := .one ⟨[⟨false, [.leaf], [.bool false]⟩], [none]⟩ sg_b
def f64_i_ValidDelay.F (n : Nat) (v : Int × Nat × Nat × Nat × Bool) := f64_i_ValidDelay n v.1 v.2.1 v.2.2.1 v.2.2.2.1 v.2.2.2.2
noncomputable def f64_i_ValidDelay.O (n : Nat) : Orc := orcOf (E := E) [f134_i_isLength.w] [] n
theorem f64_i_ValidDelay.ok : ∀ n v x, f64_i_ValidDelay.F n v = some x → evalFn E n 64 (flAs f64_i_ValidDelay.P (sg_ifffb.pk v)) = some (f64_i_ValidDelay.A.enc x) :=
  fn_pure (modes := (fdAt 64).ms) (outs := (fdAt 64).os) (results := (fdAt 64).rs) f64_i_ValidDelay.O (c := c64) (keep := keepAt 64) (by kernel_rfl) (fun n => orcOf_cf _ _ n) (fun n => lpOk_of (bs := []) (by kernel_rfl) .nil) (fun _ => rfl) (fun _ _ => by kernel_rfl)
noncomputable def f64_i_ValidDelay.w : FnW E := fnW 64 f64_i_ValidDelay.P sg_ifffb f64_i_ValidDelay.A f64_i_ValidDelay.F f64_i_ValidDelay.ok

def f113_i_size : Nat → Int → Option (Int)
  | 0, _ => none
  | n + 1, i1 =>
    some i1
def f113_i_size.P : List Arg := [⟨.val, ⟨false, [.leaf], [.int .i64 0]⟩⟩]
def f113_i_size.A : RAlt (Int) := .one ⟨[⟨false, [.leaf], [.int .i64 0]⟩], [none]⟩ sg_i
def f113_i_size.F (n : Nat) (v : Int) := f113_i_size n v
noncomputable def f113_i_size.O (n : Nat) : Orc := orcOf (E := E) [] [] n
theorem f113_i_size.ok : ∀ n v x, f113_i_size.F n v = some x → evalFn E n 113 (flAs f113_i_size.P (sg_i.pk v)) = some (f113_i_size.A.enc x) :=
  fn_pure (modes := (fdAt 113).ms) (outs := (fdAt 113).os) (results := (fdAt 113).rs) f113_i_size.O (c := c113) (keep := keepAt 113) (by kernel_rfl) (fun n => orcOf_cf _ _ n) (fun n => lpOk_of (bs := []) (by kernel_rfl) .nil) (fun _ => rfl) (fun _ _ => by kernel_rfl)
noncomputable def f113_i_size.w : FnW E := fnW 113 f113_i_size.P sg_i f113_i_size.A f113_i_size.F f113_i_size.ok

def f92_i_areSamples : Nat → Nat → List T → Option (Bool)
  | 0, _, _ => none
  | n + 1, n1, l2 =>
    some (decide (((n1 : Nat) : Int) ≤ (256 : Int)))
def f92_i_areSamples.P : List Arg := [⟨.val, ⟨false, [.sl .shr [.leaf]], [.lst 0 []]⟩⟩]
def f92_i_areSamples.A : RAlt (Bool) := .one ⟨[⟨false, [.leaf], [.bool false]⟩], [none]⟩ sg_b
def f92_i_areSamples.F (n : Nat) (v : Nat × List T) := f92_i_areSamples n v.1 v.2
noncomputable def f92_i_areSamples.O (n : Nat) : Orc := orcOf (E := E) [] [] n
theorem f92_i_areSamples.ok : ∀ n v x, f92_i_areSamples.F n v = some x → evalFn E n 92 (flAs f92_i_areSamples.P (sg_l.pk v)) = some (f92_i_areSamples.A.enc x) :=
  fn_pure (modes := (fdAt 92).ms) (outs := (fdAt 92).os) (results := (fdAt 92).rs) f92_i_areSamples.O (c := c92) (keep := keepAt 92) (by kernel_rfl) (fun n => orcOf_cf _ _ n) (fun n => lpOk_of (bs := []) (by kernel_rfl) .nil) (fun _ => rfl) (fun _ _ => by kernel_rfl)
noncomputable def f92_i_areSamples.w : FnW E := fnW 92 f92_i_areSamples.P sg_l f92_i_areSamples.A f92_i_areSamples.F f92_i_areSamples.ok

def f109_i_copyNumbers : Nat → Nat → List T → Option (Nat × List T)
  | 0, _, _ => none
  | n + 1, n1, l2 =>
    gd (Nat.ble (0 + n1) 2147483648) (
    some ((0 + n1), ((reps 0 [(T.flt FloatKind.f32 0)]) ++ l2)))
def f109_i_copyNumbers.P : List Arg := [⟨.val, ⟨false, [.sl .shr [.leaf]], [.lst 0 []]⟩⟩]
def f109_i_copyNumbers.A : RAlt (Nat × List T) := .one ⟨[⟨false, [.sl .own [.leaf]], [.lst 0 []]⟩], [none]⟩ sg_l
def f109_i_copyNumbers.F (n : Nat) (v : Nat × List T) := f109_i_copyNumbers n v.1 v.2
noncomputable def f109_i_copyNumbers.O (n : Nat) : Orc := orcOf (E := E) [] [] n
theorem f109_i_copyNumbers.ok : ∀ n v x, f109_i_copyNumbers.F n v = some x → evalFn E n 109 (flAs f109_i_copyNumbers.P (sg_l.pk v)) = some (f109_i_copyNumbers.A.enc x) :=
  fn_pure (modes := (fdAt 109).ms) (outs := (fdAt 109).os) (results := (fdAt 109).rs) f109_i_copyNumbers.O (c := c109) (keep := keepAt 109) (by kernel_rfl) (fun n => orcOf_cf _ _ n) (fun n => lpOk_of (bs := []) (by kernel_rfl) .nil) (fun _ => rfl) (fun _ _ => by kernel_rfl)
noncomputable def f109_i_copyNumbers.w : FnW E := fnW 109 f109_i_copyNumbers.P sg_l f109_i_copyNumbers.A f109_i_copyNumbers.F f109_i_copyNumbers.ok

def f195_i_IsSubnormal : Nat → Nat → Option (Bool)
  | 0, _ => none
  | n + 1, x1 =>
    br (fne FloatKind.f32 x1 0) (
     br (flt FloatKind.f32 x1 8388608) (
      some (fgt FloatKind.f32 x1 2155872256)) (
      some false)) (
     some false)
def f195_i_IsSubnormal.P : List Arg := [⟨.val, ⟨false, [.leaf], [.flt .f32 0]⟩⟩]
def f195_i_IsSubnormal.A : RAlt (Bool) := .one ⟨[⟨false, [.leaf], [.bool false]⟩], [none]⟩ sg_b
def f195_i_IsSubnormal.F (n : Nat) (v : Nat) := f195_i_IsSubnormal n v
noncomputable def f195_i_IsSubnormal.O (n : Nat) : Orc := orcOf (E := E) [] [] n
theorem f195_i_IsSubnormal.ok : ∀ n v x, f195_i_IsSubnormal.F n v = some x → evalFn E n 195 (flAs f195_i_IsSubnormal.P (sg_f.pk v)) = some (f195_i_IsSubnormal.A.enc x) :=
  fn_pure (modes := (fdAt 195).ms) (outs := (fdAt 195).os) (results := (fdAt 195).rs) f195_i_IsSubnormal.O (c := c195) (keep := keepAt 195) (by kernel_rfl) (fun n => orcOf_cf _ _ n) (fun n => lpOk_of (bs := []) (by kernel_rfl) .nil) (fun _ => rfl) (fun _ _ => by kernel_rfl)
noncomputable def f195_i_IsSubnormal.w : FnW E := fnW 195 f195_i_IsSubnormal.P sg_f f195_i_IsSubnormal.A f195_i_IsSubnormal.F f195_i_IsSubnormal.ok

def f188_i_FlushNumber : Nat → Nat → Option (Nat)
  | 0, _ => none
  | n + 1, x1 =>
    bd (f195_i_IsSubnormal n x1) fun r2 =>
    let b3 : Bool := r2
    br (!b3) (
     some x1) (
     bd ((fltToFlt FloatKind.f32 x1 FloatKind.f64)) fun y4 =>
     bd (xCopysign n 0 y4) fun r5 =>
     let x6 : Nat := r5
     bd ((fltToFlt FloatKind.f64 x6 FloatKind.f32)) fun y7 =>
     some y7)
def f188_i_FlushNumber.P : List Arg := [⟨.val, ⟨false, [.leaf], [.flt .f32 0]⟩⟩]
def f188_i_FlushNumber.A : RAlt (Nat) := .one ⟨[⟨false, [.leaf], [.flt .f32 0]⟩], [none]⟩ sg_f
def f188_i_FlushNumber.F (n : Nat) (v : Nat) := f188_i_FlushNumber n v
noncomputable def f188_i_FlushNumber.O (n : Nat) : Orc := orcOf (E := E) [x196.w, f195_i_IsSubnormal.w] [] n
theorem f188_i_FlushNumber.ok : ∀ n v x, f188_i_FlushNumber.F n v = some x → evalFn E n 188 (flAs f188_i_FlushNumber.P (sg_f.pk v)) = some (f188_i_FlushNumber.A.enc x) :=
  fn_pure (modes := (fdAt 188).ms) (outs := (fdAt 188).os) (results := (fdAt 188).rs) f188_i_FlushNumber.O (c := c188) (keep := keepAt 188) (by kernel_rfl) (fun n => orcOf_cf _ _ n) (fun n => lpOk_of (bs := []) (by kernel_rfl) .nil) (fun _ => rfl) (fun _ _ => by kernel_rfl)
noncomputable def f188_i_FlushNumber.w : FnW E := fnW 188 f188_i_FlushNumber.P sg_f f188_i_FlushNumber.A f188_i_FlushNumber.F f188_i_FlushNumber.ok

def f175_i_flushed : Nat → Nat → Bool → Option (Nat)
  | 0, _, _ => none
  | n + 1, x1, b2 =>
    br b2 (
     bd (f188_i_FlushNumber n x1) fun r3 =>
     let x4 : Nat := r3
     some x4) (
     some x1)
def sg_fb : Sig (Nat × Bool) where
  pk := fun v => [.flt v.1, .bool v.2]
  up := fun ls => match ls with
    | [.flt a0, .bool a1] => some (a0, a1)
    | _ => none
  ok := by
    intro ls v h
    split at h
    · cases h; rfl
    · cases h

def f175_i_flushed.P : List Arg := [⟨.val, ⟨false, [.leaf], [.flt .f32 0]⟩⟩, ⟨.val, ⟨false, [.leaf], [.bool false]⟩⟩]
def f175_i_flushed.A : RAlt (Nat) := .one ⟨[⟨false, [.leaf], [.flt .f32 0]⟩], [none, none]⟩ sg_f
def f175_i_flushed.F (n : Nat) (v : Nat × Bool) := f175_i_flushed n v.1 v.2
noncomputable def f175_i_flushed.O (n : Nat) : Orc := orcOf (E := E) [f188_i_FlushNumber.w] [] n
theorem f175_i_flushed.ok : ∀ n v x, f175_i_flushed.F n v = some x → evalFn E n 175 (flAs f175_i_flushed.P (sg_fb.pk v)) = some (f175_i_flushed.A.enc x) :=
  fn_pure (modes := (fdAt 175).ms) (outs := (fdAt 175).os) (results := (fdAt 175).rs) f175_i_flushed.O (c := c175) (keep := keepAt 175) (by kernel_rfl) (fun n => orcOf_cf _ _ n) (fun n => lpOk_of (bs := []) (by kernel_rfl) .nil) (fun _ => rfl) (fun _ _ => by kernel_rfl)
noncomputable def f175_i_flushed.w : FnW E := fnW 175 f175_i_flushed.P sg_fb f175_i_flushed.A f175_i_flushed.F f175_i_flushed.ok

def f174_i_take : Nat → Nat → List T → Nat → Option (Nat × List T)
  | 0, _, _, _ => none
  | n + 1, n1, l2, x3 =>
    gd (decide (((0 : Int) ≤ (1 : Int)) ∧ (((1 : Int) ≤ ((n1 : Nat) : Int)) ∧ (((n1 : Nat) : Int) ≤ ((n1 : Nat) : Int))))) (
    bd (f109_i_copyNumbers n (n1 - 1) (List.take (n1 - 1) (List.drop 1 l2))) fun r4 =>
    let n5 : Nat := r4.1
    let l6 : List T := r4.2
    gd (Nat.ble (n5 + 1) 2147483648) (
    some ((n5 + 1), (l6 ++ (setN (reps 1 [(T.flt FloatKind.f32 0)]) 0 [(T.flt FloatKind.f32 x3)])))))
def sg_lf : Sig (Nat × List T × Nat) where
  pk := fun v => [.lst v.1 v.2.1, .flt v.2.2]
  up := fun ls => match ls with
    | [.lst a0 a1, .flt a2] => some (a0, a1, a2)
    | _ => none
  ok := by
    intro ls v h
    split at h
    · cases h; rfl
    · cases h

def f174_i_take.P : List Arg := [⟨.val, ⟨false, [.sl .shr [.leaf]], [.lst 0 []]⟩⟩, ⟨.val, ⟨false, [.leaf], [.flt .f32 0]⟩⟩]
def f174_i_take.A : RAlt (Nat × List T) := .one ⟨[⟨false, [.sl .own [.leaf]], [.lst 0 []]⟩], [none, none]⟩ sg_l
def f174_i_take.F (n : Nat) (v : Nat × List T × Nat) := f174_i_take n v.1 v.2.1 v.2.2
noncomputable def f174_i_take.O (n : Nat) : Orc := orcOf (E := E) [f109_i_copyNumbers.w] [] n
theorem f174_i_take.ok : ∀ n v x, f174_i_take.F n v = some x → evalFn E n 174 (flAs f174_i_take.P (sg_lf.pk v)) = some (f174_i_take.A.enc x) :=
  fn_pure (modes := (fdAt 174).ms) (outs := (fdAt 174).os) (results := (fdAt 174).rs) f174_i_take.O (c := c174) (keep := keepAt 174) (by kernel_rfl) (fun n => orcOf_cf _ _ n) (fun n => lpOk_of (bs := []) (by kernel_rfl) .nil) (fun _ => rfl) (fun _ _ => by kernel_rfl)
noncomputable def f174_i_take.w : FnW E := fnW 174 f174_i_take.P sg_lf f174_i_take.A f174_i_take.F f174_i_take.ok

def f133_i_Delaystep : Nat → Int → Nat → Nat → Nat → Bool → Nat → List T → Nat → Option (Nat × Nat × List T)
  | 0, _, _, _, _, _, _, _, _ => none
  | n + 1, i1, x2, x3, x4, b5, n6, l7, x8 =>
    gd ((decide (((0 : Int) ≤ (0 : Int)) ∧ ((0 : Int) < ((n6 : Nat) : Int)))) && (okAt [(CK.flt FloatKind.f32)] l7 0)) (
    let x9 : Nat := (fAt l7 0)
    bd (f175_i_flushed n (fadd FloatKind.f32 x8 (fmul FloatKind.f32 x2 x9)) b5) fun r10 =>
    let x11 : Nat := r10
    bd (f174_i_take n n6 l7 x11) fun r12 =>
    let n13 : Nat := r12.1
    let l14 : List T := r12.2
    some ((fadd FloatKind.f32 (fmul FloatKind.f32 x3 x8) (fmul FloatKind.f32 x4 x9)), n13, l14))
def sg_ifffblf : Sig (Int × Nat × Nat × Nat × Bool × Nat × List T × Nat) where
  pk := fun v => [.int v.1, .flt v.2.1, .flt v.2.2.1, .flt v.2.2.2.1, .bool v.2.2.2.2.1, .lst v.2.2.2.2.2.1 v.2.2.2.2.2.2.1, .flt v.2.2.2.2.2.2.2]
  up := fun ls => match ls with
    | [.int a0, .flt a1, .flt a2, .flt a3, .bool a4, .lst a5 a6, .flt a7] => some (a0, a1, a2, a3, a4, a5, a6, a7)
    | _ => none
  ok := by
    intro ls v h
    split at h
    · cases h; rfl
    · cases h

def sg_fl : Sig (Nat × Nat × List T) where
  pk := fun v => [.flt v.1, .lst v.2.1 v.2.2]
  up := fun ls => match ls with
    | [.flt a0, .lst a1 a2] => some (a0, a1, a2)
    | _ => none
  ok := by
    intro ls v h
    split at h
    · cases h; rfl
    · cases h

def f133_i_Delaystep.P : List Arg := [⟨.val, ⟨true, [.leaf, .leaf, .leaf, .leaf, .leaf], [.int .i64 0, .flt .f32 0, .flt .f32 0, .flt .f32 0, .bool false]⟩⟩, ⟨.val, ⟨false, [.sl .shr [.leaf]], [.lst 0 []]⟩⟩, ⟨.val, ⟨false, [.leaf], [.flt .f32 0]⟩⟩]
def f133_i_Delaystep.A : RAlt (Nat × Nat × List T) := .one ⟨[⟨false, [.leaf], [.flt .f32 0]⟩, ⟨false, [.sl .own [.leaf]], [.lst 0 []]⟩], [none, none, none]⟩ sg_fl
def f133_i_Delaystep.F (n : Nat) (v : Int × Nat × Nat × Nat × Bool × Nat × List T × Nat) := f133_i_Delaystep n v.1 v.2.1 v.2.2.1 v.2.2.2.1 v.2.2.2.2.1 v.2.2.2.2.2.1 v.2.2.2.2.2.2.1 v.2.2.2.2.2.2.2
noncomputable def f133_i_Delaystep.O (n : Nat) : Orc := orcOf (E := E) [f175_i_flushed.w, f174_i_take.w] [] n
theorem f133_i_Delaystep.ok : ∀ n v x, f133_i_Delaystep.F n v = some x → evalFn E n 133 (flAs f133_i_Delaystep.P (sg_ifffblf.pk v)) = some (f133_i_Delaystep.A.enc x) :=
  fn_pure (modes := (fdAt 133).ms) (outs := (fdAt 133).os) (results := (fdAt 133).rs) f133_i_Delaystep.O (c := c133) (keep := keepAt 133) (by kernel_rfl) (fun n => orcOf_cf _ _ n) (fun n => lpOk_of (bs := []) (by kernel_rfl) .nil) (fun _ => rfl) (fun _ _ => by kernel_rfl)
noncomputable def f133_i_Delaystep.w : FnW E := fnW 133 f133_i_Delaystep.P sg_ifffblf f133_i_Delaystep.A f133_i_Delaystep.F f133_i_Delaystep.ok

def f63_i_RunDelay.l0 (n : Nat) : Nat → Nat → List T → Int → Nat → Nat → Nat → Bool → Nat → List T → Nat → List T → Nat → List T → Int → Int → Option (Nat × List T × Nat × List T)
  | 0, _, _, _, _, _, _, _, _, _, _, _, _, _, _, _ => none
  | m + 1, n1, l2, i3, x4, x5, x6, b7, n8, l9, n10, l11, n12, l13, i14, i15 =>
    br (decide (i15 < i14)) (
     gd ((decide (((0 : Int) ≤ i15) ∧ (i15 < ((n12 : Nat) : Int)))) && (okAt [(CK.flt FloatKind.f32)] l13 (Int.toNat i15))) (
     let x16 : Nat := (fAt l13 (Int.toNat i15))
     bd (f133_i_Delaystep n i3 x4 x5 x6 b7 n8 l9 x16) fun r17 =>
     let x18 : Nat := r17.1
     let n19 : Nat := r17.2.1
     let l20 : List T := r17.2.2
     gd (Nat.ble (n10 + 1) 2147483648) (
     let n21 : Nat := (n10 + 1)
     let l22 : List T := (l11 ++ (setN (reps 1 [(T.flt FloatKind.f32 0)]) 0 [(T.flt FloatKind.f32 x18)]))
     f63_i_RunDelay.l0 n m n1 l2 i3 x4 x5 x6 b7 n19 l20 n21 l22 n12 l13 i14 (IntKind.i64.wrap (i15 + (1 : Int)))))) (
     some (n8, l9, n10, l11))
termination_by structural x => x
def f63_i_RunDelay : Nat → Int → Nat → Nat → Nat → Bool → Nat → List T → Nat → List T → Option (Nat × List T × Nat × List T × Bool)
  | 0, _, _, _, _, _, _, _, _, _ => none
  | n + 1, i1, x2, x3, x4, b5, n6, l7, n8, l9 =>
    bd (f64_i_ValidDelay n i1 x2 x3 x4 b5) fun r10 =>
    let b11 : Bool := r10
    br (!b11) (
     some (0, [], 0, [], false)) (
     bd (f113_i_size n ((n6 : Nat) : Int)) fun r12 =>
     let i13 : Int := r12
     br (i13 != i1) (
      some (0, [], 0, [], false)) (
      bd (f92_i_areSamples n n8 l9) fun r14 =>
      let b15 : Bool := r14
      br (!b15) (
       some (0, [], 0, [], false)) (
       bd (f109_i_copyNumbers n n6 l7) fun r16 =>
       let n17 : Nat := r16.1
       let l18 : List T := r16.2
       bd (f63_i_RunDelay.l0 n n n8 l9 i1 x2 x3 x4 b5 n17 l18 0 [] n8 l9 ((n8 : Nat) : Int) (0 : Int)) fun r19 =>
       let n20 : Nat := r19.1
       let l21 : List T := r19.2.1
       let n22 : Nat := r19.2.2.1
       let l23 : List T := r19.2.2.2
       some (n22, l23, n20, l21, true))))
def sg_ifffbll : Sig (Int × Nat × Nat × Nat × Bool × Nat × List T × Nat × List T) where
  pk := fun v => [.int v.1, .flt v.2.1, .flt v.2.2.1, .flt v.2.2.2.1, .bool v.2.2.2.2.1, .lst v.2.2.2.2.2.1 v.2.2.2.2.2.2.1, .lst v.2.2.2.2.2.2.2.1 v.2.2.2.2.2.2.2.2]
  up := fun ls => match ls with
    | [.int a0, .flt a1, .flt a2, .flt a3, .bool a4, .lst a5 a6, .lst a7 a8] => some (a0, a1, a2, a3, a4, a5, a6, a7, a8)
    | _ => none
  ok := by
    intro ls v h
    split at h
    · cases h; rfl
    · cases h

def sg_llb : Sig (Nat × List T × Nat × List T × Bool) where
  pk := fun v => [.lst v.1 v.2.1, .lst v.2.2.1 v.2.2.2.1, .bool v.2.2.2.2]
  up := fun ls => match ls with
    | [.lst a0 a1, .lst a2 a3, .bool a4] => some (a0, a1, a2, a3, a4)
    | _ => none
  ok := by
    intro ls v h
    split at h
    · cases h; rfl
    · cases h

def sg_lifffblllii : Sig (Nat × List T × Int × Nat × Nat × Nat × Bool × Nat × List T × Nat × List T × Nat × List T × Int × Int) where
  pk := fun v => [.lst v.1 v.2.1, .int v.2.2.1, .flt v.2.2.2.1, .flt v.2.2.2.2.1, .flt v.2.2.2.2.2.1, .bool v.2.2.2.2.2.2.1, .lst v.2.2.2.2.2.2.2.1 v.2.2.2.2.2.2.2.2.1, .lst v.2.2.2.2.2.2.2.2.2.1 v.2.2.2.2.2.2.2.2.2.2.1, .lst v.2.2.2.2.2.2.2.2.2.2.2.1 v.2.2.2.2.2.2.2.2.2.2.2.2.1, .int v.2.2.2.2.2.2.2.2.2.2.2.2.2.1, .int v.2.2.2.2.2.2.2.2.2.2.2.2.2.2]
  up := fun ls => match ls with
    | [.lst a0 a1, .int a2, .flt a3, .flt a4, .flt a5, .bool a6, .lst a7 a8, .lst a9 a10, .lst a11 a12, .int a13, .int a14] => some (a0, a1, a2, a3, a4, a5, a6, a7, a8, a9, a10, a11, a12, a13, a14)
    | _ => none
  ok := by
    intro ls v h
    split at h
    · cases h; rfl
    · cases h

def f63_i_RunDelay.l0.P : AS := ⟨[(2, .val false [.sl .shr [.leaf]] [.lst 0 []] [] 0), (3, .box [.leaf, .leaf, .leaf, .leaf, .leaf] [.int .i64 0, .flt .f32 0, .flt .f32 0, .flt .f32 0, .bool false] [] 0), (9, .val false [.sl .own [.leaf]] [.lst 0 []] [] 0), (10, .val false [.sl .own [.leaf]] [.lst 0 []] [] 0), (33, .val false [.sl .shr [.leaf]] [.lst 0 []] [] 0), (34, .val false [.leaf] [.int .i64 0] [] 0), (35, .val false [.leaf] [.int .i64 0] [] 0)], 0⟩
def f63_i_RunDelay.l0.A : Alt (Nat × List T × Nat × List T) := .one (.exit 0) ⟨[(9, .val false [.sl .own [.leaf]] [.lst 0 []] [] 0), (10, .val false [.sl .own [.leaf]] [.lst 0 []] [] 0)], 0⟩ sg_ll
def f63_i_RunDelay.l0.F (n m : Nat) (v : Nat × List T × Int × Nat × Nat × Nat × Bool × Nat × List T × Nat × List T × Nat × List T × Int × Int) := f63_i_RunDelay.l0 n m v.1 v.2.1 v.2.2.1 v.2.2.2.1 v.2.2.2.2.1 v.2.2.2.2.2.1 v.2.2.2.2.2.2.1 v.2.2.2.2.2.2.2.1 v.2.2.2.2.2.2.2.2.1 v.2.2.2.2.2.2.2.2.2.1 v.2.2.2.2.2.2.2.2.2.2.1 v.2.2.2.2.2.2.2.2.2.2.2.1 v.2.2.2.2.2.2.2.2.2.2.2.2.1 v.2.2.2.2.2.2.2.2.2.2.2.2.2.1 v.2.2.2.2.2.2.2.2.2.2.2.2.2.2
def f63_i_RunDelay.l0.W (n : Nat) : LpW := .of 96 f63_i_RunDelay.l0.P sg_lifffblllii f63_i_RunDelay.l0.A (f63_i_RunDelay.l0.F n n)
def f63_i_RunDelay.P : List Arg := [⟨.val, ⟨true, [.leaf, .leaf, .leaf, .leaf, .leaf], [.int .i64 0, .flt .f32 0, .flt .f32 0, .flt .f32 0, .bool false]⟩⟩, ⟨.val, ⟨false, [.sl .shr [.leaf]], [.lst 0 []]⟩⟩, ⟨.val, ⟨false, [.sl .shr [.leaf]], [.lst 0 []]⟩⟩]
def f63_i_RunDelay.A : RAlt (Nat × List T × Nat × List T × Bool) := .one ⟨[⟨false, [.sl .own [.leaf]], [.lst 0 []]⟩, ⟨false, [.sl .own [.leaf]], [.lst 0 []]⟩, ⟨false, [.leaf], [.bool false]⟩], [none, none, none]⟩ sg_llb
def f63_i_RunDelay.F (n : Nat) (v : Int × Nat × Nat × Nat × Bool × Nat × List T × Nat × List T) := f63_i_RunDelay n v.1 v.2.1 v.2.2.1 v.2.2.2.1 v.2.2.2.2.1 v.2.2.2.2.2.1 v.2.2.2.2.2.2.1 v.2.2.2.2.2.2.2.1 v.2.2.2.2.2.2.2.2
noncomputable def f63_i_RunDelay.O (n : Nat) : Orc := orcOf (E := E) [f64_i_ValidDelay.w, f113_i_size.w, f92_i_areSamples.w, f109_i_copyNumbers.w, f133_i_Delaystep.w] [f63_i_RunDelay.l0.W n] n
theorem f63_i_RunDelay.l0.ok (n : Nat) : LpOk (f63_i_RunDelay.O n) E (evalFn E n) n (keepAt 63) (.loop (loopAt c63 0)) :=
  lp_pure f63_i_RunDelay.l0.P sg_lifffblllii f63_i_RunDelay.l0.A (f63_i_RunDelay.l0.F n) (orcOf_cf _ _ n) (lpOk_of (bs := []) (by kernel_rfl) .nil) (fun _ => rfl) (fun _ _ => by kernel_rfl) (fun _ _ _ => by kernel_rfl)
theorem f63_i_RunDelay.ok : ∀ n v x, f63_i_RunDelay.F n v = some x → evalFn E n 63 (flAs f63_i_RunDelay.P (sg_ifffbll.pk v)) = some (f63_i_RunDelay.A.enc x) :=
  fn_pure (modes := (fdAt 63).ms) (outs := (fdAt 63).os) (results := (fdAt 63).rs) f63_i_RunDelay.O (c := c63) (keep := keepAt 63) (by kernel_rfl) (fun n => orcOf_cf _ _ n) (fun n => lpOk_of (bs := [loopAt c63 0]) (by kernel_rfl) (.cons (f63_i_RunDelay.l0.ok n) .nil)) (fun _ => rfl) (fun _ _ => by kernel_rfl)
noncomputable def f63_i_RunDelay.w : FnW E := fnW 63 f63_i_RunDelay.P sg_ifffbll f63_i_RunDelay.A f63_i_RunDelay.F f63_i_RunDelay.ok

def f165_s_l01Bits : Nat → Nat → Option (Int)
  | 0, _ => none
  | n + 1, x1 =>
    br (fne FloatKind.f32 x1 x1) (
     some (2143289344 : Int)) (
     bd (xF32bits n x1) fun r2 =>
     let i3 : Int := r2
     some (IntKind.i64.wrap i3))
def f165_s_l01Bits.P : List Arg := [⟨.val, ⟨false, [.leaf], [.flt .f32 0]⟩⟩]
def f165_s_l01Bits.A : RAlt (Int) := .one ⟨[⟨false, [.leaf], [.int .i64 0]⟩], [none]⟩ sg_i
def f165_s_l01Bits.F (n : Nat) (v : Nat) := f165_s_l01Bits n v
noncomputable def f165_s_l01Bits.O (n : Nat) : Orc := orcOf (E := E) [x96.w] [] n
theorem f165_s_l01Bits.ok : ∀ n v x, f165_s_l01Bits.F n v = some x → evalFn E n 165 (flAs f165_s_l01Bits.P (sg_f.pk v)) = some (f165_s_l01Bits.A.enc x) :=
  fn_pure (modes := (fdAt 165).ms) (outs := (fdAt 165).os) (results := (fdAt 165).rs) f165_s_l01Bits.O (c := c165) (keep := keepAt 165) (by kernel_rfl) (fun n => orcOf_cf _ _ n) (fun n => lpOk_of (bs := []) (by kernel_rfl) .nil) (fun _ => rfl) (fun _ _ => by kernel_rfl)
noncomputable def f165_s_l01Bits.w : FnW E := fnW 165 f165_s_l01Bits.P sg_f f165_s_l01Bits.A f165_s_l01Bits.F f165_s_l01Bits.ok

def f106_s_l01Same : Nat → Nat → Nat → Option (Bool)
  | 0, _, _ => none
  | n + 1, x1, x2 =>
    bd (f165_s_l01Bits n x1) fun r3 =>
    let i4 : Int := r3
    bd (f165_s_l01Bits n x2) fun r5 =>
    let i6 : Int := r5
    some (i4 == i6)
def sg_ff : Sig (Nat × Nat) where
  pk := fun v => [.flt v.1, .flt v.2]
  up := fun ls => match ls with
    | [.flt a0, .flt a1] => some (a0, a1)
    | _ => none
  ok := by
    intro ls v h
    split at h
    · cases h; rfl
    · cases h

def f106_s_l01Same.P : List Arg := [⟨.val, ⟨false, [.leaf], [.flt .f32 0]⟩⟩, ⟨.val, ⟨false, [.leaf], [.flt .f32 0]⟩⟩]
def f106_s_l01Same.A : RAlt (Bool) := .one ⟨[⟨false, [.leaf], [.bool false]⟩], [none, none]⟩ sg_b
def f106_s_l01Same.F (n : Nat) (v : Nat × Nat) := f106_s_l01Same n v.1 v.2
noncomputable def f106_s_l01Same.O (n : Nat) : Orc := orcOf (E := E) [f165_s_l01Bits.w] [] n
theorem f106_s_l01Same.ok : ∀ n v x, f106_s_l01Same.F n v = some x → evalFn E n 106 (flAs f106_s_l01Same.P (sg_ff.pk v)) = some (f106_s_l01Same.A.enc x) :=
  fn_pure (modes := (fdAt 106).ms) (outs := (fdAt 106).os) (results := (fdAt 106).rs) f106_s_l01Same.O (c := c106) (keep := keepAt 106) (by kernel_rfl) (fun n => orcOf_cf _ _ n) (fun n => lpOk_of (bs := []) (by kernel_rfl) .nil) (fun _ => rfl) (fun _ _ => by kernel_rfl)
noncomputable def f106_s_l01Same.w : FnW E := fnW 106 f106_s_l01Same.P sg_ff f106_s_l01Same.A f106_s_l01Same.F f106_s_l01Same.ok

def f33_s_SameNumber : Nat → Nat → Nat → Option (Bool)
  | 0, _, _ => none
  | n + 1, x1, x2 =>
    bd (f106_s_l01Same n x1 x2) fun r3 =>
    let b4 : Bool := r3
    some b4
def f33_s_SameNumber.P : List Arg := [⟨.val, ⟨false, [.leaf], [.flt .f32 0]⟩⟩, ⟨.val, ⟨false, [.leaf], [.flt .f32 0]⟩⟩]
def f33_s_SameNumber.A : RAlt (Bool) := .one ⟨[⟨false, [.leaf], [.bool false]⟩], [none, none]⟩ sg_b
def f33_s_SameNumber.F (n : Nat) (v : Nat × Nat) := f33_s_SameNumber n v.1 v.2
noncomputable def f33_s_SameNumber.O (n : Nat) : Orc := orcOf (E := E) [f106_s_l01Same.w] [] n
theorem f33_s_SameNumber.ok : ∀ n v x, f33_s_SameNumber.F n v = some x → evalFn E n 33 (flAs f33_s_SameNumber.P (sg_ff.pk v)) = some (f33_s_SameNumber.A.enc x) :=
  fn_pure (modes := (fdAt 33).ms) (outs := (fdAt 33).os) (results := (fdAt 33).rs) f33_s_SameNumber.O (c := c33) (keep := keepAt 33) (by kernel_rfl) (fun n => orcOf_cf _ _ n) (fun n => lpOk_of (bs := []) (by kernel_rfl) .nil) (fun _ => rfl) (fun _ _ => by kernel_rfl)
noncomputable def f33_s_SameNumber.w : FnW E := fnW 33 f33_s_SameNumber.P sg_ff f33_s_SameNumber.A f33_s_SameNumber.F f33_s_SameNumber.ok

def f44_l_b10Same.l0 (n : Nat) : Nat → Nat → List T → Nat → List T → Int → Option ((Bool) ⊕ (Unit))
  | 0, _, _, _, _, _ => none
  | m + 1, n1, l2, n3, l4, i5 =>
    br (decide (i5 < ((n1 : Nat) : Int))) (
     gd ((decide (((0 : Int) ≤ i5) ∧ (i5 < ((n1 : Nat) : Int)))) && (okAt [(CK.flt FloatKind.f32)] l2 (Int.toNat i5))) (
     gd ((decide (((0 : Int) ≤ i5) ∧ (i5 < ((n3 : Nat) : Int)))) && (okAt [(CK.flt FloatKind.f32)] l4 (Int.toNat i5))) (
     bd (f33_s_SameNumber n (fAt l2 (Int.toNat i5)) (fAt l4 (Int.toNat i5))) fun r6 =>
     let b7 : Bool := r6
     br (!b7) (
      some (Sum.inl false)) (
      f44_l_b10Same.l0 n m n1 l2 n3 l4 (IntKind.i64.wrap (i5 + (1 : Int))))))) (
     some (Sum.inr ()))
def f44_l_b10Same : Nat → Nat → List T → Nat → List T → Option (Bool)
  | 0, _, _, _, _ => none
  | n + 1, n1, l2, n3, l4 =>
    br (((n1 : Nat) : Int) != ((n3 : Nat) : Int)) (
     some false) (
     bd (f44_l_b10Same.l0 n n n1 l2 n3 l4 (0 : Int)) fun r5 =>
     sm r5 (fun u6 =>
      let b7 : Bool := u6
      some b7) (fun u8 =>
      some true))
def sg_lli : Sig (Nat × List T × Nat × List T × Int) where
  pk := fun v => [.lst v.1 v.2.1, .lst v.2.2.1 v.2.2.2.1, .int v.2.2.2.2]
  up := fun ls => match ls with
    | [.lst a0 a1, .lst a2 a3, .int a4] => some (a0, a1, a2, a3, a4)
    | _ => none
  ok := by
    intro ls v h
    split at h
    · cases h; rfl
    · cases h

def sg : Sig (Unit) where
  pk := fun v => []
  up := fun ls => match ls with
    | [] => some ()
    | _ => none
  ok := by
    intro ls v h
    split at h
    · cases h; rfl
    · cases h

def f44_l_b10Same.l0.P : AS := ⟨[(0, .val false [.sl .shr [.leaf]] [.lst 0 []] [] 0), (1, .val false [.sl .shr [.leaf]] [.lst 0 []] [] 0), (5, .val false [.leaf] [.int .i64 0] [] 0)], 0⟩
def f44_l_b10Same.l0.A : Alt ((Bool) ⊕ (Unit)) := .or (.one .ret ⟨[(4, .val false [.leaf] [.bool false] [] 0)], 0⟩ sg_b) (.one (.exit 0) ⟨[(4, .dead)], 0⟩ sg)
def f44_l_b10Same.l0.F (n m : Nat) (v : Nat × List T × Nat × List T × Int) := f44_l_b10Same.l0 n m v.1 v.2.1 v.2.2.1 v.2.2.2.1 v.2.2.2.2
def f44_l_b10Same.l0.W (n : Nat) : LpW := .of 64 f44_l_b10Same.l0.P sg_lli f44_l_b10Same.l0.A (f44_l_b10Same.l0.F n n)
def f44_l_b10Same.P : List Arg := [⟨.val, ⟨false, [.sl .shr [.leaf]], [.lst 0 []]⟩⟩, ⟨.val, ⟨false, [.sl .shr [.leaf]], [.lst 0 []]⟩⟩]
def f44_l_b10Same.A : RAlt (Bool) := .one ⟨[⟨false, [.leaf], [.bool false]⟩], [none, none]⟩ sg_b
def f44_l_b10Same.F (n : Nat) (v : Nat × List T × Nat × List T) := f44_l_b10Same n v.1 v.2.1 v.2.2.1 v.2.2.2
noncomputable def f44_l_b10Same.O (n : Nat) : Orc := orcOf (E := E) [f33_s_SameNumber.w] [f44_l_b10Same.l0.W n] n
theorem f44_l_b10Same.l0.ok (n : Nat) : LpOk (f44_l_b10Same.O n) E (evalFn E n) n (keepAt 44) (.loop (loopAt c44 0)) :=
  lp_pure f44_l_b10Same.l0.P sg_lli f44_l_b10Same.l0.A (f44_l_b10Same.l0.F n) (orcOf_cf _ _ n) (lpOk_of (bs := []) (by kernel_rfl) .nil) (fun _ => rfl) (fun _ _ => by kernel_rfl) (fun _ _ _ => by kernel_rfl)
theorem f44_l_b10Same.ok : ∀ n v x, f44_l_b10Same.F n v = some x → evalFn E n 44 (flAs f44_l_b10Same.P (sg_ll.pk v)) = some (f44_l_b10Same.A.enc x) :=
  fn_pure (modes := (fdAt 44).ms) (outs := (fdAt 44).os) (results := (fdAt 44).rs) f44_l_b10Same.O (c := c44) (keep := keepAt 44) (by kernel_rfl) (fun n => orcOf_cf _ _ n) (fun n => lpOk_of (bs := [loopAt c44 0]) (by kernel_rfl) (.cons (f44_l_b10Same.l0.ok n) .nil)) (fun _ => rfl) (fun _ _ => by kernel_rfl)
noncomputable def f44_l_b10Same.w : FnW E := fnW 44 f44_l_b10Same.P sg_ll f44_l_b10Same.A f44_l_b10Same.F f44_l_b10Same.ok

def f135_i_Passstep : Nat → Int → Nat → Nat → List T → Nat → Option (Nat × Nat × List T)
  | 0, _, _, _, _, _ => none
  | n + 1, i1, x2, n3, l4, x5 =>
    gd ((decide (((0 : Int) ≤ (0 : Int)) ∧ ((0 : Int) < ((n3 : Nat) : Int)))) && (okAt [(CK.flt FloatKind.f32)] l4 0)) (
    let x6 : Nat := (fAt l4 0)
    let x7 : Nat := (fadd FloatKind.f32 x5 (fmul FloatKind.f32 x2 x6))
    bd (f174_i_take n n3 l4 x7) fun r8 =>
    let n9 : Nat := r8.1
    let l10 : List T := r8.2
    some ((fsub FloatKind.f32 x6 (fmul FloatKind.f32 x2 x7)), n9, l10))
def sg_iflf : Sig (Int × Nat × Nat × List T × Nat) where
  pk := fun v => [.int v.1, .flt v.2.1, .lst v.2.2.1 v.2.2.2.1, .flt v.2.2.2.2]
  up := fun ls => match ls with
    | [.int a0, .flt a1, .lst a2 a3, .flt a4] => some (a0, a1, a2, a3, a4)
    | _ => none
  ok := by
    intro ls v h
    split at h
    · cases h; rfl
    · cases h

def f135_i_Passstep.P : List Arg := [⟨.val, ⟨true, [.leaf, .leaf], [.int .i64 0, .flt .f32 0]⟩⟩, ⟨.val, ⟨false, [.sl .shr [.leaf]], [.lst 0 []]⟩⟩, ⟨.val, ⟨false, [.leaf], [.flt .f32 0]⟩⟩]
def f135_i_Passstep.A : RAlt (Nat × Nat × List T) := .one ⟨[⟨false, [.leaf], [.flt .f32 0]⟩, ⟨false, [.sl .own [.leaf]], [.lst 0 []]⟩], [none, none, none]⟩ sg_fl
def f135_i_Passstep.F (n : Nat) (v : Int × Nat × Nat × List T × Nat) := f135_i_Passstep n v.1 v.2.1 v.2.2.1 v.2.2.2.1 v.2.2.2.2
noncomputable def f135_i_Passstep.O (n : Nat) : Orc := orcOf (E := E) [f174_i_take.w] [] n
theorem f135_i_Passstep.ok : ∀ n v x, f135_i_Passstep.F n v = some x → evalFn E n 135 (flAs f135_i_Passstep.P (sg_iflf.pk v)) = some (f135_i_Passstep.A.enc x) :=
  fn_pure (modes := (fdAt 135).ms) (outs := (fdAt 135).os) (results := (fdAt 135).rs) f135_i_Passstep.O (c := c135) (keep := keepAt 135) (by kernel_rfl) (fun n => orcOf_cf _ _ n) (fun n => lpOk_of (bs := []) (by kernel_rfl) .nil) (fun _ => rfl) (fun _ _ => by kernel_rfl)
noncomputable def f135_i_Passstep.w : FnW E := fnW 135 f135_i_Passstep.P sg_iflf f135_i_Passstep.A f135_i_Passstep.F f135_i_Passstep.ok

def f65_i_RunPass.l0 (n : Nat) : Nat → Nat → List T → Int → Nat → Nat → List T → Nat → List T → Nat → List T → Int → Int → Option (Nat × List T × Nat × List T)
  | 0, _, _, _, _, _, _, _, _, _, _, _, _ => none
  | m + 1, n1, l2, i3, x4, n5, l6, n7, l8, n9, l10, i11, i12 =>
    br (decide (i12 < i11)) (
     gd ((decide (((0 : Int) ≤ i12) ∧ (i12 < ((n9 : Nat) : Int)))) && (okAt [(CK.flt FloatKind.f32)] l10 (Int.toNat i12))) (
     let x13 : Nat := (fAt l10 (Int.toNat i12))
     bd (f135_i_Passstep n i3 x4 n5 l6 x13) fun r14 =>
     let x15 : Nat := r14.1
     let n16 : Nat := r14.2.1
     let l17 : List T := r14.2.2
     gd (Nat.ble (n7 + 1) 2147483648) (
     let n18 : Nat := (n7 + 1)
     let l19 : List T := (l8 ++ (setN (reps 1 [(T.flt FloatKind.f32 0)]) 0 [(T.flt FloatKind.f32 x15)]))
     f65_i_RunPass.l0 n m n1 l2 i3 x4 n16 l17 n18 l19 n9 l10 i11 (IntKind.i64.wrap (i12 + (1 : Int)))))) (
     some (n5, l6, n7, l8))
termination_by structural x => x
def f65_i_RunPass : Nat → Int → Nat → Nat → List T → Nat → List T → Option (Nat × List T × Nat × List T × Bool)
  | 0, _, _, _, _, _, _ => none
  | n + 1, i1, x2, n3, l4, n5, l6 =>
    bd (f134_i_isLength n i1) fun r7 =>
    let b8 : Bool := r7
    br (!b8) (
     some (0, [], 0, [], false)) (
     bd (f113_i_size n ((n3 : Nat) : Int)) fun r9 =>
     let i10 : Int := r9
     br (i10 != i1) (
      some (0, [], 0, [], false)) (
      bd (f92_i_areSamples n n5 l6) fun r11 =>
      let b12 : Bool := r11
      br (!b12) (
       some (0, [], 0, [], false)) (
       bd (f109_i_copyNumbers n n3 l4) fun r13 =>
       let n14 : Nat := r13.1
       let l15 : List T := r13.2
       bd (f65_i_RunPass.l0 n n n5 l6 i1 x2 n14 l15 0 [] n5 l6 ((n5 : Nat) : Int) (0 : Int)) fun r16 =>
       let n17 : Nat := r16.1
       let l18 : List T := r16.2.1
       let n19 : Nat := r16.2.2.1
       let l20 : List T := r16.2.2.2
       some (n19, l20, n17, l18, true))))
def sg_ifll : Sig (Int × Nat × Nat × List T × Nat × List T) where
  pk := fun v => [.int v.1, .flt v.2.1, .lst v.2.2.1 v.2.2.2.1, .lst v.2.2.2.2.1 v.2.2.2.2.2]
  up := fun ls => match ls with
    | [.int a0, .flt a1, .lst a2 a3, .lst a4 a5] => some (a0, a1, a2, a3, a4, a5)
    | _ => none
  ok := by
    intro ls v h
    split at h
    · cases h; rfl
    · cases h

def sg_liflllii : Sig (Nat × List T × Int × Nat × Nat × List T × Nat × List T × Nat × List T × Int × Int) where
  pk := fun v => [.lst v.1 v.2.1, .int v.2.2.1, .flt v.2.2.2.1, .lst v.2.2.2.2.1 v.2.2.2.2.2.1, .lst v.2.2.2.2.2.2.1 v.2.2.2.2.2.2.2.1, .lst v.2.2.2.2.2.2.2.2.1 v.2.2.2.2.2.2.2.2.2.1, .int v.2.2.2.2.2.2.2.2.2.2.1, .int v.2.2.2.2.2.2.2.2.2.2.2]
  up := fun ls => match ls with
    | [.lst a0 a1, .int a2, .flt a3, .lst a4 a5, .lst a6 a7, .lst a8 a9, .int a10, .int a11] => some (a0, a1, a2, a3, a4, a5, a6, a7, a8, a9, a10, a11)
    | _ => none
  ok := by
    intro ls v h
    split at h
    · cases h; rfl
    · cases h

def f65_i_RunPass.l0.P : AS := ⟨[(2, .val false [.sl .shr [.leaf]] [.lst 0 []] [] 0), (3, .box [.leaf, .leaf] [.int .i64 0, .flt .f32 0] [] 0), (9, .val false [.sl .own [.leaf]] [.lst 0 []] [] 0), (10, .val false [.sl .own [.leaf]] [.lst 0 []] [] 0), (34, .val false [.sl .shr [.leaf]] [.lst 0 []] [] 0), (35, .val false [.leaf] [.int .i64 0] [] 0), (36, .val false [.leaf] [.int .i64 0] [] 0)], 0⟩
def f65_i_RunPass.l0.A : Alt (Nat × List T × Nat × List T) := .one (.exit 0) ⟨[(9, .val false [.sl .own [.leaf]] [.lst 0 []] [] 0), (10, .val false [.sl .own [.leaf]] [.lst 0 []] [] 0)], 0⟩ sg_ll
def f65_i_RunPass.l0.F (n m : Nat) (v : Nat × List T × Int × Nat × Nat × List T × Nat × List T × Nat × List T × Int × Int) := f65_i_RunPass.l0 n m v.1 v.2.1 v.2.2.1 v.2.2.2.1 v.2.2.2.2.1 v.2.2.2.2.2.1 v.2.2.2.2.2.2.1 v.2.2.2.2.2.2.2.1 v.2.2.2.2.2.2.2.2.1 v.2.2.2.2.2.2.2.2.2.1 v.2.2.2.2.2.2.2.2.2.2.1 v.2.2.2.2.2.2.2.2.2.2.2
def f65_i_RunPass.l0.W (n : Nat) : LpW := .of 96 f65_i_RunPass.l0.P sg_liflllii f65_i_RunPass.l0.A (f65_i_RunPass.l0.F n n)
def f65_i_RunPass.P : List Arg := [⟨.val, ⟨true, [.leaf, .leaf], [.int .i64 0, .flt .f32 0]⟩⟩, ⟨.val, ⟨false, [.sl .shr [.leaf]], [.lst 0 []]⟩⟩, ⟨.val, ⟨false, [.sl .shr [.leaf]], [.lst 0 []]⟩⟩]
def f65_i_RunPass.A : RAlt (Nat × List T × Nat × List T × Bool) := .one ⟨[⟨false, [.sl .own [.leaf]], [.lst 0 []]⟩, ⟨false, [.sl .own [.leaf]], [.lst 0 []]⟩, ⟨false, [.leaf], [.bool false]⟩], [none, none, none]⟩ sg_llb
def f65_i_RunPass.F (n : Nat) (v : Int × Nat × Nat × List T × Nat × List T) := f65_i_RunPass n v.1 v.2.1 v.2.2.1 v.2.2.2.1 v.2.2.2.2.1 v.2.2.2.2.2
noncomputable def f65_i_RunPass.O (n : Nat) : Orc := orcOf (E := E) [f134_i_isLength.w, f113_i_size.w, f92_i_areSamples.w, f109_i_copyNumbers.w, f135_i_Passstep.w] [f65_i_RunPass.l0.W n] n
theorem f65_i_RunPass.l0.ok (n : Nat) : LpOk (f65_i_RunPass.O n) E (evalFn E n) n (keepAt 65) (.loop (loopAt c65 0)) :=
  lp_pure f65_i_RunPass.l0.P sg_liflllii f65_i_RunPass.l0.A (f65_i_RunPass.l0.F n) (orcOf_cf _ _ n) (lpOk_of (bs := []) (by kernel_rfl) .nil) (fun _ => rfl) (fun _ _ => by kernel_rfl) (fun _ _ _ => by kernel_rfl)
theorem f65_i_RunPass.ok : ∀ n v x, f65_i_RunPass.F n v = some x → evalFn E n 65 (flAs f65_i_RunPass.P (sg_ifll.pk v)) = some (f65_i_RunPass.A.enc x) :=
  fn_pure (modes := (fdAt 65).ms) (outs := (fdAt 65).os) (results := (fdAt 65).rs) f65_i_RunPass.O (c := c65) (keep := keepAt 65) (by kernel_rfl) (fun n => orcOf_cf _ _ n) (fun n => lpOk_of (bs := [loopAt c65 0]) (by kernel_rfl) (.cons (f65_i_RunPass.l0.ok n) .nil)) (fun _ => rfl) (fun _ _ => by kernel_rfl)
noncomputable def f65_i_RunPass.w : FnW E := fnW 65 f65_i_RunPass.P sg_ifll f65_i_RunPass.A f65_i_RunPass.F f65_i_RunPass.ok

def f108_i_zeros : Nat → Int → Option (Nat × List T)
  | 0, _ => none
  | n + 1, i1 =>
    gd (decide (((0 : Int) ≤ i1) ∧ (i1 ≤ (2147483648 : Int)))) (
    some ((Int.toNat i1), (reps (Int.toNat i1) [(T.flt FloatKind.f32 0)])))
def f108_i_zeros.P : List Arg := [⟨.val, ⟨false, [.leaf], [.int .i64 0]⟩⟩]
def f108_i_zeros.A : RAlt (Nat × List T) := .one ⟨[⟨false, [.sl .own [.leaf]], [.lst 0 []]⟩], [none]⟩ sg_l
def f108_i_zeros.F (n : Nat) (v : Int) := f108_i_zeros n v
noncomputable def f108_i_zeros.O (n : Nat) : Orc := orcOf (E := E) [] [] n
theorem f108_i_zeros.ok : ∀ n v x, f108_i_zeros.F n v = some x → evalFn E n 108 (flAs f108_i_zeros.P (sg_i.pk v)) = some (f108_i_zeros.A.enc x) :=
  fn_pure (modes := (fdAt 108).ms) (outs := (fdAt 108).os) (results := (fdAt 108).rs) f108_i_zeros.O (c := c108) (keep := keepAt 108) (by kernel_rfl) (fun n => orcOf_cf _ _ n) (fun n => lpOk_of (bs := []) (by kernel_rfl) .nil) (fun _ => rfl) (fun _ _ => by kernel_rfl)
noncomputable def f108_i_zeros.w : FnW E := fnW 108 f108_i_zeros.P sg_i f108_i_zeros.A f108_i_zeros.F f108_i_zeros.ok

def f66_i_EmptyLine : Nat → Int → Option (Nat × List T × Bool)
  | 0, _ => none
  | n + 1, i1 =>
    bd (f134_i_isLength n i1) fun r2 =>
    let b3 : Bool := r2
    br (!b3) (
     some (0, [], false)) (
     bd (f108_i_zeros n i1) fun r4 =>
     let n5 : Nat := r4.1
     let l6 : List T := r4.2
     some (n5, l6, true))
def sg_lb : Sig (Nat × List T × Bool) where
  pk := fun v => [.lst v.1 v.2.1, .bool v.2.2]
  up := fun ls => match ls with
    | [.lst a0 a1, .bool a2] => some (a0, a1, a2)
    | _ => none
  ok := by
    intro ls v h
    split at h
    · cases h; rfl
    · cases h

def f66_i_EmptyLine.P : List Arg := [⟨.val, ⟨false, [.leaf], [.int .i64 0]⟩⟩]
def f66_i_EmptyLine.A : RAlt (Nat × List T × Bool) := .one ⟨[⟨false, [.sl .own [.leaf]], [.lst 0 []]⟩, ⟨false, [.leaf], [.bool false]⟩], [none]⟩ sg_lb
def f66_i_EmptyLine.F (n : Nat) (v : Int) := f66_i_EmptyLine n v
noncomputable def f66_i_EmptyLine.O (n : Nat) : Orc := orcOf (E := E) [f134_i_isLength.w, f108_i_zeros.w] [] n
theorem f66_i_EmptyLine.ok : ∀ n v x, f66_i_EmptyLine.F n v = some x → evalFn E n 66 (flAs f66_i_EmptyLine.P (sg_i.pk v)) = some (f66_i_EmptyLine.A.enc x) :=
  fn_pure (modes := (fdAt 66).ms) (outs := (fdAt 66).os) (results := (fdAt 66).rs) f66_i_EmptyLine.O (c := c66) (keep := keepAt 66) (by kernel_rfl) (fun n => orcOf_cf _ _ n) (fun n => lpOk_of (bs := []) (by kernel_rfl) .nil) (fun _ => rfl) (fun _ _ => by kernel_rfl)
noncomputable def f66_i_EmptyLine.w : FnW E := fnW 66 f66_i_EmptyLine.P sg_i f66_i_EmptyLine.A f66_i_EmptyLine.F f66_i_EmptyLine.ok

def f34_s_B10Whole.l0 (n : Nat) : Nat → Int → Int → Nat → List T → Int → Int → Nat → List T → Option (Nat × List T)
  | 0, _, _, _, _, _, _, _, _ => none
  | m + 1, i1, i2, n3, l4, i5, i6, n7, l8 =>
    br (decide (i1 > (0 : Int))) (
     bd (f97_s_l00Srcpick n n3 l4 i5 i6 (IntKind.i64.wrap ((IntKind.i64.wrap ((2 : Int) * i2)) + (1 : Int)))) fun r9 =>
     let i10 : Int := r9.1
     let n11 : Nat := r9.2.1
     let l12 : List T := r9.2.2.1
     let i13 : Int := r9.2.2.2.1
     let i14 : Int := r9.2.2.2.2
     gd (Nat.ble (n7 + 1) 2147483648) (
     let n15 : Nat := (n7 + 1)
     let l16 : List T := (l8 ++ (setN (reps 1 [(T.flt FloatKind.f32 0)]) 0 [(T.flt FloatKind.f32 (FloatKind.nearest FloatKind.f32 (IntKind.i64.wrap (i10 - i2))))]))
     f34_s_B10Whole.l0 n m (IntKind.i64.wrap (i1 - (1 : Int))) i2 n11 l12 i13 i14 n15 l16)) (
     some (n7, l8))
def f34_s_B10Whole : Nat → Nat → List T → Int → Int → Option (Nat × List T)
  | 0, _, _, _, _ => none
  | n + 1, n1, l2, i3, i4 =>
    bd (f90_s_l00From n n1 l2) fun r5 =>
    let n6 : Nat := r5.1
    let l7 : List T := r5.2.1
    let i8 : Int := r5.2.2.1
    let i9 : Int := r5.2.2.2
    bd (f34_s_B10Whole.l0 n n i3 i4 n6 l7 i8 i9 0 (reps 0 [(T.flt FloatKind.f32 0)])) fun r10 =>
    let n11 : Nat := r10.1
    let l12 : List T := r10.2
    some (n11, l12)
def sg_iiliil : Sig (Int × Int × Nat × List T × Int × Int × Nat × List T) where
  pk := fun v => [.int v.1, .int v.2.1, .lst v.2.2.1 v.2.2.2.1, .int v.2.2.2.2.1, .int v.2.2.2.2.2.1, .lst v.2.2.2.2.2.2.1 v.2.2.2.2.2.2.2]
  up := fun ls => match ls with
    | [.int a0, .int a1, .lst a2 a3, .int a4, .int a5, .lst a6 a7] => some (a0, a1, a2, a3, a4, a5, a6, a7)
    | _ => none
  ok := by
    intro ls v h
    split at h
    · cases h; rfl
    · cases h

def f34_s_B10Whole.l0.P : AS := ⟨[(1, .val false [.leaf] [.int .i64 0] [] 0), (2, .val false [.leaf] [.int .i64 0] [] 0), (7, .box [.sl .shr [.leaf], .leaf, .leaf] [.lst 0 [], .int .i64 0, .int .u64 0] [] 0), (8, .val false [.sl .own [.leaf]] [.lst 0 []] [] 0)], 0⟩
def f34_s_B10Whole.l0.A : Alt (Nat × List T) := .one (.exit 0) ⟨[(8, .val false [.sl .own [.leaf]] [.lst 0 []] [] 0)], 0⟩ sg_l
def f34_s_B10Whole.l0.F (n m : Nat) (v : Int × Int × Nat × List T × Int × Int × Nat × List T) := f34_s_B10Whole.l0 n m v.1 v.2.1 v.2.2.1 v.2.2.2.1 v.2.2.2.2.1 v.2.2.2.2.2.1 v.2.2.2.2.2.2.1 v.2.2.2.2.2.2.2
def f34_s_B10Whole.l0.W (n : Nat) : LpW := .of 48 f34_s_B10Whole.l0.P sg_iiliil f34_s_B10Whole.l0.A (f34_s_B10Whole.l0.F n n)
def f34_s_B10Whole.P : List Arg := [⟨.val, ⟨false, [.sl .shr [.leaf]], [.lst 0 []]⟩⟩, ⟨.val, ⟨false, [.leaf], [.int .i64 0]⟩⟩, ⟨.val, ⟨false, [.leaf], [.int .i64 0]⟩⟩]
def f34_s_B10Whole.A : RAlt (Nat × List T) := .one ⟨[⟨false, [.sl .own [.leaf]], [.lst 0 []]⟩], [none, none, none]⟩ sg_l
def f34_s_B10Whole.F (n : Nat) (v : Nat × List T × Int × Int) := f34_s_B10Whole n v.1 v.2.1 v.2.2.1 v.2.2.2
noncomputable def f34_s_B10Whole.O (n : Nat) : Orc := orcOf (E := E) [f90_s_l00From.w, f97_s_l00Srcpick.w] [f34_s_B10Whole.l0.W n] n
theorem f34_s_B10Whole.l0.ok (n : Nat) : LpOk (f34_s_B10Whole.O n) E (evalFn E n) n (keepAt 34) (.loop (loopAt c34 0)) :=
  lp_pure f34_s_B10Whole.l0.P sg_iiliil f34_s_B10Whole.l0.A (f34_s_B10Whole.l0.F n) (orcOf_cf _ _ n) (lpOk_of (bs := []) (by kernel_rfl) .nil) (fun _ => rfl) (fun _ _ => by kernel_rfl) (fun _ _ _ => by kernel_rfl)
theorem f34_s_B10Whole.ok : ∀ n v x, f34_s_B10Whole.F n v = some x → evalFn E n 34 (flAs f34_s_B10Whole.P (sg_lii.pk v)) = some (f34_s_B10Whole.A.enc x) :=
  fn_pure (modes := (fdAt 34).ms) (outs := (fdAt 34).os) (results := (fdAt 34).rs) f34_s_B10Whole.O (c := c34) (keep := keepAt 34) (by kernel_rfl) (fun n => orcOf_cf _ _ n) (fun n => lpOk_of (bs := [loopAt c34 0]) (by kernel_rfl) (.cons (f34_s_B10Whole.l0.ok n) .nil)) (fun _ => rfl) (fun _ _ => by kernel_rfl)
noncomputable def f34_s_B10Whole.w : FnW E := fnW 34 f34_s_B10Whole.P sg_lii f34_s_B10Whole.A f34_s_B10Whole.F f34_s_B10Whole.ok

def f11_l_FnDelays.l0 (n : Nat) : Nat → Int → Nat → Nat → Nat → Bool → Int → Nat → List T → Nat → List T → Nat → List T → Int → Option ((Bool) ⊕ (Int × Nat × Nat × Nat × Bool × Nat × List T))
  | 0, _, _, _, _, _, _, _, _, _, _, _, _, _ => none
  | m + 1, i1, x2, x3, x4, b5, i6, n7, l8, n9, l10, n11, l12, i13 =>
    br (decide (i13 < i6)) (
     gd (decide (((0 : Int) ≤ i13) ∧ (i13 < ((n9 : Nat) : Int)))) (
     gd (okAt [(CK.flt FloatKind.f32)] l10 (Int.toNat i13)) (
     let x14 : Nat := (fAt l10 (Int.toNat i13))
     br (decide (i13 ≥ i1)) (
      gd (decide (((0 : Int) ≤ (IntKind.i64.wrap (i13 - i1))) ∧ ((IntKind.i64.wrap (i13 - i1)) < ((n9 : Nat) : Int)))) (
      gd (okAt [(CK.flt FloatKind.f32)] l10 (Int.toNat (IntKind.i64.wrap (i13 - i1)))) (
      let x15 : Nat := (fadd FloatKind.f32 x14 (fAt l10 (Int.toNat (IntKind.i64.wrap (i13 - i1)))))
      gd (decide (((0 : Int) ≤ i13) ∧ (i13 < ((n11 : Nat) : Int)))) (
      gd (okAt [(CK.flt FloatKind.f32)] l12 (Int.toNat i13)) (
      br (fne FloatKind.f32 (fAt l12 (Int.toNat i13)) x15) (
       some (Sum.inl false)) (
       f11_l_FnDelays.l0 n m i1 x2 x3 x4 b5 i6 n7 l8 n9 l10 n11 l12 (IntKind.i64.wrap (i13 + (1 : Int))))))))) (
      gd (decide (((0 : Int) ≤ i13) ∧ (i13 < ((n11 : Nat) : Int)))) (
      gd (okAt [(CK.flt FloatKind.f32)] l12 (Int.toNat i13)) (
      br (fne FloatKind.f32 (fAt l12 (Int.toNat i13)) x14) (
       some (Sum.inl false)) (
       f11_l_FnDelays.l0 n m i1 x2 x3 x4 b5 i6 n7 l8 n9 l10 n11 l12 (IntKind.i64.wrap (i13 + (1 : Int)))))))))) (
     some (Sum.inr (i1, x2, x3, x4, b5, n7, l8)))
termination_by structural x => x
def f136_i_IsFinite : Nat → Nat → Option (Bool)
  | 0, _ => none
  | n + 1, x1 =>
    some (feq FloatKind.f32 (fsub FloatKind.f32 x1 x1) 0)
def f136_i_IsFinite.P : List Arg := [⟨.val, ⟨false, [.leaf], [.flt .f32 0]⟩⟩]
def f136_i_IsFinite.A : RAlt (Bool) := .one ⟨[⟨false, [.leaf], [.bool false]⟩], [none]⟩ sg_b
def f136_i_IsFinite.F (n : Nat) (v : Nat) := f136_i_IsFinite n v
noncomputable def f136_i_IsFinite.O (n : Nat) : Orc := orcOf (E := E) [] [] n
theorem f136_i_IsFinite.ok : ∀ n v x, f136_i_IsFinite.F n v = some x → evalFn E n 136 (flAs f136_i_IsFinite.P (sg_f.pk v)) = some (f136_i_IsFinite.A.enc x) :=
  fn_pure (modes := (fdAt 136).ms) (outs := (fdAt 136).os) (results := (fdAt 136).rs) f136_i_IsFinite.O (c := c136) (keep := keepAt 136) (by kernel_rfl) (fun n => orcOf_cf _ _ n) (fun n => lpOk_of (bs := []) (by kernel_rfl) .nil) (fun _ => rfl) (fun _ _ => by kernel_rfl)
noncomputable def f136_i_IsFinite.w : FnW E := fnW 136 f136_i_IsFinite.P sg_f f136_i_IsFinite.A f136_i_IsFinite.F f136_i_IsFinite.ok

def f137_i_areFinite.l0 (n : Nat) : Nat → Nat → List T → Nat → List T → Int → Int → Option ((Bool) ⊕ (Unit))
  | 0, _, _, _, _, _, _ => none
  | m + 1, n1, l2, n3, l4, i5, i6 =>
    br (decide (i6 < i5)) (
     gd ((decide (((0 : Int) ≤ i6) ∧ (i6 < ((n3 : Nat) : Int)))) && (okAt [(CK.flt FloatKind.f32)] l4 (Int.toNat i6))) (
     let x7 : Nat := (fAt l4 (Int.toNat i6))
     bd (f136_i_IsFinite n x7) fun r8 =>
     let b9 : Bool := r8
     br (!b9) (
      some (Sum.inl false)) (
      f137_i_areFinite.l0 n m n1 l2 n3 l4 i5 (IntKind.i64.wrap (i6 + (1 : Int)))))) (
     some (Sum.inr ()))
def f137_i_areFinite : Nat → Nat → List T → Option (Bool)
  | 0, _, _ => none
  | n + 1, n1, l2 =>
    bd (f137_i_areFinite.l0 n n n1 l2 n1 l2 ((n1 : Nat) : Int) (0 : Int)) fun r3 =>
    sm r3 (fun u4 =>
     let b5 : Bool := u4
     some b5) (fun u6 =>
     some true)
def f137_i_areFinite.l0.P : AS := ⟨[(0, .val false [.sl .shr [.leaf]] [.lst 0 []] [] 0), (5, .val false [.sl .shr [.leaf]] [.lst 0 []] [] 0), (6, .val false [.leaf] [.int .i64 0] [] 0), (7, .val false [.leaf] [.int .i64 0] [] 0)], 0⟩
def f137_i_areFinite.l0.A : Alt ((Bool) ⊕ (Unit)) := .or (.one .ret ⟨[(2, .val false [.leaf] [.bool false] [] 0)], 0⟩ sg_b) (.one (.exit 0) ⟨[(2, .dead)], 0⟩ sg)
def f137_i_areFinite.l0.F (n m : Nat) (v : Nat × List T × Nat × List T × Int × Int) := f137_i_areFinite.l0 n m v.1 v.2.1 v.2.2.1 v.2.2.2.1 v.2.2.2.2.1 v.2.2.2.2.2
def f137_i_areFinite.l0.W (n : Nat) : LpW := .of 32 f137_i_areFinite.l0.P sg_llii f137_i_areFinite.l0.A (f137_i_areFinite.l0.F n n)
def f137_i_areFinite.P : List Arg := [⟨.val, ⟨false, [.sl .shr [.leaf]], [.lst 0 []]⟩⟩]
def f137_i_areFinite.A : RAlt (Bool) := .one ⟨[⟨false, [.leaf], [.bool false]⟩], [none]⟩ sg_b
def f137_i_areFinite.F (n : Nat) (v : Nat × List T) := f137_i_areFinite n v.1 v.2
noncomputable def f137_i_areFinite.O (n : Nat) : Orc := orcOf (E := E) [f136_i_IsFinite.w] [f137_i_areFinite.l0.W n] n
theorem f137_i_areFinite.l0.ok (n : Nat) : LpOk (f137_i_areFinite.O n) E (evalFn E n) n (keepAt 137) (.loop (loopAt c137 0)) :=
  lp_pure f137_i_areFinite.l0.P sg_llii f137_i_areFinite.l0.A (f137_i_areFinite.l0.F n) (orcOf_cf _ _ n) (lpOk_of (bs := []) (by kernel_rfl) .nil) (fun _ => rfl) (fun _ _ => by kernel_rfl) (fun _ _ _ => by kernel_rfl)
theorem f137_i_areFinite.ok : ∀ n v x, f137_i_areFinite.F n v = some x → evalFn E n 137 (flAs f137_i_areFinite.P (sg_l.pk v)) = some (f137_i_areFinite.A.enc x) :=
  fn_pure (modes := (fdAt 137).ms) (outs := (fdAt 137).os) (results := (fdAt 137).rs) f137_i_areFinite.O (c := c137) (keep := keepAt 137) (by kernel_rfl) (fun n => orcOf_cf _ _ n) (fun n => lpOk_of (bs := [loopAt c137 0]) (by kernel_rfl) (.cons (f137_i_areFinite.l0.ok n) .nil)) (fun _ => rfl) (fun _ _ => by kernel_rfl)
noncomputable def f137_i_areFinite.w : FnW E := fnW 137 f137_i_areFinite.P sg_l f137_i_areFinite.A f137_i_areFinite.F f137_i_areFinite.ok

def f138_i_areZeros.l0 (n : Nat) : Nat → Nat → List T → Nat → List T → Int → Int → Option ((Bool) ⊕ (Unit))
  | 0, _, _, _, _, _, _ => none
  | m + 1, n1, l2, n3, l4, i5, i6 =>
    br (decide (i6 < i5)) (
     gd ((decide (((0 : Int) ≤ i6) ∧ (i6 < ((n3 : Nat) : Int)))) && (okAt [(CK.flt FloatKind.f32)] l4 (Int.toNat i6))) (
     let x7 : Nat := (fAt l4 (Int.toNat i6))
     br (fne FloatKind.f32 x7 0) (
      some (Sum.inl false)) (
      f138_i_areZeros.l0 n m n1 l2 n3 l4 i5 (IntKind.i64.wrap (i6 + (1 : Int)))))) (
     some (Sum.inr ()))
def f138_i_areZeros : Nat → Nat → List T → Option (Bool)
  | 0, _, _ => none
  | n + 1, n1, l2 =>
    bd (f138_i_areZeros.l0 n n n1 l2 n1 l2 ((n1 : Nat) : Int) (0 : Int)) fun r3 =>
    sm r3 (fun u4 =>
     let b5 : Bool := u4
     some b5) (fun u6 =>
     some true)
def f138_i_areZeros.l0.P : AS := ⟨[(0, .val false [.sl .shr [.leaf]] [.lst 0 []] [] 0), (5, .val false [.sl .shr [.leaf]] [.lst 0 []] [] 0), (6, .val false [.leaf] [.int .i64 0] [] 0), (7, .val false [.leaf] [.int .i64 0] [] 0)], 0⟩
def f138_i_areZeros.l0.A : Alt ((Bool) ⊕ (Unit)) := .or (.one .ret ⟨[(2, .val false [.leaf] [.bool false] [] 0)], 0⟩ sg_b) (.one (.exit 0) ⟨[(2, .dead)], 0⟩ sg)
def f138_i_areZeros.l0.F (n m : Nat) (v : Nat × List T × Nat × List T × Int × Int) := f138_i_areZeros.l0 n m v.1 v.2.1 v.2.2.1 v.2.2.2.1 v.2.2.2.2.1 v.2.2.2.2.2
def f138_i_areZeros.l0.W (n : Nat) : LpW := .of 32 f138_i_areZeros.l0.P sg_llii f138_i_areZeros.l0.A (f138_i_areZeros.l0.F n n)
def f138_i_areZeros.P : List Arg := [⟨.val, ⟨false, [.sl .shr [.leaf]], [.lst 0 []]⟩⟩]
def f138_i_areZeros.A : RAlt (Bool) := .one ⟨[⟨false, [.leaf], [.bool false]⟩], [none]⟩ sg_b
def f138_i_areZeros.F (n : Nat) (v : Nat × List T) := f138_i_areZeros n v.1 v.2
noncomputable def f138_i_areZeros.O (n : Nat) : Orc := orcOf (E := E) [] [f138_i_areZeros.l0.W n] n
theorem f138_i_areZeros.l0.ok (n : Nat) : LpOk (f138_i_areZeros.O n) E (evalFn E n) n (keepAt 138) (.loop (loopAt c138 0)) :=
  lp_pure f138_i_areZeros.l0.P sg_llii f138_i_areZeros.l0.A (f138_i_areZeros.l0.F n) (orcOf_cf _ _ n) (lpOk_of (bs := []) (by kernel_rfl) .nil) (fun _ => rfl) (fun _ _ => by kernel_rfl) (fun _ _ _ => by kernel_rfl)
theorem f138_i_areZeros.ok : ∀ n v x, f138_i_areZeros.F n v = some x → evalFn E n 138 (flAs f138_i_areZeros.P (sg_l.pk v)) = some (f138_i_areZeros.A.enc x) :=
  fn_pure (modes := (fdAt 138).ms) (outs := (fdAt 138).os) (results := (fdAt 138).rs) f138_i_areZeros.O (c := c138) (keep := keepAt 138) (by kernel_rfl) (fun n => orcOf_cf _ _ n) (fun n => lpOk_of (bs := [loopAt c138 0]) (by kernel_rfl) (.cons (f138_i_areZeros.l0.ok n) .nil)) (fun _ => rfl) (fun _ _ => by kernel_rfl)
noncomputable def f138_i_areZeros.w : FnW E := fnW 138 f138_i_areZeros.P sg_l f138_i_areZeros.A f138_i_areZeros.F f138_i_areZeros.ok

def f67_i_SilentFrom.l0 (n : Nat) : Nat → Int → Nat → Nat → Nat → Bool → Nat → List T → Int → Option ((Int × Bool) ⊕ (Unit))
  | 0, _, _, _, _, _, _, _, _ => none
  | m + 1, i1, x2, x3, x4, b5, n6, l7, i8 =>
    br (decide (i8 ≤ (256 : Int))) (
     bd (f138_i_areZeros n n6 l7) fun r9 =>
     let b10 : Bool := r9
     br b10 (
      some (Sum.inl (i8, true))) (
      bd (f133_i_Delaystep n i1 x2 x3 x4 b5 n6 l7 0) fun r11 =>
      let x12 : Nat := r11.1
      let n13 : Nat := r11.2.1
      let l14 : List T := r11.2.2
      f67_i_SilentFrom.l0 n m i1 x2 x3 x4 b5 n13 l14 (IntKind.i64.wrap (i8 + (1 : Int))))) (
     some (Sum.inr ()))
def f67_i_SilentFrom : Nat → Int → Nat → Nat → Nat → Bool → Nat → List T → Option (Int × Bool)
  | 0, _, _, _, _, _, _, _ => none
  | n + 1, i1, x2, x3, x4, b5, n6, l7 =>
    bd (f64_i_ValidDelay n i1 x2 x3 x4 b5) fun r8 =>
    let b9 : Bool := r8
    br (!b9) (
     some ((0 : Int), false)) (
     bd (f113_i_size n ((n6 : Nat) : Int)) fun r10 =>
     let i11 : Int := r10
     br (i11 != i1) (
      some ((0 : Int), false)) (
      bd (f136_i_IsFinite n x2) fun r12 =>
      let b13 : Bool := r12
      br (!b13) (
       some ((0 : Int), false)) (
       bd (f137_i_areFinite n n6 l7) fun r14 =>
       let b15 : Bool := r14
       br (!b15) (
        some ((0 : Int), false)) (
        bd (f109_i_copyNumbers n n6 l7) fun r16 =>
        let n17 : Nat := r16.1
        let l18 : List T := r16.2
        bd (f67_i_SilentFrom.l0 n n i1 x2 x3 x4 b5 n17 l18 (0 : Int)) fun r19 =>
        sm r19 (fun u20 =>
         let i21 : Int := u20.1
         let b22 : Bool := u20.2
         some (i21, b22)) (fun u23 =>
         some ((0 : Int), false))))))
def sg_ifffbl : Sig (Int × Nat × Nat × Nat × Bool × Nat × List T) where
  pk := fun v => [.int v.1, .flt v.2.1, .flt v.2.2.1, .flt v.2.2.2.1, .bool v.2.2.2.2.1, .lst v.2.2.2.2.2.1 v.2.2.2.2.2.2]
  up := fun ls => match ls with
    | [.int a0, .flt a1, .flt a2, .flt a3, .bool a4, .lst a5 a6] => some (a0, a1, a2, a3, a4, a5, a6)
    | _ => none
  ok := by
    intro ls v h
    split at h
    · cases h; rfl
    · cases h

def sg_ib : Sig (Int × Bool) where
  pk := fun v => [.int v.1, .bool v.2]
  up := fun ls => match ls with
    | [.int a0, .bool a1] => some (a0, a1)
    | _ => none
  ok := by
    intro ls v h
    split at h
    · cases h; rfl
    · cases h

def sg_ifffbli : Sig (Int × Nat × Nat × Nat × Bool × Nat × List T × Int) where
  pk := fun v => [.int v.1, .flt v.2.1, .flt v.2.2.1, .flt v.2.2.2.1, .bool v.2.2.2.2.1, .lst v.2.2.2.2.2.1 v.2.2.2.2.2.2.1, .int v.2.2.2.2.2.2.2]
  up := fun ls => match ls with
    | [.int a0, .flt a1, .flt a2, .flt a3, .bool a4, .lst a5 a6, .int a7] => some (a0, a1, a2, a3, a4, a5, a6, a7)
    | _ => none
  ok := by
    intro ls v h
    split at h
    · cases h; rfl
    · cases h

def f67_i_SilentFrom.l0.P : AS := ⟨[(2, .box [.leaf, .leaf, .leaf, .leaf, .leaf] [.int .i64 0, .flt .f32 0, .flt .f32 0, .flt .f32 0, .bool false] [] 0), (6, .val false [.sl .own [.leaf]] [.lst 0 []] [] 0), (7, .val false [.leaf] [.int .i64 0] [] 0)], 0⟩
def f67_i_SilentFrom.l0.A : Alt ((Int × Bool) ⊕ (Unit)) := .or (.one .ret ⟨[(4, .val false [.leaf] [.int .i64 0] [] 0), (5, .val false [.leaf] [.bool false] [] 0)], 0⟩ sg_ib) (.one (.exit 0) ⟨[(4, .dead), (5, .dead)], 0⟩ sg)
def f67_i_SilentFrom.l0.F (n m : Nat) (v : Int × Nat × Nat × Nat × Bool × Nat × List T × Int) := f67_i_SilentFrom.l0 n m v.1 v.2.1 v.2.2.1 v.2.2.2.1 v.2.2.2.2.1 v.2.2.2.2.2.1 v.2.2.2.2.2.2.1 v.2.2.2.2.2.2.2
def f67_i_SilentFrom.l0.W (n : Nat) : LpW := .of 80 f67_i_SilentFrom.l0.P sg_ifffbli f67_i_SilentFrom.l0.A (f67_i_SilentFrom.l0.F n n)
def f67_i_SilentFrom.P : List Arg := [⟨.val, ⟨true, [.leaf, .leaf, .leaf, .leaf, .leaf], [.int .i64 0, .flt .f32 0, .flt .f32 0, .flt .f32 0, .bool false]⟩⟩, ⟨.val, ⟨false, [.sl .shr [.leaf]], [.lst 0 []]⟩⟩]
def f67_i_SilentFrom.A : RAlt (Int × Bool) := .one ⟨[⟨false, [.leaf], [.int .i64 0]⟩, ⟨false, [.leaf], [.bool false]⟩], [none, none]⟩ sg_ib
def f67_i_SilentFrom.F (n : Nat) (v : Int × Nat × Nat × Nat × Bool × Nat × List T) := f67_i_SilentFrom n v.1 v.2.1 v.2.2.1 v.2.2.2.1 v.2.2.2.2.1 v.2.2.2.2.2.1 v.2.2.2.2.2.2
noncomputable def f67_i_SilentFrom.O (n : Nat) : Orc := orcOf (E := E) [f64_i_ValidDelay.w, f113_i_size.w, f109_i_copyNumbers.w, f133_i_Delaystep.w, f136_i_IsFinite.w, f137_i_areFinite.w, f138_i_areZeros.w] [f67_i_SilentFrom.l0.W n] n
theorem f67_i_SilentFrom.l0.ok (n : Nat) : LpOk (f67_i_SilentFrom.O n) E (evalFn E n) n (keepAt 67) (.loop (loopAt c67 0)) :=
  lp_pure f67_i_SilentFrom.l0.P sg_ifffbli f67_i_SilentFrom.l0.A (f67_i_SilentFrom.l0.F n) (orcOf_cf _ _ n) (lpOk_of (bs := []) (by kernel_rfl) .nil) (fun _ => rfl) (fun _ _ => by kernel_rfl) (fun _ _ _ => by kernel_rfl)
theorem f67_i_SilentFrom.ok : ∀ n v x, f67_i_SilentFrom.F n v = some x → evalFn E n 67 (flAs f67_i_SilentFrom.P (sg_ifffbl.pk v)) = some (f67_i_SilentFrom.A.enc x) :=
  fn_pure (modes := (fdAt 67).ms) (outs := (fdAt 67).os) (results := (fdAt 67).rs) f67_i_SilentFrom.O (c := c67) (keep := keepAt 67) (by kernel_rfl) (fun n => orcOf_cf _ _ n) (fun n => lpOk_of (bs := [loopAt c67 0]) (by kernel_rfl) (.cons (f67_i_SilentFrom.l0.ok n) .nil)) (fun _ => rfl) (fun _ _ => by kernel_rfl)
noncomputable def f67_i_SilentFrom.w : FnW E := fnW 67 f67_i_SilentFrom.P sg_ifffbl f67_i_SilentFrom.A f67_i_SilentFrom.F f67_i_SilentFrom.ok

def f130_s_l00In : Nat → Int → Int → Int → Option (Bool)
  | 0, _, _, _ => none
  | n + 1, i1, i2, i3 =>
    br (decide (i1 ≥ i2)) (
     some (decide (i1 ≤ i3))) (
     some false)
def f130_s_l00In.P : List Arg := [⟨.val, ⟨false, [.leaf], [.int .i64 0]⟩⟩, ⟨.val, ⟨false, [.leaf], [.int .i64 0]⟩⟩, ⟨.val, ⟨false, [.leaf], [.int .i64 0]⟩⟩]
def f130_s_l00In.A : RAlt (Bool) := .one ⟨[⟨false, [.leaf], [.bool false]⟩], [none, none, none]⟩ sg_b
def f130_s_l00In.F (n : Nat) (v : Int × Int × Int) := f130_s_l00In n v.1 v.2.1 v.2.2
noncomputable def f130_s_l00In.O (n : Nat) : Orc := orcOf (E := E) [] [] n
theorem f130_s_l00In.ok : ∀ n v x, f130_s_l00In.F n v = some x → evalFn E n 130 (flAs f130_s_l00In.P (sg_iii.pk v)) = some (f130_s_l00In.A.enc x) :=
  fn_pure (modes := (fdAt 130).ms) (outs := (fdAt 130).os) (results := (fdAt 130).rs) f130_s_l00In.O (c := c130) (keep := keepAt 130) (by kernel_rfl) (fun n => orcOf_cf _ _ n) (fun n => lpOk_of (bs := []) (by kernel_rfl) .nil) (fun _ => rfl) (fun _ _ => by kernel_rfl)
noncomputable def f130_s_l00In.w : FnW E := fnW 130 f130_s_l00In.P sg_iii f130_s_l00In.A f130_s_l00In.F f130_s_l00In.ok

def f139_s_l03Length : Nat → Int → Option (Bool)
  | 0, _ => none
  | n + 1, i1 =>
    bd (f130_s_l00In n i1 (1 : Int) (64 : Int)) fun r2 =>
    let b3 : Bool := r2
    some b3
def f139_s_l03Length.P : List Arg := [⟨.val, ⟨false, [.leaf], [.int .i64 0]⟩⟩]
def f139_s_l03Length.A : RAlt (Bool) := .one ⟨[⟨false, [.leaf], [.bool false]⟩], [none]⟩ sg_b
def f139_s_l03Length.F (n : Nat) (v : Int) := f139_s_l03Length n v
noncomputable def f139_s_l03Length.O (n : Nat) : Orc := orcOf (E := E) [f130_s_l00In.w] [] n
theorem f139_s_l03Length.ok : ∀ n v x, f139_s_l03Length.F n v = some x → evalFn E n 139 (flAs f139_s_l03Length.P (sg_i.pk v)) = some (f139_s_l03Length.A.enc x) :=
  fn_pure (modes := (fdAt 139).ms) (outs := (fdAt 139).os) (results := (fdAt 139).rs) f139_s_l03Length.O (c := c139) (keep := keepAt 139) (by kernel_rfl) (fun n => orcOf_cf _ _ n) (fun n => lpOk_of (bs := []) (by kernel_rfl) .nil) (fun _ => rfl) (fun _ _ => by kernel_rfl)
noncomputable def f139_s_l03Length.w : FnW E := fnW 139 f139_s_l03Length.P sg_i f139_s_l03Length.A f139_s_l03Length.F f139_s_l03Length.ok

def f140_s_l01Finite : Nat → Nat → Option (Bool)
  | 0, _ => none
  | n + 1, x1 =>
    some (feq FloatKind.f32 (fsub FloatKind.f32 x1 x1) 0)
def f140_s_l01Finite.P : List Arg := [⟨.val, ⟨false, [.leaf], [.flt .f32 0]⟩⟩]
def f140_s_l01Finite.A : RAlt (Bool) := .one ⟨[⟨false, [.leaf], [.bool false]⟩], [none]⟩ sg_b
def f140_s_l01Finite.F (n : Nat) (v : Nat) := f140_s_l01Finite n v
noncomputable def f140_s_l01Finite.O (n : Nat) : Orc := orcOf (E := E) [] [] n
theorem f140_s_l01Finite.ok : ∀ n v x, f140_s_l01Finite.F n v = some x → evalFn E n 140 (flAs f140_s_l01Finite.P (sg_f.pk v)) = some (f140_s_l01Finite.A.enc x) :=
  fn_pure (modes := (fdAt 140).ms) (outs := (fdAt 140).os) (results := (fdAt 140).rs) f140_s_l01Finite.O (c := c140) (keep := keepAt 140) (by kernel_rfl) (fun n => orcOf_cf _ _ n) (fun n => lpOk_of (bs := []) (by kernel_rfl) .nil) (fun _ => rfl) (fun _ _ => by kernel_rfl)
noncomputable def f140_s_l01Finite.w : FnW E := fnW 140 f140_s_l01Finite.P sg_f f140_s_l01Finite.A f140_s_l01Finite.F f140_s_l01Finite.ok

def f68_s_SilentFrom.l0 (n : Nat) : Nat → Nat → List T → Int → Nat → Nat → Nat → Bool → Int → Int → Option ((Int × Bool) ⊕ (Nat × List T × Int × Nat × Nat × Nat × Bool))
  | 0, _, _, _, _, _, _, _, _, _ => none
  | m + 1, n1, l2, i3, x4, x5, x6, b7, i8, i9 =>
    br (decide (i9 < i8)) (
     gd ((decide (((0 : Int) ≤ i9) ∧ (i9 < ((n1 : Nat) : Int)))) && (okAt [(CK.flt FloatKind.f32)] l2 (Int.toNat i9))) (
     bd (f140_s_l01Finite n (fAt l2 (Int.toNat i9))) fun r10 =>
     let b11 : Bool := r10
     br (!b11) (
      some (Sum.inl ((0 : Int), false))) (
      f68_s_SilentFrom.l0 n m n1 l2 i3 x4 x5 x6 b7 i8 (IntKind.i64.wrap (i9 + (1 : Int)))))) (
     some (Sum.inr (n1, l2, i3, x4, x5, x6, b7)))
def f141_s_l03Own : Nat → Nat → List T → Option (Nat × List T)
  | 0, _, _ => none
  | n + 1, n1, l2 =>
    gd (Nat.ble (0 + n1) 2147483648) (
    some ((0 + n1), ((reps 0 [(T.flt FloatKind.f32 0)]) ++ l2)))
def f141_s_l03Own.P : List Arg := [⟨.val, ⟨false, [.sl .shr [.leaf]], [.lst 0 []]⟩⟩]
def f141_s_l03Own.A : RAlt (Nat × List T) := .one ⟨[⟨false, [.sl .own [.leaf]], [.lst 0 []]⟩], [none]⟩ sg_l
def f141_s_l03Own.F (n : Nat) (v : Nat × List T) := f141_s_l03Own n v.1 v.2
noncomputable def f141_s_l03Own.O (n : Nat) : Orc := orcOf (E := E) [] [] n
theorem f141_s_l03Own.ok : ∀ n v x, f141_s_l03Own.F n v = some x → evalFn E n 141 (flAs f141_s_l03Own.P (sg_l.pk v)) = some (f141_s_l03Own.A.enc x) :=
  fn_pure (modes := (fdAt 141).ms) (outs := (fdAt 141).os) (results := (fdAt 141).rs) f141_s_l03Own.O (c := c141) (keep := keepAt 141) (by kernel_rfl) (fun n => orcOf_cf _ _ n) (fun n => lpOk_of (bs := []) (by kernel_rfl) .nil) (fun _ => rfl) (fun _ _ => by kernel_rfl)
noncomputable def f141_s_l03Own.w : FnW E := fnW 141 f141_s_l03Own.P sg_l f141_s_l03Own.A f141_s_l03Own.F f141_s_l03Own.ok

def f142_s_l03Zeros.l0 (n : Nat) : Nat → Nat → List T → Int → Int → Option ((Bool) ⊕ (Unit))
  | 0, _, _, _, _ => none
  | m + 1, n1, l2, i3, i4 =>
    br (decide (i4 < i3)) (
     gd ((decide (((0 : Int) ≤ i4) ∧ (i4 < ((n1 : Nat) : Int)))) && (okAt [(CK.flt FloatKind.f32)] l2 (Int.toNat i4))) (
     br (fne FloatKind.f32 (fAt l2 (Int.toNat i4)) 0) (
      some (Sum.inl false)) (
      f142_s_l03Zeros.l0 n m n1 l2 i3 (IntKind.i64.wrap (i4 + (1 : Int)))))) (
     some (Sum.inr ()))
def f142_s_l03Zeros : Nat → Nat → List T → Option (Bool)
  | 0, _, _ => none
  | n + 1, n1, l2 =>
    bd (f142_s_l03Zeros.l0 n n n1 l2 ((n1 : Nat) : Int) (0 : Int)) fun r3 =>
    sm r3 (fun u4 =>
     let b5 : Bool := u4
     some b5) (fun u6 =>
     some true)
def f142_s_l03Zeros.l0.P : AS := ⟨[(0, .val false [.sl .shr [.leaf]] [.lst 0 []] [] 0), (5, .val false [.leaf] [.int .i64 0] [] 0), (6, .val false [.leaf] [.int .i64 0] [] 0)], 0⟩
def f142_s_l03Zeros.l0.A : Alt ((Bool) ⊕ (Unit)) := .or (.one .ret ⟨[(2, .val false [.leaf] [.bool false] [] 0)], 0⟩ sg_b) (.one (.exit 0) ⟨[(2, .dead)], 0⟩ sg)
def f142_s_l03Zeros.l0.F (n m : Nat) (v : Nat × List T × Int × Int) := f142_s_l03Zeros.l0 n m v.1 v.2.1 v.2.2.1 v.2.2.2
def f142_s_l03Zeros.l0.W (n : Nat) : LpW := .of 32 f142_s_l03Zeros.l0.P sg_lii f142_s_l03Zeros.l0.A (f142_s_l03Zeros.l0.F n n)
def f142_s_l03Zeros.P : List Arg := [⟨.val, ⟨false, [.sl .shr [.leaf]], [.lst 0 []]⟩⟩]
def f142_s_l03Zeros.A : RAlt (Bool) := .one ⟨[⟨false, [.leaf], [.bool false]⟩], [none]⟩ sg_b
def f142_s_l03Zeros.F (n : Nat) (v : Nat × List T) := f142_s_l03Zeros n v.1 v.2
noncomputable def f142_s_l03Zeros.O (n : Nat) : Orc := orcOf (E := E) [] [f142_s_l03Zeros.l0.W n] n
theorem f142_s_l03Zeros.l0.ok (n : Nat) : LpOk (f142_s_l03Zeros.O n) E (evalFn E n) n (keepAt 142) (.loop (loopAt c142 0)) :=
  lp_pure f142_s_l03Zeros.l0.P sg_lii f142_s_l03Zeros.l0.A (f142_s_l03Zeros.l0.F n) (orcOf_cf _ _ n) (lpOk_of (bs := []) (by kernel_rfl) .nil) (fun _ => rfl) (fun _ _ => by kernel_rfl) (fun _ _ _ => by kernel_rfl)
theorem f142_s_l03Zeros.ok : ∀ n v x, f142_s_l03Zeros.F n v = some x → evalFn E n 142 (flAs f142_s_l03Zeros.P (sg_l.pk v)) = some (f142_s_l03Zeros.A.enc x) :=
  fn_pure (modes := (fdAt 142).ms) (outs := (fdAt 142).os) (results := (fdAt 142).rs) f142_s_l03Zeros.O (c := c142) (keep := keepAt 142) (by kernel_rfl) (fun n => orcOf_cf _ _ n) (fun n => lpOk_of (bs := [loopAt c142 0]) (by kernel_rfl) (.cons (f142_s_l03Zeros.l0.ok n) .nil)) (fun _ => rfl) (fun _ _ => by kernel_rfl)
noncomputable def f142_s_l03Zeros.w : FnW E := fnW 142 f142_s_l03Zeros.P sg_l f142_s_l03Zeros.A f142_s_l03Zeros.F f142_s_l03Zeros.ok

def f176_s_l01Flush : Nat → Nat → Option (Nat)
  | 0, _ => none
  | n + 1, x1 =>
    bd (f165_s_l01Bits n x1) fun r2 =>
    let i3 : Int := r2
    br ((intBits BinOp.and IntKind.i64 i3 (2139095040 : Int)) == (0 : Int)) (
     bd (f167_s_l01From n (intBits BinOp.and IntKind.i64 i3 (2147483648 : Int))) fun r4 =>
     let x5 : Nat := r4
     some x5) (
     some x1)
def f176_s_l01Flush.P : List Arg := [⟨.val, ⟨false, [.leaf], [.flt .f32 0]⟩⟩]
def f176_s_l01Flush.A : RAlt (Nat) := .one ⟨[⟨false, [.leaf], [.flt .f32 0]⟩], [none]⟩ sg_f
def f176_s_l01Flush.F (n : Nat) (v : Nat) := f176_s_l01Flush n v
noncomputable def f176_s_l01Flush.O (n : Nat) : Orc := orcOf (E := E) [f167_s_l01From.w, f165_s_l01Bits.w] [] n
theorem f176_s_l01Flush.ok : ∀ n v x, f176_s_l01Flush.F n v = some x → evalFn E n 176 (flAs f176_s_l01Flush.P (sg_f.pk v)) = some (f176_s_l01Flush.A.enc x) :=
  fn_pure (modes := (fdAt 176).ms) (outs := (fdAt 176).os) (results := (fdAt 176).rs) f176_s_l01Flush.O (c := c176) (keep := keepAt 176) (by kernel_rfl) (fun n => orcOf_cf _ _ n) (fun n => lpOk_of (bs := []) (by kernel_rfl) .nil) (fun _ => rfl) (fun _ _ => by kernel_rfl)
noncomputable def f176_s_l01Flush.w : FnW E := fnW 176 f176_s_l01Flush.P sg_f f176_s_l01Flush.A f176_s_l01Flush.F f176_s_l01Flush.ok

def f177_s_l03Take.l0 (n : Nat) : Nat → Nat → List T → Nat → Int → Option (Nat × List T × Nat)
  | 0, _, _, _, _ => none
  | m + 1, n1, l2, x3, i4 =>
    br (decide (i4 < ((n1 : Nat) : Int))) (
     gd (decide (((0 : Int) ≤ i4) ∧ (i4 < ((n1 : Nat) : Int)))) (
     gd (okAt [(CK.flt FloatKind.f32)] l2 (Int.toNat i4)) (
     gd (decide (((0 : Int) ≤ (IntKind.i64.wrap (i4 - (1 : Int)))) ∧ ((IntKind.i64.wrap (i4 - (1 : Int))) < ((n1 : Nat) : Int)))) (
     gd (Nat.ble ((Int.toNat (IntKind.i64.wrap (i4 - (1 : Int)))) + 1) (List.length l2)) (
     let l5 : List T := (setN l2 (Int.toNat (IntKind.i64.wrap (i4 - (1 : Int)))) [(T.flt FloatKind.f32 (fAt l2 (Int.toNat i4)))])
     f177_s_l03Take.l0 n m n1 l5 x3 (IntKind.i64.wrap (i4 + (1 : Int)))))))) (
     some (n1, l2, x3))
def f177_s_l03Take : Nat → Nat → List T → Nat → Option (Nat × List T)
  | 0, _, _, _ => none
  | n + 1, n1, l2, x3 =>
    bd (f177_s_l03Take.l0 n n n1 l2 x3 (1 : Int)) fun r4 =>
    let n5 : Nat := r4.1
    let l6 : List T := r4.2.1
    let x7 : Nat := r4.2.2
    gd (decide (((0 : Int) ≤ (IntKind.i64.wrap (((n5 : Nat) : Int) - (1 : Int)))) ∧ ((IntKind.i64.wrap (((n5 : Nat) : Int) - (1 : Int))) < ((n5 : Nat) : Int)))) (
    gd (Nat.ble ((Int.toNat (IntKind.i64.wrap (((n5 : Nat) : Int) - (1 : Int)))) + 1) (List.length l6)) (
    some (n5, (setN l6 (Int.toNat (IntKind.i64.wrap (((n5 : Nat) : Int) - (1 : Int)))) [(T.flt FloatKind.f32 x7)]))))
def sg_lfi : Sig (Nat × List T × Nat × Int) where
  pk := fun v => [.lst v.1 v.2.1, .flt v.2.2.1, .int v.2.2.2]
  up := fun ls => match ls with
    | [.lst a0 a1, .flt a2, .int a3] => some (a0, a1, a2, a3)
    | _ => none
  ok := by
    intro ls v h
    split at h
    · cases h; rfl
    · cases h

def f177_s_l03Take.l0.P : AS := ⟨[(0, .val false [.sl .own [.leaf]] [.lst 0 []] [] 1), (1, .val false [.leaf] [.flt .f32 0] [] 0), (4, .val false [.leaf] [.int .i64 0] [] 0)], 0⟩
def f177_s_l03Take.l0.A : Alt (Nat × List T × Nat) := .one (.exit 0) ⟨[(0, .val false [.sl .own [.leaf]] [.lst 0 []] [] 1), (1, .val false [.leaf] [.flt .f32 0] [] 0)], 0⟩ sg_lf
def f177_s_l03Take.l0.F (n m : Nat) (v : Nat × List T × Nat × Int) := f177_s_l03Take.l0 n m v.1 v.2.1 v.2.2.1 v.2.2.2
def f177_s_l03Take.l0.W (n : Nat) : LpW := .of 16 f177_s_l03Take.l0.P sg_lfi f177_s_l03Take.l0.A (f177_s_l03Take.l0.F n n)
def f177_s_l03Take.P : List Arg := [⟨.io, ⟨false, [.sl .own [.leaf]], [.lst 0 []]⟩⟩, ⟨.val, ⟨false, [.leaf], [.flt .f32 0]⟩⟩]
def f177_s_l03Take.A : RAlt (Nat × List T) := .one ⟨[], [some ⟨false, [.sl .own [.leaf]], [.lst 0 []]⟩, none]⟩ sg_l
def f177_s_l03Take.F (n : Nat) (v : Nat × List T × Nat) := f177_s_l03Take n v.1 v.2.1 v.2.2
noncomputable def f177_s_l03Take.O (n : Nat) : Orc := orcOf (E := E) [] [f177_s_l03Take.l0.W n] n
theorem f177_s_l03Take.l0.ok (n : Nat) : LpOk (f177_s_l03Take.O n) E (evalFn E n) n (keepAt 177) (.loop (loopAt c177 0)) :=
  lp_pure f177_s_l03Take.l0.P sg_lfi f177_s_l03Take.l0.A (f177_s_l03Take.l0.F n) (orcOf_cf _ _ n) (lpOk_of (bs := []) (by kernel_rfl) .nil) (fun _ => rfl) (fun _ _ => by kernel_rfl) (fun _ _ _ => by kernel_rfl)
theorem f177_s_l03Take.ok : ∀ n v x, f177_s_l03Take.F n v = some x → evalFn E n 177 (flAs f177_s_l03Take.P (sg_lf.pk v)) = some (f177_s_l03Take.A.enc x) :=
  fn_pure (modes := (fdAt 177).ms) (outs := (fdAt 177).os) (results := (fdAt 177).rs) f177_s_l03Take.O (c := c177) (keep := keepAt 177) (by kernel_rfl) (fun n => orcOf_cf _ _ n) (fun n => lpOk_of (bs := [loopAt c177 0]) (by kernel_rfl) (.cons (f177_s_l03Take.l0.ok n) .nil)) (fun _ => rfl) (fun _ _ => by kernel_rfl)
noncomputable def f177_s_l03Take.w : FnW E := fnW 177 f177_s_l03Take.P sg_lf f177_s_l03Take.A f177_s_l03Take.F f177_s_l03Take.ok

def f143_s_l03Delay : Nat → Int → Nat → Nat → Nat → Bool → Nat → List T → Nat → Option (Nat × Nat × List T)
  | 0, _, _, _, _, _, _, _, _ => none
  | n + 1, i1, x2, x3, x4, b5, n6, l7, x8 =>
    gd (decide (((0 : Int) ≤ (0 : Int)) ∧ ((0 : Int) < ((n6 : Nat) : Int)))) (
    gd (okAt [(CK.flt FloatKind.f32)] l7 0) (
    let x9 : Nat := (fAt l7 0)
    let x10 : Nat := (fadd FloatKind.f32 x8 (fmul FloatKind.f32 x2 x9))
    br b5 (
     bd (f176_s_l01Flush n x10) fun r11 =>
     let x12 : Nat := r11
     bd (f177_s_l03Take n n6 l7 x12) fun r13 =>
     let n14 : Nat := r13.1
     let l15 : List T := r13.2
     some ((fadd FloatKind.f32 (fmul FloatKind.f32 x3 x8) (fmul FloatKind.f32 x4 x9)), n14, l15)) (
     bd (f177_s_l03Take n n6 l7 x10) fun r16 =>
     let n17 : Nat := r16.1
     let l18 : List T := r16.2
     some ((fadd FloatKind.f32 (fmul FloatKind.f32 x3 x8) (fmul FloatKind.f32 x4 x9)), n17, l18))))
def f143_s_l03Delay.P : List Arg := [⟨.val, ⟨false, [.rf .shr [.leaf, .leaf, .leaf, .leaf, .leaf]], [.ref [.int .i64 0, .flt .f32 0, .flt .f32 0, .flt .f32 0, .bool false]]⟩⟩, ⟨.io, ⟨false, [.sl .own [.leaf]], [.lst 0 []]⟩⟩, ⟨.val, ⟨false, [.leaf], [.flt .f32 0]⟩⟩]
def f143_s_l03Delay.A : RAlt (Nat × Nat × List T) := .one ⟨[⟨false, [.leaf], [.flt .f32 0]⟩], [none, some ⟨false, [.sl .own [.leaf]], [.lst 0 []]⟩, none]⟩ sg_fl
def f143_s_l03Delay.F (n : Nat) (v : Int × Nat × Nat × Nat × Bool × Nat × List T × Nat) := f143_s_l03Delay n v.1 v.2.1 v.2.2.1 v.2.2.2.1 v.2.2.2.2.1 v.2.2.2.2.2.1 v.2.2.2.2.2.2.1 v.2.2.2.2.2.2.2
noncomputable def f143_s_l03Delay.O (n : Nat) : Orc := orcOf (E := E) [f176_s_l01Flush.w, f177_s_l03Take.w] [] n
theorem f143_s_l03Delay.ok : ∀ n v x, f143_s_l03Delay.F n v = some x → evalFn E n 143 (flAs f143_s_l03Delay.P (sg_ifffblf.pk v)) = some (f143_s_l03Delay.A.enc x) :=
  fn_pure (modes := (fdAt 143).ms) (outs := (fdAt 143).os) (results := (fdAt 143).rs) f143_s_l03Delay.O (c := c143) (keep := keepAt 143) (by kernel_rfl) (fun n => orcOf_cf _ _ n) (fun n => lpOk_of (bs := []) (by kernel_rfl) .nil) (fun _ => rfl) (fun _ _ => by kernel_rfl)
noncomputable def f143_s_l03Delay.w : FnW E := fnW 143 f143_s_l03Delay.P sg_ifffblf f143_s_l03Delay.A f143_s_l03Delay.F f143_s_l03Delay.ok

def f68_s_SilentFrom.l1 (n : Nat) : Nat → Int → Nat → Nat → Nat → Bool → Nat → List T → Int → Option ((Int × Bool) ⊕ (Unit))
  | 0, _, _, _, _, _, _, _, _ => none
  | m + 1, i1, x2, x3, x4, b5, n6, l7, i8 =>
    br (decide (i8 ≤ (256 : Int))) (
     bd (f142_s_l03Zeros n n6 l7) fun r9 =>
     let b10 : Bool := r9
     br b10 (
      some (Sum.inl (i8, true))) (
      bd (f143_s_l03Delay n i1 x2 x3 x4 b5 n6 l7 0) fun r11 =>
      let x12 : Nat := r11.1
      let n13 : Nat := r11.2.1
      let l14 : List T := r11.2.2
      f68_s_SilentFrom.l1 n m i1 x2 x3 x4 b5 n13 l14 (IntKind.i64.wrap (i8 + (1 : Int))))) (
     some (Sum.inr ()))
def f68_s_SilentFrom : Nat → Int → Nat → Nat → Nat → Bool → Nat → List T → Option (Int × Bool)
  | 0, _, _, _, _, _, _, _ => none
  | n + 1, i1, x2, x3, x4, b5, n6, l7 =>
    bd (f139_s_l03Length n i1) fun r8 =>
    let b9 : Bool := r8
    br (!b9) (
     some ((0 : Int), false)) (
     br (((n6 : Nat) : Int) != i1) (
      some ((0 : Int), false)) (
      bd (f140_s_l01Finite n x2) fun r10 =>
      let b11 : Bool := r10
      br (!b11) (
       some ((0 : Int), false)) (
       bd (f68_s_SilentFrom.l0 n n n6 l7 i1 x2 x3 x4 b5 ((n6 : Nat) : Int) (0 : Int)) fun r12 =>
       sm r12 (fun u13 =>
        let i14 : Int := u13.1
        let b15 : Bool := u13.2
        some (i14, b15)) (fun u16 =>
        let n17 : Nat := u16.1
        let l18 : List T := u16.2.1
        let i19 : Int := u16.2.2.1
        let x20 : Nat := u16.2.2.2.1
        let x21 : Nat := u16.2.2.2.2.1
        let x22 : Nat := u16.2.2.2.2.2.1
        let b23 : Bool := u16.2.2.2.2.2.2
        bd (f141_s_l03Own n n17 l18) fun r24 =>
        let n25 : Nat := r24.1
        let l26 : List T := r24.2
        bd (f68_s_SilentFrom.l1 n n i19 x20 x21 x22 b23 n25 l26 (0 : Int)) fun r27 =>
        sm r27 (fun u28 =>
         let i29 : Int := u28.1
         let b30 : Bool := u28.2
         some (i29, b30)) (fun u31 =>
         some ((0 : Int), false))))))
def sg_lifffbii : Sig (Nat × List T × Int × Nat × Nat × Nat × Bool × Int × Int) where
  pk := fun v => [.lst v.1 v.2.1, .int v.2.2.1, .flt v.2.2.2.1, .flt v.2.2.2.2.1, .flt v.2.2.2.2.2.1, .bool v.2.2.2.2.2.2.1, .int v.2.2.2.2.2.2.2.1, .int v.2.2.2.2.2.2.2.2]
  up := fun ls => match ls with
    | [.lst a0 a1, .int a2, .flt a3, .flt a4, .flt a5, .bool a6, .int a7, .int a8] => some (a0, a1, a2, a3, a4, a5, a6, a7, a8)
    | _ => none
  ok := by
    intro ls v h
    split at h
    · cases h; rfl
    · cases h

def sg_lifffb : Sig (Nat × List T × Int × Nat × Nat × Nat × Bool) where
  pk := fun v => [.lst v.1 v.2.1, .int v.2.2.1, .flt v.2.2.2.1, .flt v.2.2.2.2.1, .flt v.2.2.2.2.2.1, .bool v.2.2.2.2.2.2]
  up := fun ls => match ls with
    | [.lst a0 a1, .int a2, .flt a3, .flt a4, .flt a5, .bool a6] => some (a0, a1, a2, a3, a4, a5, a6)
    | _ => none
  ok := by
    intro ls v h
    split at h
    · cases h; rfl
    · cases h

def f68_s_SilentFrom.l0.P : AS := ⟨[(1, .val false [.sl .shr [.leaf]] [.lst 0 []] [] 0), (2, .box [.leaf, .leaf, .leaf, .leaf, .leaf] [.int .i64 0, .flt .f32 0, .flt .f32 0, .flt .f32 0, .bool false] [] 0), (27, .val false [.leaf] [.int .i64 0] [] 0), (28, .val false [.leaf] [.int .i64 0] [] 0)], 0⟩
def f68_s_SilentFrom.l0.A : Alt ((Int × Bool) ⊕ (Nat × List T × Int × Nat × Nat × Nat × Bool)) := .or (.one .ret ⟨[(1, .dead), (2, .dead), (4, .val false [.leaf] [.int .i64 0] [] 0), (5, .val false [.leaf] [.bool false] [] 0)], 0⟩ sg_ib) (.one (.exit 0) ⟨[(1, .val false [.sl .shr [.leaf]] [.lst 0 []] [] 0), (2, .box [.leaf, .leaf, .leaf, .leaf, .leaf] [.int .i64 0, .flt .f32 0, .flt .f32 0, .flt .f32 0, .bool false] [] 0), (4, .dead), (5, .dead)], 0⟩ sg_lifffb)
def f68_s_SilentFrom.l0.F (n m : Nat) (v : Nat × List T × Int × Nat × Nat × Nat × Bool × Int × Int) := f68_s_SilentFrom.l0 n m v.1 v.2.1 v.2.2.1 v.2.2.2.1 v.2.2.2.2.1 v.2.2.2.2.2.1 v.2.2.2.2.2.2.1 v.2.2.2.2.2.2.2.1 v.2.2.2.2.2.2.2.2
def f68_s_SilentFrom.l0.W (n : Nat) : LpW := .of 64 f68_s_SilentFrom.l0.P sg_lifffbii f68_s_SilentFrom.l0.A (f68_s_SilentFrom.l0.F n n)
def f68_s_SilentFrom.l1.P : AS := ⟨[(2, .box [.leaf, .leaf, .leaf, .leaf, .leaf] [.int .i64 0, .flt .f32 0, .flt .f32 0, .flt .f32 0, .bool false] [] 0), (7, .val false [.sl .own [.leaf]] [.lst 0 []] [] 0), (8, .val false [.leaf] [.int .i64 0] [] 0)], 0⟩
def f68_s_SilentFrom.l1.A : Alt ((Int × Bool) ⊕ (Unit)) := .or (.one .ret ⟨[(4, .val false [.leaf] [.int .i64 0] [] 0), (5, .val false [.leaf] [.bool false] [] 0)], 0⟩ sg_ib) (.one (.exit 2) ⟨[(4, .dead), (5, .dead)], 0⟩ sg)
def f68_s_SilentFrom.l1.F (n m : Nat) (v : Int × Nat × Nat × Nat × Bool × Nat × List T × Int) := f68_s_SilentFrom.l1 n m v.1 v.2.1 v.2.2.1 v.2.2.2.1 v.2.2.2.2.1 v.2.2.2.2.2.1 v.2.2.2.2.2.2.1 v.2.2.2.2.2.2.2
def f68_s_SilentFrom.l1.W (n : Nat) : LpW := .of 176 f68_s_SilentFrom.l1.P sg_ifffbli f68_s_SilentFrom.l1.A (f68_s_SilentFrom.l1.F n n)
def f68_s_SilentFrom.P : List Arg := [⟨.val, ⟨true, [.leaf, .leaf, .leaf, .leaf, .leaf], [.int .i64 0, .flt .f32 0, .flt .f32 0, .flt .f32 0, .bool false]⟩⟩, ⟨.val, ⟨false, [.sl .shr [.leaf]], [.lst 0 []]⟩⟩]
def f68_s_SilentFrom.A : RAlt (Int × Bool) := .one ⟨[⟨false, [.leaf], [.int .i64 0]⟩, ⟨false, [.leaf], [.bool false]⟩], [none, none]⟩ sg_ib
def f68_s_SilentFrom.F (n : Nat) (v : Int × Nat × Nat × Nat × Bool × Nat × List T) := f68_s_SilentFrom n v.1 v.2.1 v.2.2.1 v.2.2.2.1 v.2.2.2.2.1 v.2.2.2.2.2.1 v.2.2.2.2.2.2
noncomputable def f68_s_SilentFrom.O (n : Nat) : Orc := orcOf (E := E) [f139_s_l03Length.w, f140_s_l01Finite.w, f141_s_l03Own.w, f142_s_l03Zeros.w, f143_s_l03Delay.w] [f68_s_SilentFrom.l0.W n, f68_s_SilentFrom.l1.W n] n
theorem f68_s_SilentFrom.l0.ok (n : Nat) : LpOk (f68_s_SilentFrom.O n) E (evalFn E n) n (keepAt 68) (.loop (loopAt c68 0)) :=
  lp_pure f68_s_SilentFrom.l0.P sg_lifffbii f68_s_SilentFrom.l0.A (f68_s_SilentFrom.l0.F n) (orcOf_cf _ _ n) (lpOk_of (bs := []) (by kernel_rfl) .nil) (fun _ => rfl) (fun _ _ => by kernel_rfl) (fun _ _ _ => by kernel_rfl)
theorem f68_s_SilentFrom.l1.ok (n : Nat) : LpOk (f68_s_SilentFrom.O n) E (evalFn E n) n (keepAt 68) (.loop (loopAt c68 1)) :=
  lp_pure f68_s_SilentFrom.l1.P sg_ifffbli f68_s_SilentFrom.l1.A (f68_s_SilentFrom.l1.F n) (orcOf_cf _ _ n) (lpOk_of (bs := []) (by kernel_rfl) .nil) (fun _ => rfl) (fun _ _ => by kernel_rfl) (fun _ _ _ => by kernel_rfl)
theorem f68_s_SilentFrom.ok : ∀ n v x, f68_s_SilentFrom.F n v = some x → evalFn E n 68 (flAs f68_s_SilentFrom.P (sg_ifffbl.pk v)) = some (f68_s_SilentFrom.A.enc x) :=
  fn_pure (modes := (fdAt 68).ms) (outs := (fdAt 68).os) (results := (fdAt 68).rs) f68_s_SilentFrom.O (c := c68) (keep := keepAt 68) (by kernel_rfl) (fun n => orcOf_cf _ _ n) (fun n => lpOk_of (bs := [loopAt c68 0, loopAt c68 1]) (by kernel_rfl) (.cons (f68_s_SilentFrom.l0.ok n) (.cons (f68_s_SilentFrom.l1.ok n) .nil))) (fun _ => rfl) (fun _ _ => by kernel_rfl)
noncomputable def f68_s_SilentFrom.w : FnW E := fnW 68 f68_s_SilentFrom.P sg_ifffbl f68_s_SilentFrom.A f68_s_SilentFrom.F f68_s_SilentFrom.ok

def f11_l_FnDelays.l1 (n : Nat) : Nat → Int → Nat → Nat → Nat → Bool → Nat → List T → Int → Nat → List T → Nat → List T → Int → Int → Option ((Bool) ⊕ (Int × Nat × Nat × Nat × Bool × Nat × List T × Int × Nat × List T))
  | 0, _, _, _, _, _, _, _, _, _, _, _, _, _, _ => none
  | m + 1, i1, x2, x3, x4, b5, n6, l7, i8, n9, l10, n11, l12, i13, i14 =>
    br (decide (i14 < i13)) (
     gd (decide (((0 : Int) ≤ i14) ∧ (i14 < ((n11 : Nat) : Int)))) (
     gd (okAt [(CK.flt FloatKind.f32)] l12 (Int.toNat i14)) (
     br (fne FloatKind.f32 (fAt l12 (Int.toNat i14)) 0) (
      some (Sum.inl false)) (
      f11_l_FnDelays.l1 n m i1 x2 x3 x4 b5 n6 l7 i8 n9 l10 n11 l12 i13 (IntKind.i64.wrap (i14 + (1 : Int))))))) (
     some (Sum.inr (i1, x2, x3, x4, b5, n6, l7, i8, n9, l10)))
termination_by structural x => x
def f11_l_FnDelays.l2 (n : Nat) : Nat → Nat → List T → Bool → Bool → Int → Int → Option (Bool × Bool)
  | 0, _, _, _, _, _, _ => none
  | m + 1, n1, l2, b3, b4, i5, i6 =>
    br (decide (i6 < i5)) (
     br b4 (
      f11_l_FnDelays.l2 n m n1 l2 b3 true i5 (IntKind.i64.wrap (i6 + (1 : Int)))) (
      gd (decide (((0 : Int) ≤ i6) ∧ (i6 < ((n1 : Nat) : Int)))) (
      gd (okAt [(CK.flt FloatKind.f32)] l2 (Int.toNat i6)) (
      let b7 : Bool := (fne FloatKind.f32 (fAt l2 (Int.toNat i6)) 0)
      f11_l_FnDelays.l2 n m n1 l2 b3 b7 i5 (IntKind.i64.wrap (i6 + (1 : Int))))))) (
     some (b3, b4))
def f11_l_FnDelays : Nat → Nat → List T → Nat → List T → Option (Bool)
  | 0, _, _, _, _ => none
  | n + 1, n1, l2, n3, l4 =>
    bd (f28_l_b10Long n n1 l2 n3 l4) fun r5 =>
    let b6 : Bool := r5
    br b6 (
     some true) (
     bd (f62_s_B10Delay n n1 l2) fun r7 =>
     let i8 : Int := r7.1
     let x9 : Nat := r7.2.1
     let x10 : Nat := r7.2.2.1
     let x11 : Nat := r7.2.2.2.1
     let b12 : Bool := r7.2.2.2.2
     bd (f29_l_b10At n n3 l4 (0 : Int) (20 : Int)) fun r13 =>
     let i14 : Int := r13
     bd (f30_s_B10Numbers n n3 l4 i14) fun r15 =>
     let n16 : Nat := r15.1
     let l17 : List T := r15.2
     bd (f30_s_B10Numbers n n1 l2 i8) fun r18 =>
     let n19 : Nat := r18.1
     let l20 : List T := r18.2
     bd (f29_l_b10At n n3 l4 (1 : Int) (IntKind.i64.wrap (i14 + (1 : Int)))) fun r21 =>
     let i22 : Int := r21
     bd (f63_i_RunDelay n i8 x9 x10 x11 b12 n19 l20 n16 l17) fun r23 =>
     let n24 : Nat := r23.1
     let l25 : List T := r23.2.1
     let n26 : Nat := r23.2.2.1
     let l27 : List T := r23.2.2.2.1
     let b28 : Bool := r23.2.2.2.2
     gd (decide (((0 : Int) ≤ (0 : Int)) ∧ (((0 : Int) ≤ i22) ∧ (i22 ≤ ((n16 : Nat) : Int))))) (
     bd (f63_i_RunDelay n i8 x9 x10 x11 b12 n19 l20 ((Int.toNat i22) - 0) (List.take ((Int.toNat i22) - 0) (List.drop 0 l17))) fun r29 =>
     let n30 : Nat := r29.1
     let l31 : List T := r29.2.1
     let n32 : Nat := r29.2.2.1
     let l33 : List T := r29.2.2.2.1
     let b34 : Bool := r29.2.2.2.2
     gd (decide (((0 : Int) ≤ i22) ∧ ((i22 ≤ ((n16 : Nat) : Int)) ∧ (((n16 : Nat) : Int) ≤ ((n16 : Nat) : Int))))) (
     bd (f63_i_RunDelay n i8 x9 x10 x11 b12 n32 l33 (n16 - (Int.toNat i22)) (List.take (n16 - (Int.toNat i22)) (List.drop (Int.toNat i22) l17))) fun r35 =>
     let n36 : Nat := r35.1
     let l37 : List T := r35.2.1
     let n38 : Nat := r35.2.2.1
     let l39 : List T := r35.2.2.2.1
     let b40 : Bool := r35.2.2.2.2
     br (!b28) (
      some false) (
      br (!b34) (
       some false) (
       br (!b40) (
        some false) (
        bd (f64_i_ValidDelay n i8 x9 x10 x11 b12) fun r41 =>
        let b42 : Bool := r41
        br (!b42) (
         some false) (
         gd (Nat.ble (0 + n30) 2147483648) (
         gd (Nat.ble ((0 + n30) + n36) 2147483648) (
         bd (f44_l_b10Same n ((0 + n30) + n36) (((reps 0 [(T.flt FloatKind.f32 0)]) ++ l31) ++ l37) n24 l25) fun r43 =>
         let b44 : Bool := r43
         br (!b44) (
          some false) (
          bd (f44_l_b10Same n n26 l27 n38 l39) fun r45 =>
          let b46 : Bool := r45
          br (!b46) (
           some false) (
           br (((n24 : Nat) : Int) != i14) (
            some false) (
            bd (f65_i_RunPass n i8 x11 n19 l20 n16 l17) fun r47 =>
            let n48 : Nat := r47.1
            let l49 : List T := r47.2.1
            let n50 : Nat := r47.2.2.1
            let l51 : List T := r47.2.2.2.1
            let b52 : Bool := r47.2.2.2.2
            gd (decide (((0 : Int) ≤ (0 : Int)) ∧ (((0 : Int) ≤ i22) ∧ (i22 ≤ ((n16 : Nat) : Int))))) (
            bd (f65_i_RunPass n i8 x11 n19 l20 ((Int.toNat i22) - 0) (List.take ((Int.toNat i22) - 0) (List.drop 0 l17))) fun r53 =>
            let n54 : Nat := r53.1
            let l55 : List T := r53.2.1
            let n56 : Nat := r53.2.2.1
            let l57 : List T := r53.2.2.2.1
            let b58 : Bool := r53.2.2.2.2
            gd (decide (((0 : Int) ≤ i22) ∧ ((i22 ≤ ((n16 : Nat) : Int)) ∧ (((n16 : Nat) : Int) ≤ ((n16 : Nat) : Int))))) (
            bd (f65_i_RunPass n i8 x11 n56 l57 (n16 - (Int.toNat i22)) (List.take (n16 - (Int.toNat i22)) (List.drop (Int.toNat i22) l17))) fun r59 =>
            let n60 : Nat := r59.1
            let l61 : List T := r59.2.1
            let n62 : Nat := r59.2.2.1
            let l63 : List T := r59.2.2.2.1
            let b64 : Bool := r59.2.2.2.2
            br (!b52) (
             some false) (
             br (!b58) (
              some false) (
              br (!b64) (
               some false) (
               gd (Nat.ble (0 + n54) 2147483648) (
               gd (Nat.ble ((0 + n54) + n60) 2147483648) (
               bd (f44_l_b10Same n ((0 + n54) + n60) (((reps 0 [(T.flt FloatKind.f32 0)]) ++ l55) ++ l61) n48 l49) fun r65 =>
               let b66 : Bool := r65
               br (!b66) (
                some false) (
                bd (f44_l_b10Same n n50 l51 n62 l63) fun r67 =>
                let b68 : Bool := r67
                br (!b68) (
                 some false) (
                 bd (f66_i_EmptyLine n i8) fun r69 =>
                 let n70 : Nat := r69.1
                 let l71 : List T := r69.2.1
                 let b72 : Bool := r69.2.2
                 bd (f34_s_B10Whole n n3 l4 i14 (1000 : Int)) fun r73 =>
                 let n74 : Nat := r73.1
                 let l75 : List T := r73.2
                 bd (f63_i_RunDelay n i8 0 1065353216 1065353216 false n70 l71 n74 l75) fun r76 =>
                 let n77 : Nat := r76.1
                 let l78 : List T := r76.2.1
                 let n79 : Nat := r76.2.2.1
                 let l80 : List T := r76.2.2.2.1
                 let b81 : Bool := r76.2.2.2.2
                 br (!b72) (
                  some false) (
                  br (!b81) (
                   some false) (
                   br (((n77 : Nat) : Int) != i14) (
                    some false) (
                    bd (f11_l_FnDelays.l0 n n i8 x9 x10 x11 b12 i14 n19 l20 n74 l75 n77 l78 (0 : Int)) fun r82 =>
                    sm r82 (fun u83 =>
                     let b84 : Bool := u83
                     some b84) (fun u85 =>
                     let i86 : Int := u85.1
                     let x87 : Nat := u85.2.1
                     let x88 : Nat := u85.2.2.1
                     let x89 : Nat := u85.2.2.2.1
                     let b90 : Bool := u85.2.2.2.2.1
                     let n91 : Nat := u85.2.2.2.2.2.1
                     let l92 : List T := u85.2.2.2.2.2.2
                     bd (f67_i_SilentFrom n i86 x87 x88 x89 b90 n91 l92) fun r93 =>
                     let i94 : Int := r93.1
                     let b95 : Bool := r93.2
                     bd (f68_s_SilentFrom n i86 x87 x88 x89 b90 n91 l92) fun r96 =>
                     let i97 : Int := r96.1
                     let b98 : Bool := r96.2
                     br (!(b95 == b98)) (
                      some (b95 == b98)) (
                      br (!b95) (
                       some (b95 == b98)) (
                       gd (decide (((0 : Int) ≤ i94) ∧ (i94 ≤ (2147483648 : Int)))) (
                       let n99 : Nat := (Int.toNat i94)
                       let l100 : List T := (reps (Int.toNat i94) [(T.flt FloatKind.f32 0)])
                       bd (f63_i_RunDelay n i86 x87 x88 x89 b90 n91 l92 n99 l100) fun r101 =>
                       let n102 : Nat := r101.1
                       let l103 : List T := r101.2.1
                       let n104 : Nat := r101.2.2.1
                       let l105 : List T := r101.2.2.2.1
                       let b106 : Bool := r101.2.2.2.2
                       br (!b106) (
                        some false) (
                        br (decide (i94 < (0 : Int))) (
                         some false) (
                         br (decide (i94 > (256 : Int))) (
                          some false) (
                          bd (f11_l_FnDelays.l1 n n i86 x87 x88 x89 b90 n91 l92 i94 n99 l100 n104 l105 ((n104 : Nat) : Int) (0 : Int)) fun r107 =>
                          sm r107 (fun u108 =>
                           let b109 : Bool := u108
                           some b109) (fun u110 =>
                           let i111 : Int := u110.1
                           let x112 : Nat := u110.2.1
                           let x113 : Nat := u110.2.2.1
                           let x114 : Nat := u110.2.2.2.1
                           let b115 : Bool := u110.2.2.2.2.1
                           let n116 : Nat := u110.2.2.2.2.2.1
                           let l117 : List T := u110.2.2.2.2.2.2.1
                           let i118 : Int := u110.2.2.2.2.2.2.2.1
                           let n119 : Nat := u110.2.2.2.2.2.2.2.2.1
                           let l120 : List T := u110.2.2.2.2.2.2.2.2.2
                           br (i118 == (0 : Int)) (
                            some true) (
                            gd (decide (((0 : Int) ≤ (1 : Int)) ∧ (((1 : Int) ≤ ((n119 : Nat) : Int)) ∧ (((n119 : Nat) : Int) ≤ ((n119 : Nat) : Int))))) (
                            bd (f63_i_RunDelay n i111 x112 x113 x114 b115 n116 l117 (n119 - 1) (List.take (n119 - 1) (List.drop 1 l120))) fun r121 =>
                            let n122 : Nat := r121.1
                            let l123 : List T := r121.2.1
                            let n124 : Nat := r121.2.2.1
                            let l125 : List T := r121.2.2.2.1
                            let b126 : Bool := r121.2.2.2.2
                            bd (f11_l_FnDelays.l2 n n n124 l125 b126 false ((n124 : Nat) : Int) (0 : Int)) fun r127 =>
                            let b128 : Bool := r127.1
                            let b129 : Bool := r127.2
                            br b128 (
                             some b129) (
                             some false)))))))))))))))))))))))))))))))))))
def sg_ifffbillli : Sig (Int × Nat × Nat × Nat × Bool × Int × Nat × List T × Nat × List T × Nat × List T × Int) where
  pk := fun v => [.int v.1, .flt v.2.1, .flt v.2.2.1, .flt v.2.2.2.1, .bool v.2.2.2.2.1, .int v.2.2.2.2.2.1, .lst v.2.2.2.2.2.2.1 v.2.2.2.2.2.2.2.1, .lst v.2.2.2.2.2.2.2.2.1 v.2.2.2.2.2.2.2.2.2.1, .lst v.2.2.2.2.2.2.2.2.2.2.1 v.2.2.2.2.2.2.2.2.2.2.2.1, .int v.2.2.2.2.2.2.2.2.2.2.2.2]
  up := fun ls => match ls with
    | [.int a0, .flt a1, .flt a2, .flt a3, .bool a4, .int a5, .lst a6 a7, .lst a8 a9, .lst a10 a11, .int a12] => some (a0, a1, a2, a3, a4, a5, a6, a7, a8, a9, a10, a11, a12)
    | _ => none
  ok := by
    intro ls v h
    split at h
    · cases h; rfl
    · cases h

def sg_ifffblillii : Sig (Int × Nat × Nat × Nat × Bool × Nat × List T × Int × Nat × List T × Nat × List T × Int × Int) where
  pk := fun v => [.int v.1, .flt v.2.1, .flt v.2.2.1, .flt v.2.2.2.1, .bool v.2.2.2.2.1, .lst v.2.2.2.2.2.1 v.2.2.2.2.2.2.1, .int v.2.2.2.2.2.2.2.1, .lst v.2.2.2.2.2.2.2.2.1 v.2.2.2.2.2.2.2.2.2.1, .lst v.2.2.2.2.2.2.2.2.2.2.1 v.2.2.2.2.2.2.2.2.2.2.2.1, .int v.2.2.2.2.2.2.2.2.2.2.2.2.1, .int v.2.2.2.2.2.2.2.2.2.2.2.2.2]
  up := fun ls => match ls with
    | [.int a0, .flt a1, .flt a2, .flt a3, .bool a4, .lst a5 a6, .int a7, .lst a8 a9, .lst a10 a11, .int a12, .int a13] => some (a0, a1, a2, a3, a4, a5, a6, a7, a8, a9, a10, a11, a12, a13)
    | _ => none
  ok := by
    intro ls v h
    split at h
    · cases h; rfl
    · cases h

def sg_ifffblil : Sig (Int × Nat × Nat × Nat × Bool × Nat × List T × Int × Nat × List T) where
  pk := fun v => [.int v.1, .flt v.2.1, .flt v.2.2.1, .flt v.2.2.2.1, .bool v.2.2.2.2.1, .lst v.2.2.2.2.2.1 v.2.2.2.2.2.2.1, .int v.2.2.2.2.2.2.2.1, .lst v.2.2.2.2.2.2.2.2.1 v.2.2.2.2.2.2.2.2.2]
  up := fun ls => match ls with
    | [.int a0, .flt a1, .flt a2, .flt a3, .bool a4, .lst a5 a6, .int a7, .lst a8 a9] => some (a0, a1, a2, a3, a4, a5, a6, a7, a8, a9)
    | _ => none
  ok := by
    intro ls v h
    split at h
    · cases h; rfl
    · cases h

def sg_lbbii : Sig (Nat × List T × Bool × Bool × Int × Int) where
  pk := fun v => [.lst v.1 v.2.1, .bool v.2.2.1, .bool v.2.2.2.1, .int v.2.2.2.2.1, .int v.2.2.2.2.2]
  up := fun ls => match ls with
    | [.lst a0 a1, .bool a2, .bool a3, .int a4, .int a5] => some (a0, a1, a2, a3, a4, a5)
    | _ => none
  ok := by
    intro ls v h
    split at h
    · cases h; rfl
    · cases h

def sg_bb : Sig (Bool × Bool) where
  pk := fun v => [.bool v.1, .bool v.2]
  up := fun ls => match ls with
    | [.bool a0, .bool a1] => some (a0, a1)
    | _ => none
  ok := by
    intro ls v h
    split at h
    · cases h; rfl
    · cases h

def f11_l_FnDelays.l0.P : AS := ⟨[(5, .box [.leaf, .leaf, .leaf, .leaf, .leaf] [.int .i64 0, .flt .f32 0, .flt .f32 0, .flt .f32 0, .bool false] [] 0), (6, .val false [.leaf] [.int .i64 0] [] 0), (8, .val false [.sl .own [.leaf]] [.lst 0 []] [] 0), (23, .val false [.sl .own [.leaf]] [.lst 0 []] [] 0), (24, .val false [.sl .own [.leaf]] [.lst 0 []] [] 0), (27, .val false [.leaf] [.int .i64 0] [] 0)], 0⟩
def f11_l_FnDelays.l0.A : Alt ((Bool) ⊕ (Int × Nat × Nat × Nat × Bool × Nat × List T)) := .or (.one .ret ⟨[(4, .val false [.leaf] [.bool false] [] 0), (5, .dead), (8, .dead), (297, .dead), (322, .dead)], 0⟩ sg_b) (.one (.exit 0) ⟨[(4, .dead), (5, .box [.leaf, .leaf, .leaf, .leaf, .leaf] [.int .i64 0, .flt .f32 0, .flt .f32 0, .flt .f32 0, .bool false] [] 0), (8, .val false [.sl .own [.leaf]] [.lst 0 []] [] 0), (297, .dead), (322, .dead)], 0⟩ sg_ifffbl)
def f11_l_FnDelays.l0.F (n m : Nat) (v : Int × Nat × Nat × Nat × Bool × Int × Nat × List T × Nat × List T × Nat × List T × Int) := f11_l_FnDelays.l0 n m v.1 v.2.1 v.2.2.1 v.2.2.2.1 v.2.2.2.2.1 v.2.2.2.2.2.1 v.2.2.2.2.2.2.1 v.2.2.2.2.2.2.2.1 v.2.2.2.2.2.2.2.2.1 v.2.2.2.2.2.2.2.2.2.1 v.2.2.2.2.2.2.2.2.2.2.1 v.2.2.2.2.2.2.2.2.2.2.2.1 v.2.2.2.2.2.2.2.2.2.2.2.2
def f11_l_FnDelays.l0.W (n : Nat) : LpW := .of 416 f11_l_FnDelays.l0.P sg_ifffbillli f11_l_FnDelays.l0.A (f11_l_FnDelays.l0.F n n)
def f11_l_FnDelays.l1.P : AS := ⟨[(5, .box [.leaf, .leaf, .leaf, .leaf, .leaf] [.int .i64 0, .flt .f32 0, .flt .f32 0, .flt .f32 0, .bool false] [] 0), (8, .val false [.sl .own [.leaf]] [.lst 0 []] [] 0), (29, .val false [.leaf] [.int .i64 0] [] 0), (33, .val false [.sl .own [.leaf]] [.lst 0 []] [] 0), (35, .val false [.sl .own [.leaf]] [.lst 0 []] [] 0), (288, .val false [.leaf] [.int .i64 0] [] 0), (289, .val false [.leaf] [.int .i64 0] [] 0)], 0⟩
def f11_l_FnDelays.l1.A : Alt ((Bool) ⊕ (Int × Nat × Nat × Nat × Bool × Nat × List T × Int × Nat × List T)) := .or (.one .ret ⟨[(4, .val false [.leaf] [.bool false] [] 0), (5, .dead), (8, .dead), (29, .dead), (33, .dead), (322, .dead)], 0⟩ sg_b) (.one (.exit 2) ⟨[(4, .dead), (5, .box [.leaf, .leaf, .leaf, .leaf, .leaf] [.int .i64 0, .flt .f32 0, .flt .f32 0, .flt .f32 0, .bool false] [] 0), (8, .val false [.sl .own [.leaf]] [.lst 0 []] [] 0), (29, .val false [.leaf] [.int .i64 0] [] 0), (33, .val false [.sl .own [.leaf]] [.lst 0 []] [] 0), (322, .dead)], 0⟩ sg_ifffblil)
def f11_l_FnDelays.l1.F (n m : Nat) (v : Int × Nat × Nat × Nat × Bool × Nat × List T × Int × Nat × List T × Nat × List T × Int × Int) := f11_l_FnDelays.l1 n m v.1 v.2.1 v.2.2.1 v.2.2.2.1 v.2.2.2.2.1 v.2.2.2.2.2.1 v.2.2.2.2.2.2.1 v.2.2.2.2.2.2.2.1 v.2.2.2.2.2.2.2.2.1 v.2.2.2.2.2.2.2.2.2.1 v.2.2.2.2.2.2.2.2.2.2.1 v.2.2.2.2.2.2.2.2.2.2.2.1 v.2.2.2.2.2.2.2.2.2.2.2.2.1 v.2.2.2.2.2.2.2.2.2.2.2.2.2
def f11_l_FnDelays.l1.W (n : Nat) : LpW := .of 672 f11_l_FnDelays.l1.P sg_ifffblillii f11_l_FnDelays.l1.A (f11_l_FnDelays.l1.F n n)
def f11_l_FnDelays.l2.P : AS := ⟨[(39, .val false [.sl .own [.leaf]] [.lst 0 []] [] 0), (40, .val false [.leaf] [.bool false] [] 0), (41, .val false [.leaf] [.bool false] [] 0), (310, .val false [.leaf] [.int .i64 0] [] 0), (311, .val false [.leaf] [.int .i64 0] [] 0)], 0⟩
def f11_l_FnDelays.l2.A : Alt (Bool × Bool) := .one (.exit 4) ⟨[(40, .val false [.leaf] [.bool false] [] 0), (41, .val false [.leaf] [.bool false] [] 0)], 0⟩ sg_bb
def f11_l_FnDelays.l2.F (n m : Nat) (v : Nat × List T × Bool × Bool × Int × Int) := f11_l_FnDelays.l2 n m v.1 v.2.1 v.2.2.1 v.2.2.2.1 v.2.2.2.2.1 v.2.2.2.2.2
def f11_l_FnDelays.l2.W (n : Nat) : LpW := .of 832 f11_l_FnDelays.l2.P sg_lbbii f11_l_FnDelays.l2.A (f11_l_FnDelays.l2.F n n)
def f11_l_FnDelays.P : List Arg := [⟨.val, ⟨false, [.sl .shr [.leaf]], [.lst 0 []]⟩⟩, ⟨.val, ⟨false, [.sl .shr [.leaf]], [.lst 0 []]⟩⟩]
def f11_l_FnDelays.A : RAlt (Bool) := .one ⟨[⟨false, [.leaf], [.bool false]⟩], [none, none]⟩ sg_b
def f11_l_FnDelays.F (n : Nat) (v : Nat × List T × Nat × List T) := f11_l_FnDelays n v.1 v.2.1 v.2.2.1 v.2.2.2
noncomputable def f11_l_FnDelays.O (n : Nat) : Orc := orcOf (E := E) [f28_l_b10Long.w, f62_s_B10Delay.w, f29_l_b10At.w, f30_s_B10Numbers.w, f64_i_ValidDelay.w, f63_i_RunDelay.w, f44_l_b10Same.w, f65_i_RunPass.w, f66_i_EmptyLine.w, f34_s_B10Whole.w, f67_i_SilentFrom.w, f68_s_SilentFrom.w] [f11_l_FnDelays.l0.W n, f11_l_FnDelays.l1.W n, f11_l_FnDelays.l2.W n] n
theorem f11_l_FnDelays.l0.ok (n : Nat) : LpOk (f11_l_FnDelays.O n) E (evalFn E n) n (keepAt 11) (.loop (loopAt c11 0)) :=
  lp_pure f11_l_FnDelays.l0.P sg_ifffbillli f11_l_FnDelays.l0.A (f11_l_FnDelays.l0.F n) (orcOf_cf _ _ n) (lpOk_of (bs := []) (by kernel_rfl) .nil) (fun _ => rfl) (fun _ _ => by kernel_rfl) (fun _ _ _ => by kernel_rfl)
theorem f11_l_FnDelays.l1.ok (n : Nat) : LpOk (f11_l_FnDelays.O n) E (evalFn E n) n (keepAt 11) (.loop (loopAt c11 1)) :=
  lp_pure f11_l_FnDelays.l1.P sg_ifffblillii f11_l_FnDelays.l1.A (f11_l_FnDelays.l1.F n) (orcOf_cf _ _ n) (lpOk_of (bs := []) (by kernel_rfl) .nil) (fun _ => rfl) (fun _ _ => by kernel_rfl) (fun _ _ _ => by kernel_rfl)
theorem f11_l_FnDelays.l2.ok (n : Nat) : LpOk (f11_l_FnDelays.O n) E (evalFn E n) n (keepAt 11) (.loop (loopAt c11 2)) :=
  lp_pure f11_l_FnDelays.l2.P sg_lbbii f11_l_FnDelays.l2.A (f11_l_FnDelays.l2.F n) (orcOf_cf _ _ n) (lpOk_of (bs := []) (by kernel_rfl) .nil) (fun _ => rfl) (fun _ _ => by kernel_rfl) (fun _ _ _ => by kernel_rfl)
theorem f11_l_FnDelays.ok : ∀ n v x, f11_l_FnDelays.F n v = some x → evalFn E n 11 (flAs f11_l_FnDelays.P (sg_ll.pk v)) = some (f11_l_FnDelays.A.enc x) :=
  fn_pure (modes := (fdAt 11).ms) (outs := (fdAt 11).os) (results := (fdAt 11).rs) f11_l_FnDelays.O (c := c11) (keep := keepAt 11) (by kernel_rfl) (fun n => orcOf_cf _ _ n) (fun n => lpOk_of (bs := [loopAt c11 0, loopAt c11 1, loopAt c11 2]) (by kernel_rfl) (.cons (f11_l_FnDelays.l0.ok n) (.cons (f11_l_FnDelays.l1.ok n) (.cons (f11_l_FnDelays.l2.ok n) .nil)))) (fun _ => rfl) (fun _ _ => by kernel_rfl)
noncomputable def f11_l_FnDelays.w : FnW E := fnW 11 f11_l_FnDelays.P sg_ll f11_l_FnDelays.A f11_l_FnDelays.F f11_l_FnDelays.ok
end Go.Proofs.Ytjkhhalnlodinaa.D
end
section
/- FnDelays, in plain Lean. -/
namespace Go.Proofs.Ytjkhhalnlodinaa.D
open Go Go.Desk
set_option linter.unusedVariables false
theorem s_from (n l : Nat) (c : List T) : f90_s_l00From (n + 1) l c = some (l, c, 0, 0) := by rw [f90_s_l00From]
theorem s_next (n : Nat) {bs : List Int} (hb : Bytes bs) {a : Int} (h0 : 0 ≤ a) (h1 : a ≤ 1125899906842624) (sd : Int) :
    ∃ r sd', (0 ≤ r ∧ r ≤ 255) ∧ f163_s_l00Srcnext (n + 1) bs.length (its .u8 bs) a sd = some (r, bs.length, its .u8 bs, a + 1, sd') := by
  rw [f163_s_l00Srcnext]
  rw [show IntKind.i64.wrap (a + 1) = a + 1 by rw [wrap64] <;> omega]
  cases h : decide (a < (bs.length : Int))
  · simp only [br_f]
    cases decide (a + 1 ≤ (bs.length : Int))
    · exact ⟨_, _, and255 _, rfl⟩
    · exact ⟨0, _, by omega, rfl⟩
  · simp only [decide_eq_true_eq] at h
    obtain ⟨i, rfl⟩ := Int.eq_ofNat_of_zero_le h0
    have hi : i < bs.length := by omega
    have hr := hb (bs[i]) (List.getElem_mem _)
    simp only [br_t, in_dec hi, Int.toNat_natCast, okAt_its hi, Bool.and_self, gd_t, iAt_its]
    rw [show bs.getD i 0 = bs[i] by simp [List.getD, hi], show IntKind.i64.wrap bs[i] = bs[i] by rw [wrap64] <;> omega]
    cases decide ((i : Int) + 1 ≤ (bs.length : Int))
    · exact ⟨_, _, and255 _, rfl⟩
    · exact ⟨_, _, hr, rfl⟩
theorem s_pick (n : Nat) {bs : List Int} (hb : Bytes bs) {a : Int} (h0 : 0 ≤ a) (h1 : a ≤ 1125899906842622) (sd k : Int) :
    ∃ r a' sd', (0 ≤ r ∧ (1 < k → r < k) ∧ (k ≤ 1 → r = 0)) ∧ (a ≤ a' ∧ a' ≤ a + 2) ∧ f97_s_l00Srcpick (n + 2) bs.length (its .u8 bs) a sd k = some (r, bs.length, its .u8 bs, a', sd') := by
  rw [f97_s_l00Srcpick]
  by_cases hk : k ≤ 1
  · rw [decide_eq_true hk]; exact ⟨0, a, sd, by omega, by omega, rfl⟩
  rw [decide_eq_false hk]
  obtain ⟨r, s1, hr, e1⟩ := s_next n hb h0 (by omega) sd
  simp only [br_f, e1, bd_s]
  have hk0 : (!decide (k = 0)) = true := by simp; omega
  by_cases hk2 : k > 200
  · rw [decide_eq_true hk2]
    obtain ⟨r', s2, hr', e2⟩ := s_next n hb (a := a + 1) (by omega) (by omega) s1
    simp only [br_t, e2, bd_s, hk0, gd_t]
    rw [show IntKind.i64.wrap (r * 256) = r * 256 by rw [wrap64] <;> omega, show IntKind.i64.wrap (r * 256 + r') = r * 256 + r' by rw [wrap64] <;> omega]
    refine ⟨_, _, _, ?_, ?_, rfl⟩
    · rw [Int.tmod_eq_emod_of_nonneg (by omega)]
      have := Int.emod_nonneg (r * 256 + r') (show k ≠ 0 by omega)
      have := Int.emod_lt_of_pos (r * 256 + r') (show 0 < k by omega)
      omega
    · omega
  · rw [decide_eq_false hk2]
    simp only [br_f, hk0, gd_t]
    refine ⟨_, _, _, ?_, ?_, rfl⟩
    · rw [Int.tmod_eq_emod_of_nonneg (by omega)]
      have := Int.emod_nonneg r (show k ≠ 0 by omega)
      have := Int.emod_lt_of_pos r (show 0 < k by omega)
      omega
    · omega
theorem s_one (n : Nat) {bs : List Int} (hb : Bytes bs) {a : Int} (h0 : 0 ≤ a) (h1 : a ≤ 1125899906842622) (sd k : Int) :
    ∃ r a' sd', (a ≤ a' ∧ a' ≤ a + 2) ∧ f158_s_l00Srcone (n + 3) bs.length (its .u8 bs) a sd k = some (r, bs.length, its .u8 bs, a', sd') := by
  obtain ⟨r, a', s', -, ha, e⟩ := s_pick n hb h0 h1 sd k
  rw [f158_s_l00Srcone, e]
  exact ⟨_, _, _, ha, rfl⟩
theorem s_plain (n : Nat) {bs : List Int} (hb : Bytes bs) {a : Int} (h0 : 0 ≤ a) (h1 : a ≤ 1125899906842620) (sd : Int) :
    ∃ x a' sd', Plain x ∧ (a ≤ a' ∧ a' ≤ a + 4) ∧ f91_s_l01DrawPlain (n + 4) bs.length (its .u8 bs) a sd = some (x, bs.length, its .u8 bs, a', sd') := by
  obtain ⟨r, a1, s1, hr, ha, e⟩ := s_pick (n + 1) hb h0 (by omega) sd 129
  obtain ⟨b, a2, s2, ha2, e2⟩ := s_one n hb (a := a1) (by omega) (by omega) s1 4
  rw [f91_s_l01DrawPlain, e]
  simp only [bd_s, e2]
  rw [show IntKind.i64.wrap (r - 64) = r - 64 by rw [wrap64] <;> omega]
  cases b
  · exact ⟨_, a2, s2, ⟨r - 64, by omega, .inr rfl⟩, by omega, rfl⟩
  · exact ⟨_, a2, s2, ⟨r - 64, by omega, .inl rfl⟩, by omega, rfl⟩
theorem s_among (n : Nat) {bs : List Int} (hb : Bytes bs) {a : Int} (h0 : 0 ≤ a) (h1 : a ≤ 1125899906842622) (sd : Int) (L : List Int) (hL : 0 < L.length) :
    ∃ r a' sd', r ∈ L ∧ (a ≤ a' ∧ a' ≤ a + 2) ∧ f168_s_l00Srcamong (n + 3) bs.length (its .u8 bs) a sd L.length (its .i64 L) = some (r, bs.length, its .u8 bs, a', sd', L.length, its .i64 L) := by
  obtain ⟨r, a1, s1, hr, ha, e⟩ := s_pick n hb h0 h1 sd (L.length : Int)
  rw [f168_s_l00Srcamong, e]
  obtain ⟨i, rfl⟩ := Int.eq_ofNat_of_zero_le hr.1
  have hi : i < L.length := by
    by_cases h : (L.length : Int) ≤ 1
    · have := hr.2.2 h; omega
    · have := hr.2.1 (by omega); omega
  simp only [bd_s, in_dec hi, Int.toNat_natCast, okAt_its hi, Bool.and_self, gd_t, iAt_its]
  refine ⟨_, _, _, ?_, ha, rfl⟩
  rw [show L.getD i 0 = L[i] by simp [List.getD, hi]]
  exact List.getElem_mem _
theorem s_from32 (n : Nat) {i : Int} (h0 : 0 ≤ i) (h1 : i < 4294967296) : ∃ x, W32 x ∧ f167_s_l01From (n + 2) i = some x := by
  rw [f167_s_l01From]
  refine ⟨canon .f32 i.toNat, w32_canon (by omega), ?_⟩
  rw [u32_wrap h0 h1]
  show bd (if 0 ≤ i then some (canon .f32 i.toNat) else none) _ = _
  rw [if_pos h0]; rfl
theorem s_float (n : Nat) {bs : List Int} (hb : Bytes bs) {a : Int} (h0 : 0 ≤ a) (h1 : a ≤ 1125899906842600) (sd : Int) :
    ∃ x a' sd', W32 x ∧ (a ≤ a' ∧ a' ≤ a + 16) ∧ f112_s_l01DrawFloat (n + 5) bs.length (its .u8 bs) a sd = some (x, bs.length, its .u8 bs, a', sd') := by
  obtain ⟨b, a1, s1, ha1, e1⟩ := s_one (n + 1) hb h0 (by omega) sd 12
  rw [f112_s_l01DrawFloat, e1]
  simp only [bd_s, br_not]
  cases b
  · obtain ⟨x, a2, s2, hx, ha2, e2⟩ := s_plain n hb (a := a1) (by omega) (by omega) s1
    simp only [br_f, e2, bd_s]
    exact ⟨_, _, _, hx.w32, by omega, rfl⟩
  obtain ⟨q, a2, s2, -, ha2, e2⟩ := s_pick (n + 2) hb (a := a1) (by omega) (by omega) s1 4
  simp only [br_t, e2, bd_s]
  cases q == 0
  case true =>
    obtain ⟨r, a3, s3, hr, ha3, e3⟩ := s_among (n + 1) hb (a := a2) (by omega) (by omega) s2 [0, 2147483648, 2139095040, 4286578688, 2143289344, 1, 2139095039, 8388608, 8388607, 2147483649] (by decide)
    have hr' : 0 ≤ r ∧ r < 4294967296 := by simp only [List.mem_cons, List.not_mem_nil, or_false] at hr; omega
    obtain ⟨x, hx, e4⟩ := s_from32 (n + 2) hr'.1 hr'.2
    rw [br_t]
    refine ⟨x, a3, s3, hx, by omega, ?_⟩
    refine Eq.trans (congrArg (fun o => bd o _) e3) ?_
    simp only [bd_s, e4]
  cases q == 1
  case true =>
    obtain ⟨r, a3, s3, hr, ha3, e3⟩ := s_pick (n + 2) hb (a := a2) (by omega) (by omega) s2 65536
    obtain ⟨r', a4, s4, hr', ha4, e4⟩ := s_pick (n + 2) hb (a := a3) (by omega) (by omega) s3 65536
    obtain ⟨x, hx, e5⟩ := s_from32 (n + 2) (i := r * 65536 + r') (by omega) (by omega)
    simp only [br_f, br_t, e3, e4, bd_s]
    rw [show IntKind.i64.wrap (r * 65536) = r * 65536 by rw [wrap64] <;> omega, show IntKind.i64.wrap (r * 65536 + r') = r * 65536 + r' by rw [wrap64] <;> omega, e5]
    exact ⟨x, _, _, hx, by omega, rfl⟩
  cases q == 2
  case true =>
    obtain ⟨r, a3, s3, hr, ha3, e3⟩ := s_pick (n + 2) hb (a := a2) (by omega) (by omega) s2 65536
    obtain ⟨x, hx, e5⟩ := s_from32 (n + 2) (i := r * 65536) (by omega) (by omega)
    simp only [br_f, br_t, e3, bd_s]
    rw [show IntKind.i64.wrap (r * 65536) = r * 65536 by rw [wrap64] <;> omega, e5]
    exact ⟨x, _, _, hx, by omega, rfl⟩
  obtain ⟨x, a3, s3, hx, ha3, e3⟩ := s_plain n hb (a := a2) (by omega) (by omega) s2
  obtain ⟨r, a4, s4, hr, ha4, e4⟩ := s_among (n + 1) hb (a := a3) (by omega) (by omega) s3 [8388608, 2130706432, 1610612736, 536870912] (by decide)
  have hr' : 0 ≤ r ∧ r < 4294967296 := by simp only [List.mem_cons, List.not_mem_nil, or_false] at hr; omega
  obtain ⟨y, hy, e5⟩ := s_from32 (n + 2) hr'.1 hr'.2
  simp only [br_f, e3, bd_s]
  refine ⟨_, a4, s4, w32_fmul x y, by omega, ?_⟩
  refine Eq.trans (congrArg (fun o => bd o _) e4) ?_
  simp only [bd_s, e5]
theorem s_floats_loop (n : Nat) {bs : List Int} (hb : Bytes bs) (str : Bool) : ∀ (j m : Nat) (a sd : Int) (acc : List Nat), 0 ≤ a → a + 16 * (j : Int) ≤ 1125899906842000 → acc.length + j ≤ 2147483647 → j < m → (∀ x ∈ acc, W32 x) →
    ∃ ys a' sd', ys.length = acc.length + j ∧ (∀ x ∈ ys, W32 x) ∧ (a ≤ a' ∧ a' ≤ a + 16 * (j : Int)) ∧
      f98_s_l01DrawFloats.l0 (n + 5) m bs.length (its .u8 bs) a sd (j : Int) acc.length (fls .f32 acc) str = some (bs.length, its .u8 bs, a', sd', ys.length, fls .f32 ys) := by
  intro j
  induction j with
  | zero =>
    intro m a sd acc h0 h1 hl hm hw
    obtain ⟨m, rfl⟩ : ∃ k, m = k + 1 := ⟨m - 1, by omega⟩
    rw [f98_s_l01DrawFloats.l0]
    exact ⟨acc, a, sd, by omega, hw, by omega, rfl⟩
  | succ j ih =>
    intro m a sd acc h0 h1 hl hm hw
    obtain ⟨m, rfl⟩ : ∃ k, m = k + 1 := ⟨m - 1, by omega⟩
    rw [f98_s_l01DrawFloats.l0, decide_eq_true (show (((j + 1 : Nat) : Int) > 0) by omega), show IntKind.i64.wrap (((j + 1 : Nat) : Int) - 1) = (j : Int) by rw [wrap64] <;> omega]
    have key : ∀ x a1 s1, W32 x → a ≤ a1 → a1 ≤ a + 16 → ∃ ys a' sd', ys.length = acc.length + (j + 1) ∧ (∀ x ∈ ys, W32 x) ∧ (a ≤ a' ∧ a' ≤ a + 16 * ((j + 1 : Nat) : Int)) ∧
        f98_s_l01DrawFloats.l0 (n + 5) m bs.length (its .u8 bs) a1 s1 (j : Int) (acc ++ [x]).length (fls .f32 (acc ++ [x])) str = some (bs.length, its .u8 bs, a', sd', ys.length, fls .f32 ys) := by
      intro x a1 s1 hx h2 h3
      obtain ⟨ys, a', sd', hy, hyw, ha, e⟩ := ih m a1 s1 (acc ++ [x]) (by omega) (by omega) (by simp; omega) (by omega) (by
        intro y hy; simp only [List.mem_append, List.mem_singleton] at hy; rcases hy with hy | rfl
        · exact hw y hy
        · exact hx)
      exact ⟨ys, a', sd', by simp at hy; omega, hyw, by omega, e⟩
    simp only [br_t]
    cases str
    · obtain ⟨x, a1, s1, hx, ha, e⟩ := s_plain (n + 1) hb h0 (by omega) sd
      simp only [br_f, e, bd_s, push_ok (show acc.length < 2147483648 by omega), gd_t, push_fls]
      rw [show acc.length + 1 = (acc ++ [x]).length by simp]
      exact key x a1 s1 hx.w32 (by omega) (by omega)
    · obtain ⟨x, a1, s1, hx, ha, e⟩ := s_float n hb h0 (by omega) sd
      simp only [br_t, e, bd_s, push_ok (show acc.length < 2147483648 by omega), gd_t, push_fls]
      rw [show acc.length + 1 = (acc ++ [x]).length by simp]
      exact key x a1 s1 hx (by omega) (by omega)
theorem s_floats (n : Nat) {bs : List Int} (hb : Bytes bs) {a : Int} (h0 : 0 ≤ a) (j : Nat) (h1 : a + 16 * (j : Int) ≤ 1125899906841000) (hj : j ≤ 2147483647) (hn : j < n) (sd : Int) :
    ∃ ys a' sd', ys.length = j ∧ (∀ x ∈ ys, W32 x) ∧ (a ≤ a' ∧ a' ≤ a + 2 + 16 * (j : Int)) ∧ f98_s_l01DrawFloats (n + 6) bs.length (its .u8 bs) a sd (j : Int) = some (ys.length, fls .f32 ys, bs.length, its .u8 bs, a', sd') := by
  obtain ⟨b, a1, s1, ha1, e1⟩ := s_one (n + 2) hb h0 (by omega) sd 4
  obtain ⟨ys, a2, s2, hy, hw, ha2, e2⟩ := s_floats_loop n hb b j (n + 5) a1 s1 [] (by omega) (by omega) (by simp; omega) (by omega) (by simp)
  rw [f98_s_l01DrawFloats, e1]
  refine ⟨ys, a2, s2, by simpa using hy, hw, by omega, ?_⟩
  have e2 : f98_s_l01DrawFloats.l0 (n + 5) (n + 5) bs.length (its .u8 bs) a1 s1 (j : Int) 0 (reps 0 [(T.flt FloatKind.f32 0)]) b = some (bs.length, its .u8 bs, a2, s2, ys.length, fls .f32 ys) := e2
  simp only [bd_s, e2]

theorem l_long10 (n : Nat) (bs cs : List Int) : f28_l_b10Long (n + 1) bs.length (its .u8 bs) cs.length (its .u8 cs) = some (decide (1048576 < bs.length ∨ 1048576 < cs.length)) := by
  rw [f28_l_b10Long]
  by_cases h : 1048576 < bs.length
  · rw [decide_eq_true (show (bs.length : Int) > 1048576 by omega), decide_eq_true (Or.inl h)]; rfl
  · rw [decide_eq_false (show ¬ (bs.length : Int) > 1048576 by omega), br_f]
    congr 1
    simp [h]; omega
theorem l_at10 (n : Nat) {bs : List Int} (hb : Bytes bs) {i k : Int} (hi : 0 ≤ i) (hi2 : i ≤ 1000000) (hk : 1 ≤ k) : ∃ r, (0 ≤ r ∧ r < k) ∧ f29_l_b10At (n + 1) bs.length (its .u8 bs) i k = some r := by
  rw [f29_l_b10At]
  by_cases h : k ≤ 1
  · rw [decide_eq_true h]; exact ⟨0, by omega, rfl⟩
  rw [decide_eq_false h]
  have hk0 : (!decide (k = 0)) = true := by simp; omega
  by_cases h2 : i < (bs.length : Int)
  · rw [decide_eq_true h2]
    obtain ⟨i, rfl⟩ := Int.eq_ofNat_of_zero_le hi
    have hi : i < bs.length := by omega
    have hr := hb (bs[i]) (List.getElem_mem _)
    simp only [br_f, br_t, in_dec hi, Int.toNat_natCast, okAt_its hi, Bool.and_self, gd_t, iAt_its, hk0]
    rw [show bs.getD i 0 = bs[i] by simp [List.getD, hi], show IntKind.i64.wrap bs[i] = bs[i] by rw [wrap64] <;> omega]
    refine ⟨_, ?_, rfl⟩
    rw [Int.tmod_eq_emod_of_nonneg (by omega)]
    have := Int.emod_nonneg bs[i] (show k ≠ 0 by omega)
    have := Int.emod_lt_of_pos bs[i] (show 0 < k by omega)
    omega
  · rw [decide_eq_false h2]
    simp only [br_f, hk0, gd_t]
    rw [show IntKind.i64.wrap (i * 37) = i * 37 by rw [wrap64] <;> omega, show IntKind.i64.wrap (i * 37 + 11) = i * 37 + 11 by rw [wrap64] <;> omega]
    refine ⟨_, ?_, rfl⟩
    rw [Int.tmod_eq_emod_of_nonneg (by omega)]
    have := Int.emod_nonneg (i * 37 + 11) (show k ≠ 0 by omega)
    have := Int.emod_lt_of_pos (i * 37 + 11) (show 0 < k by omega)
    omega
theorem s_bits (n : Nat) {x : Nat} (h : W32 x) : f165_s_l01Bits (n + 2) x = some (x : Int) := by
  rw [f165_s_l01Bits, fne_nan]
  cases hn : isNaN .f32 x
  · have : xF32bits (n + 1) x = some (x : Int) := by simp [xF32bits, hn]
    have hx := h.1
    simp only [br_f, this, bd_s]
    rw [wrap64] <;> omega
  · rw [br_t, ← h.2, canon_nan hn]; rfl
theorem s_same1 (n : Nat) {x y : Nat} (hx : W32 x) (hy : W32 y) : f106_s_l01Same (n + 3) x y = some (x == y) := by
  rw [f106_s_l01Same, s_bits n hx]
  simp only [bd_s, s_bits n hy]
  congr 1
  rw [Bool.eq_iff_iff]; simp; constructor <;> omega
theorem s_same (n : Nat) {x y : Nat} (hx : W32 x) (hy : W32 y) : f33_s_SameNumber (n + 4) x y = some (x == y) := by
  rw [f33_s_SameNumber, s_same1 n hx hy]; rfl
theorem l_same10_loop (n : Nat) : ∀ (zs ys p q : List Nat) (m : Nat), ys.length = zs.length → p.length = q.length → (∀ x ∈ zs, W32 x) → (∀ x ∈ ys, W32 x) → p.length + zs.length ≤ 1048576 → zs.length < m →
    f44_l_b10Same.l0 (n + 4) m (p ++ zs).length (fls .f32 (p ++ zs)) (q ++ ys).length (fls .f32 (q ++ ys)) (p.length : Int) = some (if zs = ys then .inr () else .inl false) := by
  intro zs
  induction zs with
  | nil =>
    intro ys p q m hl hpq _ _ _ hm
    obtain ⟨m, rfl⟩ : ∃ k, m = k + 1 := ⟨m - 1, by omega⟩
    obtain rfl : ys = [] := List.length_eq_zero_iff.1 (by simpa using hl)
    rw [f44_l_b10Same.l0, lt_end]
    rfl
  | cons z zs ih =>
    intro ys p q m hl hpq hz hy hb hm
    obtain ⟨m, rfl⟩ : ∃ k, m = k + 1 := ⟨m - 1, by omega⟩
    cases ys with
    | nil => simp at hl
    | cons y ys =>
      rw [f44_l_b10Same.l0, lt_mid, in_mid]
      simp only [hpq, in_mid, toNat_len, okAt_mid]
      rw [← hpq]
      simp only [okAt_mid, fAt_mid, Bool.and_self, gd_t, br_t]
      rw [hpq]
      simp only [fAt_mid]
      rw [s_same n (hz z (by simp)) (hy y (by simp)), ← hpq]
      simp only [bd_s, br_not]
      cases h : z == y
      · simp only [beq_eq_false_iff_ne, ne_eq] at h
        simp [br_f, h]
      · simp only [beq_iff_eq] at h
        subst h
        rw [br_t, wrap_len (z := z) (by simp at hb; omega)]
        have := ih ys (p ++ [z]) (q ++ [z]) m (by simpa using hl) (by simp [hpq]) (fun x hx => hz x (by simp [hx])) (fun x hx => hy x (by simp [hx])) (by simp at hb ⊢; omega) (by simp at hm; omega)
        simpa using this
/-- two lists of numbers -/
theorem l_same10 (n : Nat) (xs ys : List Nat) (hx : ∀ x ∈ xs, W32 x) (hy : ∀ x ∈ ys, W32 x) (hl : xs.length ≤ 1048576) (hn : xs.length < n) : f44_l_b10Same (n + 5) xs.length (fls .f32 xs) ys.length (fls .f32 ys) = some (decide (xs = ys)) := by
  rw [f44_l_b10Same]
  by_cases h : ys.length = xs.length
  · rw [show (((xs.length : Nat) : Int) != ((ys.length : Nat) : Int)) = false by simp [h], br_f]
    have := l_same10_loop n xs ys [] [] (n + 4) h rfl hx hy (by simpa using hl) (by omega)
    simp only [List.nil_append, List.length_nil] at this
    rw [show ((0 : Nat) : Int) = 0 from rfl] at this
    rw [this, bd_s]
    by_cases e : xs = ys
    · rw [if_pos e, decide_eq_true e]; rfl
    · rw [if_neg e, decide_eq_false e]; rfl
  · rw [show (((xs.length : Nat) : Int) != ((ys.length : Nat) : Int)) = true by simp; omega, decide_eq_false (fun e => h (by rw [e]))]
    rfl
theorem s_b10numbers (n : Nat) {bs : List Int} (hb : Bytes bs) (k : Nat) (hk : k ≤ 1000000) (hn : k < n) : ∃ xs, xs.length = k ∧ (∀ x ∈ xs, W32 x) ∧ f30_s_B10Numbers (n + 7) bs.length (its .u8 bs) (k : Int) = some (xs.length, fls .f32 xs) := by
  obtain ⟨ys, a2, s2, hy, hw, ha2, e2⟩ := s_floats n hb (a := 0) (by omega) k (by omega) (by omega) (by omega) 0
  rw [f30_s_B10Numbers, s_from]
  simp only [bd_s, e2]
  exact ⟨ys, by omega, hw, rfl⟩

theorem i_few (n k : Nat) (l : List T) : f92_i_areSamples (n + 1) k l = some (decide ((k : Int) ≤ 256)) := by rw [f92_i_areSamples]

theorem s_in (n : Nat) (a b c : Int) : f130_s_l00In (n + 1) a b c = some (decide (b ≤ a ∧ a ≤ c)) := by
  rw [f130_s_l00In]
  by_cases h : b ≤ a <;> simp [br, h]
theorem i_in (n : Nat) (a b c : Int) : f93_i_within (n + 1) a b c = some (decide (b ≤ a ∧ a ≤ c)) := by
  rw [f93_i_within]
  by_cases h : b ≤ a <;> simp [br, h]

theorem i_copy (n : Nat) (xs : List Nat) (h : xs.length ≤ 2147483648) : f109_i_copyNumbers (n + 1) xs.length (fls .f32 xs) = some (xs.length, fls .f32 xs) := by
  rw [f109_i_copyNumbers, Nat.zero_add, le_ble h]; rfl
theorem i_taken (n : Nat) (w : Nat) (ws : List Nat) (x : Nat) (h : ws.length < 2147483648) : f174_i_take (n + 2) (w :: ws).length (fls .f32 (w :: ws)) x = some ((ws ++ [x]).length, fls .f32 (ws ++ [x])) := by
  rw [f174_i_take, decide_eq_true (by simp; omega : (0 : Int) ≤ 1 ∧ (1 : Int) ≤ ((w :: ws).length : Int) ∧ ((w :: ws).length : Int) ≤ ((w :: ws).length : Int)), fls_drop, fls_take]
  rw [show (w :: ws).length - 1 = ws.length by simp, show ((w :: ws).drop 1).take ws.length = ws by simp, i_copy n ws (by omega)]
  simp only [gd_t, bd_s, push_ok h, push_fls]
  rw [push_len (z := x)]
theorem i_length (n : Nat) (k : Int) : f134_i_isLength (n + 2) k = some (decide (1 ≤ k ∧ k ≤ 64)) := by rw [f134_i_isLength, i_in]; rfl
theorem i_sized (n : Nat) (x : Int) : f113_i_size (n + 1) x = some x := by rw [f113_i_size]



theorem i_sub (n : Nat) {x : Nat} (h : x < 4294967296) : f195_i_IsSubnormal (n + 1) x = some (sub32 x) := by
  rw [f195_i_IsSubnormal, ← sub_key h]
  cases fne .f32 x 0 <;> cases flt .f32 x 8388608 <;> rfl
theorem i_flush (n : Nat) {x : Nat} (h : W32 x) : f188_i_FlushNumber (n + 2) x = some (flushM x) := by
  rw [f188_i_FlushNumber, i_sub n h.1, bd_s, br_not]
  have hx := h.1
  cases hs : sub32 x
  · rw [br_f]
    unfold sub32 at hs
    unfold flushM
    simp at hs
    split
    · congr 1; omega
    · rfl
  · have hs' := hs
    unfold sub32 at hs
    simp at hs
    have hn : isNaN .f32 x = false := by rw [nan32]; simp; omega
    obtain ⟨y, e1, e2⟩ := copy_zero n hx hn
    rw [br_t, fltToFlt_wide]
    simp only [bd_s, e1, e2]
    unfold flushM
    rw [if_pos hs.2]
theorem i_flushedq (n : Nat) {x : Nat} (b : Bool) (h : W32 x) : f175_i_flushed (n + 3) x b = some (fl? b x) := by
  rw [f175_i_flushed]
  cases b
  · rfl
  · simp only [br_t, i_flush n h, bd_s]; rfl

theorem i_delaystep (n : Nat) (L : Int) (fb dry wet : Nat) (fl : Bool) (w : List Nat) (x : Nat) (h0 : 0 < w.length) (h : w.length ≤ 64) :
    f133_i_Delaystep (n + 4) L fb dry wet fl w.length (fls .f32 w) x = some ((delayStep fb dry wet fl w x).1, (delayStep fb dry wet fl w x).2.length, fls .f32 (delayStep fb dry wet fl w x).2) := by
  obtain ⟨v, vs, rfl⟩ : ∃ v vs, w = v :: vs := by cases w with
    | nil => simp at h0
    | cons v vs => exact ⟨v, vs, rfl⟩
  have c1 : decide ((0 : Int) ≤ 0 ∧ (0 : Int) < ((v :: vs).length : Int)) = true := by simp <;> omega
  have c2 : okAt [.flt .f32] (fls .f32 (v :: vs)) 0 = true := okAt_fls (by simp)
  have c3 : fAt (fls .f32 (v :: vs)) 0 = v := by rw [fAt_fls]; rfl
  rw [f133_i_Delaystep, c1, c2, c3]
  simp only [Bool.and_self, gd_t, i_flushedq n fl (w32_fadd _ _), bd_s, i_taken (n + 1) v vs _ (by simp at h; omega)]
  rfl
theorem i_passstep (n : Nat) (L : Int) (ga : Nat) (w : List Nat) (x : Nat) (h0 : 0 < w.length) (h : w.length ≤ 64) :
    f135_i_Passstep (n + 3) L ga w.length (fls .f32 w) x = some ((passStep ga w x).1, (passStep ga w x).2.length, fls .f32 (passStep ga w x).2) := by
  obtain ⟨v, vs, rfl⟩ : ∃ v vs, w = v :: vs := by cases w with
    | nil => simp at h0
    | cons v vs => exact ⟨v, vs, rfl⟩
  have c1 : decide ((0 : Int) ≤ 0 ∧ (0 : Int) < ((v :: vs).length : Int)) = true := by simp <;> omega
  have c2 : okAt [.flt .f32] (fls .f32 (v :: vs)) 0 = true := okAt_fls (by simp)
  have c3 : fAt (fls .f32 (v :: vs)) 0 = v := by rw [fAt_fls]; rfl
  rw [f135_i_Passstep, c1, c2, c3]
  simp only [Bool.and_self, gd_t, bd_s, i_taken n v vs _ (by simp at h; omega)]
  rfl
theorem i_rundelay_loop (n : Nat) (N : Nat) (cs : List T) (L : Int) (fb dry wet : Nat) (fl : Bool) : ∀ (zs p acc w : List Nat) (m : Nat), 0 < w.length → w.length ≤ 64 → acc.length + zs.length < 1048576 → p.length + zs.length < 1048576 → zs.length < m →
    f63_i_RunDelay.l0 (n + 4) m N cs L fb dry wet fl w.length (fls .f32 w) acc.length (fls .f32 acc) (p ++ zs).length (fls .f32 (p ++ zs)) ((p ++ zs).length : Int) (p.length : Int) =
      some ((scan (delayStep fb dry wet fl) w zs).2.length, fls .f32 (scan (delayStep fb dry wet fl) w zs).2, (acc ++ (scan (delayStep fb dry wet fl) w zs).1).length, fls .f32 (acc ++ (scan (delayStep fb dry wet fl) w zs).1)) := by
  intro zs
  induction zs with
  | nil =>
    intro p acc w m _ _ _ _ hm
    obtain ⟨m, rfl⟩ : ∃ k, m = k + 1 := ⟨m - 1, by omega⟩
    rw [f63_i_RunDelay.l0, lt_end]
    simp [br_f, scan]
  | cons z zs ih =>
    intro p acc w m h0 h ha hp hm
    obtain ⟨m, rfl⟩ : ∃ k, m = k + 1 := ⟨m - 1, by omega⟩
    have hp' : p.length < 1048576 := by simp at hp; omega
    have ha' : acc.length < 1048576 := by simp at ha; omega
    have hl : (delayStep fb dry wet fl w z).2.length = w.length := took_length h0
    rw [f63_i_RunDelay.l0, lt_mid, in_mid, toNat_len, okAt_mid, fAt_mid]
    simp only [br_t, gd_t, Bool.and_self, i_delaystep n L fb dry wet fl w z h0 h, bd_s, push_ok (show acc.length < 2147483648 by omega), push_fls, wrap_len (z := z) (show p.length < 4611686018427387904 by omega)]
    have := ih (p ++ [z]) (acc ++ [(delayStep fb dry wet fl w z).1]) (delayStep fb dry wet fl w z).2 m (by omega) (by omega) (by simp at ha ⊢; omega) (by simp at hp ⊢; omega) (by simp at hm; omega)
    simpa [scan] using this
theorem i_validdelay (n : Nat) (L : Int) (fb dry wet : Nat) (fl : Bool) : f64_i_ValidDelay (n + 3) L fb dry wet fl = some (decide (1 ≤ L ∧ L ≤ 64)) := by rw [f64_i_ValidDelay, i_length]; rfl
theorem i_rundelay (n : Nat) (fb dry wet : Nat) (fl : Bool) (w xs : List Nat) (h0 : 0 < w.length) (h : w.length ≤ 64) (hx : xs.length ≤ 256) (hn : 300 < n) :
    f63_i_RunDelay (n + 5) (w.length : Int) fb dry wet fl w.length (fls .f32 w) xs.length (fls .f32 xs) =
      some ((scan (delayStep fb dry wet fl) w xs).1.length, fls .f32 (scan (delayStep fb dry wet fl) w xs).1, (scan (delayStep fb dry wet fl) w xs).2.length, fls .f32 (scan (delayStep fb dry wet fl) w xs).2, true) := by
  have e := i_rundelay_loop n xs.length (fls .f32 xs) (w.length : Int) fb dry wet fl xs [] [] w (n + 4) h0 h (by simp; omega) (by simp; omega) (by omega)
  have e : f63_i_RunDelay.l0 (n + 4) (n + 4) xs.length (fls .f32 xs) (w.length : Int) fb dry wet fl w.length (fls .f32 w) 0 [] xs.length (fls .f32 xs) (xs.length : Int) 0 = _ := e
  rw [f63_i_RunDelay, i_validdelay, i_sized, i_few, i_copy (n + 3) w (by omega), decide_eq_true (show 1 ≤ (w.length : Int) ∧ (w.length : Int) ≤ 64 by omega), decide_eq_true (show (xs.length : Int) ≤ 256 by omega)]
  simp only [bd_s, br_not, br_t, bne_self_eq_false, br_f, e, List.nil_append]
theorem i_runpass_loop (n : Nat) (N : Nat) (cs : List T) (L : Int) (ga : Nat) : ∀ (zs p acc w : List Nat) (m : Nat), 0 < w.length → w.length ≤ 64 → acc.length + zs.length < 1048576 → p.length + zs.length < 1048576 → zs.length < m →
    f65_i_RunPass.l0 (n + 3) m N cs L ga w.length (fls .f32 w) acc.length (fls .f32 acc) (p ++ zs).length (fls .f32 (p ++ zs)) ((p ++ zs).length : Int) (p.length : Int) =
      some ((scan (passStep ga) w zs).2.length, fls .f32 (scan (passStep ga) w zs).2, (acc ++ (scan (passStep ga) w zs).1).length, fls .f32 (acc ++ (scan (passStep ga) w zs).1)) := by
  intro zs
  induction zs with
  | nil =>
    intro p acc w m _ _ _ _ hm
    obtain ⟨m, rfl⟩ : ∃ k, m = k + 1 := ⟨m - 1, by omega⟩
    rw [f65_i_RunPass.l0, lt_end]
    simp [br_f, scan]
  | cons z zs ih =>
    intro p acc w m h0 h ha hp hm
    obtain ⟨m, rfl⟩ : ∃ k, m = k + 1 := ⟨m - 1, by omega⟩
    have hp' : p.length < 1048576 := by simp at hp; omega
    have ha' : acc.length < 1048576 := by simp at ha; omega
    have hl : (passStep ga w z).2.length = w.length := took_length h0
    rw [f65_i_RunPass.l0, lt_mid, in_mid, toNat_len, okAt_mid, fAt_mid]
    simp only [br_t, gd_t, Bool.and_self, i_passstep n L ga w z h0 h, bd_s, push_ok (show acc.length < 2147483648 by omega), push_fls, wrap_len (z := z) (show p.length < 4611686018427387904 by omega)]
    have := ih (p ++ [z]) (acc ++ [(passStep ga w z).1]) (passStep ga w z).2 m (by omega) (by omega) (by simp at ha ⊢; omega) (by simp at hp ⊢; omega) (by simp at hm; omega)
    simpa [scan] using this
theorem i_runpass (n : Nat) (ga : Nat) (w xs : List Nat) (h0 : 0 < w.length) (h : w.length ≤ 64) (hx : xs.length ≤ 256) (hn : 300 < n) :
    f65_i_RunPass (n + 4) (w.length : Int) ga w.length (fls .f32 w) xs.length (fls .f32 xs) =
      some ((scan (passStep ga) w xs).1.length, fls .f32 (scan (passStep ga) w xs).1, (scan (passStep ga) w xs).2.length, fls .f32 (scan (passStep ga) w xs).2, true) := by
  have e := i_runpass_loop n xs.length (fls .f32 xs) (w.length : Int) ga xs [] [] w (n + 3) h0 h (by simp; omega) (by simp; omega) (by omega)
  have e : f65_i_RunPass.l0 (n + 3) (n + 3) xs.length (fls .f32 xs) (w.length : Int) ga w.length (fls .f32 w) 0 [] xs.length (fls .f32 xs) (xs.length : Int) 0 = _ := e
  rw [f65_i_RunPass, i_length, i_sized, i_few, i_copy (n + 2) w (by omega), decide_eq_true (show 1 ≤ (w.length : Int) ∧ (w.length : Int) ≤ 64 by omega), decide_eq_true (show (xs.length : Int) ≤ 256 by omega)]
  simp only [bd_s, br_not, br_t, bne_self_eq_false, br_f, e, List.nil_append]
theorem i_zeroed (n k : Nat) (h : k ≤ 2147483648) : f108_i_zeros (n + 1) (k : Int) = some (k, fls .f32 (List.replicate k 0)) := by
  rw [f108_i_zeros, decide_eq_true (show (0 : Int) ≤ (k : Int) ∧ (k : Int) ≤ 2147483648 by omega), gd_t, Int.toNat_natCast, reps_fls]

theorem i_emptyline (n k : Nat) (h : 1 ≤ k ∧ k ≤ 64) : f66_i_EmptyLine (n + 3) (k : Int) = some (k, fls .f32 (List.replicate k 0), true) := by
  rw [f66_i_EmptyLine, i_length, decide_eq_true (show 1 ≤ (k : Int) ∧ (k : Int) ≤ 64 by omega), i_zeroed (n + 1) k (by omega)]
  rfl
theorem sixteen_w32 (x : Nat) : W32 (fdiv .f32 x 1098907648) := w32_fdiv _ _
theorem s_drawdelay (n : Nat) {bs : List Int} (hb : Bytes bs) {a : Int} (h0 : 0 ≤ a) (h1 : a ≤ 1125899906842500) (sd : Int) :
    ∃ (L : Nat) (fb dry wet : Nat) (fl : Bool) (a' sd' : Int), (1 ≤ L ∧ L ≤ 64) ∧ (W32 fb ∧ W32 dry ∧ W32 wet) ∧ (a ≤ a' ∧ a' ≤ a + 40) ∧ f132_s_l03DrawDelay (n + 6) bs.length (its .u8 bs) a sd = some ((L : Int), fb, dry, wet, fl, bs.length, its .u8 bs, a', sd') := by
  obtain ⟨r, a1, s1, hr, ha1, e1⟩ := s_pick (n + 3) hb h0 (by omega) sd 8
  obtain ⟨fl, a2, s2, ha2, e2⟩ := s_one (n + 2) hb (a := a1) (by omega) (by omega) s1 2
  obtain ⟨big, a3, s3, ha3, e3⟩ := s_one (n + 2) hb (a := a2) (by omega) (by omega) s2 12
  obtain ⟨q1, a4, s4, hq1, ha4, e4⟩ := s_pick (n + 3) hb (a := a3) (by omega) (by omega) s3 33
  obtain ⟨q2, a5, s5, hq2, ha5, e5⟩ := s_pick (n + 3) hb (a := a4) (by omega) (by omega) s4 17
  obtain ⟨q3, a6, s6, hq3, ha6, e6⟩ := s_pick (n + 3) hb (a := a5) (by omega) (by omega) s5 17
  obtain ⟨odd, a7, s7, ha7, e7⟩ := s_one (n + 2) hb (a := a6) (by omega) (by omega) s6 10
  obtain ⟨x, a8, s8, hx, ha8, e8⟩ := s_float n hb (a := a7) (by omega) (by omega) s7
  obtain ⟨k, rfl⟩ := Int.eq_ofNat_of_zero_le hr.1
  have hk : k < 8 := by have := hr.2.1 (by omega); omega
  have w1 : IntKind.i64.wrap (1 + (k : Int)) = ((k + 1 : Nat) : Int) := by rw [wrap64] <;> omega
  rw [f132_s_l03DrawDelay, e1]
  simp only [bd_s, e2, e3, e4, e5, e6, e7, e8, w1]
  cases big <;> cases odd
  · exact ⟨k + 1, _, _, _, fl, a7, s7, by omega, ⟨w32_fdiv _ _, w32_fdiv _ _, w32_fdiv _ _⟩, by omega, rfl⟩
  · exact ⟨k + 1, x, _, _, fl, a8, s8, by omega, ⟨hx, w32_fdiv _ _, w32_fdiv _ _⟩, by omega, rfl⟩
  · exact ⟨64, _, _, _, fl, a7, s7, by omega, ⟨w32_fdiv _ _, w32_fdiv _ _, w32_fdiv _ _⟩, by omega, rfl⟩
  · exact ⟨64, x, _, _, fl, a8, s8, by omega, ⟨hx, w32_fdiv _ _, w32_fdiv _ _⟩, by omega, rfl⟩
theorem s_b10delay (n : Nat) {bs : List Int} (hb : Bytes bs) : ∃ (L : Nat) (fb dry wet : Nat) (fl : Bool), (1 ≤ L ∧ L ≤ 64) ∧ (W32 fb ∧ W32 dry ∧ W32 wet) ∧ f62_s_B10Delay (n + 7) bs.length (its .u8 bs) = some ((L : Int), fb, dry, wet, fl) := by
  obtain ⟨L, fb, dry, wet, fl, a', s', h1, h2, -, e⟩ := s_drawdelay n hb (a := 0) (by omega) (by omega) 0
  rw [f62_s_B10Delay, s_from]
  simp only [bd_s, e]
  exact ⟨L, fb, dry, wet, fl, h1, h2, rfl⟩


theorem i_finite (n : Nat) (x : Nat) : f136_i_IsFinite (n + 1) x = some (fin32 x) := by rw [f136_i_IsFinite, sub_finite]
theorem s_fromx (n : Nat) {i : Int} (h0 : 0 ≤ i) (h1 : i < 4294967296) : f167_s_l01From (n + 2) i = some (canon .f32 i.toNat) := by
  rw [f167_s_l01From, u32_wrap h0 h1]
  show bd (if 0 ≤ i then some (canon .f32 i.toNat) else none) _ = _
  rw [if_pos h0]; rfl

theorem i_arefin_loop (n : Nat) (N : Nat) (cs : List T) : ∀ (zs p : List Nat) (m : Nat), p.length + zs.length < 1048576 → zs.length < m →
    f137_i_areFinite.l0 (n + 1) m N cs (p ++ zs).length (fls .f32 (p ++ zs)) ((p ++ zs).length : Int) (p.length : Int) = some (if zs.all fin32 then .inr () else .inl false) := by
  intro zs
  induction zs with
  | nil =>
    intro p m _ hm
    obtain ⟨m, rfl⟩ : ∃ k, m = k + 1 := ⟨m - 1, by omega⟩
    rw [f137_i_areFinite.l0, lt_end]; rfl
  | cons z zs ih =>
    intro p m hp hm
    obtain ⟨m, rfl⟩ : ∃ k, m = k + 1 := ⟨m - 1, by omega⟩
    rw [f137_i_areFinite.l0, lt_mid, in_mid, toNat_len, okAt_mid, fAt_mid]
    simp only [br_t, gd_t, Bool.and_self, i_finite, bd_s, br_not]
    cases hz : fin32 z
    · simp [br_f, hz]
    · have := ih (p ++ [z]) m (by simp at hp ⊢; omega) (by simp at hm; omega)
      rw [wrap_len (z := z) (show p.length < 4611686018427387904 by simp at hp; omega)]
      simpa [br_t, hz] using this
theorem i_arefin (n : Nat) (xs : List Nat) (hl : xs.length < 1048576) (hn : xs.length < n) : f137_i_areFinite (n + 2) xs.length (fls .f32 xs) = some (xs.all fin32) := by
  have e := i_arefin_loop n xs.length (fls .f32 xs) xs [] (n + 1) (by simpa using hl) (by omega)
  have e : f137_i_areFinite.l0 (n + 1) (n + 1) xs.length (fls .f32 xs) xs.length (fls .f32 xs) (xs.length : Int) 0 = _ := e
  rw [f137_i_areFinite, e]
  cases xs.all fin32 <;> rfl
theorem i_arezero_loop (n : Nat) (N : Nat) (cs : List T) : ∀ (zs p : List Nat) (m : Nat), p.length + zs.length < 1048576 → zs.length < m →
    f138_i_areZeros.l0 n m N cs (p ++ zs).length (fls .f32 (p ++ zs)) ((p ++ zs).length : Int) (p.length : Int) = some (if zs.all zeroB then .inr () else .inl false) := by
  intro zs
  induction zs with
  | nil =>
    intro p m _ hm
    obtain ⟨m, rfl⟩ : ∃ k, m = k + 1 := ⟨m - 1, by omega⟩
    rw [f138_i_areZeros.l0, lt_end]; rfl
  | cons z zs ih =>
    intro p m hp hm
    obtain ⟨m, rfl⟩ : ∃ k, m = k + 1 := ⟨m - 1, by omega⟩
    rw [f138_i_areZeros.l0, lt_mid, in_mid, toNat_len, okAt_mid, fAt_mid]
    simp only [br_t, gd_t, Bool.and_self, fne_zero, br_not]
    cases hz : zeroB z
    · simp [br_f, hz]
    · have := ih (p ++ [z]) m (by simp at hp ⊢; omega) (by simp at hm; omega)
      rw [wrap_len (z := z) (show p.length < 4611686018427387904 by simp at hp; omega)]
      simpa [br_t, hz] using this
theorem i_arezero (n : Nat) (xs : List Nat) (hl : xs.length < 1048576) (hn : xs.length < n) : f138_i_areZeros (n + 1) xs.length (fls .f32 xs) = some (xs.all zeroB) := by
  have e := i_arezero_loop n xs.length (fls .f32 xs) xs [] n (by simpa using hl) (by omega)
  have e : f138_i_areZeros.l0 n n xs.length (fls .f32 xs) xs.length (fls .f32 xs) (xs.length : Int) 0 = _ := e
  rw [f138_i_areZeros, e]
  cases xs.all zeroB <;> rfl
theorem s_arezero_loop (n : Nat) : ∀ (zs p : List Nat) (m : Nat), p.length + zs.length < 1048576 → zs.length < m →
    f142_s_l03Zeros.l0 n m (p ++ zs).length (fls .f32 (p ++ zs)) ((p ++ zs).length : Int) (p.length : Int) = some (if zs.all zeroB then .inr () else .inl false) := by
  intro zs
  induction zs with
  | nil =>
    intro p m _ hm
    obtain ⟨m, rfl⟩ : ∃ k, m = k + 1 := ⟨m - 1, by omega⟩
    rw [f142_s_l03Zeros.l0, lt_end]; rfl
  | cons z zs ih =>
    intro p m hp hm
    obtain ⟨m, rfl⟩ : ∃ k, m = k + 1 := ⟨m - 1, by omega⟩
    rw [f142_s_l03Zeros.l0, lt_mid, in_mid, toNat_len, okAt_mid, fAt_mid, fne_zero]
    simp only [br_t, gd_t, Bool.and_self, br_not]
    cases hz : zeroB z
    · simp [br_f, hz]
    · have := ih (p ++ [z]) m (by simp at hp ⊢; omega) (by simp at hm; omega)
      rw [wrap_len (z := z) (show p.length < 4611686018427387904 by simp at hp; omega)]
      simpa [br_t, hz] using this
theorem s_arezero (n : Nat) (xs : List Nat) (hl : xs.length < 1048576) (hn : xs.length < n) : f142_s_l03Zeros (n + 1) xs.length (fls .f32 xs) = some (xs.all zeroB) := by
  have e := s_arezero_loop n xs [] n (by simpa using hl) (by omega)
  have e : f142_s_l03Zeros.l0 n n xs.length (fls .f32 xs) (xs.length : Int) 0 = _ := e
  rw [f142_s_l03Zeros, e]
  cases xs.all zeroB <;> rfl
theorem i_silent_loop (n : Nat) (L : Int) (fb dry wet : Nat) (fl : Bool) : ∀ (k i : Nat) (w : List Nat) (m : Nat), 0 < w.length → w.length ≤ 64 → i + k = 257 → k < m →
    f67_i_SilentFrom.l0 (n + 100) m L fb dry wet fl w.length (fls .f32 w) (i : Int) = some (match silentM (fun w => (delayStep fb dry wet fl w 0).2) k i w with | some j => .inl ((j : Int), true) | none => .inr ()) := by
  intro k
  induction k with
  | zero =>
    intro i w m _ _ hi hm
    obtain ⟨m, rfl⟩ : ∃ k, m = k + 1 := ⟨m - 1, by omega⟩
    rw [f67_i_SilentFrom.l0, decide_eq_false (show ¬ (i : Int) ≤ 256 by omega)]; rfl
  | succ k ih =>
    intro i w m h0 h hi hm
    obtain ⟨m, rfl⟩ : ∃ k, m = k + 1 := ⟨m - 1, by omega⟩
    have hl : (delayStep fb dry wet fl w 0).2.length = w.length := took_length h0
    rw [f67_i_SilentFrom.l0, decide_eq_true (show (i : Int) ≤ 256 by omega), i_arezero (n + 99) w (by omega) (by omega), i_delaystep (n + 96) L fb dry wet fl w 0 h0 h]
    simp only [br_t, bd_s, silentM]
    cases hz : w.all zeroB
    · rw [show IntKind.i64.wrap ((i : Int) + 1) = ((i + 1 : Nat) : Int) by rw [wrap64] <;> omega]
      have := ih (i + 1) (delayStep fb dry wet fl w 0).2 m (by omega) (by omega) (by omega) (by omega)
      simpa [br_f] using this
    · rfl
theorem i_silentfrom (n : Nat) (fb dry wet : Nat) (fl : Bool) (w : List Nat) (h0 : 0 < w.length) (h : w.length ≤ 64) (hn : 300 < n) :
    f67_i_SilentFrom (n + 101) (w.length : Int) fb dry wet fl w.length (fls .f32 w) = some (if fin32 fb && w.all fin32 then (match silentM (fun w => (delayStep fb dry wet fl w 0).2) 257 0 w with | some j => ((j : Int), true) | none => (0, false)) else (0, false)) := by
  have e := i_silent_loop n (w.length : Int) fb dry wet fl 257 0 w (n + 100) h0 h rfl (by omega)
  have e : f67_i_SilentFrom.l0 (n + 100) (n + 100) (w.length : Int) fb dry wet fl w.length (fls .f32 w) 0 = _ := e
  rw [f67_i_SilentFrom, i_validdelay, i_sized, i_finite, i_arefin (n + 98) w (by omega) (by omega), i_copy (n + 99) w (by omega), decide_eq_true (show 1 ≤ (w.length : Int) ∧ (w.length : Int) ≤ 64 by omega)]
  simp only [bd_s, br_not, br_t, bne_self_eq_false, br_f, e]
  cases fin32 fb
  · rfl
  cases w.all fin32
  · rfl
  simp only [br_t, Bool.and_self, if_true]
  cases silentM (fun w => (delayStep fb dry wet fl w 0).2) 257 0 w <;> rfl
theorem s_take_loop (n : Nat) (x : Nat) : ∀ (ys p : List Nat) (z : Nat) (m : Nat), p.length + ys.length < 1048576 → ys.length < m →
    f177_s_l03Take.l0 n m (p ++ z :: ys).length (fls .f32 (p ++ z :: ys)) x ((p.length : Int) + 1) = some ((p ++ z :: ys).length, fls .f32 (p ++ ys ++ [(z :: ys).getLastD 0]), x) := by
  intro ys
  induction ys with
  | nil =>
    intro p z m _ hm
    obtain ⟨m, rfl⟩ : ∃ k, m = k + 1 := ⟨m - 1, by omega⟩
    rw [f177_s_l03Take.l0, decide_eq_false (show ¬ ((p.length : Int) + 1 < ((p ++ [z]).length : Int)) by simp)]
    simp [br_f]
  | cons y ys ih =>
    intro p z m hp hm
    obtain ⟨m, rfl⟩ : ∃ k, m = k + 1 := ⟨m - 1, by omega⟩
    have hlen : (p ++ z :: y :: ys).length = p.length + ys.length + 2 := by simp; omega
    have c1 : ((p.length : Int) + 1) = ((p.length + 1 : Nat) : Int) := by omega
    have c2 : p.length + 1 < (p ++ z :: y :: ys).length := by omega
    have c3 : fAt (fls .f32 (p ++ z :: y :: ys)) (p.length + 1) = y := by
      rw [fAt_fls]
      simp [List.getD]
    have c4 : IntKind.i64.wrap ((p.length : Int) + 1 - 1) = (p.length : Int) := by rw [wrap64] <;> simp at hp <;> omega
    have c5 : Nat.ble (p.length + 1) (fls .f32 (p ++ z :: y :: ys)).length = true := by rw [fls_length]; exact le_ble (by omega)
    have c6 : setN (fls .f32 (p ++ z :: y :: ys)) p.length [T.flt .f32 y] = fls .f32 ((p ++ [y]) ++ y :: ys) := by
      rw [setN_one, set_fls, set_mid]; simp
    have c7 : IntKind.i64.wrap ((p.length : Int) + 1 + 1) = (((p ++ [y]).length : Nat) : Int) + 1 := by rw [wrap64] <;> simp at hp ⊢ <;> omega
    have c8 : decide ((0 : Int) ≤ (p.length : Int) ∧ (p.length : Int) < ((p ++ z :: y :: ys).length : Int)) = true := decide_eq_true (by omega)
    rw [f177_s_l03Take.l0, c4, c7, c1, lt_dec c2, in_dec c2, Int.toNat_natCast, Int.toNat_natCast, okAt_fls c2, c3, c8, c5, c6]
    simp only [br_t, gd_t]
    have := ih (p ++ [y]) y m (by simp at hp ⊢; omega) (by simp at hm; omega)
    rw [show (p ++ z :: y :: ys).length = (p ++ [y] ++ y :: ys).length by simp, this]
    simp
theorem s_taken (n : Nat) (w : List Nat) (x : Nat) (h0 : 0 < w.length) (h : w.length ≤ 64) (hn : 100 < n) : f177_s_l03Take (n + 1) w.length (fls .f32 w) x = some ((tookM w x).length, fls .f32 (tookM w x)) := by
  obtain ⟨v, vs, rfl⟩ : ∃ v vs, w = v :: vs := by cases w with
    | nil => simp at h0
    | cons v vs => exact ⟨v, vs, rfl⟩
  have e := s_take_loop n x vs [] v n (by simp at h ⊢; omega) (by simp at h; omega)
  have e : f177_s_l03Take.l0 n n (v :: vs).length (fls .f32 (v :: vs)) x 1 = some ((v :: vs).length, fls .f32 (vs ++ [(v :: vs).getLastD 0]), x) := e
  have c1 : IntKind.i64.wrap (((v :: vs).length : Int) - 1) = (vs.length : Int) := by rw [wrap64] <;> simp at h ⊢ <;> omega
  have c2 : decide ((0 : Int) ≤ (vs.length : Int) ∧ (vs.length : Int) < ((v :: vs).length : Int)) = true := decide_eq_true (by simp; omega)
  have c3 : Nat.ble (vs.length + 1) (fls .f32 (vs ++ [(v :: vs).getLastD 0])).length = true := by rw [fls_length]; exact le_ble (by simp)
  rw [f177_s_l03Take, e]
  simp only [bd_s, c1, c2, gd_t, Int.toNat_natCast, c3, setN_one, set_fls, set_mid]
  simp [tookM]
theorem s_flush (n : Nat) {x : Nat} (h : W32 x) : f176_s_l01Flush (n + 3) x = some (flushM x) := by
  rw [f176_s_l01Flush, s_bits n h]
  simp only [bd_s, exp_zero x h.1, sign_bits x h.1]
  unfold flushM
  by_cases hx : x % 2147483648 < 8388608
  · rw [decide_eq_true hx, if_pos hx, br_t, s_fromx n (by omega) (by have := h.1; omega), Int.toNat_natCast]
    have : canon .f32 (x / 2147483648 * 2147483648) = x / 2147483648 * 2147483648 := canon_num (by rw [nan32]; simp <;> omega)
    rw [this]; rfl
  · rw [decide_eq_false hx, if_neg hx]; rfl
theorem s_delaystep (n : Nat) (L : Int) (fb dry wet : Nat) (fl : Bool) (w : List Nat) (x : Nat) (h0 : 0 < w.length) (h : w.length ≤ 64) (hn : 100 < n) :
    f143_s_l03Delay (n + 4) L fb dry wet fl w.length (fls .f32 w) x = some ((delayStep fb dry wet fl w x).1, (delayStep fb dry wet fl w x).2.length, fls .f32 (delayStep fb dry wet fl w x).2) := by
  obtain ⟨v, vs, rfl⟩ : ∃ v vs, w = v :: vs := by cases w with
    | nil => simp at h0
    | cons v vs => exact ⟨v, vs, rfl⟩
  have c1 : decide ((0 : Int) ≤ 0 ∧ (0 : Int) < ((v :: vs).length : Int)) = true := by simp <;> omega
  have c2 : okAt [.flt .f32] (fls .f32 (v :: vs)) 0 = true := okAt_fls (by simp)
  have c3 : fAt (fls .f32 (v :: vs)) 0 = v := by rw [fAt_fls]; rfl
  rw [f143_s_l03Delay, c1, c2, c3]
  cases fl
  · simp only [gd_t, br_f, s_taken (n + 2) (v :: vs) _ h0 h (by omega), bd_s]
    rfl
  · simp only [gd_t, br_t, s_flush n (w32_fadd _ _), bd_s, s_taken (n + 2) (v :: vs) _ h0 h (by omega)]
    rfl
theorem s_fin1 (n x : Nat) : f140_s_l01Finite (n + 1) x = some (fin32 x) := by rw [f140_s_l01Finite, sub_finite]
theorem s_arefin_loop (n : Nat) (L : Int) (fb dry wet : Nat) (fl : Bool) : ∀ (zs p : List Nat) (m : Nat), p.length + zs.length < 1048576 → zs.length < m →
    f68_s_SilentFrom.l0 (n + 1) m (p ++ zs).length (fls .f32 (p ++ zs)) L fb dry wet fl ((p ++ zs).length : Int) (p.length : Int) = some (if zs.all fin32 then .inr ((p ++ zs).length, fls .f32 (p ++ zs), L, fb, dry, wet, fl) else .inl (0, false)) := by
  intro zs
  induction zs with
  | nil =>
    intro p m _ hm
    obtain ⟨m, rfl⟩ : ∃ k, m = k + 1 := ⟨m - 1, by omega⟩
    rw [f68_s_SilentFrom.l0, lt_end]; rfl
  | cons z zs ih =>
    intro p m hp hm
    obtain ⟨m, rfl⟩ : ∃ k, m = k + 1 := ⟨m - 1, by omega⟩
    rw [f68_s_SilentFrom.l0, lt_mid, in_mid, toNat_len, okAt_mid, fAt_mid, s_fin1]
    simp only [br_t, gd_t, Bool.and_self, bd_s, br_not]
    cases hz : fin32 z
    · simp [br_f, hz]
    · have := ih (p ++ [z]) m (by simp at hp ⊢; omega) (by simp at hm; omega)
      rw [wrap_len (z := z) (show p.length < 4611686018427387904 by simp at hp; omega)]
      simpa [br_t, hz] using this
theorem s_silent_loop (n : Nat) (L : Int) (fb dry wet : Nat) (fl : Bool) : ∀ (k i : Nat) (w : List Nat) (m : Nat), 0 < w.length → w.length ≤ 64 → i + k = 257 → k < m →
    f68_s_SilentFrom.l1 (n + 200) m L fb dry wet fl w.length (fls .f32 w) (i : Int) = some (match silentM (fun w => (delayStep fb dry wet fl w 0).2) k i w with | some j => .inl ((j : Int), true) | none => .inr ()) := by
  intro k
  induction k with
  | zero =>
    intro i w m _ _ hi hm
    obtain ⟨m, rfl⟩ : ∃ k, m = k + 1 := ⟨m - 1, by omega⟩
    rw [f68_s_SilentFrom.l1, decide_eq_false (show ¬ (i : Int) ≤ 256 by omega)]; rfl
  | succ k ih =>
    intro i w m h0 h hi hm
    obtain ⟨m, rfl⟩ : ∃ k, m = k + 1 := ⟨m - 1, by omega⟩
    have hl : (delayStep fb dry wet fl w 0).2.length = w.length := took_length h0
    rw [f68_s_SilentFrom.l1, decide_eq_true (show (i : Int) ≤ 256 by omega), s_arezero (n + 199) w (by omega) (by omega), s_delaystep (n + 196) L fb dry wet fl w 0 h0 h (by omega)]
    simp only [br_t, bd_s, silentM]
    cases hz : w.all zeroB
    · rw [show IntKind.i64.wrap ((i : Int) + 1) = ((i + 1 : Nat) : Int) by rw [wrap64] <;> omega]
      have := ih (i + 1) (delayStep fb dry wet fl w 0).2 m (by omega) (by omega) (by omega) (by omega)
      simpa [br_f] using this
    · rfl
theorem s_silentfrom (n : Nat) (fb dry wet : Nat) (fl : Bool) (w : List Nat) (h0 : 0 < w.length) (h : w.length ≤ 64) (hn : 300 < n) :
    f68_s_SilentFrom (n + 201) (w.length : Int) fb dry wet fl w.length (fls .f32 w) = some (if fin32 fb && w.all fin32 then (match silentM (fun w => (delayStep fb dry wet fl w 0).2) 257 0 w with | some j => ((j : Int), true) | none => (0, false)) else (0, false)) := by
  have e := s_silent_loop n (w.length : Int) fb dry wet fl 257 0 w (n + 200) h0 h rfl (by omega)
  have e : f68_s_SilentFrom.l1 (n + 200) (n + 200) (w.length : Int) fb dry wet fl w.length (fls .f32 w) 0 = _ := e
  have e2 := s_arefin_loop (n + 199) (w.length : Int) fb dry wet fl w [] (n + 200) (by simp; omega) (by omega)
  have e2 : f68_s_SilentFrom.l0 (n + 200) (n + 200) w.length (fls .f32 w) (w.length : Int) fb dry wet fl (w.length : Int) 0 = some (if w.all fin32 then .inr (w.length, fls .f32 w, (w.length : Int), fb, dry, wet, fl) else .inl (0, false)) := e2
  have e3 : f139_s_l03Length (n + 200) (w.length : Int) = some true := by rw [f139_s_l03Length, s_in, decide_eq_true (show 1 ≤ (w.length : Int) ∧ (w.length : Int) ≤ 64 by omega)]; rfl
  have e4 : f141_s_l03Own (n + 200) w.length (fls .f32 w) = some (w.length, fls .f32 w) := by rw [f141_s_l03Own, Nat.zero_add, le_ble (show w.length ≤ 2147483648 by omega)]; rfl
  rw [f68_s_SilentFrom, e3, s_fin1, e2]
  simp only [bd_s, br_not, br_t, bne_self_eq_false, br_f]
  cases fin32 fb
  · rfl
  cases w.all fin32
  · rfl
  simp only [br_t, Bool.and_self, if_true, sm_r, e4, bd_s, e]
  cases silentM (fun w => (delayStep fb dry wet fl w 0).2) 257 0 w <;> rfl

theorem s_b10whole_loop (n : Nat) {bs : List Int} (hb : Bytes bs) (most : Nat) (hmost : most ≤ 1000000) : ∀ (j m : Nat) (a sd : Int) (acc : List Int), 0 ≤ a → a + 2 * (j : Int) ≤ 1125899906842000 → acc.length + j ≤ 1000000 → j < m → (∀ x ∈ acc, -(most : Int) ≤ x ∧ x ≤ (most : Int)) →
    ∃ ks : List Int, ks.length = acc.length + j ∧ (∀ x ∈ ks, -(most : Int) ≤ x ∧ x ≤ (most : Int)) ∧ f34_s_B10Whole.l0 (n + 2) m (j : Int) (most : Int) bs.length (its .u8 bs) a sd (nears acc).length (fls .f32 (nears acc)) = some ((nears ks).length, fls .f32 (nears ks)) := by
  intro j
  induction j with
  | zero =>
    intro m a sd acc _ _ _ hm hw
    obtain ⟨m, rfl⟩ : ∃ k, m = k + 1 := ⟨m - 1, by omega⟩
    rw [f34_s_B10Whole.l0]
    exact ⟨acc, by omega, hw, rfl⟩
  | succ j ih =>
    intro m a sd acc h0 h1 hl hm hw
    obtain ⟨m, rfl⟩ : ∃ k, m = k + 1 := ⟨m - 1, by omega⟩
    obtain ⟨r, a1, s1, hr, ha1, e1⟩ := s_pick n hb h0 (by omega) sd (2 * (most : Int) + 1)
    have w1 : IntKind.i64.wrap (IntKind.i64.wrap (2 * (most : Int)) + 1) = 2 * (most : Int) + 1 := by rw [wrap64 (x := 2 * (most : Int)) (by omega) (by omega), wrap64] <;> omega
    have hr0 := hr.1
    have hr1 : r < 2 * (most : Int) + 1 := by
      by_cases h : 1 < 2 * (most : Int) + 1
      · exact hr.2.1 h
      · have := hr.2.2 (by omega); omega
    have w2 : IntKind.i64.wrap (r - (most : Int)) = r - (most : Int) := by rw [wrap64] <;> omega
    have hpush : nears acc ++ [FloatKind.f32.nearest (r - (most : Int))] = nears (acc ++ [r - (most : Int)]) := by simp [nears]
    rw [f34_s_B10Whole.l0, decide_eq_true (show (((j + 1 : Nat) : Int) > 0) by omega), show IntKind.i64.wrap (((j + 1 : Nat) : Int) - 1) = (j : Int) by rw [wrap64] <;> omega, w1]
    simp only [br_t, e1, bd_s, w2, push_ok (show (nears acc).length < 2147483648 by rw [nears_length]; omega), gd_t, push_fls]
    rw [push_len (z := FloatKind.f32.nearest (r - (most : Int))), hpush]
    obtain ⟨ks, q1, q2, q3⟩ := ih m a1 s1 (acc ++ [r - (most : Int)]) (by omega) (by omega) (by simp; omega) (by omega) (by
      intro x hx; simp only [List.mem_append, List.mem_singleton] at hx
      rcases hx with hx | rfl
      · exact hw x hx
      · omega)
    exact ⟨ks, by simp at q1; omega, q2, q3⟩
theorem s_b10whole (n : Nat) {bs : List Int} (hb : Bytes bs) (k most : Nat) (hk : k ≤ 1000) (hmost : most ≤ 1000000) (hn : k < n) : ∃ ks : List Int, ks.length = k ∧ (∀ x ∈ ks, -(most : Int) ≤ x ∧ x ≤ (most : Int)) ∧ f34_s_B10Whole (n + 3) bs.length (its .u8 bs) (k : Int) (most : Int) = some (ks.length, fls .f32 (nears ks)) := by
  obtain ⟨ks, h1, h2, e⟩ := s_b10whole_loop n hb most hmost k (n + 2) 0 0 [] (by omega) (by omega) (by simp; omega) (by omega) (by simp)
  have e : f34_s_B10Whole.l0 (n + 2) (n + 2) (k : Int) (most : Int) bs.length (its .u8 bs) 0 0 0 (reps 0 [(T.flt FloatKind.f32 0)]) = some ((nears ks).length, fls .f32 (nears ks)) := e
  refine ⟨ks, by simpa using h1, h2, ?_⟩
  rw [f34_s_B10Whole, s_from]
  simp only [bd_s, e, nears_length]

theorem told_loop (n : Nat) (L : Nat) (fb dry wet : Nat) (fl : Bool) (N : Nat) (cs : List T) (hL : 1 ≤ L) (X Y : List Nat) (hXY : Y.length = X.length) (hX : X.length ≤ 256)
    (h1 : ∀ i, i < X.length → i < L → fne .f32 (Y.getD i 0) (X.getD i 0) = false) (h2 : ∀ i, i < X.length → L ≤ i → fne .f32 (Y.getD i 0) (fadd .f32 (X.getD i 0) (X.getD (i - L) 0)) = false) :
    ∀ (j i m : Nat), i + j = X.length → j < m →
    f11_l_FnDelays.l0 n m (L : Int) fb dry wet fl (X.length : Int) N cs X.length (fls .f32 X) Y.length (fls .f32 Y) (i : Int) = some (.inr ((L : Int), fb, dry, wet, fl, N, cs)) := by
  intro j
  induction j with
  | zero =>
    intro i m hi hm
    obtain ⟨m, rfl⟩ : ∃ k, m = k + 1 := ⟨m - 1, by omega⟩
    rw [f11_l_FnDelays.l0, nlt_dec (by omega)]; rfl
  | succ j ih =>
    intro i m hi hm
    obtain ⟨m, rfl⟩ : ∃ k, m = k + 1 := ⟨m - 1, by omega⟩
    have hi' : i < X.length := by omega
    have hiY : i < Y.length := by omega
    have w1 : IntKind.i64.wrap ((i : Int) + 1) = ((i + 1 : Nat) : Int) := by rw [wrap64] <;> omega
    rw [f11_l_FnDelays.l0, lt_dec hi', in_dec hi', Int.toNat_natCast, okAt_fls hi', fAt_fls, in_dec hiY, okAt_fls hiY, fAt_fls, w1]
    by_cases hiL : L ≤ i
    · have w2 : IntKind.i64.wrap ((i : Int) - (L : Int)) = ((i - L : Nat) : Int) := by rw [wrap64] <;> omega
      have hi2 : i - L < X.length := by omega
      rw [decide_eq_true (show (i : Int) ≥ (L : Int) by omega), w2, in_dec hi2, Int.toNat_natCast, okAt_fls hi2, fAt_fls]
      simp only [br_t, gd_t, fAt_fls, h2 i hi' hiL, br_f]
      exact ih (i + 1) m (by omega) (by omega)
    · rw [decide_eq_false (show ¬ (i : Int) ≥ (L : Int) by omega)]
      simp only [br_t, gd_t, br_f, fAt_fls, h1 i hi' (by omega)]
      exact ih (i + 1) m (by omega) (by omega)
theorem quiet_loop (n : Nat) (i1 : Int) (x2 x3 x4 : Nat) (b5 : Bool) (n6 : Nat) (l7 : List T) (i8 : Int) (n9 : Nat) (l10 : List T) : ∀ (zs p : List Nat) (m : Nat), zs.all zeroB = true → p.length + zs.length < 1048576 → zs.length < m →
    f11_l_FnDelays.l1 n m i1 x2 x3 x4 b5 n6 l7 i8 n9 l10 (p ++ zs).length (fls .f32 (p ++ zs)) ((p ++ zs).length : Int) (p.length : Int) = some (.inr (i1, x2, x3, x4, b5, n6, l7, i8, n9, l10)) := by
  intro zs
  induction zs with
  | nil =>
    intro p m _ _ hm
    obtain ⟨m, rfl⟩ : ∃ k, m = k + 1 := ⟨m - 1, by omega⟩
    rw [f11_l_FnDelays.l1, lt_end]; rfl
  | cons z zs ih =>
    intro p m hz hp hm
    obtain ⟨m, rfl⟩ : ∃ k, m = k + 1 := ⟨m - 1, by omega⟩
    simp only [List.all_cons, Bool.and_eq_true] at hz
    rw [f11_l_FnDelays.l1, lt_mid, in_mid, toNat_len, okAt_mid, fAt_mid, fne_zero, hz.1, wrap_len (z := z) (show p.length < 4611686018427387904 by simp at hp; omega)]
    have := ih (p ++ [z]) m hz.2 (by simp at hp ⊢; omega) (by simp at hm; omega)
    simpa [br, gd] using this
theorem loud_loop (n : Nat) (b3 : Bool) : ∀ (zs p : List Nat) (b4 : Bool) (m : Nat), p.length + zs.length < 1048576 → zs.length < m →
    f11_l_FnDelays.l2 n m (p ++ zs).length (fls .f32 (p ++ zs)) b3 b4 ((p ++ zs).length : Int) (p.length : Int) = some (b3, b4 || !zs.all zeroB) := by
  intro zs
  induction zs with
  | nil =>
    intro p b4 m _ hm
    obtain ⟨m, rfl⟩ : ∃ k, m = k + 1 := ⟨m - 1, by omega⟩
    rw [f11_l_FnDelays.l2, lt_end]; simp [br_f]
  | cons z zs ih =>
    intro p b4 m hp hm
    obtain ⟨m, rfl⟩ : ∃ k, m = k + 1 := ⟨m - 1, by omega⟩
    rw [f11_l_FnDelays.l2, lt_mid, in_mid, toNat_len, okAt_mid, fAt_mid, fne_zero, wrap_len (z := z) (show p.length < 4611686018427387904 by simp at hp; omega)]
    have h1 := fun b => ih (p ++ [z]) b m (by simp at hp ⊢; omega) (by simp at hm; omega)
    simp only [List.append_assoc, List.singleton_append] at h1
    cases b4
    · simp only [br_t, br_f, gd_t, h1]
      cases hz : zeroB z <;> simp [hz]
    · simp only [br_t, h1]
      simp
theorem exact_ (cs : List Int) (hc : ∀ b ∈ cs, GoodI .u8 b) (lc : cs.length ≤ maxLen) (ms : List Int) (hm : ∀ b ∈ ms, GoodI .u8 b) (lm : ms.length ≤ maxLen) : ∃ n, f11_l_FnDelays n cs.length (its .u8 cs) ms.length (its .u8 ms) = some true := by
  refine ⟨1000, ?_⟩
  suffices h : ∀ n, f11_l_FnDelays (n + 700) cs.length (its .u8 cs) ms.length (its .u8 ms) = some true from h 300
  intro n
  rw [f11_l_FnDelays, l_long10]
  cases hlong : decide (1048576 < cs.length ∨ 1048576 < ms.length)
  case true => rfl
  obtain ⟨L, fb, dry, wet, fl, hL, hw0, e1⟩ := s_b10delay (n + 692) (bytes_of hc)
  obtain ⟨c, hc1, e2⟩ := l_at10 (n + 698) (bytes_of hm) (i := 0) (k := 20) (by omega) (by omega) (by omega)
  obtain ⟨c, rfl⟩ := Int.eq_ofNat_of_zero_le hc1.1
  obtain ⟨xs, hxl, hxw, e3⟩ := s_b10numbers (n + 692) (bytes_of hm) c (by omega) (by omega)
  obtain ⟨line, hll, hlw, e4⟩ := s_b10numbers (n + 692) (bytes_of hc) L (by omega) (by omega)
  subst hll
  obtain ⟨a, ha1, e5⟩ := l_at10 (n + 698) (bytes_of hm) (i := 1) (k := (c : Int) + 1) (by omega) (by omega) (by omega)
  obtain ⟨a, rfl⟩ := Int.eq_ofNat_of_zero_le ha1.1
  have ha : a ≤ xs.length := by omega
  have hl2 : (xs.take a).length = a := by rw [List.length_take]; omega
  have hl3 : (xs.drop a).length = xs.length - a := List.length_drop
  obtain ⟨ks, hkl, hkb, e6⟩ := s_b10whole (n + 696) (bytes_of hm) c 1000 (by omega) (by omega) (by omega)
  have e6 : f34_s_B10Whole (n + 699) ms.length (its .u8 ms) (c : Int) 1000 = some (ks.length, fls .f32 (nears ks)) := e6
  have wc : IntKind.i64.wrap ((c : Int) + 1) = (c : Int) + 1 := by rw [wrap64] <;> omega
  -- the delay in blocks
  have hd1 := delay_length fb dry wet fl (xs.take a) line (by omega)
  have g1 := i_rundelay (n + 694) fb dry wet fl line xs (by omega) (by omega) (by omega) (by omega)
  have g2 := i_rundelay (n + 694) fb dry wet fl line (xs.take a) (by omega) (by omega) (by omega) (by omega)
  have g3 := i_rundelay (n + 694) fb dry wet fl (scan (delayStep fb dry wet fl) line (xs.take a)).2 (xs.drop a) (by omega) (by omega) (by omega) (by omega)
  rw [hl2] at g2
  rw [hl3, hd1] at g3
  have hs1 := scan_append (delayStep fb dry wet fl) line (xs.take a) (xs.drop a)
  rw [List.take_append_drop] at hs1
  obtain ⟨w1, w2⟩ := delay_inv fb dry wet fl xs line hlw
  have n1 := scan_length (delayStep fb dry wet fl) line xs
  have d1 := delay_length fb dry wet fl xs line (by omega)
  have s1 := l_same10 (n + 694) _ _ w1 w1 (by omega) (by omega)
  have s2 := l_same10 (n + 694) _ _ w2 w2 (by omega) (by omega)
  have n2 := scan_length (delayStep fb dry wet fl) line (xs.take a)
  have n3 := scan_length (delayStep fb dry wet fl) (scan (delayStep fb dry wet fl) line (xs.take a)).2 (xs.drop a)
  -- the pass in blocks
  have hp1 := pass_length wet (xs.take a) line (by omega)
  have p1 := i_runpass (n + 695) wet line xs (by omega) (by omega) (by omega) (by omega)
  have p2 := i_runpass (n + 695) wet line (xs.take a) (by omega) (by omega) (by omega) (by omega)
  have p3 := i_runpass (n + 695) wet (scan (passStep wet) line (xs.take a)).2 (xs.drop a) (by omega) (by omega) (by omega) (by omega)
  rw [hl2] at p2
  rw [hl3, hp1] at p3
  have hs2 := scan_append (passStep wet) line (xs.take a) (xs.drop a)
  rw [List.take_append_drop] at hs2
  obtain ⟨v1, v2⟩ := pass_inv wet xs line hlw
  have m1 := scan_length (passStep wet) line xs
  have f1 := pass_length wet xs line (by omega)
  have t1 := l_same10 (n + 694) _ _ v1 v1 (by omega) (by omega)
  have t2 := l_same10 (n + 694) _ _ v2 v2 (by omega) (by omega)
  have m2 := scan_length (passStep wet) line (xs.take a)
  have m3 := scan_length (passStep wet) (scan (passStep wet) line (xs.take a)).2 (xs.drop a)
  -- without feedback
  have hzl : nears (List.replicate line.length 0) = List.replicate line.length 0 := by simp [nears, nearest_zero]
  have g4 := i_rundelay (n + 694) 0 1065353216 1065353216 false (List.replicate line.length 0) (nears ks) (by simp; omega) (by simp; omega) (by rw [nears_length]; omega) (by omega)
  rw [List.length_replicate, nears_length] at g4
  have n4 := scan_length (delayStep 0 1065353216 1065353216 false) (List.replicate line.length 0) (nears ks)
  rw [nears_length] at n4
  have hks : ∀ i, i < ks.length → -1000 ≤ ks.getD i 0 ∧ ks.getD i 0 ≤ 1000 := fun i hi => by
    have := hkb (ks[i]) (List.getElem_mem _)
    simpa [List.getD, hi] using this
  have hplain := plain_scan ks (List.replicate line.length 0) (by simp; omega) (fun x hx => by have := hkb x hx; omega) (fun x hx => by have := List.eq_of_mem_replicate hx; omega)
  rw [hzl] at hplain
  have told := told_loop (n + 699) line.length fb dry wet fl line.length (fls .f32 line) (by omega) (nears ks) (scan (delayStep 0 1065353216 1065353216 false) (List.replicate line.length 0) (nears ks)).1 (by rw [n4, nears_length]) (by rw [nears_length]; omega)
    (fun i hi hiL => by
      rw [nears_length] at hi
      have hk := hks i hi
      rw [hplain i hi, nears_get]
      have : (List.replicate line.length (0 : Int) ++ ks).getD i 0 = 0 := by
        simp [List.getD, List.getElem?_append, hiL]
      rw [this, Int.add_zero, fne_feq, feq_self (isNaN_nearest _ _)]; rfl)
    (fun i hi hiL => by
      rw [nears_length] at hi
      have hk := hks i hi
      have hk2 := hks (i - line.length) (by omega)
      rw [hplain i hi, nears_get, nears_get]
      have : (List.replicate line.length (0 : Int) ++ ks).getD i 0 = ks.getD (i - line.length) 0 := by
        have : ¬ i < line.length := by omega
        simp [List.getD, List.getElem?_append, this]
      rw [this, int_add (small_bin (by omega)) (small_bin (by omega)) (small_bin (by omega)), fne_feq, feq_self (isNaN_nearest _ _)]; rfl)
    ks.length 0 (n + 699) (by rw [nears_length]; omega) (by omega)
  rw [nears_length, n4] at told
  -- silence
  have q1 := i_silentfrom (n + 598) fb dry wet fl line (by omega) (by omega) (by omega)
  have q2 := s_silentfrom (n + 498) fb dry wet fl line (by omega) (by omega) (by omega)
  have j1 : decide ((0 : Int) ≤ 0 ∧ (0 : Int) ≤ (a : Int) ∧ (a : Int) ≤ (xs.length : Int)) = true := decide_eq_true (by omega)
  have j2 : decide ((0 : Int) ≤ (a : Int) ∧ (a : Int) ≤ (xs.length : Int) ∧ (xs.length : Int) ≤ (xs.length : Int)) = true := decide_eq_true (by omega)
  have j3 : (fls .f32 xs).take a = fls .f32 (xs.take a) := fls_take _ _ _
  have j4 : ((fls .f32 xs).drop a).take (xs.length - a) = fls .f32 (xs.drop a) := by rw [fls_drop, fls_take, List.take_of_length_le (by omega)]
  have j5 : ∀ p q : List Nat, reps 0 [T.flt FloatKind.f32 0] ++ fls .f32 p ++ fls .f32 q = fls .f32 (p ++ q) := by intro p q; rw [← fls_append]; rfl
  have j6 := i_emptyline (n + 696) line.length (by omega)
  have j7 := i_validdelay (n + 696) (line.length : Int) fb dry wet fl
  rw [decide_eq_true (show 1 ≤ (line.length : Int) ∧ (line.length : Int) ≤ 64 by omega)] at j7
  have ha1 : (scan (delayStep fb dry wet fl) line (xs.take a)).1 ++ (scan (delayStep fb dry wet fl) (scan (delayStep fb dry wet fl) line (xs.take a)).2 (xs.drop a)).1 = (scan (delayStep fb dry wet fl) line xs).1 := by rw [hs1]
  have ha2 : (scan (delayStep fb dry wet fl) (scan (delayStep fb dry wet fl) line (xs.take a)).2 (xs.drop a)).2 = (scan (delayStep fb dry wet fl) line xs).2 := by rw [hs1]
  have hb1 : (scan (passStep wet) line (xs.take a)).1 ++ (scan (passStep wet) (scan (passStep wet) line (xs.take a)).2 (xs.drop a)).1 = (scan (passStep wet) line xs).1 := by rw [hs2]
  have hb2 : (scan (passStep wet) (scan (passStep wet) line (xs.take a)).2 (xs.drop a)).2 = (scan (passStep wet) line xs).2 := by rw [hs2]
  have hsum : 0 + a + (xs.length - a) = xs.length := by omega
  have b1 : Nat.ble (0 + a) 2147483648 = true := le_ble (by omega)
  have b2 : Nat.ble xs.length 2147483648 = true := le_ble (by omega)
  rw [hl2] at n2 m2
  rw [hl3] at n3 m3
  rw [n1, d1] at g1
  rw [m1, f1] at p1
  rw [n2, hd1] at g2
  rw [m2, hp1] at p2
  rw [ha2, n3, d1] at g3
  rw [hb2, m3, f1] at p3
  rw [n1] at s1
  rw [d1] at s2
  rw [m1] at t1
  rw [f1] at t2
  rw [n4] at g4
  have s1 : f44_l_b10Same (n + 699) xs.length _ xs.length _ = _ := s1
  have s2 : f44_l_b10Same (n + 699) line.length _ line.length _ = _ := s2
  have t1 : f44_l_b10Same (n + 699) xs.length _ xs.length _ = _ := t1
  have t2 : f44_l_b10Same (n + 699) line.length _ line.length _ = _ := t2
  rw [decide_eq_true rfl] at s1 s2 t1 t2
  have hkc : ((ks.length : Nat) : Int) = (c : Int) := by rw [hkl]
  have hxc : ((xs.length : Nat) : Int) = (c : Int) := by rw [hxl]
  rw [hkc] at told
  have told : f11_l_FnDelays.l0 (n + 699) (n + 699) _ _ _ _ _ _ _ _ _ _ _ _ 0 = _ := told
  simp only [br_f, br_not, bd_s, e1, e2, e3, wc, e4, e5, g1, j1, gd_t, Int.toNat_natCast, List.drop_zero, Nat.sub_zero, j3, g2, j2, j4, g3, br_t, j7, j5, p1, p2, p3, j6, e6, g4, ha1, ha2, hb1, hb2, hsum, b1, b2, s1, s2, t1, t2, hkc, hxc, bne_self_eq_false, told, sm_r, q1, q2, beq_self_eq_true]
  have k1 : decide ((0 : Int) ≤ 0 ∧ (0 : Int) ≤ (a : Int) ∧ (a : Int) ≤ (c : Int)) = true := decide_eq_true (by omega)
  have k2 : decide ((0 : Int) ≤ (a : Int) ∧ (a : Int) ≤ (c : Int) ∧ (c : Int) ≤ (c : Int)) = true := decide_eq_true (by omega)
  simp only [k1, k2, gd_t]
  cases hf : fin32 fb && line.all fin32
  · rfl
  cases hs : silentM (fun w => (delayStep fb dry wet fl w 0).2) 257 0 line with
  | none => rfl
  | some j =>
    obtain ⟨t, ht, ht2, hz, hz2⟩ := silent_spec (delayStep fb dry wet fl) 257 0 line j hs
    obtain rfl : j = t := by omega
    have y1 : decide ((0 : Int) ≤ (j : Int) ∧ (j : Int) ≤ 2147483648) = true := decide_eq_true (by omega)
    have y2 : decide ((j : Int) < 0) = false := decide_eq_false (by omega)
    have y3 : decide ((j : Int) > 256) = false := decide_eq_false (by omega)
    have g5 := i_rundelay (n + 694) fb dry wet fl line (List.replicate j 0) (by omega) (by omega) (by simp; omega) (by omega)
    have d5 := delay_length fb dry wet fl (List.replicate j 0) line (by omega)
    have quiet := quiet_loop (n + 699) (line.length : Int) fb dry wet fl line.length (fls .f32 line) (j : Int) j (fls .f32 (List.replicate j 0)) (scan (delayStep fb dry wet fl) line (List.replicate j 0)).2 [] (n + 699) hz (by simp; omega) (by omega)
    have quiet : f11_l_FnDelays.l1 (n + 699) (n + 699) (line.length : Int) fb dry wet fl line.length (fls .f32 line) (j : Int) j (fls .f32 (List.replicate j 0)) (scan (delayStep fb dry wet fl) line (List.replicate j 0)).2.length (fls .f32 (scan (delayStep fb dry wet fl) line (List.replicate j 0)).2) ((scan (delayStep fb dry wet fl) line (List.replicate j 0)).2.length : Int) 0 = _ := quiet
    rw [List.length_replicate] at g5
    simp only [if_true, br_t, br_f, y1, y2, y3, gd_t, Int.toNat_natCast, reps_fls, g5, bd_s, quiet, sm_r]
    cases j with
    | zero => rfl
    | succ j =>
      have y4 : (((j + 1 : Nat) : Int) == (0 : Int)) = false := by simp; omega
      have y5 : decide ((0 : Int) ≤ 1 ∧ (1 : Int) ≤ ((j + 1 : Nat) : Int) ∧ ((j + 1 : Nat) : Int) ≤ ((j + 1 : Nat) : Int)) = true := decide_eq_true (by omega)
      have y6 : ((fls .f32 (List.replicate (j + 1) 0)).drop 1).take j = fls .f32 (List.replicate j 0) := by
        rw [fls_drop, fls_take]; simp
      have g6 := i_rundelay (n + 694) fb dry wet fl line (List.replicate j 0) (by omega) (by omega) (by simp; omega) (by omega)
      rw [List.length_replicate] at g6
      have d6 := delay_length fb dry wet fl (List.replicate j 0) line (by omega)
      have loud := loud_loop (n + 699) true (scan (delayStep fb dry wet fl) line (List.replicate j 0)).2 [] false (n + 699) (by simp; omega) (by omega)
      have loud : f11_l_FnDelays.l2 (n + 699) (n + 699) (scan (delayStep fb dry wet fl) line (List.replicate j 0)).2.length (fls .f32 (scan (delayStep fb dry wet fl) line (List.replicate j 0)).2) true false ((scan (delayStep fb dry wet fl) line (List.replicate j 0)).2.length : Int) 0 = _ := loud
      rw [hz2 j rfl] at loud
      simp only [y4, br_f, y5, gd_t, y6, show j + 1 - 1 = j from rfl, g6, bd_s, loud]
      rfl
theorem law11 : ∀ args, LawArgs E Try.f11.params.toList args → ∃ N os, evalFn E N 11 args = some ⟨[⟨false, [.leaf], [.bool true]⟩], os⟩ := by
  intro args h0
  have hp : Try.f11.params.toList = [22, 22] := by kernel_rfl
  rw [hp] at h0
  obtain ⟨ts0, r0, rfl, hw0, h1⟩ := h0.cons_inv (d := ⟨false, 1, 24, [.sl .own [.leaf]], [.lst 0 []], .slc 5⟩) (by kernel_rfl)
  obtain ⟨n0, cs0, rfl, gl0, hs0⟩ := hw0.slc_inv (e := 5) (d := ⟨false, 1, 24, [.sl .own [.leaf]], [.lst 0 []], .slc 5⟩) (by kernel_rfl) rfl
  obtain ⟨a0, rfl, rfl, g0⟩ := hs0.ints (k := .u8) (d := ⟨false, 1, 1, [.leaf], [.int .u8 0], .int .u8⟩) (by kernel_rfl) rfl
  obtain ⟨ts1, r1, rfl, hw1, h2⟩ := h1.cons_inv (d := ⟨false, 1, 24, [.sl .own [.leaf]], [.lst 0 []], .slc 5⟩) (by kernel_rfl)
  obtain ⟨n1, cs1, rfl, gl1, hs1⟩ := hw1.slc_inv (e := 5) (d := ⟨false, 1, 24, [.sl .own [.leaf]], [.lst 0 []], .slc 5⟩) (by kernel_rfl) rfl
  obtain ⟨a1, rfl, rfl, g1⟩ := hs1.ints (k := .u8) (d := ⟨false, 1, 1, [.leaf], [.int .u8 0], .int .u8⟩) (by kernel_rfl) rfl
  obtain rfl := h2.nil_inv
  obtain ⟨N, hN⟩ := exact_ a0 g0 gl0 a1 g1 gl1
  exact ⟨N, _, f11_l_FnDelays.ok N (a0.length, its .u8 a0, a1.length, its .u8 a1) true hN⟩


end Go.Proofs.Ytjkhhalnlodinaa.D
end
section
/- FnDelays holds: for every input the law returns true, and its arguments read as before. -/
namespace Go.Proofs.Ytjkhhalnlodinaa.fnDelays
open Go Go.ChangeShapes Go.WideShapes Go.ChangeAt Go.RowKit Go.Desk
set_option linter.unusedVariables false
theorem own : ownKnob Try.prog.godebug = none := by kernel_rfl
theorem laidOut : laidOutB Try.prog = true := by kernel_rfl
set_option maxRecDepth 100000 in
theorem lifted (os : Os) (started : os.Started) (H : Type) (enc : TypeId × Value → H) :
    ReturnsInHanded {} Try.checked os 11 .any (Rows.fnDelaysSpec.pre6 enc Try.prog Try.f11 Rows.fnDelaysRow.domain false) (Rows.fnDelaysSpec.post enc Try.prog Try.f11 false true false false) := by
  refine returnsInHanded_of_change (C := Try.checked) own started (by kernel_rfl) Try.func11
    (ChangeSpec.witness6 (enc := enc) (C := Try.checked) false ⟨#[], #[.slice none 0 0, .slice none 0 0], []⟩ 8 (by kernel_rfl) (by kernel_rfl) (by kernel_rfl) (by kernel_rfl)) ?_
  intro W base args ds gs before hval hW hcnd _
  exact law_contract (c := D.c11) Try.checked.mixed D.tysOk D.fnOk Try.func11 (by kernel_rfl) (by kernel_rfl) (by kernel_rfl) Try.underlying4 rfl
    (fun ds h => by
      rw [show Try.f11.params.toList.length = 2 by kernel_rfl] at h
      match ds, h with
      | [_, _], _ => rfl)
    laidOut (N := 8) (by kernel_rfl) (by kernel_rfl) D.law11 hval hW
theorem over : Rows.fnDelaysRow.holds Try.pinned (OpenSpec.ofChange Rows.fnDelaysSpec) :=
  OpenClaim.holds_of_wide 11 Try.f11 rfl rfl rfl rfl rfl rfl rfl ⟨rfl, rfl, rfl, rfl, rfl⟩ rfl rfl rfl rfl rfl (by kernel_rfl) Try.func11 (by kernel_rfl)
    (of_decide_eq_true (by kernel_rfl)) (by unfold Func.isWrapper; first | (rw [if_pos (by decide +kernel)]; kernel_rfl) | (rw [if_neg (by decide +kernel)]; exact ⟨rfl, rfl⟩))
    (fun os started H enc _ => lifted os started H enc)
theorem proved : Rows.FnDelaysSaid := over
#print axioms proved
end Go.Proofs.Ytjkhhalnlodinaa.fnDelays
namespace Go.Proofs.Ytjkhhalnlodinaa
/-- The row, under a short name, for the claim. -/
theorem fnDelays_holds : Rows.FnDelaysSaid := fnDelays.proved
end Go.Proofs.Ytjkhhalnlodinaa
end
