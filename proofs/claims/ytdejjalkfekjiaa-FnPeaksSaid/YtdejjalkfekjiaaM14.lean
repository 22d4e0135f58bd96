/- FnPeaks holds: for every input the law returns true, and its arguments read as before. -/
import Derived.Test.YtdejjalkfekjiaaChecked
import Derived.Test.YtdejjalkfekjiaaDeskE
import Derived.KernelRfl
import Derived.Test.YtdejjalkfekjiaaRows
import Derived.WalkKit
import Derived.ProofKit
import Derived.OpenShut
import Derived.ShutString
import Derived.ChangeOld
import Derived.Below
import Derived.SizedLaws
set_option linter.all false
section
/- What math.Abs owes: tables of its own, and the reading of its code. -/
namespace Go.Proofs.Ytdejjalkfekjiaa.DA
open Go Go.Desk
def bodyOf (f : Func) : Code := match f.body with
  | some c => c
  | none => .skip
def tyTab : List (Nat × TD) := [
  (39, ⟨false, 1, 8, [.leaf], [.flt .f64 0], .flt .f64⟩),
  (151, ⟨false, 1, 8, [.leaf], [.int .u64 0], .int .u64⟩)]
noncomputable def c139 : Code := bodyOf Try.f139
noncomputable def fnTab : List (Nat × FD) := [
  (139, .code c139 [.val] [] [(2, none)] [(0, [0]), (1, [0])]),
  (141, .ext (pF64frombits)),
  (146, .ext (pF64bits))]
noncomputable def E : Env := ⟨fun t => lookT tyTab t, lookF fnTab⟩
noncomputable def fdAt (n : Nat) : FD := match lookF fnTab n with
  | some d => d
  | none => .ext fun _ => none
noncomputable def keepAt (n : Nat) : List (Nat × List Nat) := match lookF fnTab n with
  | some d => d.keep
  | none => []
theorem tysOk : TysOk Try.prog E := tysOk_of (l := tyTab) (fun _ => rfl) (by kernel_rfl)
theorem ft139 : FnTab Try.prog E 139 (fdAt 139) := fnTab_code (c := c139) (modes := (fdAt 139).ms) (outs := (fdAt 139).os) (results := (fdAt 139).rs) (keep := (fdAt 139).keep) Try.func139 (by kernel_rfl) (by kernel_rfl) (by kernel_rfl)
theorem ft141 : FnTab Try.prog E 141 (.ext (pF64frombits)) := ext_pF64frombits Try.func141 (by kernel_rfl) (by kernel_rfl) (by kernel_rfl) (by kernel_rfl)
theorem ft146 : FnTab Try.prog E 146 (.ext (pF64bits)) := ext_pF64bits Try.func146 (by kernel_rfl) (by kernel_rfl) (by kernel_rfl) (by kernel_rfl)
theorem allFns : AllFns Try.prog E fnTab := .cons ft139 (.cons ft141 (.cons ft146 (.nil)))
theorem fnOk : ∀ f fd, E.fn f = some fd → FnTab Try.prog E f fd := fnTab_of (l := fnTab) (fun _ => rfl) allFns
end Go.Proofs.Ytdejjalkfekjiaa.DA
section
namespace Go.Proofs.Ytdejjalkfekjiaa.DA
open Go Go.Desk
set_option linter.unusedVariables false
noncomputable def x141.w : FnW E := xF64frombits.w 141 (by kernel_rfl)

noncomputable def x146.w : FnW E := xF64bits.w 146 (by kernel_rfl)

def f139_mathAbs : Nat → Nat → Option (Nat)
  | 0, _ => none
  | n + 1, x1 =>
    bd (xF64bits n x1) fun r2 =>
    let i3 : Int := r2
    bd (xF64frombits n (intBits BinOp.andNot IntKind.u64 i3 (9223372036854775808 : Int))) fun r4 =>
    let x5 : Nat := r4
    some x5
def sg_f : Sig (Nat) where
  pk := fun v => [.flt v]
  up := fun ls => match ls with
    | [.flt a0] => some a0
    | _ => none
  ok := by
    intro ls v h
    split at h
    · cases h; rfl
    · cases h

def f139_mathAbs.P : List Arg := [⟨.val, ⟨false, [.leaf], [.flt .f64 0]⟩⟩]
def f139_mathAbs.A : RAlt (Nat) := .one ⟨[⟨false, [.leaf], [.flt .f64 0]⟩], [none]⟩ sg_f
def f139_mathAbs.F (n : Nat) (v : Nat) := f139_mathAbs n v
noncomputable def f139_mathAbs.O (n : Nat) : Orc := orcOf (E := E) [x141.w, x146.w] [] n
theorem f139_mathAbs.ok : ∀ n v x, f139_mathAbs.F n v = some x → evalFn E n 139 (flAs f139_mathAbs.P (sg_f.pk v)) = some (f139_mathAbs.A.enc x) :=
  fn_pure (modes := (fdAt 139).ms) (outs := (fdAt 139).os) (results := (fdAt 139).rs) f139_mathAbs.O (c := c139) (keep := keepAt 139) (by kernel_rfl) (fun n => orcOf_cf _ _ n) (fun n => lpOk_of (bs := []) (by kernel_rfl) .nil) (fun _ => rfl) (fun _ _ => by kernel_rfl)
noncomputable def f139_mathAbs.w : FnW E := fnW 139 f139_mathAbs.P sg_f f139_mathAbs.A f139_mathAbs.F f139_mathAbs.ok
end Go.Proofs.Ytdejjalkfekjiaa.DA
end
namespace Go.Proofs.Ytdejjalkfekjiaa.DA
open Go Go.Desk
theorem absOk : ExtOk Try.prog 139 pAbs := ext_pAbs_of Try.checked.mixed tysOk fnOk
  (fun x hN hx => ⟨3, f139_mathAbs.ok 3 x _ (abs_plain 1 hN)⟩)
  ⟨5, by kernel_rfl⟩
end Go.Proofs.Ytdejjalkfekjiaa.DA
end
section
/- What math.Copysign owes: tables of its own, and the reading of its code. -/
namespace Go.Proofs.Ytdejjalkfekjiaa.DC
open Go Go.Desk
def bodyOf (f : Func) : Code := match f.body with
  | some c => c
  | none => .skip
def tyTab : List (Nat × TD) := [
  (39, ⟨false, 1, 8, [.leaf], [.flt .f64 0], .flt .f64⟩),
  (151, ⟨false, 1, 8, [.leaf], [.int .u64 0], .int .u64⟩)]
noncomputable def c147 : Code := bodyOf Try.f147
noncomputable def fnTab : List (Nat × FD) := [
  (141, .ext (pF64frombits)),
  (146, .ext (pF64bits)),
  (147, .code c147 [.val, .val] [] [(4, none)] [(0, [0, 1]), (1, [0, 1])])]
noncomputable def E : Env := ⟨fun t => lookT tyTab t, lookF fnTab⟩
noncomputable def fdAt (n : Nat) : FD := match lookF fnTab n with
  | some d => d
  | none => .ext fun _ => none
noncomputable def keepAt (n : Nat) : List (Nat × List Nat) := match lookF fnTab n with
  | some d => d.keep
  | none => []
theorem tysOk : TysOk Try.prog E := tysOk_of (l := tyTab) (fun _ => rfl) (by kernel_rfl)
theorem ft141 : FnTab Try.prog E 141 (.ext (pF64frombits)) := ext_pF64frombits Try.func141 (by kernel_rfl) (by kernel_rfl) (by kernel_rfl) (by kernel_rfl)
theorem ft146 : FnTab Try.prog E 146 (.ext (pF64bits)) := ext_pF64bits Try.func146 (by kernel_rfl) (by kernel_rfl) (by kernel_rfl) (by kernel_rfl)
theorem ft147 : FnTab Try.prog E 147 (fdAt 147) := fnTab_code (c := c147) (modes := (fdAt 147).ms) (outs := (fdAt 147).os) (results := (fdAt 147).rs) (keep := (fdAt 147).keep) Try.func147 (by kernel_rfl) (by kernel_rfl) (by kernel_rfl)
theorem allFns : AllFns Try.prog E fnTab := .cons ft141 (.cons ft146 (.cons ft147 (.nil)))
theorem fnOk : ∀ f fd, E.fn f = some fd → FnTab Try.prog E f fd := fnTab_of (l := fnTab) (fun _ => rfl) allFns
end Go.Proofs.Ytdejjalkfekjiaa.DC
section
namespace Go.Proofs.Ytdejjalkfekjiaa.DC
open Go Go.Desk
set_option linter.unusedVariables false
noncomputable def x141.w : FnW E := xF64frombits.w 141 (by kernel_rfl)

noncomputable def x146.w : FnW E := xF64bits.w 146 (by kernel_rfl)

def f147_mathCopysign : Nat → Nat → Nat → Option (Nat)
  | 0, _, _ => none
  | n + 1, x1, x2 =>
    bd (xF64bits n x1) fun r3 =>
    let i4 : Int := r3
    bd (xF64bits n x2) fun r5 =>
    let i6 : Int := r5
    bd (xF64frombits n (intBits BinOp.or IntKind.u64 (intBits BinOp.andNot IntKind.u64 i4 (9223372036854775808 : Int)) (intBits BinOp.and IntKind.u64 i6 (9223372036854775808 : Int)))) fun r7 =>
    let x8 : Nat := r7
    some x8
def sg_ff : Sig (Nat × Nat) where
  pk := fun v => [.flt v.1, .flt v.2]
  up := fun ls => match ls with
    | [.flt a0, .flt a1] => some (a0, a1)
    | _ => none
  ok := by
    intro ls v h
    split at h
    · cases h; rfl
    · cases h

def sg_f : Sig (Nat) where
  pk := fun v => [.flt v]
  up := fun ls => match ls with
    | [.flt a0] => some a0
    | _ => none
  ok := by
    intro ls v h
    split at h
    · cases h; rfl
    · cases h

def f147_mathCopysign.P : List Arg := [⟨.val, ⟨false, [.leaf], [.flt .f64 0]⟩⟩, ⟨.val, ⟨false, [.leaf], [.flt .f64 0]⟩⟩]
def f147_mathCopysign.A : RAlt (Nat) := .one ⟨[⟨false, [.leaf], [.flt .f64 0]⟩], [none, none]⟩ sg_f
def f147_mathCopysign.F (n : Nat) (v : Nat × Nat) := f147_mathCopysign n v.1 v.2
noncomputable def f147_mathCopysign.O (n : Nat) : Orc := orcOf (E := E) [x141.w, x146.w] [] n
theorem f147_mathCopysign.ok : ∀ n v x, f147_mathCopysign.F n v = some x → evalFn E n 147 (flAs f147_mathCopysign.P (sg_ff.pk v)) = some (f147_mathCopysign.A.enc x) :=
  fn_pure (modes := (fdAt 147).ms) (outs := (fdAt 147).os) (results := (fdAt 147).rs) f147_mathCopysign.O (c := c147) (keep := keepAt 147) (by kernel_rfl) (fun n => orcOf_cf _ _ n) (fun n => lpOk_of (bs := []) (by kernel_rfl) .nil) (fun _ => rfl) (fun _ _ => by kernel_rfl)
noncomputable def f147_mathCopysign.w : FnW E := fnW 147 f147_mathCopysign.P sg_ff f147_mathCopysign.A f147_mathCopysign.F f147_mathCopysign.ok
end Go.Proofs.Ytdejjalkfekjiaa.DC
end
namespace Go.Proofs.Ytdejjalkfekjiaa.DC
open Go Go.Desk
theorem signOk : ExtOk Try.prog 147 pCopysign := ext_pCopysign_of Try.checked.mixed tysOk fnOk
  (fun x s hx hs hx' hs' => ⟨3, f147_mathCopysign.ok 3 (x, s) _ (copysign_plain 1 hx hs hx' hs')⟩)
end Go.Proofs.Ytdejjalkfekjiaa.DC
end
section
/- The tables of the reading: types and functions of the translation, with what is kept at each region's beginning (written by a program of this workplace). -/
namespace Go.Proofs.Ytdejjalkfekjiaa.D
open Go Go.Desk
def bodyOf (f : Func) : Code := match f.body with
  | some c => c
  | none => .skip
def tyTab : List (Nat × TD) := [
  (2, ⟨false, 1, 8, [.leaf], [.int .i64 0], .int .i64⟩),
  (3, ⟨false, 1, 8, [.leaf], [.int .i64 0], .int .i64⟩),
  (4, ⟨false, 1, 1, [.leaf], [.bool false], .bool⟩),
  (5, ⟨false, 1, 1, [.leaf], [.int .u8 0], .int .u8⟩),
  (22, ⟨false, 1, 24, [.sl .own [.leaf]], [.lst 0 []], .slc 5⟩),
  (27, ⟨false, 1, 24, [.sl .own [.leaf]], [.lst 0 []], .slc 33⟩),
  (33, ⟨false, 1, 4, [.leaf], [.flt .f32 0], .flt .f32⟩),
  (39, ⟨false, 1, 8, [.leaf], [.flt .f64 0], .flt .f64⟩),
  (58, ⟨false, 1, 24, [.sl .own [.leaf]], [.lst 0 []], .slc 2⟩),
  (63, ⟨false, 1, 8, [.leaf], [.int .u64 0], .int .u64⟩),
  (104, ⟨false, 1, 24, [.sl .own [.sl .own [.leaf]]], [.lst 0 []], .slc 58⟩),
  (107, ⟨false, 1, 24, [.sl .own [.leaf]], [.lst 0 []], .slc 4⟩),
  (108, ⟨false, 1, 8, [.leaf], [.nil], .ptr 153⟩),
  (151, ⟨false, 1, 8, [.leaf], [.int .u64 0], .int .u64⟩),
  (153, ⟨true, 3, 40, [.sl .own [.leaf], .leaf, .leaf], [.lst 0 [], .int .i64 0, .int .u64 0], .st [(0, 22), (1, 3), (2, 151)]⟩)]
noncomputable def c14 : Code := bodyOf Try.f14
noncomputable def c27 : Code := bodyOf Try.f27
noncomputable def c28 : Code := bodyOf Try.f28
noncomputable def c44 : Code := bodyOf Try.f44
noncomputable def c56 : Code := bodyOf Try.f56
noncomputable def c72 : Code := bodyOf Try.f72
noncomputable def c73 : Code := bodyOf Try.f73
noncomputable def c74 : Code := bodyOf Try.f74
noncomputable def c75 : Code := bodyOf Try.f75
noncomputable def c76 : Code := bodyOf Try.f76
noncomputable def c77 : Code := bodyOf Try.f77
noncomputable def c82 : Code := bodyOf Try.f82
noncomputable def c83 : Code := bodyOf Try.f83
noncomputable def c94 : Code := bodyOf Try.f94
noncomputable def c96 : Code := bodyOf Try.f96
noncomputable def c126 : Code := bodyOf Try.f126
noncomputable def c127 : Code := bodyOf Try.f127
noncomputable def c128 : Code := bodyOf Try.f128
noncomputable def c129 : Code := bodyOf Try.f129
noncomputable def c137 : Code := bodyOf Try.f137
noncomputable def c138 : Code := bodyOf Try.f138
noncomputable def c145 : Code := bodyOf Try.f145
noncomputable def c148 : Code := bodyOf Try.f148
noncomputable def c149 : Code := bodyOf Try.f149
noncomputable def c150 : Code := bodyOf Try.f150
noncomputable def c151 : Code := bodyOf Try.f151
noncomputable def c153 : Code := bodyOf Try.f153
noncomputable def fnTab : List (Nat × FD) := [
  (14, .code c14 [.val, .val] [] [(4, none)] [(0, [0, 1]), (1, [0, 1]), (2, []), (3, [0, 1]), (4, [0, 5]), (5, [0, 5, 6, 7]), (6, [0, 5, 6, 7, 8, 9]), (7, [0, 5, 6, 7, 8, 9, 10]), (8, [0, 5, 6, 7, 8, 9, 10, 11, 12]), (9, [5, 6, 7, 8, 9, 10, 11, 12, 13]), (10, [5, 6, 7, 8, 9, 10, 11, 12, 13, 14, 15]), (11, []), (12, [5, 6, 10, 11, 13, 14]), (13, [5, 6, 10, 11, 13, 14, 16]), (14, [5, 6, 10, 11, 13, 14, 16, 17]), (15, [5, 6, 10, 11, 13, 14, 16, 17, 18]), (16, [5, 6, 10, 11, 13, 14, 16, 17, 18, 19]), (17, [5, 6, 10, 11, 13, 14, 16, 17, 18, 19]), (18, [5, 6, 10, 11, 13, 14, 16, 17, 18, 19]), (19, []), (20, [5, 6, 10, 11, 13, 14, 16, 17, 19]), (21, [5, 6, 10, 11, 13, 14, 16, 17, 19, 20]), (22, [5, 6, 10, 11, 13, 14, 16, 17, 19, 20]), (23, [5, 6, 10, 11, 13, 14, 16, 17, 19, 20]), (24, [5, 6, 10, 11, 13, 14, 16, 17, 19]), (25, [5, 6, 10, 11, 13, 16, 17]), (26, [5, 6, 10, 11, 13, 16, 17, 21]), (27, [5, 6, 10, 11, 13, 16, 17, 21, 22]), (28, [5, 6, 10, 11, 13, 16, 17, 21, 22]), (29, [5, 6, 10, 11, 13, 16, 17, 21, 22]), (30, [5, 6, 10, 11, 13, 16, 17, 21, 22, 23]), (31, []), (32, [5, 6, 10, 11, 13, 16, 17, 22, 23]), (33, [5, 6, 10, 11, 13, 16, 17, 22]), (34, [16]), (1000016, [4, 5, 6, 10, 11, 13, 16, 17]), (1000021, [5, 6, 10, 11, 13, 14, 16, 17, 19]), (1000027, [4, 16])]),
  (27, .code c27 [.val, .val] [] [(4, none)] [(0, [0, 1]), (1, [0, 1])]),
  (28, .code c28 [.val, .val, .val] [] [(6, none)] [(0, [0, 1, 2]), (1, [0, 1, 2]), (2, []), (3, [0, 1, 2])]),
  (44, .code c44 [.val, .val] [] [(4, none)] [(0, [0, 1]), (1, [0, 1]), (2, [1, 5]), (3, [1, 5, 6]), (4, [1, 5, 6, 7]), (5, [1, 5, 6, 7]), (6, [1, 5, 6, 7]), (7, [6]), (1000004, [6])]),
  (56, .code c56 [.val] [] [(2, none), (3, none)] [(0, [0]), (1, [0]), (2, []), (3, [0])]),
  (72, .code c72 [.val] [] [(2, none), (3, none)] [(0, [0]), (1, [0]), (2, []), (3, [0]), (4, [0, 4]), (5, [0, 4, 5]), (6, [0, 4, 5]), (7, [0, 4, 5]), (8, [4]), (1000005, [4])]),
  (73, .code c73 [.val, .val, .val] [] [(6, none), (7, none)] [(0, [0, 1, 2]), (1, [0, 1, 2]), (2, []), (3, [0, 1, 2]), (4, [0, 1, 2, 8]), (5, [0, 1, 2, 8, 15, 16, 17]), (6, [0, 1, 2, 8, 15, 16, 17]), (7, [0, 1, 2, 8, 10, 15, 16, 17]), (8, [0, 1, 2, 8, 10, 15, 16, 17]), (9, [0, 1, 2, 8, 11, 15, 16, 17]), (10, [0, 2, 8, 11, 15, 16, 17]), (11, [0, 1, 2, 8, 11, 15, 16, 17]), (12, [0, 2, 8, 15, 16, 17]), (13, [0, 1, 2, 8, 15, 16, 17]), (14, [0, 1, 2, 8, 15, 16, 17]), (15, [8]), (1000005, [8])]),
  (74, .code c74 [.val, .val, .val] [] [(6, none), (7, none)] [(0, [0, 1, 2]), (1, [0, 1, 2]), (2, []), (3, [0, 1, 2]), (4, [0, 1, 2, 8]), (5, [0, 1, 2, 8, 9]), (6, [0, 1, 2, 8, 9]), (7, [0, 1, 2, 8, 9]), (8, [0, 1, 2, 8, 9, 10]), (9, [0, 1, 2, 8, 9, 10]), (10, [0, 1, 2, 8, 9, 10]), (11, [0, 1, 2, 8, 9, 10, 11]), (12, [0, 1, 2, 8, 9, 10, 11]), (13, [0, 1, 2, 8, 9, 10]), (14, [8]), (1000005, [8]), (1000008, [0, 1, 2, 8, 9, 10])]),
  (75, .code c75 [.val] [] [(2, none)] [(0, [0]), (1, [0])]),
  (76, .code c76 [.iop, .val] [0] [(4, none)] [(0, [0, 1]), (1, [0, 1]), (2, [0]), (3, [0, 1]), (4, [0, 1, 5]), (5, [0, 1, 5]), (6, [0, 1, 5])]),
  (77, .code c77 [.iop] [0] [(2, none)] [(0, [0]), (1, [0]), (2, [0, 3]), (3, [0, 3]), (4, [0, 3])]),
  (82, .code c82 [.val] [] [(2, none)] [(0, [0]), (1, [0])]),
  (83, .code c83 [.val, .val, .val] [] [(6, none)] [(0, [0, 1, 2]), (1, [0, 1, 2])]),
  (94, .code c94 [.val] [] [(2, none)] [(0, [0]), (1, [0])]),
  (96, .code c96 [.val] [] [(2, none)] [(0, [0]), (1, [0]), (2, [0, 3]), (3, [0, 3, 7, 8, 9]), (4, [0, 3, 7, 8, 9]), (5, [0, 3, 5, 7, 8, 9]), (6, [0, 3, 6, 7, 8, 9]), (7, [0, 6, 7, 8, 9]), (8, [0, 3, 7, 8, 9]), (9, [3]), (1000003, [3])]),
  (126, .code c126 [.val, .val, .val] [] [(6, none)] [(0, [0, 1, 2]), (1, [0, 2, 4]), (2, [0, 2, 4, 7]), (3, [0, 2, 4, 7]), (4, [0, 2, 4, 7]), (5, [0, 4, 7, 8]), (6, [0, 4, 7, 8, 9]), (7, [0, 4, 7, 8, 9, 10, 11]), (8, [0, 4, 7, 8, 9, 10, 11, 30]), (9, [8, 10, 11]), (10, [11]), (11, [10]), (12, [0, 4, 7, 8, 9, 10, 11, 30]), (13, [8, 10, 11]), (14, [4, 7, 8, 9, 10, 11]), (15, [8, 10, 11, 12, 13]), (16, [8, 10, 11, 12, 13, 14]), (17, [8, 10, 11, 12, 13, 14, 15]), (18, [8, 10, 14, 15, 16])]),
  (127, .code c127 [.val] [] [(2, none)] [(0, [0]), (1, [0])]),
  (128, .code c128 [.iop] [0] [(2, none)] [(0, [0]), (1, [0]), (2, [0, 3]), (3, [0]), (4, [0, 3]), (5, [0, 3]), (6, [0, 3]), (7, [0, 3]), (8, [0])]),
  (129, .code c129 [.iop, .val] [0] [(4, none)] [(0, [0, 1]), (1, [0, 1])]),
  (137, .code c137 [.val] [] [(2, none)] [(0, [0]), (1, [0]), (2, [0])]),
  (138, .code c138 [.val, .val, .val] [] [(4, none)] [(0, [0, 1, 2]), (1, [0, 1, 2])]),
  (139, .ext (pAbs)),
  (141, .ext (pF64frombits)),
  (144, .ext (pIntegral .down)),
  (145, .code c145 [.val] [] [(2, none)] [(0, [0]), (1, [0]), (2, [0]), (3, [0]), (4, [0]), (5, [3, 4]), (6, [3]), (7, [3]), (8, [0]), (9, [5])]),
  (146, .ext (pF64bits)),
  (147, .ext (pCopysign)),
  (148, .code c148 [.val] [] [(2, none)] [(0, [0]), (1, [0])]),
  (149, .code c149 [.val, .val] [] [(4, none)] [(0, [0, 1]), (1, [0, 1]), (2, [0]), (3, [0, 1]), (4, [0]), (5, [0])]),
  (150, .code c150 [.val] [] [(2, none), (3, none)] [(0, [0]), (1, [0]), (2, [0, 2])]),
  (151, .code c151 [.val] [] [(2, none)] [(0, [0]), (1, [0]), (2, [0])]),
  (152, .ext (pIntegral .zero)),
  (153, .code c153 [.val] [] [(2, none)] [(0, [0]), (1, [0]), (2, [0]), (3, [0]), (4, [3]), (5, [3, 4]), (6, [3, 4]), (7, [3])])]
noncomputable def E : Env := ⟨fun t => lookT tyTab t, lookF fnTab⟩
noncomputable def fdAt (n : Nat) : FD := match lookF fnTab n with
  | some d => d
  | none => .ext fun _ => none
noncomputable def keepAt (n : Nat) : List (Nat × List Nat) := match lookF fnTab n with
  | some d => d.keep
  | none => []
theorem tysOk : TysOk Try.prog E := tysOk_of (l := tyTab) (fun _ => rfl) (by kernel_rfl)
theorem ft14 : FnTab Try.prog E 14 (fdAt 14) := fnTab_code (c := c14) (modes := (fdAt 14).ms) (outs := (fdAt 14).os) (results := (fdAt 14).rs) (keep := (fdAt 14).keep) Try.func14 (by kernel_rfl) (by kernel_rfl) (by kernel_rfl)
theorem ft27 : FnTab Try.prog E 27 (fdAt 27) := fnTab_code (c := c27) (modes := (fdAt 27).ms) (outs := (fdAt 27).os) (results := (fdAt 27).rs) (keep := (fdAt 27).keep) Try.func27 (by kernel_rfl) (by kernel_rfl) (by kernel_rfl)
theorem ft28 : FnTab Try.prog E 28 (fdAt 28) := fnTab_code (c := c28) (modes := (fdAt 28).ms) (outs := (fdAt 28).os) (results := (fdAt 28).rs) (keep := (fdAt 28).keep) Try.func28 (by kernel_rfl) (by kernel_rfl) (by kernel_rfl)
theorem ft44 : FnTab Try.prog E 44 (fdAt 44) := fnTab_code (c := c44) (modes := (fdAt 44).ms) (outs := (fdAt 44).os) (results := (fdAt 44).rs) (keep := (fdAt 44).keep) Try.func44 (by kernel_rfl) (by kernel_rfl) (by kernel_rfl)
theorem ft56 : FnTab Try.prog E 56 (fdAt 56) := fnTab_code (c := c56) (modes := (fdAt 56).ms) (outs := (fdAt 56).os) (results := (fdAt 56).rs) (keep := (fdAt 56).keep) Try.func56 (by kernel_rfl) (by kernel_rfl) (by kernel_rfl)
theorem ft72 : FnTab Try.prog E 72 (fdAt 72) := fnTab_code (c := c72) (modes := (fdAt 72).ms) (outs := (fdAt 72).os) (results := (fdAt 72).rs) (keep := (fdAt 72).keep) Try.func72 (by kernel_rfl) (by kernel_rfl) (by kernel_rfl)
theorem ft73 : FnTab Try.prog E 73 (fdAt 73) := fnTab_code (c := c73) (modes := (fdAt 73).ms) (outs := (fdAt 73).os) (results := (fdAt 73).rs) (keep := (fdAt 73).keep) Try.func73 (by kernel_rfl) (by kernel_rfl) (by kernel_rfl)
theorem ft74 : FnTab Try.prog E 74 (fdAt 74) := fnTab_code (c := c74) (modes := (fdAt 74).ms) (outs := (fdAt 74).os) (results := (fdAt 74).rs) (keep := (fdAt 74).keep) Try.func74 (by kernel_rfl) (by kernel_rfl) (by kernel_rfl)
theorem ft75 : FnTab Try.prog E 75 (fdAt 75) := fnTab_code (c := c75) (modes := (fdAt 75).ms) (outs := (fdAt 75).os) (results := (fdAt 75).rs) (keep := (fdAt 75).keep) Try.func75 (by kernel_rfl) (by kernel_rfl) (by kernel_rfl)
theorem ft76 : FnTab Try.prog E 76 (fdAt 76) := fnTab_code (c := c76) (modes := (fdAt 76).ms) (outs := (fdAt 76).os) (results := (fdAt 76).rs) (keep := (fdAt 76).keep) Try.func76 (by kernel_rfl) (by kernel_rfl) (by kernel_rfl)
theorem ft77 : FnTab Try.prog E 77 (fdAt 77) := fnTab_code (c := c77) (modes := (fdAt 77).ms) (outs := (fdAt 77).os) (results := (fdAt 77).rs) (keep := (fdAt 77).keep) Try.func77 (by kernel_rfl) (by kernel_rfl) (by kernel_rfl)
theorem ft82 : FnTab Try.prog E 82 (fdAt 82) := fnTab_code (c := c82) (modes := (fdAt 82).ms) (outs := (fdAt 82).os) (results := (fdAt 82).rs) (keep := (fdAt 82).keep) Try.func82 (by kernel_rfl) (by kernel_rfl) (by kernel_rfl)
theorem ft83 : FnTab Try.prog E 83 (fdAt 83) := fnTab_code (c := c83) (modes := (fdAt 83).ms) (outs := (fdAt 83).os) (results := (fdAt 83).rs) (keep := (fdAt 83).keep) Try.func83 (by kernel_rfl) (by kernel_rfl) (by kernel_rfl)
theorem ft94 : FnTab Try.prog E 94 (fdAt 94) := fnTab_code (c := c94) (modes := (fdAt 94).ms) (outs := (fdAt 94).os) (results := (fdAt 94).rs) (keep := (fdAt 94).keep) Try.func94 (by kernel_rfl) (by kernel_rfl) (by kernel_rfl)
theorem ft96 : FnTab Try.prog E 96 (fdAt 96) := fnTab_code (c := c96) (modes := (fdAt 96).ms) (outs := (fdAt 96).os) (results := (fdAt 96).rs) (keep := (fdAt 96).keep) Try.func96 (by kernel_rfl) (by kernel_rfl) (by kernel_rfl)
theorem ft126 : FnTab Try.prog E 126 (fdAt 126) := fnTab_code (c := c126) (modes := (fdAt 126).ms) (outs := (fdAt 126).os) (results := (fdAt 126).rs) (keep := (fdAt 126).keep) Try.func126 (by kernel_rfl) (by kernel_rfl) (by kernel_rfl)
theorem ft127 : FnTab Try.prog E 127 (fdAt 127) := fnTab_code (c := c127) (modes := (fdAt 127).ms) (outs := (fdAt 127).os) (results := (fdAt 127).rs) (keep := (fdAt 127).keep) Try.func127 (by kernel_rfl) (by kernel_rfl) (by kernel_rfl)
theorem ft128 : FnTab Try.prog E 128 (fdAt 128) := fnTab_code (c := c128) (modes := (fdAt 128).ms) (outs := (fdAt 128).os) (results := (fdAt 128).rs) (keep := (fdAt 128).keep) Try.func128 (by kernel_rfl) (by kernel_rfl) (by kernel_rfl)
theorem ft129 : FnTab Try.prog E 129 (fdAt 129) := fnTab_code (c := c129) (modes := (fdAt 129).ms) (outs := (fdAt 129).os) (results := (fdAt 129).rs) (keep := (fdAt 129).keep) Try.func129 (by kernel_rfl) (by kernel_rfl) (by kernel_rfl)
theorem ft137 : FnTab Try.prog E 137 (fdAt 137) := fnTab_code (c := c137) (modes := (fdAt 137).ms) (outs := (fdAt 137).os) (results := (fdAt 137).rs) (keep := (fdAt 137).keep) Try.func137 (by kernel_rfl) (by kernel_rfl) (by kernel_rfl)
theorem ft138 : FnTab Try.prog E 138 (fdAt 138) := fnTab_code (c := c138) (modes := (fdAt 138).ms) (outs := (fdAt 138).os) (results := (fdAt 138).rs) (keep := (fdAt 138).keep) Try.func138 (by kernel_rfl) (by kernel_rfl) (by kernel_rfl)
theorem ft139 : FnTab Try.prog E 139 (.ext (pAbs)) := DA.absOk
theorem ft141 : FnTab Try.prog E 141 (.ext (pF64frombits)) := ext_pF64frombits Try.func141 (by kernel_rfl) (by kernel_rfl) (by kernel_rfl) (by kernel_rfl)
theorem ft144 : FnTab Try.prog E 144 (.ext (pIntegral .down)) := ext_pIntegral_down Try.func144 (by kernel_rfl) (by kernel_rfl) (by kernel_rfl) (by kernel_rfl)
theorem ft145 : FnTab Try.prog E 145 (fdAt 145) := fnTab_code (c := c145) (modes := (fdAt 145).ms) (outs := (fdAt 145).os) (results := (fdAt 145).rs) (keep := (fdAt 145).keep) Try.func145 (by kernel_rfl) (by kernel_rfl) (by kernel_rfl)
theorem ft146 : FnTab Try.prog E 146 (.ext (pF64bits)) := ext_pF64bits Try.func146 (by kernel_rfl) (by kernel_rfl) (by kernel_rfl) (by kernel_rfl)
theorem ft147 : FnTab Try.prog E 147 (.ext (pCopysign)) := DC.signOk
theorem ft148 : FnTab Try.prog E 148 (fdAt 148) := fnTab_code (c := c148) (modes := (fdAt 148).ms) (outs := (fdAt 148).os) (results := (fdAt 148).rs) (keep := (fdAt 148).keep) Try.func148 (by kernel_rfl) (by kernel_rfl) (by kernel_rfl)
theorem ft149 : FnTab Try.prog E 149 (fdAt 149) := fnTab_code (c := c149) (modes := (fdAt 149).ms) (outs := (fdAt 149).os) (results := (fdAt 149).rs) (keep := (fdAt 149).keep) Try.func149 (by kernel_rfl) (by kernel_rfl) (by kernel_rfl)
theorem ft150 : FnTab Try.prog E 150 (fdAt 150) := fnTab_code (c := c150) (modes := (fdAt 150).ms) (outs := (fdAt 150).os) (results := (fdAt 150).rs) (keep := (fdAt 150).keep) Try.func150 (by kernel_rfl) (by kernel_rfl) (by kernel_rfl)
theorem ft151 : FnTab Try.prog E 151 (fdAt 151) := fnTab_code (c := c151) (modes := (fdAt 151).ms) (outs := (fdAt 151).os) (results := (fdAt 151).rs) (keep := (fdAt 151).keep) Try.func151 (by kernel_rfl) (by kernel_rfl) (by kernel_rfl)
theorem ft152 : FnTab Try.prog E 152 (.ext (pIntegral .zero)) := ext_pIntegral_zero Try.func152 (by kernel_rfl) (by kernel_rfl) (by kernel_rfl) (by kernel_rfl)
theorem ft153 : FnTab Try.prog E 153 (fdAt 153) := fnTab_code (c := c153) (modes := (fdAt 153).ms) (outs := (fdAt 153).os) (results := (fdAt 153).rs) (keep := (fdAt 153).keep) Try.func153 (by kernel_rfl) (by kernel_rfl) (by kernel_rfl)
theorem allFns : AllFns Try.prog E fnTab := .cons ft14 (.cons ft27 (.cons ft28 (.cons ft44 (.cons ft56 (.cons ft72 (.cons ft73 (.cons ft74 (.cons ft75 (.cons ft76 (.cons ft77 (.cons ft82 (.cons ft83 (.cons ft94 (.cons ft96 (.cons ft126 (.cons ft127 (.cons ft128 (.cons ft129 (.cons ft137 (.cons ft138 (.cons ft139 (.cons ft141 (.cons ft144 (.cons ft145 (.cons ft146 (.cons ft147 (.cons ft148 (.cons ft149 (.cons ft150 (.cons ft151 (.cons ft152 (.cons ft153 (.nil)))))))))))))))))))))))))))))))))
theorem fnOk : ∀ f fd, E.fn f = some fd → FnTab Try.prog E f fd := fnTab_of (l := fnTab) (fun _ => rfl) allFns
end Go.Proofs.Ytdejjalkfekjiaa.D
end
section
/- Plain functions for the law's Go functions, each tied to the reading by the kernel (printed by a program of this workplace). -/
namespace Go.Proofs.Ytdejjalkfekjiaa.D
open Go Go.Desk
set_option linter.unusedVariables false
noncomputable def x139.w : FnW E := xAbs.w 139 (by kernel_rfl)

noncomputable def x144.w : FnW E := xIntegral_down.w 144 (by kernel_rfl)

noncomputable def x147.w : FnW E := xCopysign.w 147 (by kernel_rfl)

noncomputable def x152.w : FnW E := xIntegral_zero.w 152 (by kernel_rfl)

noncomputable def x141.w : FnW E := xF64frombits.w 141 (by kernel_rfl)

noncomputable def x146.w : FnW E := xF64bits.w 146 (by kernel_rfl)

def f27_l_r8Long : Nat → Nat → List T → Nat → List T → Option (Bool)
  | 0, _, _, _, _ => none
  | n + 1, n1, l2, n3, l4 =>
    br (decide (((n1 : Nat) : Int) > (48 : Int))) (
     some true) (
     some (decide (((n3 : Nat) : Int) > (48 : Int))))
def sg_ll : Sig (Nat × List T × Nat × List T) where
  pk := fun v => [.lst v.1 v.2.1, .lst v.2.2.1 v.2.2.2]
  up := fun ls => match ls with
    | [.lst a0 a1, .lst a2 a3] => some (a0, a1, a2, a3)
    | _ => none
  ok := by
    intro ls v h
    split at h
    · cases h; rfl
    · cases h

def sg_b : Sig (Bool) where
  pk := fun v => [.bool v]
  up := fun ls => match ls with
    | [.bool a0] => some a0
    | _ => none
  ok := by
    intro ls v h
    split at h
    · cases h; rfl
    · cases h

def f27_l_r8Long.P : List Arg := [⟨.val, ⟨false, [.sl .shr [.leaf]], [.lst 0 []]⟩⟩, ⟨.val, ⟨false, [.sl .shr [.leaf]], [.lst 0 []]⟩⟩]
def f27_l_r8Long.A : RAlt (Bool) := .one ⟨[⟨false, [.leaf], [.bool false]⟩], [none, none]⟩ sg_b
def f27_l_r8Long.F (n : Nat) (v : Nat × List T × Nat × List T) := f27_l_r8Long n v.1 v.2.1 v.2.2.1 v.2.2.2
noncomputable def f27_l_r8Long.O (n : Nat) : Orc := orcOf (E := E) [] [] n
theorem f27_l_r8Long.ok : ∀ n v x, f27_l_r8Long.F n v = some x → evalFn E n 27 (flAs f27_l_r8Long.P (sg_ll.pk v)) = some (f27_l_r8Long.A.enc x) :=
  fn_pure (modes := (fdAt 27).ms) (outs := (fdAt 27).os) (results := (fdAt 27).rs) f27_l_r8Long.O (c := c27) (keep := keepAt 27) (by kernel_rfl) (fun n => orcOf_cf _ _ n) (fun n => lpOk_of (bs := []) (by kernel_rfl) .nil) (fun _ => rfl) (fun _ _ => by kernel_rfl)
noncomputable def f27_l_r8Long.w : FnW E := fnW 27 f27_l_r8Long.P sg_ll f27_l_r8Long.A f27_l_r8Long.F f27_l_r8Long.ok

def f28_l_r8At : Nat → Nat → List T → Int → Int → Option (Int)
  | 0, _, _, _, _ => none
  | n + 1, n1, l2, i3, i4 =>
    br (decide (i4 ≤ (1 : Int))) (
     some (0 : Int)) (
     br (decide (i3 ≥ ((n1 : Nat) : Int))) (
      some (0 : Int)) (
      gd ((decide (((0 : Int) ≤ i3) ∧ (i3 < ((n1 : Nat) : Int)))) && (okAt [(CK.int IntKind.u8)] l2 (Int.toNat i3))) (
      gd (!(decide (i4 = (0 : Int)))) (
      some (Int.tmod (IntKind.i64.wrap (iAt l2 (Int.toNat i3))) i4)))))
def sg_lii : Sig (Nat × List T × Int × Int) where
  pk := fun v => [.lst v.1 v.2.1, .int v.2.2.1, .int v.2.2.2]
  up := fun ls => match ls with
    | [.lst a0 a1, .int a2, .int a3] => some (a0, a1, a2, a3)
    | _ => none
  ok := by
    intro ls v h
    split at h
    · cases h; rfl
    · cases h

def sg_i : Sig (Int) where
  pk := fun v => [.int v]
  up := fun ls => match ls with
    | [.int a0] => some a0
    | _ => none
  ok := by
    intro ls v h
    split at h
    · cases h; rfl
    · cases h

def f28_l_r8At.P : List Arg := [⟨.val, ⟨false, [.sl .shr [.leaf]], [.lst 0 []]⟩⟩, ⟨.val, ⟨false, [.leaf], [.int .i64 0]⟩⟩, ⟨.val, ⟨false, [.leaf], [.int .i64 0]⟩⟩]
def f28_l_r8At.A : RAlt (Int) := .one ⟨[⟨false, [.leaf], [.int .i64 0]⟩], [none, none, none]⟩ sg_i
def f28_l_r8At.F (n : Nat) (v : Nat × List T × Int × Int) := f28_l_r8At n v.1 v.2.1 v.2.2.1 v.2.2.2
noncomputable def f28_l_r8At.O (n : Nat) : Orc := orcOf (E := E) [] [] n
theorem f28_l_r8At.ok : ∀ n v x, f28_l_r8At.F n v = some x → evalFn E n 28 (flAs f28_l_r8At.P (sg_lii.pk v)) = some (f28_l_r8At.A.enc x) :=
  fn_pure (modes := (fdAt 28).ms) (outs := (fdAt 28).os) (results := (fdAt 28).rs) f28_l_r8At.O (c := c28) (keep := keepAt 28) (by kernel_rfl) (fun n => orcOf_cf _ _ n) (fun n => lpOk_of (bs := []) (by kernel_rfl) .nil) (fun _ => rfl) (fun _ _ => by kernel_rfl)
noncomputable def f28_l_r8At.w : FnW E := fnW 28 f28_l_r8At.P sg_lii f28_l_r8At.A f28_l_r8At.F f28_l_r8At.ok

def f75_s_l00From : Nat → Nat → List T → Option (Nat × List T × Int × Int)
  | 0, _, _ => none
  | n + 1, n1, l2 =>
    some (n1, l2, (0 : Int), (0 : Int))
def sg_l : Sig (Nat × List T) where
  pk := fun v => [.lst v.1 v.2]
  up := fun ls => match ls with
    | [.lst a0 a1] => some (a0, a1)
    | _ => none
  ok := by
    intro ls v h
    split at h
    · cases h; rfl
    · cases h

def f75_s_l00From.P : List Arg := [⟨.val, ⟨false, [.sl .shr [.leaf]], [.lst 0 []]⟩⟩]
def f75_s_l00From.A : RAlt (Nat × List T × Int × Int) := .one ⟨[⟨false, [.rf .own [.sl .shr [.leaf], .leaf, .leaf]], [.ref [.lst 0 [], .int .i64 0, .int .u64 0]]⟩], [none]⟩ sg_lii
def f75_s_l00From.F (n : Nat) (v : Nat × List T) := f75_s_l00From n v.1 v.2
noncomputable def f75_s_l00From.O (n : Nat) : Orc := orcOf (E := E) [] [] n
theorem f75_s_l00From.ok : ∀ n v x, f75_s_l00From.F n v = some x → evalFn E n 75 (flAs f75_s_l00From.P (sg_l.pk v)) = some (f75_s_l00From.A.enc x) :=
  fn_pure (modes := (fdAt 75).ms) (outs := (fdAt 75).os) (results := (fdAt 75).rs) f75_s_l00From.O (c := c75) (keep := keepAt 75) (by kernel_rfl) (fun n => orcOf_cf _ _ n) (fun n => lpOk_of (bs := []) (by kernel_rfl) .nil) (fun _ => rfl) (fun _ _ => by kernel_rfl)
noncomputable def f75_s_l00From.w : FnW E := fnW 75 f75_s_l00From.P sg_l f75_s_l00From.A f75_s_l00From.F f75_s_l00From.ok

def f128_s_l00Srcnext : Nat → Nat → List T → Int → Int → Option (Int × Nat × List T × Int × Int)
  | 0, _, _, _, _ => none
  | n + 1, n1, l2, i3, i4 =>
    br (decide (i3 < ((n1 : Nat) : Int))) (
     gd ((decide (((0 : Int) ≤ i3) ∧ (i3 < ((n1 : Nat) : Int)))) && (okAt [(CK.int IntKind.u8)] l2 (Int.toNat i3))) (
     let i5 : Int := (IntKind.i64.wrap (iAt l2 (Int.toNat i3)))
     let i6 : Int := (IntKind.i64.wrap (i3 + (1 : Int)))
     let i7 : Int := (IntKind.u64.wrap ((IntKind.u64.wrap ((IntKind.u64.wrap (i4 * (6364136223846793005 : Int))) + (IntKind.u64.wrap i5))) + (1442695040888963407 : Int)))
     br (decide (i6 ≤ ((n1 : Nat) : Int))) (
      some (i5, n1, l2, i6, i7)) (
      some ((IntKind.i64.wrap (intBits BinOp.and IntKind.u64 (Int.fdiv i7 (1099511627776 : Int)) (255 : Int))), n1, l2, i6, i7)))) (
     let i8 : Int := (IntKind.i64.wrap (i3 + (1 : Int)))
     let i9 : Int := (IntKind.u64.wrap ((IntKind.u64.wrap ((IntKind.u64.wrap (i4 * (6364136223846793005 : Int))) + (0 : Int))) + (1442695040888963407 : Int)))
     br (decide (i8 ≤ ((n1 : Nat) : Int))) (
      some ((0 : Int), n1, l2, i8, i9)) (
      some ((IntKind.i64.wrap (intBits BinOp.and IntKind.u64 (Int.fdiv i9 (1099511627776 : Int)) (255 : Int))), n1, l2, i8, i9)))
def sg_ilii : Sig (Int × Nat × List T × Int × Int) where
  pk := fun v => [.int v.1, .lst v.2.1 v.2.2.1, .int v.2.2.2.1, .int v.2.2.2.2]
  up := fun ls => match ls with
    | [.int a0, .lst a1 a2, .int a3, .int a4] => some (a0, a1, a2, a3, a4)
    | _ => none
  ok := by
    intro ls v h
    split at h
    · cases h; rfl
    · cases h

def f128_s_l00Srcnext.P : List Arg := [⟨.iop, ⟨false, [.rf .own [.sl .shr [.leaf], .leaf, .leaf]], [.ref [.lst 0 [], .int .i64 0, .int .u64 0]]⟩⟩]
def f128_s_l00Srcnext.A : RAlt (Int × Nat × List T × Int × Int) := .one ⟨[⟨false, [.leaf], [.int .i64 0]⟩], [some ⟨false, [.rf .own [.sl .shr [.leaf], .leaf, .leaf]], [.ref [.lst 0 [], .int .i64 0, .int .u64 0]]⟩]⟩ sg_ilii
def f128_s_l00Srcnext.F (n : Nat) (v : Nat × List T × Int × Int) := f128_s_l00Srcnext n v.1 v.2.1 v.2.2.1 v.2.2.2
noncomputable def f128_s_l00Srcnext.O (n : Nat) : Orc := orcOf (E := E) [] [] n
theorem f128_s_l00Srcnext.ok : ∀ n v x, f128_s_l00Srcnext.F n v = some x → evalFn E n 128 (flAs f128_s_l00Srcnext.P (sg_lii.pk v)) = some (f128_s_l00Srcnext.A.enc x) :=
  fn_pure (modes := (fdAt 128).ms) (outs := (fdAt 128).os) (results := (fdAt 128).rs) f128_s_l00Srcnext.O (c := c128) (keep := keepAt 128) (by kernel_rfl) (fun n => orcOf_cf _ _ n) (fun n => lpOk_of (bs := []) (by kernel_rfl) .nil) (fun _ => rfl) (fun _ _ => by kernel_rfl)
noncomputable def f128_s_l00Srcnext.w : FnW E := fnW 128 f128_s_l00Srcnext.P sg_lii f128_s_l00Srcnext.A f128_s_l00Srcnext.F f128_s_l00Srcnext.ok

def f76_s_l00Srcpick : Nat → Nat → List T → Int → Int → Int → Option (Int × Nat × List T × Int × Int)
  | 0, _, _, _, _, _ => none
  | n + 1, n1, l2, i3, i4, i5 =>
    br (decide (i5 ≤ (1 : Int))) (
     some ((0 : Int), n1, l2, i3, i4)) (
     bd (f128_s_l00Srcnext n n1 l2 i3 i4) fun r6 =>
     let i7 : Int := r6.1
     let n8 : Nat := r6.2.1
     let l9 : List T := r6.2.2.1
     let i10 : Int := r6.2.2.2.1
     let i11 : Int := r6.2.2.2.2
     br (decide (i5 > (200 : Int))) (
      bd (f128_s_l00Srcnext n n8 l9 i10 i11) fun r12 =>
      let i13 : Int := r12.1
      let n14 : Nat := r12.2.1
      let l15 : List T := r12.2.2.1
      let i16 : Int := r12.2.2.2.1
      let i17 : Int := r12.2.2.2.2
      let i18 : Int := (IntKind.i64.wrap ((IntKind.i64.wrap (i7 * (256 : Int))) + i13))
      gd (!(decide (i5 = (0 : Int)))) (
      some ((Int.tmod i18 i5), n14, l15, i16, i17))) (
      gd (!(decide (i5 = (0 : Int)))) (
      some ((Int.tmod i7 i5), n8, l9, i10, i11))))
def sg_liii : Sig (Nat × List T × Int × Int × Int) where
  pk := fun v => [.lst v.1 v.2.1, .int v.2.2.1, .int v.2.2.2.1, .int v.2.2.2.2]
  up := fun ls => match ls with
    | [.lst a0 a1, .int a2, .int a3, .int a4] => some (a0, a1, a2, a3, a4)
    | _ => none
  ok := by
    intro ls v h
    split at h
    · cases h; rfl
    · cases h

def f76_s_l00Srcpick.P : List Arg := [⟨.iop, ⟨false, [.rf .own [.sl .shr [.leaf], .leaf, .leaf]], [.ref [.lst 0 [], .int .i64 0, .int .u64 0]]⟩⟩, ⟨.val, ⟨false, [.leaf], [.int .i64 0]⟩⟩]
def f76_s_l00Srcpick.A : RAlt (Int × Nat × List T × Int × Int) := .one ⟨[⟨false, [.leaf], [.int .i64 0]⟩], [some ⟨false, [.rf .own [.sl .shr [.leaf], .leaf, .leaf]], [.ref [.lst 0 [], .int .i64 0, .int .u64 0]]⟩, none]⟩ sg_ilii
def f76_s_l00Srcpick.F (n : Nat) (v : Nat × List T × Int × Int × Int) := f76_s_l00Srcpick n v.1 v.2.1 v.2.2.1 v.2.2.2.1 v.2.2.2.2
noncomputable def f76_s_l00Srcpick.O (n : Nat) : Orc := orcOf (E := E) [f128_s_l00Srcnext.w] [] n
theorem f76_s_l00Srcpick.ok : ∀ n v x, f76_s_l00Srcpick.F n v = some x → evalFn E n 76 (flAs f76_s_l00Srcpick.P (sg_liii.pk v)) = some (f76_s_l00Srcpick.A.enc x) :=
  fn_pure (modes := (fdAt 76).ms) (outs := (fdAt 76).os) (results := (fdAt 76).rs) f76_s_l00Srcpick.O (c := c76) (keep := keepAt 76) (by kernel_rfl) (fun n => orcOf_cf _ _ n) (fun n => lpOk_of (bs := []) (by kernel_rfl) .nil) (fun _ => rfl) (fun _ _ => by kernel_rfl)
noncomputable def f76_s_l00Srcpick.w : FnW E := fnW 76 f76_s_l00Srcpick.P sg_liii f76_s_l00Srcpick.A f76_s_l00Srcpick.F f76_s_l00Srcpick.ok

def f129_s_l00Srcone : Nat → Nat → List T → Int → Int → Int → Option (Bool × Nat × List T × Int × Int)
  | 0, _, _, _, _, _ => none
  | n + 1, n1, l2, i3, i4, i5 =>
    bd (f76_s_l00Srcpick n n1 l2 i3 i4 i5) fun r6 =>
    let i7 : Int := r6.1
    let n8 : Nat := r6.2.1
    let l9 : List T := r6.2.2.1
    let i10 : Int := r6.2.2.2.1
    let i11 : Int := r6.2.2.2.2
    some ((i7 == (0 : Int)), n8, l9, i10, i11)
def sg_blii : Sig (Bool × Nat × List T × Int × Int) where
  pk := fun v => [.bool v.1, .lst v.2.1 v.2.2.1, .int v.2.2.2.1, .int v.2.2.2.2]
  up := fun ls => match ls with
    | [.bool a0, .lst a1 a2, .int a3, .int a4] => some (a0, a1, a2, a3, a4)
    | _ => none
  ok := by
    intro ls v h
    split at h
    · cases h; rfl
    · cases h

def f129_s_l00Srcone.P : List Arg := [⟨.iop, ⟨false, [.rf .own [.sl .shr [.leaf], .leaf, .leaf]], [.ref [.lst 0 [], .int .i64 0, .int .u64 0]]⟩⟩, ⟨.val, ⟨false, [.leaf], [.int .i64 0]⟩⟩]
def f129_s_l00Srcone.A : RAlt (Bool × Nat × List T × Int × Int) := .one ⟨[⟨false, [.leaf], [.bool false]⟩], [some ⟨false, [.rf .own [.sl .shr [.leaf], .leaf, .leaf]], [.ref [.lst 0 [], .int .i64 0, .int .u64 0]]⟩, none]⟩ sg_blii
def f129_s_l00Srcone.F (n : Nat) (v : Nat × List T × Int × Int × Int) := f129_s_l00Srcone n v.1 v.2.1 v.2.2.1 v.2.2.2.1 v.2.2.2.2
noncomputable def f129_s_l00Srcone.O (n : Nat) : Orc := orcOf (E := E) [f76_s_l00Srcpick.w] [] n
theorem f129_s_l00Srcone.ok : ∀ n v x, f129_s_l00Srcone.F n v = some x → evalFn E n 129 (flAs f129_s_l00Srcone.P (sg_liii.pk v)) = some (f129_s_l00Srcone.A.enc x) :=
  fn_pure (modes := (fdAt 129).ms) (outs := (fdAt 129).os) (results := (fdAt 129).rs) f129_s_l00Srcone.O (c := c129) (keep := keepAt 129) (by kernel_rfl) (fun n => orcOf_cf _ _ n) (fun n => lpOk_of (bs := []) (by kernel_rfl) .nil) (fun _ => rfl) (fun _ _ => by kernel_rfl)
noncomputable def f129_s_l00Srcone.w : FnW E := fnW 129 f129_s_l00Srcone.P sg_liii f129_s_l00Srcone.A f129_s_l00Srcone.F f129_s_l00Srcone.ok

def f77_s_l01DrawPlain : Nat → Nat → List T → Int → Int → Option (Nat × Nat × List T × Int × Int)
  | 0, _, _, _, _ => none
  | n + 1, n1, l2, i3, i4 =>
    bd (f76_s_l00Srcpick n n1 l2 i3 i4 (129 : Int)) fun r5 =>
    let i6 : Int := r5.1
    let n7 : Nat := r5.2.1
    let l8 : List T := r5.2.2.1
    let i9 : Int := r5.2.2.2.1
    let i10 : Int := r5.2.2.2.2
    let i11 : Int := (IntKind.i64.wrap (i6 - (64 : Int)))
    bd (f129_s_l00Srcone n n7 l8 i9 i10 (4 : Int)) fun r12 =>
    let b13 : Bool := r12.1
    let n14 : Nat := r12.2.1
    let l15 : List T := r12.2.2.1
    let i16 : Int := r12.2.2.2.1
    let i17 : Int := r12.2.2.2.2
    br b13 (
     some ((fdiv FloatKind.f32 (FloatKind.nearest FloatKind.f32 i11) 1088421888), n14, l15, i16, i17)) (
     some ((fdiv FloatKind.f32 (FloatKind.nearest FloatKind.f32 i11) 1098907648), n14, l15, i16, i17))
def sg_flii : Sig (Nat × Nat × List T × Int × Int) where
  pk := fun v => [.flt v.1, .lst v.2.1 v.2.2.1, .int v.2.2.2.1, .int v.2.2.2.2]
  up := fun ls => match ls with
    | [.flt a0, .lst a1 a2, .int a3, .int a4] => some (a0, a1, a2, a3, a4)
    | _ => none
  ok := by
    intro ls v h
    split at h
    · cases h; rfl
    · cases h

def f77_s_l01DrawPlain.P : List Arg := [⟨.iop, ⟨false, [.rf .own [.sl .shr [.leaf], .leaf, .leaf]], [.ref [.lst 0 [], .int .i64 0, .int .u64 0]]⟩⟩]
def f77_s_l01DrawPlain.A : RAlt (Nat × Nat × List T × Int × Int) := .one ⟨[⟨false, [.leaf], [.flt .f32 0]⟩], [some ⟨false, [.rf .own [.sl .shr [.leaf], .leaf, .leaf]], [.ref [.lst 0 [], .int .i64 0, .int .u64 0]]⟩]⟩ sg_flii
def f77_s_l01DrawPlain.F (n : Nat) (v : Nat × List T × Int × Int) := f77_s_l01DrawPlain n v.1 v.2.1 v.2.2.1 v.2.2.2
noncomputable def f77_s_l01DrawPlain.O (n : Nat) : Orc := orcOf (E := E) [f76_s_l00Srcpick.w, f129_s_l00Srcone.w] [] n
theorem f77_s_l01DrawPlain.ok : ∀ n v x, f77_s_l01DrawPlain.F n v = some x → evalFn E n 77 (flAs f77_s_l01DrawPlain.P (sg_lii.pk v)) = some (f77_s_l01DrawPlain.A.enc x) :=
  fn_pure (modes := (fdAt 77).ms) (outs := (fdAt 77).os) (results := (fdAt 77).rs) f77_s_l01DrawPlain.O (c := c77) (keep := keepAt 77) (by kernel_rfl) (fun n => orcOf_cf _ _ n) (fun n => lpOk_of (bs := []) (by kernel_rfl) .nil) (fun _ => rfl) (fun _ _ => by kernel_rfl)
noncomputable def f77_s_l01DrawPlain.w : FnW E := fnW 77 f77_s_l01DrawPlain.P sg_lii f77_s_l01DrawPlain.A f77_s_l01DrawPlain.F f77_s_l01DrawPlain.ok

def f44_s_R8Plain.l0 (n : Nat) : Nat → Int → Nat → List T → Int → Int → Nat → List T → Int → Option (Nat × List T)
  | 0, _, _, _, _, _, _, _, _ => none
  | m + 1, i1, n2, l3, i4, i5, n6, l7, i8 =>
    br (decide (i8 < i1)) (
     bd (f77_s_l01DrawPlain n n2 l3 i4 i5) fun r9 =>
     let x10 : Nat := r9.1
     let n11 : Nat := r9.2.1
     let l12 : List T := r9.2.2.1
     let i13 : Int := r9.2.2.2.1
     let i14 : Int := r9.2.2.2.2
     gd (Nat.ble (n6 + 1) 2147483648) (
     let n15 : Nat := (n6 + 1)
     let l16 : List T := (l7 ++ (setN (reps 1 [(T.flt FloatKind.f32 0)]) 0 [(T.flt FloatKind.f32 x10)]))
     f44_s_R8Plain.l0 n m i1 n11 l12 i13 i14 n15 l16 (IntKind.i64.wrap (i8 + (1 : Int))))) (
     some (n6, l7))
def f44_s_R8Plain : Nat → Nat → List T → Int → Option (Nat × List T)
  | 0, _, _, _ => none
  | n + 1, n1, l2, i3 =>
    bd (f75_s_l00From n n1 l2) fun r4 =>
    let n5 : Nat := r4.1
    let l6 : List T := r4.2.1
    let i7 : Int := r4.2.2.1
    let i8 : Int := r4.2.2.2
    bd (f44_s_R8Plain.l0 n n i3 n5 l6 i7 i8 0 (reps 0 [(T.flt FloatKind.f32 0)]) (0 : Int)) fun r9 =>
    let n10 : Nat := r9.1
    let l11 : List T := r9.2
    some (n10, l11)
def sg_li : Sig (Nat × List T × Int) where
  pk := fun v => [.lst v.1 v.2.1, .int v.2.2]
  up := fun ls => match ls with
    | [.lst a0 a1, .int a2] => some (a0, a1, a2)
    | _ => none
  ok := by
    intro ls v h
    split at h
    · cases h; rfl
    · cases h

def sg_iliili : Sig (Int × Nat × List T × Int × Int × Nat × List T × Int) where
  pk := fun v => [.int v.1, .lst v.2.1 v.2.2.1, .int v.2.2.2.1, .int v.2.2.2.2.1, .lst v.2.2.2.2.2.1 v.2.2.2.2.2.2.1, .int v.2.2.2.2.2.2.2]
  up := fun ls => match ls with
    | [.int a0, .lst a1 a2, .int a3, .int a4, .lst a5 a6, .int a7] => some (a0, a1, a2, a3, a4, a5, a6, a7)
    | _ => none
  ok := by
    intro ls v h
    split at h
    · cases h; rfl
    · cases h

def f44_s_R8Plain.l0.P : AS := ⟨[(1, .val false [.leaf] [.int .i64 0] [] 0), (5, .box [.sl .shr [.leaf], .leaf, .leaf] [.lst 0 [], .int .i64 0, .int .u64 0] [] 0), (6, .val false [.sl .own [.leaf]] [.lst 0 []] [] 0), (7, .val false [.leaf] [.int .i64 0] [] 0)], 0⟩
def f44_s_R8Plain.l0.A : Alt (Nat × List T) := .one (.exit 0) ⟨[(6, .val false [.sl .own [.leaf]] [.lst 0 []] [] 0)], 0⟩ sg_l
def f44_s_R8Plain.l0.F (n m : Nat) (v : Int × Nat × List T × Int × Int × Nat × List T × Int) := f44_s_R8Plain.l0 n m v.1 v.2.1 v.2.2.1 v.2.2.2.1 v.2.2.2.2.1 v.2.2.2.2.2.1 v.2.2.2.2.2.2.1 v.2.2.2.2.2.2.2
def f44_s_R8Plain.l0.W (n : Nat) : LpW := .of 64 f44_s_R8Plain.l0.P sg_iliili f44_s_R8Plain.l0.A (f44_s_R8Plain.l0.F n n)
def f44_s_R8Plain.P : List Arg := [⟨.val, ⟨false, [.sl .shr [.leaf]], [.lst 0 []]⟩⟩, ⟨.val, ⟨false, [.leaf], [.int .i64 0]⟩⟩]
def f44_s_R8Plain.A : RAlt (Nat × List T) := .one ⟨[⟨false, [.sl .own [.leaf]], [.lst 0 []]⟩], [none, none]⟩ sg_l
def f44_s_R8Plain.F (n : Nat) (v : Nat × List T × Int) := f44_s_R8Plain n v.1 v.2.1 v.2.2
noncomputable def f44_s_R8Plain.O (n : Nat) : Orc := orcOf (E := E) [f75_s_l00From.w, f77_s_l01DrawPlain.w] [f44_s_R8Plain.l0.W n] n
theorem f44_s_R8Plain.l0.ok (n : Nat) : LpOk (f44_s_R8Plain.O n) E (evalFn E n) n (keepAt 44) (.loop (loopAt c44 0)) :=
  lp_pure f44_s_R8Plain.l0.P sg_iliili f44_s_R8Plain.l0.A (f44_s_R8Plain.l0.F n) (orcOf_cf _ _ n) (lpOk_of (bs := []) (by kernel_rfl) .nil) (fun _ => rfl) (fun _ _ => by kernel_rfl) (fun _ _ _ => by kernel_rfl)
theorem f44_s_R8Plain.ok : ∀ n v x, f44_s_R8Plain.F n v = some x → evalFn E n 44 (flAs f44_s_R8Plain.P (sg_li.pk v)) = some (f44_s_R8Plain.A.enc x) :=
  fn_pure (modes := (fdAt 44).ms) (outs := (fdAt 44).os) (results := (fdAt 44).rs) f44_s_R8Plain.O (c := c44) (keep := keepAt 44) (by kernel_rfl) (fun n => orcOf_cf _ _ n) (fun n => lpOk_of (bs := [loopAt c44 0]) (by kernel_rfl) (.cons (f44_s_R8Plain.l0.ok n) .nil)) (fun _ => rfl) (fun _ _ => by kernel_rfl)
noncomputable def f44_s_R8Plain.w : FnW E := fnW 44 f44_s_R8Plain.P sg_li f44_s_R8Plain.A f44_s_R8Plain.F f44_s_R8Plain.ok

def f94_i_areSamples : Nat → Nat → List T → Option (Bool)
  | 0, _, _ => none
  | n + 1, n1, l2 =>
    some (decide (((n1 : Nat) : Int) ≤ (256 : Int)))
def f94_i_areSamples.P : List Arg := [⟨.val, ⟨false, [.sl .shr [.leaf]], [.lst 0 []]⟩⟩]
def f94_i_areSamples.A : RAlt (Bool) := .one ⟨[⟨false, [.leaf], [.bool false]⟩], [none]⟩ sg_b
def f94_i_areSamples.F (n : Nat) (v : Nat × List T) := f94_i_areSamples n v.1 v.2
noncomputable def f94_i_areSamples.O (n : Nat) : Orc := orcOf (E := E) [] [] n
theorem f94_i_areSamples.ok : ∀ n v x, f94_i_areSamples.F n v = some x → evalFn E n 94 (flAs f94_i_areSamples.P (sg_l.pk v)) = some (f94_i_areSamples.A.enc x) :=
  fn_pure (modes := (fdAt 94).ms) (outs := (fdAt 94).os) (results := (fdAt 94).rs) f94_i_areSamples.O (c := c94) (keep := keepAt 94) (by kernel_rfl) (fun n => orcOf_cf _ _ n) (fun n => lpOk_of (bs := []) (by kernel_rfl) .nil) (fun _ => rfl) (fun _ _ => by kernel_rfl)
noncomputable def f94_i_areSamples.w : FnW E := fnW 94 f94_i_areSamples.P sg_l f94_i_areSamples.A f94_i_areSamples.F f94_i_areSamples.ok

def f127_i_absolute : Nat → Nat → Option (Nat)
  | 0, _ => none
  | n + 1, x1 =>
    bd ((fltToFlt FloatKind.f32 x1 FloatKind.f64)) fun y2 =>
    bd (xAbs n y2) fun r3 =>
    let x4 : Nat := r3
    bd ((fltToFlt FloatKind.f64 x4 FloatKind.f32)) fun y5 =>
    some y5
def sg_f : Sig (Nat) where
  pk := fun v => [.flt v]
  up := fun ls => match ls with
    | [.flt a0] => some a0
    | _ => none
  ok := by
    intro ls v h
    split at h
    · cases h; rfl
    · cases h

def f127_i_absolute.P : List Arg := [⟨.val, ⟨false, [.leaf], [.flt .f32 0]⟩⟩]
def f127_i_absolute.A : RAlt (Nat) := .one ⟨[⟨false, [.leaf], [.flt .f32 0]⟩], [none]⟩ sg_f
def f127_i_absolute.F (n : Nat) (v : Nat) := f127_i_absolute n v
noncomputable def f127_i_absolute.O (n : Nat) : Orc := orcOf (E := E) [x139.w] [] n
theorem f127_i_absolute.ok : ∀ n v x, f127_i_absolute.F n v = some x → evalFn E n 127 (flAs f127_i_absolute.P (sg_f.pk v)) = some (f127_i_absolute.A.enc x) :=
  fn_pure (modes := (fdAt 127).ms) (outs := (fdAt 127).os) (results := (fdAt 127).rs) f127_i_absolute.O (c := c127) (keep := keepAt 127) (by kernel_rfl) (fun n => orcOf_cf _ _ n) (fun n => lpOk_of (bs := []) (by kernel_rfl) .nil) (fun _ => rfl) (fun _ _ => by kernel_rfl)
noncomputable def f127_i_absolute.w : FnW E := fnW 127 f127_i_absolute.P sg_f f127_i_absolute.A f127_i_absolute.F f127_i_absolute.ok

def f96_i_peakOf.l0 (n : Nat) : Nat → Nat → List T → Nat → Nat → List T → Int → Int → Option (Nat)
  | 0, _, _, _, _, _, _, _ => none
  | m + 1, n1, l2, x3, n4, l5, i6, i7 =>
    br (decide (i7 < i6)) (
     gd ((decide (((0 : Int) ≤ i7) ∧ (i7 < ((n4 : Nat) : Int)))) && (okAt [(CK.flt FloatKind.f32)] l5 (Int.toNat i7))) (
     let x8 : Nat := (fAt l5 (Int.toNat i7))
     bd (f127_i_absolute n x8) fun r9 =>
     let x10 : Nat := r9
     br (fgt FloatKind.f32 x10 x3) (
      f96_i_peakOf.l0 n m n1 l2 x10 n4 l5 i6 (IntKind.i64.wrap (i7 + (1 : Int)))) (
      f96_i_peakOf.l0 n m n1 l2 x3 n4 l5 i6 (IntKind.i64.wrap (i7 + (1 : Int)))))) (
     some x3)
def f96_i_peakOf : Nat → Nat → List T → Option (Nat)
  | 0, _, _ => none
  | n + 1, n1, l2 =>
    bd (f96_i_peakOf.l0 n n n1 l2 0 n1 l2 ((n1 : Nat) : Int) (0 : Int)) fun r3 =>
    let x4 : Nat := r3
    some x4
def sg_lflii : Sig (Nat × List T × Nat × Nat × List T × Int × Int) where
  pk := fun v => [.lst v.1 v.2.1, .flt v.2.2.1, .lst v.2.2.2.1 v.2.2.2.2.1, .int v.2.2.2.2.2.1, .int v.2.2.2.2.2.2]
  up := fun ls => match ls with
    | [.lst a0 a1, .flt a2, .lst a3 a4, .int a5, .int a6] => some (a0, a1, a2, a3, a4, a5, a6)
    | _ => none
  ok := by
    intro ls v h
    split at h
    · cases h; rfl
    · cases h

def f96_i_peakOf.l0.P : AS := ⟨[(0, .val false [.sl .shr [.leaf]] [.lst 0 []] [] 0), (3, .val false [.leaf] [.flt .f32 0] [] 0), (7, .val false [.sl .shr [.leaf]] [.lst 0 []] [] 0), (8, .val false [.leaf] [.int .i64 0] [] 0), (9, .val false [.leaf] [.int .i64 0] [] 0)], 0⟩
def f96_i_peakOf.l0.A : Alt (Nat) := .one (.exit 0) ⟨[(3, .val false [.leaf] [.flt .f32 0] [] 0)], 0⟩ sg_f
def f96_i_peakOf.l0.F (n m : Nat) (v : Nat × List T × Nat × Nat × List T × Int × Int) := f96_i_peakOf.l0 n m v.1 v.2.1 v.2.2.1 v.2.2.2.1 v.2.2.2.2.1 v.2.2.2.2.2.1 v.2.2.2.2.2.2
def f96_i_peakOf.l0.W (n : Nat) : LpW := .of 48 f96_i_peakOf.l0.P sg_lflii f96_i_peakOf.l0.A (f96_i_peakOf.l0.F n n)
def f96_i_peakOf.P : List Arg := [⟨.val, ⟨false, [.sl .shr [.leaf]], [.lst 0 []]⟩⟩]
def f96_i_peakOf.A : RAlt (Nat) := .one ⟨[⟨false, [.leaf], [.flt .f32 0]⟩], [none]⟩ sg_f
def f96_i_peakOf.F (n : Nat) (v : Nat × List T) := f96_i_peakOf n v.1 v.2
noncomputable def f96_i_peakOf.O (n : Nat) : Orc := orcOf (E := E) [f127_i_absolute.w] [f96_i_peakOf.l0.W n] n
theorem f96_i_peakOf.l0.ok (n : Nat) : LpOk (f96_i_peakOf.O n) E (evalFn E n) n (keepAt 96) (.loop (loopAt c96 0)) :=
  lp_pure f96_i_peakOf.l0.P sg_lflii f96_i_peakOf.l0.A (f96_i_peakOf.l0.F n) (orcOf_cf _ _ n) (lpOk_of (bs := []) (by kernel_rfl) .nil) (fun _ => rfl) (fun _ _ => by kernel_rfl) (fun _ _ _ => by kernel_rfl)
theorem f96_i_peakOf.ok : ∀ n v x, f96_i_peakOf.F n v = some x → evalFn E n 96 (flAs f96_i_peakOf.P (sg_l.pk v)) = some (f96_i_peakOf.A.enc x) :=
  fn_pure (modes := (fdAt 96).ms) (outs := (fdAt 96).os) (results := (fdAt 96).rs) f96_i_peakOf.O (c := c96) (keep := keepAt 96) (by kernel_rfl) (fun n => orcOf_cf _ _ n) (fun n => lpOk_of (bs := [loopAt c96 0]) (by kernel_rfl) (.cons (f96_i_peakOf.l0.ok n) .nil)) (fun _ => rfl) (fun _ _ => by kernel_rfl)
noncomputable def f96_i_peakOf.w : FnW E := fnW 96 f96_i_peakOf.P sg_l f96_i_peakOf.A f96_i_peakOf.F f96_i_peakOf.ok

def f56_i_PeakOf : Nat → Nat → List T → Option (Nat × Bool)
  | 0, _, _ => none
  | n + 1, n1, l2 =>
    bd (f94_i_areSamples n n1 l2) fun r3 =>
    let b4 : Bool := r3
    br (!b4) (
     some (0, false)) (
     bd (f96_i_peakOf n n1 l2) fun r5 =>
     let x6 : Nat := r5
     some (x6, true))
def sg_fb : Sig (Nat × Bool) where
  pk := fun v => [.flt v.1, .bool v.2]
  up := fun ls => match ls with
    | [.flt a0, .bool a1] => some (a0, a1)
    | _ => none
  ok := by
    intro ls v h
    split at h
    · cases h; rfl
    · cases h

def f56_i_PeakOf.P : List Arg := [⟨.val, ⟨false, [.sl .shr [.leaf]], [.lst 0 []]⟩⟩]
def f56_i_PeakOf.A : RAlt (Nat × Bool) := .one ⟨[⟨false, [.leaf], [.flt .f32 0]⟩, ⟨false, [.leaf], [.bool false]⟩], [none]⟩ sg_fb
def f56_i_PeakOf.F (n : Nat) (v : Nat × List T) := f56_i_PeakOf n v.1 v.2
noncomputable def f56_i_PeakOf.O (n : Nat) : Orc := orcOf (E := E) [f94_i_areSamples.w, f96_i_peakOf.w] [] n
theorem f56_i_PeakOf.ok : ∀ n v x, f56_i_PeakOf.F n v = some x → evalFn E n 56 (flAs f56_i_PeakOf.P (sg_l.pk v)) = some (f56_i_PeakOf.A.enc x) :=
  fn_pure (modes := (fdAt 56).ms) (outs := (fdAt 56).os) (results := (fdAt 56).rs) f56_i_PeakOf.O (c := c56) (keep := keepAt 56) (by kernel_rfl) (fun n => orcOf_cf _ _ n) (fun n => lpOk_of (bs := []) (by kernel_rfl) .nil) (fun _ => rfl) (fun _ _ => by kernel_rfl)
noncomputable def f56_i_PeakOf.w : FnW E := fnW 56 f56_i_PeakOf.P sg_l f56_i_PeakOf.A f56_i_PeakOf.F f56_i_PeakOf.ok

def f137_mathFloor : Nat → Nat → Option (Nat)
  | 0, _ => none
  | n + 1, x1 =>
    bd (xIntegral_down n x1) fun r2 =>
    let x3 : Nat := r2
    some x3
def f137_mathFloor.P : List Arg := [⟨.val, ⟨false, [.leaf], [.flt .f64 0]⟩⟩]
def f137_mathFloor.A : RAlt (Nat) := .one ⟨[⟨false, [.leaf], [.flt .f64 0]⟩], [none]⟩ sg_f
def f137_mathFloor.F (n : Nat) (v : Nat) := f137_mathFloor n v
noncomputable def f137_mathFloor.O (n : Nat) : Orc := orcOf (E := E) [x144.w] [] n
theorem f137_mathFloor.ok : ∀ n v x, f137_mathFloor.F n v = some x → evalFn E n 137 (flAs f137_mathFloor.P (sg_f.pk v)) = some (f137_mathFloor.A.enc x) :=
  fn_pure (modes := (fdAt 137).ms) (outs := (fdAt 137).os) (results := (fdAt 137).rs) f137_mathFloor.O (c := c137) (keep := keepAt 137) (by kernel_rfl) (fun n => orcOf_cf _ _ n) (fun n => lpOk_of (bs := []) (by kernel_rfl) .nil) (fun _ => rfl) (fun _ _ => by kernel_rfl)
noncomputable def f137_mathFloor.w : FnW E := fnW 137 f137_mathFloor.P sg_f f137_mathFloor.A f137_mathFloor.F f137_mathFloor.ok

def f138_i_readAt1 : Nat → Int → Nat → List T → Nat → Option (Nat)
  | 0, _, _, _, _ => none
  | n + 1, i1, n2, l3, x4 =>
    bd ((fltToInt FloatKind.f64 x4 IntKind.i64)) fun y5 =>
    gd ((decide (((0 : Int) ≤ (if ((IntKind.i64.wrap (((n2 : Nat) : Int) - (1 : Int))) < (if ((IntKind.i64.wrap (y5 + i1)) > (0 : Int)) then (IntKind.i64.wrap (y5 + i1)) else (0 : Int))) then (IntKind.i64.wrap (((n2 : Nat) : Int) - (1 : Int))) else (if ((IntKind.i64.wrap (y5 + i1)) > (0 : Int)) then (IntKind.i64.wrap (y5 + i1)) else (0 : Int)))) ∧ ((if ((IntKind.i64.wrap (((n2 : Nat) : Int) - (1 : Int))) < (if ((IntKind.i64.wrap (y5 + i1)) > (0 : Int)) then (IntKind.i64.wrap (y5 + i1)) else (0 : Int))) then (IntKind.i64.wrap (((n2 : Nat) : Int) - (1 : Int))) else (if ((IntKind.i64.wrap (y5 + i1)) > (0 : Int)) then (IntKind.i64.wrap (y5 + i1)) else (0 : Int))) < ((n2 : Nat) : Int)))) && (okAt [(CK.flt FloatKind.f32)] l3 (Int.toNat (if ((IntKind.i64.wrap (((n2 : Nat) : Int) - (1 : Int))) < (if ((IntKind.i64.wrap (y5 + i1)) > (0 : Int)) then (IntKind.i64.wrap (y5 + i1)) else (0 : Int))) then (IntKind.i64.wrap (((n2 : Nat) : Int) - (1 : Int))) else (if ((IntKind.i64.wrap (y5 + i1)) > (0 : Int)) then (IntKind.i64.wrap (y5 + i1)) else (0 : Int)))))) (
    some (fAt l3 (Int.toNat (if ((IntKind.i64.wrap (((n2 : Nat) : Int) - (1 : Int))) < (if ((IntKind.i64.wrap (y5 + i1)) > (0 : Int)) then (IntKind.i64.wrap (y5 + i1)) else (0 : Int))) then (IntKind.i64.wrap (((n2 : Nat) : Int) - (1 : Int))) else (if ((IntKind.i64.wrap (y5 + i1)) > (0 : Int)) then (IntKind.i64.wrap (y5 + i1)) else (0 : Int))))))
def sg_ilf : Sig (Int × Nat × List T × Nat) where
  pk := fun v => [.int v.1, .lst v.2.1 v.2.2.1, .flt v.2.2.2]
  up := fun ls => match ls with
    | [.int a0, .lst a1 a2, .flt a3] => some (a0, a1, a2, a3)
    | _ => none
  ok := by
    intro ls v h
    split at h
    · cases h; rfl
    · cases h

def f138_i_readAt1.P : List Arg := [⟨.val, ⟨false, [.leaf], [.int .i64 0]⟩⟩, ⟨.val, ⟨false, [.rf .shr [.sl .shr [.leaf]]], [.ref [.lst 0 []]]⟩⟩, ⟨.val, ⟨false, [.rf .shr [.leaf]], [.ref [.flt .f64 0]]⟩⟩]
def f138_i_readAt1.A : RAlt (Nat) := .one ⟨[⟨false, [.leaf], [.flt .f32 0]⟩], [none, none, none]⟩ sg_f
def f138_i_readAt1.F (n : Nat) (v : Int × Nat × List T × Nat) := f138_i_readAt1 n v.1 v.2.1 v.2.2.1 v.2.2.2
noncomputable def f138_i_readAt1.O (n : Nat) : Orc := orcOf (E := E) [] [] n
theorem f138_i_readAt1.ok : ∀ n v x, f138_i_readAt1.F n v = some x → evalFn E n 138 (flAs f138_i_readAt1.P (sg_ilf.pk v)) = some (f138_i_readAt1.A.enc x) :=
  fn_pure (modes := (fdAt 138).ms) (outs := (fdAt 138).os) (results := (fdAt 138).rs) f138_i_readAt1.O (c := c138) (keep := keepAt 138) (by kernel_rfl) (fun n => orcOf_cf _ _ n) (fun n => lpOk_of (bs := []) (by kernel_rfl) .nil) (fun _ => rfl) (fun _ _ => by kernel_rfl)
noncomputable def f138_i_readAt1.w : FnW E := fnW 138 f138_i_readAt1.P sg_ilf f138_i_readAt1.A f138_i_readAt1.F f138_i_readAt1.ok

def f126_i_readAt : Nat → Int → Nat → List T → Nat → Option (Nat)
  | 0, _, _, _, _ => none
  | n + 1, i1, n2, l3, x4 =>
    bd (f137_mathFloor n x4) fun r5 =>
    let x6 : Nat := r5
    br (feq FloatKind.f64 x6 0) (
     bd ((fltToFlt FloatKind.f64 (fsub FloatKind.f64 x4 0) FloatKind.f32)) fun y7 =>
     bd (f138_i_readAt1 n (0 : Int) n2 l3 0) fun r8 =>
     let x9 : Nat := r8
     bd (f138_i_readAt1 n (1 : Int) n2 l3 0) fun r10 =>
     let x11 : Nat := r10
     br (i1 == (0 : Int)) (
      br (fge FloatKind.f32 y7 1056964608) (
       some x11) (
       some x9)) (
      br (i1 == (1 : Int)) (
       some (fadd FloatKind.f32 x9 (fmul FloatKind.f32 y7 (fsub FloatKind.f32 x11 x9)))) (
       bd (f138_i_readAt1 n (-1 : Int) n2 l3 0) fun r12 =>
       let x13 : Nat := r12
       bd (f138_i_readAt1 n (2 : Int) n2 l3 0) fun r14 =>
       let x15 : Nat := r14
       let x16 : Nat := (fmul FloatKind.f32 1056964608 (fsub FloatKind.f32 x11 x13))
       let x17 : Nat := (fsub FloatKind.f32 (fadd FloatKind.f32 (fsub FloatKind.f32 x13 (fmul FloatKind.f32 1075838976 x9)) (fmul FloatKind.f32 1073741824 x11)) (fmul FloatKind.f32 1056964608 x15))
       let x18 : Nat := (fadd FloatKind.f32 (fmul FloatKind.f32 1069547520 (fsub FloatKind.f32 x9 x11)) (fmul FloatKind.f32 1056964608 (fsub FloatKind.f32 x15 x13)))
       some (fadd FloatKind.f32 (fmul FloatKind.f32 (fadd FloatKind.f32 (fmul FloatKind.f32 (fadd FloatKind.f32 (fmul FloatKind.f32 x18 y7) x17) y7) x16) y7) x9)))) (
     bd ((fltToFlt FloatKind.f64 (fsub FloatKind.f64 x4 x6) FloatKind.f32)) fun y19 =>
     bd (f138_i_readAt1 n (0 : Int) n2 l3 x6) fun r20 =>
     let x21 : Nat := r20
     bd (f138_i_readAt1 n (1 : Int) n2 l3 x6) fun r22 =>
     let x23 : Nat := r22
     br (i1 == (0 : Int)) (
      br (fge FloatKind.f32 y19 1056964608) (
       some x23) (
       some x21)) (
      br (i1 == (1 : Int)) (
       some (fadd FloatKind.f32 x21 (fmul FloatKind.f32 y19 (fsub FloatKind.f32 x23 x21)))) (
       bd (f138_i_readAt1 n (-1 : Int) n2 l3 x6) fun r24 =>
       let x25 : Nat := r24
       bd (f138_i_readAt1 n (2 : Int) n2 l3 x6) fun r26 =>
       let x27 : Nat := r26
       let x28 : Nat := (fmul FloatKind.f32 1056964608 (fsub FloatKind.f32 x23 x25))
       let x29 : Nat := (fsub FloatKind.f32 (fadd FloatKind.f32 (fsub FloatKind.f32 x25 (fmul FloatKind.f32 1075838976 x21)) (fmul FloatKind.f32 1073741824 x23)) (fmul FloatKind.f32 1056964608 x27))
       let x30 : Nat := (fadd FloatKind.f32 (fmul FloatKind.f32 1069547520 (fsub FloatKind.f32 x21 x23)) (fmul FloatKind.f32 1056964608 (fsub FloatKind.f32 x27 x25)))
       some (fadd FloatKind.f32 (fmul FloatKind.f32 (fadd FloatKind.f32 (fmul FloatKind.f32 (fadd FloatKind.f32 (fmul FloatKind.f32 x30 y19) x29) y19) x28) y19) x21))))
def f126_i_readAt.P : List Arg := [⟨.val, ⟨false, [.leaf], [.int .i64 0]⟩⟩, ⟨.val, ⟨false, [.sl .shr [.leaf]], [.lst 0 []]⟩⟩, ⟨.val, ⟨false, [.leaf], [.flt .f64 0]⟩⟩]
def f126_i_readAt.A : RAlt (Nat) := .one ⟨[⟨false, [.leaf], [.flt .f32 0]⟩], [none, none, none]⟩ sg_f
def f126_i_readAt.F (n : Nat) (v : Int × Nat × List T × Nat) := f126_i_readAt n v.1 v.2.1 v.2.2.1 v.2.2.2
noncomputable def f126_i_readAt.O (n : Nat) : Orc := orcOf (E := E) [f137_mathFloor.w, f138_i_readAt1.w] [] n
theorem f126_i_readAt.ok : ∀ n v x, f126_i_readAt.F n v = some x → evalFn E n 126 (flAs f126_i_readAt.P (sg_ilf.pk v)) = some (f126_i_readAt.A.enc x) :=
  fn_pure (modes := (fdAt 126).ms) (outs := (fdAt 126).os) (results := (fdAt 126).rs) f126_i_readAt.O (c := c126) (keep := keepAt 126) (by kernel_rfl) (fun n => orcOf_cf _ _ n) (fun n => lpOk_of (bs := []) (by kernel_rfl) .nil) (fun _ => rfl) (fun _ _ => by kernel_rfl)
noncomputable def f126_i_readAt.w : FnW E := fnW 126 f126_i_readAt.P sg_ilf f126_i_readAt.A f126_i_readAt.F f126_i_readAt.ok

def f72_i_PeakBetween.l0 (n : Nat) : Nat → Nat → List T → Nat → List T → Int → Option (Nat × List T)
  | 0, _, _, _, _, _ => none
  | m + 1, n1, l2, n3, l4, i5 =>
    br (decide (i5 ≤ (IntKind.i64.wrap ((4 : Int) * (IntKind.i64.wrap (((n1 : Nat) : Int) - (1 : Int))))))) (
     bd (f126_i_readAt n (2 : Int) n1 l2 (fdiv FloatKind.f64 (FloatKind.nearest FloatKind.f64 i5) 4616189618054758400)) fun r6 =>
     let x7 : Nat := r6
     gd (Nat.ble (n3 + 1) 2147483648) (
     let n8 : Nat := (n3 + 1)
     let l9 : List T := (l4 ++ (setN (reps 1 [(T.flt FloatKind.f32 0)]) 0 [(T.flt FloatKind.f32 x7)]))
     f72_i_PeakBetween.l0 n m n1 l2 n8 l9 (IntKind.i64.wrap (i5 + (1 : Int))))) (
     some (n3, l4))
def f72_i_PeakBetween : Nat → Nat → List T → Option (Nat × Bool)
  | 0, _, _ => none
  | n + 1, n1, l2 =>
    bd (f94_i_areSamples n n1 l2) fun r3 =>
    let b4 : Bool := r3
    br (!b4) (
     some (0, false)) (
     bd (f72_i_PeakBetween.l0 n n n1 l2 0 [] (0 : Int)) fun r5 =>
     let n6 : Nat := r5.1
     let l7 : List T := r5.2
     bd (f96_i_peakOf n n6 l7) fun r8 =>
     let x9 : Nat := r8
     some (x9, true))
def sg_lli : Sig (Nat × List T × Nat × List T × Int) where
  pk := fun v => [.lst v.1 v.2.1, .lst v.2.2.1 v.2.2.2.1, .int v.2.2.2.2]
  up := fun ls => match ls with
    | [.lst a0 a1, .lst a2 a3, .int a4] => some (a0, a1, a2, a3, a4)
    | _ => none
  ok := by
    intro ls v h
    split at h
    · cases h; rfl
    · cases h

def f72_i_PeakBetween.l0.P : AS := ⟨[(0, .val false [.sl .shr [.leaf]] [.lst 0 []] [] 0), (4, .val false [.sl .own [.leaf]] [.lst 0 []] [] 0), (5, .val false [.leaf] [.int .i64 0] [] 0)], 0⟩
def f72_i_PeakBetween.l0.A : Alt (Nat × List T) := .one (.exit 0) ⟨[(4, .val false [.sl .own [.leaf]] [.lst 0 []] [] 0)], 0⟩ sg_l
def f72_i_PeakBetween.l0.F (n m : Nat) (v : Nat × List T × Nat × List T × Int) := f72_i_PeakBetween.l0 n m v.1 v.2.1 v.2.2.1 v.2.2.2.1 v.2.2.2.2
def f72_i_PeakBetween.l0.W (n : Nat) : LpW := .of 80 f72_i_PeakBetween.l0.P sg_lli f72_i_PeakBetween.l0.A (f72_i_PeakBetween.l0.F n n)
def f72_i_PeakBetween.P : List Arg := [⟨.val, ⟨false, [.sl .shr [.leaf]], [.lst 0 []]⟩⟩]
def f72_i_PeakBetween.A : RAlt (Nat × Bool) := .one ⟨[⟨false, [.leaf], [.flt .f32 0]⟩, ⟨false, [.leaf], [.bool false]⟩], [none]⟩ sg_fb
def f72_i_PeakBetween.F (n : Nat) (v : Nat × List T) := f72_i_PeakBetween n v.1 v.2
noncomputable def f72_i_PeakBetween.O (n : Nat) : Orc := orcOf (E := E) [f94_i_areSamples.w, f96_i_peakOf.w, f126_i_readAt.w] [f72_i_PeakBetween.l0.W n] n
theorem f72_i_PeakBetween.l0.ok (n : Nat) : LpOk (f72_i_PeakBetween.O n) E (evalFn E n) n (keepAt 72) (.loop (loopAt c72 0)) :=
  lp_pure f72_i_PeakBetween.l0.P sg_lli f72_i_PeakBetween.l0.A (f72_i_PeakBetween.l0.F n) (orcOf_cf _ _ n) (lpOk_of (bs := []) (by kernel_rfl) .nil) (fun _ => rfl) (fun _ _ => by kernel_rfl) (fun _ _ _ => by kernel_rfl)
theorem f72_i_PeakBetween.ok : ∀ n v x, f72_i_PeakBetween.F n v = some x → evalFn E n 72 (flAs f72_i_PeakBetween.P (sg_l.pk v)) = some (f72_i_PeakBetween.A.enc x) :=
  fn_pure (modes := (fdAt 72).ms) (outs := (fdAt 72).os) (results := (fdAt 72).rs) f72_i_PeakBetween.O (c := c72) (keep := keepAt 72) (by kernel_rfl) (fun n => orcOf_cf _ _ n) (fun n => lpOk_of (bs := [loopAt c72 0]) (by kernel_rfl) (.cons (f72_i_PeakBetween.l0.ok n) .nil)) (fun _ => rfl) (fun _ _ => by kernel_rfl)
noncomputable def f72_i_PeakBetween.w : FnW E := fnW 72 f72_i_PeakBetween.P sg_l f72_i_PeakBetween.A f72_i_PeakBetween.F f72_i_PeakBetween.ok

def f73_i_HoldPeaks.l0 (n : Nat) : Nat → Nat → List T → Nat → Nat → Nat → List T → Nat → List T → Int → Int → Option (Nat × List T)
  | 0, _, _, _, _, _, _, _, _, _, _ => none
  | m + 1, n1, l2, x3, x4, n5, l6, n7, l8, i9, i10 =>
    br (decide (i10 < i9)) (
     gd ((decide (((0 : Int) ≤ i10) ∧ (i10 < ((n7 : Nat) : Int)))) && (okAt [(CK.flt FloatKind.f32)] l8 (Int.toNat i10))) (
     let x11 : Nat := (fAt l8 (Int.toNat i10))
     let x12 : Nat := (fmul FloatKind.f32 x3 x4)
     bd (f127_i_absolute n x11) fun r13 =>
     let x14 : Nat := r13
     br (fgt FloatKind.f32 x14 x12) (
      gd (Nat.ble (n5 + 1) 2147483648) (
      let n15 : Nat := (n5 + 1)
      let l16 : List T := (l6 ++ (setN (reps 1 [(T.flt FloatKind.f32 0)]) 0 [(T.flt FloatKind.f32 x14)]))
      f73_i_HoldPeaks.l0 n m n1 l2 x14 x4 n15 l16 n7 l8 i9 (IntKind.i64.wrap (i10 + (1 : Int))))) (
      br (fne FloatKind.f32 x14 x14) (
       br (flt FloatKind.f32 x12 0) (
        gd (Nat.ble (n5 + 1) 2147483648) (
        let n17 : Nat := (n5 + 1)
        let l18 : List T := (l6 ++ (setN (reps 1 [(T.flt FloatKind.f32 0)]) 0 [(T.flt FloatKind.f32 0)]))
        f73_i_HoldPeaks.l0 n m n1 l2 0 x4 n17 l18 n7 l8 i9 (IntKind.i64.wrap (i10 + (1 : Int))))) (
        gd (Nat.ble (n5 + 1) 2147483648) (
        let n19 : Nat := (n5 + 1)
        let l20 : List T := (l6 ++ (setN (reps 1 [(T.flt FloatKind.f32 0)]) 0 [(T.flt FloatKind.f32 x12)]))
        f73_i_HoldPeaks.l0 n m n1 l2 x12 x4 n19 l20 n7 l8 i9 (IntKind.i64.wrap (i10 + (1 : Int)))))) (
       gd (Nat.ble (n5 + 1) 2147483648) (
       let n21 : Nat := (n5 + 1)
       let l22 : List T := (l6 ++ (setN (reps 1 [(T.flt FloatKind.f32 0)]) 0 [(T.flt FloatKind.f32 x12)]))
       f73_i_HoldPeaks.l0 n m n1 l2 x12 x4 n21 l22 n7 l8 i9 (IntKind.i64.wrap (i10 + (1 : Int)))))))) (
     some (n5, l6))
def f73_i_HoldPeaks : Nat → Nat → List T → Nat → Nat → Option (Nat × List T × Bool)
  | 0, _, _, _, _ => none
  | n + 1, n1, l2, x3, x4 =>
    bd (f94_i_areSamples n n1 l2) fun r5 =>
    let b6 : Bool := r5
    br (!b6) (
     some (0, [], false)) (
     bd (f73_i_HoldPeaks.l0 n n n1 l2 x3 x4 0 [] n1 l2 ((n1 : Nat) : Int) (0 : Int)) fun r7 =>
     let n8 : Nat := r7.1
     let l9 : List T := r7.2
     some (n8, l9, true))
def sg_lff : Sig (Nat × List T × Nat × Nat) where
  pk := fun v => [.lst v.1 v.2.1, .flt v.2.2.1, .flt v.2.2.2]
  up := fun ls => match ls with
    | [.lst a0 a1, .flt a2, .flt a3] => some (a0, a1, a2, a3)
    | _ => none
  ok := by
    intro ls v h
    split at h
    · cases h; rfl
    · cases h

def sg_lb : Sig (Nat × List T × Bool) where
  pk := fun v => [.lst v.1 v.2.1, .bool v.2.2]
  up := fun ls => match ls with
    | [.lst a0 a1, .bool a2] => some (a0, a1, a2)
    | _ => none
  ok := by
    intro ls v h
    split at h
    · cases h; rfl
    · cases h

def sg_lffllii : Sig (Nat × List T × Nat × Nat × Nat × List T × Nat × List T × Int × Int) where
  pk := fun v => [.lst v.1 v.2.1, .flt v.2.2.1, .flt v.2.2.2.1, .lst v.2.2.2.2.1 v.2.2.2.2.2.1, .lst v.2.2.2.2.2.2.1 v.2.2.2.2.2.2.2.1, .int v.2.2.2.2.2.2.2.2.1, .int v.2.2.2.2.2.2.2.2.2]
  up := fun ls => match ls with
    | [.lst a0 a1, .flt a2, .flt a3, .lst a4 a5, .lst a6 a7, .int a8, .int a9] => some (a0, a1, a2, a3, a4, a5, a6, a7, a8, a9)
    | _ => none
  ok := by
    intro ls v h
    split at h
    · cases h; rfl
    · cases h

def f73_i_HoldPeaks.l0.P : AS := ⟨[(0, .val false [.sl .shr [.leaf]] [.lst 0 []] [] 0), (1, .val false [.leaf] [.flt .f32 0] [] 0), (2, .val false [.leaf] [.flt .f32 0] [] 0), (8, .val false [.sl .own [.leaf]] [.lst 0 []] [] 0), (15, .val false [.sl .shr [.leaf]] [.lst 0 []] [] 0), (16, .val false [.leaf] [.int .i64 0] [] 0), (17, .val false [.leaf] [.int .i64 0] [] 0)], 0⟩
def f73_i_HoldPeaks.l0.A : Alt (Nat × List T) := .one (.exit 0) ⟨[(8, .val false [.sl .own [.leaf]] [.lst 0 []] [] 0)], 0⟩ sg_l
def f73_i_HoldPeaks.l0.F (n m : Nat) (v : Nat × List T × Nat × Nat × Nat × List T × Nat × List T × Int × Int) := f73_i_HoldPeaks.l0 n m v.1 v.2.1 v.2.2.1 v.2.2.2.1 v.2.2.2.2.1 v.2.2.2.2.2.1 v.2.2.2.2.2.2.1 v.2.2.2.2.2.2.2.1 v.2.2.2.2.2.2.2.2.1 v.2.2.2.2.2.2.2.2.2
def f73_i_HoldPeaks.l0.W (n : Nat) : LpW := .of 80 f73_i_HoldPeaks.l0.P sg_lffllii f73_i_HoldPeaks.l0.A (f73_i_HoldPeaks.l0.F n n)
def f73_i_HoldPeaks.P : List Arg := [⟨.val, ⟨false, [.sl .shr [.leaf]], [.lst 0 []]⟩⟩, ⟨.val, ⟨false, [.leaf], [.flt .f32 0]⟩⟩, ⟨.val, ⟨false, [.leaf], [.flt .f32 0]⟩⟩]
def f73_i_HoldPeaks.A : RAlt (Nat × List T × Bool) := .one ⟨[⟨false, [.sl .own [.leaf]], [.lst 0 []]⟩, ⟨false, [.leaf], [.bool false]⟩], [none, none, none]⟩ sg_lb
def f73_i_HoldPeaks.F (n : Nat) (v : Nat × List T × Nat × Nat) := f73_i_HoldPeaks n v.1 v.2.1 v.2.2.1 v.2.2.2
noncomputable def f73_i_HoldPeaks.O (n : Nat) : Orc := orcOf (E := E) [f94_i_areSamples.w, f127_i_absolute.w] [f73_i_HoldPeaks.l0.W n] n
theorem f73_i_HoldPeaks.l0.ok (n : Nat) : LpOk (f73_i_HoldPeaks.O n) E (evalFn E n) n (keepAt 73) (.loop (loopAt c73 0)) :=
  lp_pure f73_i_HoldPeaks.l0.P sg_lffllii f73_i_HoldPeaks.l0.A (f73_i_HoldPeaks.l0.F n) (orcOf_cf _ _ n) (lpOk_of (bs := []) (by kernel_rfl) .nil) (fun _ => rfl) (fun _ _ => by kernel_rfl) (fun _ _ _ => by kernel_rfl)
theorem f73_i_HoldPeaks.ok : ∀ n v x, f73_i_HoldPeaks.F n v = some x → evalFn E n 73 (flAs f73_i_HoldPeaks.P (sg_lff.pk v)) = some (f73_i_HoldPeaks.A.enc x) :=
  fn_pure (modes := (fdAt 73).ms) (outs := (fdAt 73).os) (results := (fdAt 73).rs) f73_i_HoldPeaks.O (c := c73) (keep := keepAt 73) (by kernel_rfl) (fun n => orcOf_cf _ _ n) (fun n => lpOk_of (bs := [loopAt c73 0]) (by kernel_rfl) (.cons (f73_i_HoldPeaks.l0.ok n) .nil)) (fun _ => rfl) (fun _ _ => by kernel_rfl)
noncomputable def f73_i_HoldPeaks.w : FnW E := fnW 73 f73_i_HoldPeaks.P sg_lff f73_i_HoldPeaks.A f73_i_HoldPeaks.F f73_i_HoldPeaks.ok

def f83_i_within : Nat → Int → Int → Int → Option (Bool)
  | 0, _, _, _ => none
  | n + 1, i1, i2, i3 =>
    br (decide (i2 ≤ i1)) (
     some (decide (i1 ≤ i3))) (
     some false)
def sg_iii : Sig (Int × Int × Int) where
  pk := fun v => [.int v.1, .int v.2.1, .int v.2.2]
  up := fun ls => match ls with
    | [.int a0, .int a1, .int a2] => some (a0, a1, a2)
    | _ => none
  ok := by
    intro ls v h
    split at h
    · cases h; rfl
    · cases h

def f83_i_within.P : List Arg := [⟨.val, ⟨false, [.leaf], [.int .i64 0]⟩⟩, ⟨.val, ⟨false, [.leaf], [.int .i64 0]⟩⟩, ⟨.val, ⟨false, [.leaf], [.int .i64 0]⟩⟩]
def f83_i_within.A : RAlt (Bool) := .one ⟨[⟨false, [.leaf], [.bool false]⟩], [none, none, none]⟩ sg_b
def f83_i_within.F (n : Nat) (v : Int × Int × Int) := f83_i_within n v.1 v.2.1 v.2.2
noncomputable def f83_i_within.O (n : Nat) : Orc := orcOf (E := E) [] [] n
theorem f83_i_within.ok : ∀ n v x, f83_i_within.F n v = some x → evalFn E n 83 (flAs f83_i_within.P (sg_iii.pk v)) = some (f83_i_within.A.enc x) :=
  fn_pure (modes := (fdAt 83).ms) (outs := (fdAt 83).os) (results := (fdAt 83).rs) f83_i_within.O (c := c83) (keep := keepAt 83) (by kernel_rfl) (fun n => orcOf_cf _ _ n) (fun n => lpOk_of (bs := []) (by kernel_rfl) .nil) (fun _ => rfl) (fun _ _ => by kernel_rfl)
noncomputable def f83_i_within.w : FnW E := fnW 83 f83_i_within.P sg_iii f83_i_within.A f83_i_within.F f83_i_within.ok

def f74_i_ClippedRuns.l1 (n : Nat) : Nat → Nat → List T → Nat → Int → Nat → List T → Int → Int → Option (Nat × List T × Nat × Int × Nat × List T × Int × Int)
  | 0, _, _, _, _, _, _, _, _ => none
  | m + 1, n1, l2, x3, i4, n5, l6, i7, i8 =>
    br (decide (i8 < ((n1 : Nat) : Int))) (
     gd ((decide (((0 : Int) ≤ i8) ∧ (i8 < ((n1 : Nat) : Int)))) && (okAt [(CK.flt FloatKind.f32)] l2 (Int.toNat i8))) (
     bd (f127_i_absolute n (fAt l2 (Int.toNat i8))) fun r9 =>
     let x10 : Nat := r9
     br (fge FloatKind.f32 x10 x3) (
      f74_i_ClippedRuns.l1 n m n1 l2 x3 i4 n5 l6 i7 (IntKind.i64.wrap (i8 + (1 : Int)))) (
      some (n1, l2, x3, i4, n5, l6, i7, i8)))) (
     some (n1, l2, x3, i4, n5, l6, i7, i8))
def f82_i_size : Nat → Int → Option (Int)
  | 0, _ => none
  | n + 1, i1 =>
    some i1
def f82_i_size.P : List Arg := [⟨.val, ⟨false, [.leaf], [.int .i64 0]⟩⟩]
def f82_i_size.A : RAlt (Int) := .one ⟨[⟨false, [.leaf], [.int .i64 0]⟩], [none]⟩ sg_i
def f82_i_size.F (n : Nat) (v : Int) := f82_i_size n v
noncomputable def f82_i_size.O (n : Nat) : Orc := orcOf (E := E) [] [] n
theorem f82_i_size.ok : ∀ n v x, f82_i_size.F n v = some x → evalFn E n 82 (flAs f82_i_size.P (sg_i.pk v)) = some (f82_i_size.A.enc x) :=
  fn_pure (modes := (fdAt 82).ms) (outs := (fdAt 82).os) (results := (fdAt 82).rs) f82_i_size.O (c := c82) (keep := keepAt 82) (by kernel_rfl) (fun n => orcOf_cf _ _ n) (fun n => lpOk_of (bs := []) (by kernel_rfl) .nil) (fun _ => rfl) (fun _ _ => by kernel_rfl)
noncomputable def f82_i_size.w : FnW E := fnW 82 f82_i_size.P sg_i f82_i_size.A f82_i_size.F f82_i_size.ok

def f74_i_ClippedRuns.l0 (n : Nat) : Nat → Nat → List T → Nat → Int → Nat → List T → Int → Option (Nat × List T)
  | 0, _, _, _, _, _, _, _ => none
  | m + 1, n1, l2, x3, i4, n5, l6, i7 =>
    br (decide (i7 < ((n1 : Nat) : Int))) (
     bd (f74_i_ClippedRuns.l1 n n n1 l2 x3 i4 n5 l6 i7 i7) fun r8 =>
     let n9 : Nat := r8.1
     let l10 : List T := r8.2.1
     let x11 : Nat := r8.2.2.1
     let i12 : Int := r8.2.2.2.1
     let n13 : Nat := r8.2.2.2.2.1
     let l14 : List T := r8.2.2.2.2.2.1
     let i15 : Int := r8.2.2.2.2.2.2.1
     let i16 : Int := r8.2.2.2.2.2.2.2
     bd (f82_i_size n (IntKind.i64.wrap (i16 - i15))) fun r17 =>
     let i18 : Int := r17
     br (decide (i18 ≥ i12)) (
      gd (Nat.ble (n13 + 1) 2147483648) (
      let n19 : Nat := (n13 + 1)
      let l20 : List T := (l14 ++ (setN (reps 1 [(T.lst 0 [])]) 0 [(T.lst 2 (setN (setN (reps 2 [(T.int IntKind.i64 (0 : Int))]) 0 [(T.int IntKind.i64 i15)]) 1 [(T.int IntKind.i64 i18)]))]))
      let i21 : Int := (if ((IntKind.i64.wrap (i16 - (1 : Int))) > i15) then (IntKind.i64.wrap (i16 - (1 : Int))) else i15)
      f74_i_ClippedRuns.l0 n m n9 l10 x11 i12 n19 l20 (IntKind.i64.wrap (i21 + (1 : Int))))) (
      let i22 : Int := (if ((IntKind.i64.wrap (i16 - (1 : Int))) > i15) then (IntKind.i64.wrap (i16 - (1 : Int))) else i15)
      f74_i_ClippedRuns.l0 n m n9 l10 x11 i12 n13 l14 (IntKind.i64.wrap (i22 + (1 : Int))))) (
     some (n5, l6))
def f74_i_ClippedRuns : Nat → Nat → List T → Nat → Int → Option (Nat × List T × Bool)
  | 0, _, _, _, _ => none
  | n + 1, n1, l2, x3, i4 =>
    bd (f94_i_areSamples n n1 l2) fun r5 =>
    let b6 : Bool := r5
    br (!b6) (
     some (0, [], false)) (
     bd (f83_i_within n i4 (1 : Int) (256 : Int)) fun r7 =>
     let b8 : Bool := r7
     br (!b8) (
      some (0, [], false)) (
      bd (f74_i_ClippedRuns.l0 n n n1 l2 x3 i4 0 [] (0 : Int)) fun r9 =>
      let n10 : Nat := r9.1
      let l11 : List T := r9.2
      some (n10, l11, true)))
def sg_lfi : Sig (Nat × List T × Nat × Int) where
  pk := fun v => [.lst v.1 v.2.1, .flt v.2.2.1, .int v.2.2.2]
  up := fun ls => match ls with
    | [.lst a0 a1, .flt a2, .int a3] => some (a0, a1, a2, a3)
    | _ => none
  ok := by
    intro ls v h
    split at h
    · cases h; rfl
    · cases h

def sg_lfilii : Sig (Nat × List T × Nat × Int × Nat × List T × Int × Int) where
  pk := fun v => [.lst v.1 v.2.1, .flt v.2.2.1, .int v.2.2.2.1, .lst v.2.2.2.2.1 v.2.2.2.2.2.1, .int v.2.2.2.2.2.2.1, .int v.2.2.2.2.2.2.2]
  up := fun ls => match ls with
    | [.lst a0 a1, .flt a2, .int a3, .lst a4 a5, .int a6, .int a7] => some (a0, a1, a2, a3, a4, a5, a6, a7)
    | _ => none
  ok := by
    intro ls v h
    split at h
    · cases h; rfl
    · cases h

def sg_lfili : Sig (Nat × List T × Nat × Int × Nat × List T × Int) where
  pk := fun v => [.lst v.1 v.2.1, .flt v.2.2.1, .int v.2.2.2.1, .lst v.2.2.2.2.1 v.2.2.2.2.2.1, .int v.2.2.2.2.2.2]
  up := fun ls => match ls with
    | [.lst a0 a1, .flt a2, .int a3, .lst a4 a5, .int a6] => some (a0, a1, a2, a3, a4, a5, a6)
    | _ => none
  ok := by
    intro ls v h
    split at h
    · cases h; rfl
    · cases h

def f74_i_ClippedRuns.l1.P : AS := ⟨[(0, .val false [.sl .shr [.leaf]] [.lst 0 []] [] 0), (1, .val false [.leaf] [.flt .f32 0] [] 0), (2, .val false [.leaf] [.int .i64 0] [] 0), (8, .val false [.sl .own [.sl .own [.leaf]]] [.lst 0 []] [] 0), (9, .val false [.leaf] [.int .i64 0] [] 0), (10, .val false [.leaf] [.int .i64 0] [] 0)], 0⟩
def f74_i_ClippedRuns.l1.A : Alt (Nat × List T × Nat × Int × Nat × List T × Int × Int) := .one (.exit 2) ⟨[(0, .val false [.sl .shr [.leaf]] [.lst 0 []] [] 0), (1, .val false [.leaf] [.flt .f32 0] [] 0), (2, .val false [.leaf] [.int .i64 0] [] 0), (8, .val false [.sl .own [.sl .own [.leaf]]] [.lst 0 []] [] 0), (9, .val false [.leaf] [.int .i64 0] [] 0), (10, .val false [.leaf] [.int .i64 0] [] 0)], 0⟩ sg_lfilii
def f74_i_ClippedRuns.l1.F (n m : Nat) (v : Nat × List T × Nat × Int × Nat × List T × Int × Int) := f74_i_ClippedRuns.l1 n m v.1 v.2.1 v.2.2.1 v.2.2.2.1 v.2.2.2.2.1 v.2.2.2.2.2.1 v.2.2.2.2.2.2.1 v.2.2.2.2.2.2.2
def f74_i_ClippedRuns.l1.W (n : Nat) : LpW := .of 128 f74_i_ClippedRuns.l1.P sg_lfilii f74_i_ClippedRuns.l1.A (f74_i_ClippedRuns.l1.F n n)
def f74_i_ClippedRuns.l0.P : AS := ⟨[(0, .val false [.sl .shr [.leaf]] [.lst 0 []] [] 0), (1, .val false [.leaf] [.flt .f32 0] [] 0), (2, .val false [.leaf] [.int .i64 0] [] 0), (8, .val false [.sl .own [.sl .own [.leaf]]] [.lst 0 []] [] 0), (9, .val false [.leaf] [.int .i64 0] [] 0)], 0⟩
def f74_i_ClippedRuns.l0.A : Alt (Nat × List T) := .one (.exit 0) ⟨[(8, .val false [.sl .own [.sl .own [.leaf]]] [.lst 0 []] [] 0)], 0⟩ sg_l
def f74_i_ClippedRuns.l0.F (n m : Nat) (v : Nat × List T × Nat × Int × Nat × List T × Int) := f74_i_ClippedRuns.l0 n m v.1 v.2.1 v.2.2.1 v.2.2.2.1 v.2.2.2.2.1 v.2.2.2.2.2.1 v.2.2.2.2.2.2
def f74_i_ClippedRuns.l0.W (n : Nat) : LpW := .of 80 f74_i_ClippedRuns.l0.P sg_lfili f74_i_ClippedRuns.l0.A (f74_i_ClippedRuns.l0.F n n)
def f74_i_ClippedRuns.P : List Arg := [⟨.val, ⟨false, [.sl .shr [.leaf]], [.lst 0 []]⟩⟩, ⟨.val, ⟨false, [.leaf], [.flt .f32 0]⟩⟩, ⟨.val, ⟨false, [.leaf], [.int .i64 0]⟩⟩]
def f74_i_ClippedRuns.A : RAlt (Nat × List T × Bool) := .one ⟨[⟨false, [.sl .own [.sl .own [.leaf]]], [.lst 0 []]⟩, ⟨false, [.leaf], [.bool false]⟩], [none, none, none]⟩ sg_lb
def f74_i_ClippedRuns.F (n : Nat) (v : Nat × List T × Nat × Int) := f74_i_ClippedRuns n v.1 v.2.1 v.2.2.1 v.2.2.2
noncomputable def f74_i_ClippedRuns.O (n : Nat) : Orc := orcOf (E := E) [f94_i_areSamples.w, f127_i_absolute.w, f83_i_within.w, f82_i_size.w] [f74_i_ClippedRuns.l1.W n, f74_i_ClippedRuns.l0.W n] n
theorem f74_i_ClippedRuns.l1.ok (n : Nat) : LpOk (f74_i_ClippedRuns.O n) E (evalFn E n) n (keepAt 74) (.loop (loopAt c74 1)) :=
  lp_pure f74_i_ClippedRuns.l1.P sg_lfilii f74_i_ClippedRuns.l1.A (f74_i_ClippedRuns.l1.F n) (orcOf_cf _ _ n) (lpOk_of (bs := []) (by kernel_rfl) .nil) (fun _ => rfl) (fun _ _ => by kernel_rfl) (fun _ _ _ => by kernel_rfl)
theorem f74_i_ClippedRuns.l0.ok (n : Nat) : LpOk (f74_i_ClippedRuns.O n) E (evalFn E n) n (keepAt 74) (.loop (loopAt c74 0)) :=
  lp_pure f74_i_ClippedRuns.l0.P sg_lfili f74_i_ClippedRuns.l0.A (f74_i_ClippedRuns.l0.F n) (orcOf_cf _ _ n) (lpOk_of (bs := [loopAt c74 1]) (by kernel_rfl) (.cons (f74_i_ClippedRuns.l1.ok n) .nil)) (fun _ => rfl) (fun _ _ => by kernel_rfl) (fun _ _ _ => by kernel_rfl)
theorem f74_i_ClippedRuns.ok : ∀ n v x, f74_i_ClippedRuns.F n v = some x → evalFn E n 74 (flAs f74_i_ClippedRuns.P (sg_lfi.pk v)) = some (f74_i_ClippedRuns.A.enc x) :=
  fn_pure (modes := (fdAt 74).ms) (outs := (fdAt 74).os) (results := (fdAt 74).rs) f74_i_ClippedRuns.O (c := c74) (keep := keepAt 74) (by kernel_rfl) (fun n => orcOf_cf _ _ n) (fun n => lpOk_of (bs := [loopAt c74 0]) (by kernel_rfl) (.cons (f74_i_ClippedRuns.l0.ok n) .nil)) (fun _ => rfl) (fun _ _ => by kernel_rfl)
noncomputable def f74_i_ClippedRuns.w : FnW E := fnW 74 f74_i_ClippedRuns.P sg_lfi f74_i_ClippedRuns.A f74_i_ClippedRuns.F f74_i_ClippedRuns.ok

def f14_l_FnPeaks.l1 (n : Nat) : Nat → Nat → List T → Nat → Nat → Nat → List T → Nat → Nat → List T → Bool → Nat → List T → Int → Int → Option (Nat × List T × Nat × Nat × Nat × List T × Nat × Nat × List T × Bool × Nat × List T × Int)
  | 0, _, _, _, _, _, _, _, _, _, _, _, _, _, _ => none
  | m + 1, n1, l2, x3, x4, n5, l6, x7, n8, l9, b10, n11, l12, i13, i14 =>
    gd (decide (((0 : Int) ≤ i13) ∧ (i13 < ((n8 : Nat) : Int)))) (
    gd (okAt [CK.lst] l9 (Int.toNat i13)) (
    gd (okAt [CK.lst] l9 (Int.toNat i13)) (
    gd (decide (((0 : Int) ≤ (0 : Int)) ∧ ((0 : Int) < (((nAt l9 (Int.toNat i13)) : Nat) : Int)))) (
    gd ((okAt [CK.lst] l9 (Int.toNat i13)) && (okAt [(CK.int IntKind.i64)] (lAt l9 (Int.toNat i13)) 0)) (
    gd (decide (((0 : Int) ≤ i13) ∧ (i13 < ((n8 : Nat) : Int)))) (
    gd (okAt [CK.lst] l9 (Int.toNat i13)) (
    gd (okAt [CK.lst] l9 (Int.toNat i13)) (
    gd (decide (((0 : Int) ≤ (1 : Int)) ∧ ((1 : Int) < (((nAt l9 (Int.toNat i13)) : Nat) : Int)))) (
    gd ((okAt [CK.lst] l9 (Int.toNat i13)) && (okAt [(CK.int IntKind.i64)] (lAt l9 (Int.toNat i13)) 1)) (
    br (decide (i14 < (IntKind.i64.wrap ((iAt (lAt l9 (Int.toNat i13)) 0) + (iAt (lAt l9 (Int.toNat i13)) 1))))) (
     gd (decide (((0 : Int) ≤ i14) ∧ (i14 < ((n11 : Nat) : Int)))) (
     gd (Nat.ble ((Int.toNat i14) + 1) (List.length l12)) (
     let l15 : List T := (setN l12 (Int.toNat i14) [(T.bool true)])
     f14_l_FnPeaks.l1 n m n1 l2 x3 x4 n5 l6 x7 n8 l9 b10 n11 l15 i13 (IntKind.i64.wrap (i14 + (1 : Int)))))) (
     some (n1, l2, x3, x4, n5, l6, x7, n8, l9, b10, n11, l12, i13))))))))))))
def f14_l_FnPeaks.l0 (n : Nat) : Nat → Nat → List T → Nat → Nat → Nat → List T → Nat → Nat → List T → Bool → Nat → List T → Int → Int → Option ((Bool) ⊕ (Nat × List T × Nat × Nat × Nat × List T × Nat × Bool × Nat × List T))
  | 0, _, _, _, _, _, _, _, _, _, _, _, _, _, _ => none
  | m + 1, n1, l2, x3, x4, n5, l6, x7, n8, l9, b10, n11, l12, i13, i14 =>
    br (decide (i14 < ((n8 : Nat) : Int))) (
     gd (decide (((0 : Int) ≤ i14) ∧ (i14 < ((n8 : Nat) : Int)))) (
     gd (okAt [CK.lst] l9 (Int.toNat i14)) (
     gd (okAt [CK.lst] l9 (Int.toNat i14)) (
     br ((((nAt l9 (Int.toNat i14)) : Nat) : Int) != (2 : Int)) (
      some (Sum.inl false)) (
      gd (decide (((0 : Int) ≤ i14) ∧ (i14 < ((n8 : Nat) : Int)))) (
      gd (okAt [CK.lst] l9 (Int.toNat i14)) (
      gd (okAt [CK.lst] l9 (Int.toNat i14)) (
      gd (decide (((0 : Int) ≤ (0 : Int)) ∧ ((0 : Int) < (((nAt l9 (Int.toNat i14)) : Nat) : Int)))) (
      gd ((okAt [CK.lst] l9 (Int.toNat i14)) && (okAt [(CK.int IntKind.i64)] (lAt l9 (Int.toNat i14)) 0)) (
      br (decide ((iAt (lAt l9 (Int.toNat i14)) 0) ≤ i13)) (
       some (Sum.inl false)) (
       gd (decide (((0 : Int) ≤ i14) ∧ (i14 < ((n8 : Nat) : Int)))) (
       gd (okAt [CK.lst] l9 (Int.toNat i14)) (
       gd (okAt [CK.lst] l9 (Int.toNat i14)) (
       gd (decide (((0 : Int) ≤ (1 : Int)) ∧ ((1 : Int) < (((nAt l9 (Int.toNat i14)) : Nat) : Int)))) (
       gd ((okAt [CK.lst] l9 (Int.toNat i14)) && (okAt [(CK.int IntKind.i64)] (lAt l9 (Int.toNat i14)) 1)) (
       br (decide ((iAt (lAt l9 (Int.toNat i14)) 1) < (1 : Int))) (
        some (Sum.inl false)) (
        gd (decide (((0 : Int) ≤ i14) ∧ (i14 < ((n8 : Nat) : Int)))) (
        gd (okAt [CK.lst] l9 (Int.toNat i14)) (
        gd (okAt [CK.lst] l9 (Int.toNat i14)) (
        gd (decide (((0 : Int) ≤ (0 : Int)) ∧ ((0 : Int) < (((nAt l9 (Int.toNat i14)) : Nat) : Int)))) (
        gd ((okAt [CK.lst] l9 (Int.toNat i14)) && (okAt [(CK.int IntKind.i64)] (lAt l9 (Int.toNat i14)) 0)) (
        gd (decide (((0 : Int) ≤ i14) ∧ (i14 < ((n8 : Nat) : Int)))) (
        gd (okAt [CK.lst] l9 (Int.toNat i14)) (
        gd (okAt [CK.lst] l9 (Int.toNat i14)) (
        gd (decide (((0 : Int) ≤ (1 : Int)) ∧ ((1 : Int) < (((nAt l9 (Int.toNat i14)) : Nat) : Int)))) (
        gd ((okAt [CK.lst] l9 (Int.toNat i14)) && (okAt [(CK.int IntKind.i64)] (lAt l9 (Int.toNat i14)) 1)) (
        br (decide ((IntKind.i64.wrap ((iAt (lAt l9 (Int.toNat i14)) 0) + (iAt (lAt l9 (Int.toNat i14)) 1))) > ((n1 : Nat) : Int))) (
         some (Sum.inl false)) (
         gd (decide (((0 : Int) ≤ i14) ∧ (i14 < ((n8 : Nat) : Int)))) (
         gd (okAt [CK.lst] l9 (Int.toNat i14)) (
         gd (okAt [CK.lst] l9 (Int.toNat i14)) (
         gd (decide (((0 : Int) ≤ (0 : Int)) ∧ ((0 : Int) < (((nAt l9 (Int.toNat i14)) : Nat) : Int)))) (
         gd ((okAt [CK.lst] l9 (Int.toNat i14)) && (okAt [(CK.int IntKind.i64)] (lAt l9 (Int.toNat i14)) 0)) (
         bd (f14_l_FnPeaks.l1 n n n1 l2 x3 x4 n5 l6 x7 n8 l9 b10 n11 l12 i14 (iAt (lAt l9 (Int.toNat i14)) 0)) fun r15 =>
         let n16 : Nat := r15.1
         let l17 : List T := r15.2.1
         let x18 : Nat := r15.2.2.1
         let x19 : Nat := r15.2.2.2.1
         let n20 : Nat := r15.2.2.2.2.1
         let l21 : List T := r15.2.2.2.2.2.1
         let x22 : Nat := r15.2.2.2.2.2.2.1
         let n23 : Nat := r15.2.2.2.2.2.2.2.1
         let l24 : List T := r15.2.2.2.2.2.2.2.2.1
         let b25 : Bool := r15.2.2.2.2.2.2.2.2.2.1
         let n26 : Nat := r15.2.2.2.2.2.2.2.2.2.2.1
         let l27 : List T := r15.2.2.2.2.2.2.2.2.2.2.2.1
         let i28 : Int := r15.2.2.2.2.2.2.2.2.2.2.2.2
         gd (decide (((0 : Int) ≤ i28) ∧ (i28 < ((n23 : Nat) : Int)))) (
         gd (okAt [CK.lst] l24 (Int.toNat i28)) (
         gd (okAt [CK.lst] l24 (Int.toNat i28)) (
         gd (decide (((0 : Int) ≤ (0 : Int)) ∧ ((0 : Int) < (((nAt l24 (Int.toNat i28)) : Nat) : Int)))) (
         gd ((okAt [CK.lst] l24 (Int.toNat i28)) && (okAt [(CK.int IntKind.i64)] (lAt l24 (Int.toNat i28)) 0)) (
         gd (decide (((0 : Int) ≤ i28) ∧ (i28 < ((n23 : Nat) : Int)))) (
         gd (okAt [CK.lst] l24 (Int.toNat i28)) (
         gd (okAt [CK.lst] l24 (Int.toNat i28)) (
         gd (decide (((0 : Int) ≤ (1 : Int)) ∧ ((1 : Int) < (((nAt l24 (Int.toNat i28)) : Nat) : Int)))) (
         gd ((okAt [CK.lst] l24 (Int.toNat i28)) && (okAt [(CK.int IntKind.i64)] (lAt l24 (Int.toNat i28)) 1)) (
         let i29 : Int := (IntKind.i64.wrap ((iAt (lAt l24 (Int.toNat i28)) 0) + (iAt (lAt l24 (Int.toNat i28)) 1)))
         f14_l_FnPeaks.l0 n m n16 l17 x18 x19 n20 l21 x22 n23 l24 b25 n26 l27 i29 (IntKind.i64.wrap (i28 + (1 : Int)))))))))))))))))))))))))))))))))))))))))))))) (
     some (Sum.inr (n1, l2, x3, x4, n5, l6, x7, b10, n11, l12)))
def f14_l_FnPeaks.l2 (n : Nat) : Nat → Nat → List T → Nat → Nat → Nat → List T → Nat → Bool → Nat → List T → Nat → Int → Option ((Bool) ⊕ (Bool))
  | 0, _, _, _, _, _, _, _, _, _, _, _, _ => none
  | m + 1, n1, l2, x3, x4, n5, l6, x7, b8, n9, l10, x11, i12 =>
    br (decide (i12 < ((n1 : Nat) : Int))) (
     gd (decide (((0 : Int) ≤ i12) ∧ (i12 < ((n1 : Nat) : Int)))) (
     gd (okAt [(CK.flt FloatKind.f32)] l2 (Int.toNat i12)) (
     gd (decide (((0 : Int) ≤ i12) ∧ (i12 < ((n1 : Nat) : Int)))) (
     gd (okAt [(CK.flt FloatKind.f32)] l2 (Int.toNat i12)) (
     let x13 : Nat := (fmx true FloatKind.f32 (fAt l2 (Int.toNat i12)) (negF FloatKind.f32 (fAt l2 (Int.toNat i12))))
     br (fgt FloatKind.f32 x13 x3) (
      some (Sum.inl false)) (
      gd (decide (((0 : Int) ≤ i12) ∧ (i12 < ((n5 : Nat) : Int)))) (
      gd (okAt [(CK.flt FloatKind.f32)] l6 (Int.toNat i12)) (
      br (flt FloatKind.f32 (fAt l6 (Int.toNat i12)) x13) (
       some (Sum.inl false)) (
       gd (decide (((0 : Int) ≤ i12) ∧ (i12 < ((n5 : Nat) : Int)))) (
       gd (okAt [(CK.flt FloatKind.f32)] l6 (Int.toNat i12)) (
       br (flt FloatKind.f32 (fAt l6 (Int.toNat i12)) (fmul FloatKind.f32 x11 x4)) (
        some (Sum.inl false)) (
        gd (decide (((0 : Int) ≤ i12) ∧ (i12 < ((n9 : Nat) : Int)))) (
        gd (okAt [CK.bool] l10 (Int.toNat i12)) (
        br (!((bAt l10 (Int.toNat i12)) == (fge FloatKind.f32 x13 x7))) (
         some (Sum.inl false)) (
         br b8 (
          gd (decide (((0 : Int) ≤ i12) ∧ (i12 < ((n5 : Nat) : Int)))) (
          gd (okAt [(CK.flt FloatKind.f32)] l6 (Int.toNat i12)) (
          let x14 : Nat := (fAt l6 (Int.toNat i12))
          f14_l_FnPeaks.l2 n m n1 l2 x3 x4 n5 l6 x7 true n9 l10 x14 (IntKind.i64.wrap (i12 + (1 : Int)))))) (
          let b15 : Bool := (feq FloatKind.f32 x13 x3)
          gd (decide (((0 : Int) ≤ i12) ∧ (i12 < ((n5 : Nat) : Int)))) (
          gd (okAt [(CK.flt FloatKind.f32)] l6 (Int.toNat i12)) (
          let x16 : Nat := (fAt l6 (Int.toNat i12))
          f14_l_FnPeaks.l2 n m n1 l2 x3 x4 n5 l6 x7 b15 n9 l10 x16 (IntKind.i64.wrap (i12 + (1 : Int))))))))))))))))))))) (
     some (Sum.inr b8))
def f14_l_FnPeaks : Nat → Nat → List T → Nat → List T → Option (Bool)
  | 0, _, _, _, _ => none
  | n + 1, n1, l2, n3, l4 =>
    bd (f27_l_r8Long n n1 l2 n3 l4) fun r5 =>
    let b6 : Bool := r5
    br b6 (
     some true) (
     bd (f28_l_r8At n n1 l2 (40 : Int) (14 : Int)) fun r7 =>
     let i8 : Int := r7
     bd (f44_s_R8Plain n n3 l4 i8) fun r9 =>
     let n10 : Nat := r9.1
     let l11 : List T := r9.2
     bd (f56_i_PeakOf n n10 l11) fun r12 =>
     let x13 : Nat := r12.1
     let b14 : Bool := r12.2
     bd (f72_i_PeakBetween n n10 l11) fun r15 =>
     let x16 : Nat := r15.1
     let b17 : Bool := r15.2
     bd (f28_l_r8At n n1 l2 (41 : Int) (17 : Int)) fun r18 =>
     let i19 : Int := r18
     let x20 : Nat := (fdiv FloatKind.f32 (FloatKind.nearest FloatKind.f32 i19) 1098907648)
     bd (f73_i_HoldPeaks n n10 l11 0 x20) fun r21 =>
     let n22 : Nat := r21.1
     let l23 : List T := r21.2.1
     let b24 : Bool := r21.2.2
     bd (f28_l_r8At n n1 l2 (42 : Int) (64 : Int)) fun r25 =>
     let i26 : Int := r25
     let x27 : Nat := (fdiv FloatKind.f32 (FloatKind.nearest FloatKind.f32 i26) 1098907648)
     bd (f74_i_ClippedRuns n n10 l11 x27 (1 : Int)) fun r28 =>
     let n29 : Nat := r28.1
     let l30 : List T := r28.2.1
     let b31 : Bool := r28.2.2
     br (!b14) (
      some false) (
      br (!b17) (
       some false) (
       br (!b24) (
        some false) (
        br (!b31) (
         some false) (
         br (flt FloatKind.f32 x16 x13) (
          some false) (
          br (((n22 : Nat) : Int) != ((n10 : Nat) : Int)) (
           some false) (
           let b32 : Bool := (((n10 : Nat) : Int) == (0 : Int))
           gd (decide (((0 : Int) ≤ ((n10 : Nat) : Int)) ∧ (((n10 : Nat) : Int) ≤ (2147483648 : Int)))) (
           let l33 : List T := (reps n10 [(T.bool false)])
           bd (f14_l_FnPeaks.l0 n n n10 l11 x13 x20 n22 l23 x27 n29 l30 b32 n10 l33 (-1 : Int) (0 : Int)) fun r34 =>
           sm r34 (fun u35 =>
            let b36 : Bool := u35
            some b36) (fun u37 =>
            let n38 : Nat := u37.1
            let l39 : List T := u37.2.1
            let x40 : Nat := u37.2.2.1
            let x41 : Nat := u37.2.2.2.1
            let n42 : Nat := u37.2.2.2.2.1
            let l43 : List T := u37.2.2.2.2.2.1
            let x44 : Nat := u37.2.2.2.2.2.2.1
            let b45 : Bool := u37.2.2.2.2.2.2.2.1
            let n46 : Nat := u37.2.2.2.2.2.2.2.2.1
            let l47 : List T := u37.2.2.2.2.2.2.2.2.2
            bd (f14_l_FnPeaks.l2 n n n38 l39 x40 x41 n42 l43 x44 b45 n46 l47 0 (0 : Int)) fun r48 =>
            sm r48 (fun u49 =>
             let b50 : Bool := u49
             some b50) (fun u51 =>
             let b52 : Bool := u51
             some b52))))))))))
def sg_lfflflblii : Sig (Nat × List T × Nat × Nat × Nat × List T × Nat × Nat × List T × Bool × Nat × List T × Int × Int) where
  pk := fun v => [.lst v.1 v.2.1, .flt v.2.2.1, .flt v.2.2.2.1, .lst v.2.2.2.2.1 v.2.2.2.2.2.1, .flt v.2.2.2.2.2.2.1, .lst v.2.2.2.2.2.2.2.1 v.2.2.2.2.2.2.2.2.1, .bool v.2.2.2.2.2.2.2.2.2.1, .lst v.2.2.2.2.2.2.2.2.2.2.1 v.2.2.2.2.2.2.2.2.2.2.2.1, .int v.2.2.2.2.2.2.2.2.2.2.2.2.1, .int v.2.2.2.2.2.2.2.2.2.2.2.2.2]
  up := fun ls => match ls with
    | [.lst a0 a1, .flt a2, .flt a3, .lst a4 a5, .flt a6, .lst a7 a8, .bool a9, .lst a10 a11, .int a12, .int a13] => some (a0, a1, a2, a3, a4, a5, a6, a7, a8, a9, a10, a11, a12, a13)
    | _ => none
  ok := by
    intro ls v h
    split at h
    · cases h; rfl
    · cases h

def sg_lfflflbli : Sig (Nat × List T × Nat × Nat × Nat × List T × Nat × Nat × List T × Bool × Nat × List T × Int) where
  pk := fun v => [.lst v.1 v.2.1, .flt v.2.2.1, .flt v.2.2.2.1, .lst v.2.2.2.2.1 v.2.2.2.2.2.1, .flt v.2.2.2.2.2.2.1, .lst v.2.2.2.2.2.2.2.1 v.2.2.2.2.2.2.2.2.1, .bool v.2.2.2.2.2.2.2.2.2.1, .lst v.2.2.2.2.2.2.2.2.2.2.1 v.2.2.2.2.2.2.2.2.2.2.2.1, .int v.2.2.2.2.2.2.2.2.2.2.2.2]
  up := fun ls => match ls with
    | [.lst a0 a1, .flt a2, .flt a3, .lst a4 a5, .flt a6, .lst a7 a8, .bool a9, .lst a10 a11, .int a12] => some (a0, a1, a2, a3, a4, a5, a6, a7, a8, a9, a10, a11, a12)
    | _ => none
  ok := by
    intro ls v h
    split at h
    · cases h; rfl
    · cases h

def sg_lfflfbl : Sig (Nat × List T × Nat × Nat × Nat × List T × Nat × Bool × Nat × List T) where
  pk := fun v => [.lst v.1 v.2.1, .flt v.2.2.1, .flt v.2.2.2.1, .lst v.2.2.2.2.1 v.2.2.2.2.2.1, .flt v.2.2.2.2.2.2.1, .bool v.2.2.2.2.2.2.2.1, .lst v.2.2.2.2.2.2.2.2.1 v.2.2.2.2.2.2.2.2.2]
  up := fun ls => match ls with
    | [.lst a0 a1, .flt a2, .flt a3, .lst a4 a5, .flt a6, .bool a7, .lst a8 a9] => some (a0, a1, a2, a3, a4, a5, a6, a7, a8, a9)
    | _ => none
  ok := by
    intro ls v h
    split at h
    · cases h; rfl
    · cases h

def sg_lfflfblfi : Sig (Nat × List T × Nat × Nat × Nat × List T × Nat × Bool × Nat × List T × Nat × Int) where
  pk := fun v => [.lst v.1 v.2.1, .flt v.2.2.1, .flt v.2.2.2.1, .lst v.2.2.2.2.1 v.2.2.2.2.2.1, .flt v.2.2.2.2.2.2.1, .bool v.2.2.2.2.2.2.2.1, .lst v.2.2.2.2.2.2.2.2.1 v.2.2.2.2.2.2.2.2.2.1, .flt v.2.2.2.2.2.2.2.2.2.2.1, .int v.2.2.2.2.2.2.2.2.2.2.2]
  up := fun ls => match ls with
    | [.lst a0 a1, .flt a2, .flt a3, .lst a4 a5, .flt a6, .bool a7, .lst a8 a9, .flt a10, .int a11] => some (a0, a1, a2, a3, a4, a5, a6, a7, a8, a9, a10, a11)
    | _ => none
  ok := by
    intro ls v h
    split at h
    · cases h; rfl
    · cases h

def f14_l_FnPeaks.l1.P : AS := ⟨[(5, .val false [.sl .own [.leaf]] [.lst 0 []] [] 0), (6, .val false [.leaf] [.flt .f32 0] [] 0), (10, .val false [.leaf] [.flt .f32 0] [] 0), (11, .val false [.sl .own [.leaf]] [.lst 0 []] [] 0), (13, .val false [.leaf] [.flt .f32 0] [] 0), (14, .val false [.sl .own [.sl .own [.leaf]]] [.lst 0 []] [] 0), (16, .val false [.leaf] [.bool false] [] 0), (17, .val false [.sl .own [.leaf]] [.lst 0 []] [] 0), (19, .val false [.leaf] [.int .i64 0] [] 0), (20, .val false [.leaf] [.int .i64 0] [] 0)], 0⟩
def f14_l_FnPeaks.l1.A : Alt (Nat × List T × Nat × Nat × Nat × List T × Nat × Nat × List T × Bool × Nat × List T × Int) := .one (.exit 2) ⟨[(5, .val false [.sl .own [.leaf]] [.lst 0 []] [] 0), (6, .val false [.leaf] [.flt .f32 0] [] 0), (10, .val false [.leaf] [.flt .f32 0] [] 0), (11, .val false [.sl .own [.leaf]] [.lst 0 []] [] 0), (13, .val false [.leaf] [.flt .f32 0] [] 0), (14, .val false [.sl .own [.sl .own [.leaf]]] [.lst 0 []] [] 0), (16, .val false [.leaf] [.bool false] [] 0), (17, .val false [.sl .own [.leaf]] [.lst 0 []] [] 0), (19, .val false [.leaf] [.int .i64 0] [] 0)], 0⟩ sg_lfflflbli
def f14_l_FnPeaks.l1.F (n m : Nat) (v : Nat × List T × Nat × Nat × Nat × List T × Nat × Nat × List T × Bool × Nat × List T × Int × Int) := f14_l_FnPeaks.l1 n m v.1 v.2.1 v.2.2.1 v.2.2.2.1 v.2.2.2.2.1 v.2.2.2.2.2.1 v.2.2.2.2.2.2.1 v.2.2.2.2.2.2.2.1 v.2.2.2.2.2.2.2.2.1 v.2.2.2.2.2.2.2.2.2.1 v.2.2.2.2.2.2.2.2.2.2.1 v.2.2.2.2.2.2.2.2.2.2.2.1 v.2.2.2.2.2.2.2.2.2.2.2.2.1 v.2.2.2.2.2.2.2.2.2.2.2.2.2
def f14_l_FnPeaks.l1.W (n : Nat) : LpW := .of 336 f14_l_FnPeaks.l1.P sg_lfflflblii f14_l_FnPeaks.l1.A (f14_l_FnPeaks.l1.F n n)
def f14_l_FnPeaks.l0.P : AS := ⟨[(5, .val false [.sl .own [.leaf]] [.lst 0 []] [] 0), (6, .val false [.leaf] [.flt .f32 0] [] 0), (10, .val false [.leaf] [.flt .f32 0] [] 0), (11, .val false [.sl .own [.leaf]] [.lst 0 []] [] 0), (13, .val false [.leaf] [.flt .f32 0] [] 0), (14, .val false [.sl .own [.sl .own [.leaf]]] [.lst 0 []] [] 0), (16, .val false [.leaf] [.bool false] [] 0), (17, .val false [.sl .own [.leaf]] [.lst 0 []] [] 0), (18, .val false [.leaf] [.int .i64 0] [] 0), (19, .val false [.leaf] [.int .i64 0] [] 0)], 0⟩
def f14_l_FnPeaks.l0.A : Alt ((Bool) ⊕ (Nat × List T × Nat × Nat × Nat × List T × Nat × Bool × Nat × List T)) := .or (.one .ret ⟨[(4, .val false [.leaf] [.bool false] [] 0), (5, .dead), (6, .dead), (10, .dead), (11, .dead), (13, .dead), (16, .dead), (17, .dead)], 0⟩ sg_b) (.one (.exit 0) ⟨[(4, .dead), (5, .val false [.sl .own [.leaf]] [.lst 0 []] [] 0), (6, .val false [.leaf] [.flt .f32 0] [] 0), (10, .val false [.leaf] [.flt .f32 0] [] 0), (11, .val false [.sl .own [.leaf]] [.lst 0 []] [] 0), (13, .val false [.leaf] [.flt .f32 0] [] 0), (16, .val false [.leaf] [.bool false] [] 0), (17, .val false [.sl .own [.leaf]] [.lst 0 []] [] 0)], 0⟩ sg_lfflfbl)
def f14_l_FnPeaks.l0.F (n m : Nat) (v : Nat × List T × Nat × Nat × Nat × List T × Nat × Nat × List T × Bool × Nat × List T × Int × Int) := f14_l_FnPeaks.l0 n m v.1 v.2.1 v.2.2.1 v.2.2.2.1 v.2.2.2.2.1 v.2.2.2.2.2.1 v.2.2.2.2.2.2.1 v.2.2.2.2.2.2.2.1 v.2.2.2.2.2.2.2.2.1 v.2.2.2.2.2.2.2.2.2.1 v.2.2.2.2.2.2.2.2.2.2.1 v.2.2.2.2.2.2.2.2.2.2.2.1 v.2.2.2.2.2.2.2.2.2.2.2.2.1 v.2.2.2.2.2.2.2.2.2.2.2.2.2
def f14_l_FnPeaks.l0.W (n : Nat) : LpW := .of 256 f14_l_FnPeaks.l0.P sg_lfflflblii f14_l_FnPeaks.l0.A (f14_l_FnPeaks.l0.F n n)
def f14_l_FnPeaks.l2.P : AS := ⟨[(5, .val false [.sl .own [.leaf]] [.lst 0 []] [] 0), (6, .val false [.leaf] [.flt .f32 0] [] 0), (10, .val false [.leaf] [.flt .f32 0] [] 0), (11, .val false [.sl .own [.leaf]] [.lst 0 []] [] 0), (13, .val false [.leaf] [.flt .f32 0] [] 0), (16, .val false [.leaf] [.bool false] [] 0), (17, .val false [.sl .own [.leaf]] [.lst 0 []] [] 0), (21, .val false [.leaf] [.flt .f32 0] [] 0), (22, .val false [.leaf] [.int .i64 0] [] 0)], 0⟩
def f14_l_FnPeaks.l2.A : Alt ((Bool) ⊕ (Bool)) := .or (.one .ret ⟨[(4, .val false [.leaf] [.bool false] [] 0), (16, .dead)], 0⟩ sg_b) (.one (.exit 4) ⟨[(4, .dead), (16, .val false [.leaf] [.bool false] [] 0)], 0⟩ sg_b)
def f14_l_FnPeaks.l2.F (n m : Nat) (v : Nat × List T × Nat × Nat × Nat × List T × Nat × Bool × Nat × List T × Nat × Int) := f14_l_FnPeaks.l2 n m v.1 v.2.1 v.2.2.1 v.2.2.2.1 v.2.2.2.2.1 v.2.2.2.2.2.1 v.2.2.2.2.2.2.1 v.2.2.2.2.2.2.2.1 v.2.2.2.2.2.2.2.2.1 v.2.2.2.2.2.2.2.2.2.1 v.2.2.2.2.2.2.2.2.2.2.1 v.2.2.2.2.2.2.2.2.2.2.2
def f14_l_FnPeaks.l2.W (n : Nat) : LpW := .of 432 f14_l_FnPeaks.l2.P sg_lfflfblfi f14_l_FnPeaks.l2.A (f14_l_FnPeaks.l2.F n n)
def f14_l_FnPeaks.P : List Arg := [⟨.val, ⟨false, [.sl .shr [.leaf]], [.lst 0 []]⟩⟩, ⟨.val, ⟨false, [.sl .shr [.leaf]], [.lst 0 []]⟩⟩]
def f14_l_FnPeaks.A : RAlt (Bool) := .one ⟨[⟨false, [.leaf], [.bool false]⟩], [none, none]⟩ sg_b
def f14_l_FnPeaks.F (n : Nat) (v : Nat × List T × Nat × List T) := f14_l_FnPeaks n v.1 v.2.1 v.2.2.1 v.2.2.2
noncomputable def f14_l_FnPeaks.O (n : Nat) : Orc := orcOf (E := E) [f27_l_r8Long.w, f28_l_r8At.w, f44_s_R8Plain.w, f56_i_PeakOf.w, f72_i_PeakBetween.w, f73_i_HoldPeaks.w, f74_i_ClippedRuns.w] [f14_l_FnPeaks.l1.W n, f14_l_FnPeaks.l0.W n, f14_l_FnPeaks.l2.W n] n
theorem f14_l_FnPeaks.l1.ok (n : Nat) : LpOk (f14_l_FnPeaks.O n) E (evalFn E n) n (keepAt 14) (.loop (loopAt c14 1)) :=
  lp_pure f14_l_FnPeaks.l1.P sg_lfflflblii f14_l_FnPeaks.l1.A (f14_l_FnPeaks.l1.F n) (orcOf_cf _ _ n) (lpOk_of (bs := []) (by kernel_rfl) .nil) (fun _ => rfl) (fun _ _ => by kernel_rfl) (fun _ _ _ => by kernel_rfl)
theorem f14_l_FnPeaks.l0.ok (n : Nat) : LpOk (f14_l_FnPeaks.O n) E (evalFn E n) n (keepAt 14) (.loop (loopAt c14 0)) :=
  lp_pure f14_l_FnPeaks.l0.P sg_lfflflblii f14_l_FnPeaks.l0.A (f14_l_FnPeaks.l0.F n) (orcOf_cf _ _ n) (lpOk_of (bs := [loopAt c14 1]) (by kernel_rfl) (.cons (f14_l_FnPeaks.l1.ok n) .nil)) (fun _ => rfl) (fun _ _ => by kernel_rfl) (fun _ _ _ => by kernel_rfl)
theorem f14_l_FnPeaks.l2.ok (n : Nat) : LpOk (f14_l_FnPeaks.O n) E (evalFn E n) n (keepAt 14) (.loop (loopAt c14 2)) :=
  lp_pure f14_l_FnPeaks.l2.P sg_lfflfblfi f14_l_FnPeaks.l2.A (f14_l_FnPeaks.l2.F n) (orcOf_cf _ _ n) (lpOk_of (bs := []) (by kernel_rfl) .nil) (fun _ => rfl) (fun _ _ => by kernel_rfl) (fun _ _ _ => by kernel_rfl)
theorem f14_l_FnPeaks.ok : ∀ n v x, f14_l_FnPeaks.F n v = some x → evalFn E n 14 (flAs f14_l_FnPeaks.P (sg_ll.pk v)) = some (f14_l_FnPeaks.A.enc x) :=
  fn_pure (modes := (fdAt 14).ms) (outs := (fdAt 14).os) (results := (fdAt 14).rs) f14_l_FnPeaks.O (c := c14) (keep := keepAt 14) (by kernel_rfl) (fun n => orcOf_cf _ _ n) (fun n => lpOk_of (bs := [loopAt c14 0, loopAt c14 2]) (by kernel_rfl) (.cons (f14_l_FnPeaks.l0.ok n) (.cons (f14_l_FnPeaks.l2.ok n) .nil))) (fun _ => rfl) (fun _ _ => by kernel_rfl)
noncomputable def f14_l_FnPeaks.w : FnW E := fnW 14 f14_l_FnPeaks.P sg_ll f14_l_FnPeaks.A f14_l_FnPeaks.F f14_l_FnPeaks.ok
end Go.Proofs.Ytdejjalkfekjiaa.D
end
section
/- FnPeaks, in plain Lean. -/
namespace Go.Proofs.Ytdejjalkfekjiaa.D
open Go Go.Desk
set_option linter.unusedVariables false
theorem s_from (n l : Nat) (c : List T) : f75_s_l00From (n + 1) l c = some (l, c, 0, 0) := by rw [f75_s_l00From]
theorem s_next (n : Nat) {bs : List Int} (hb : Bytes bs) {a : Int} (h0 : 0 ≤ a) (h1 : a ≤ 1125899906842624) (sd : Int) :
    ∃ r sd', (0 ≤ r ∧ r ≤ 255) ∧ f128_s_l00Srcnext (n + 1) bs.length (its .u8 bs) a sd = some (r, bs.length, its .u8 bs, a + 1, sd') := by
  rw [f128_s_l00Srcnext]
  rw [show IntKind.i64.wrap (a + 1) = a + 1 by rw [wrap64] <;> omega]
  cases h : decide (a < (bs.length : Int))
  · simp only [br_f]
    cases decide (a + 1 ≤ (bs.length : Int))
    · exact ⟨_, _, and255 _, rfl⟩
    · exact ⟨0, _, by omega, rfl⟩
  · simp only [decide_eq_true_eq] at h
    obtain ⟨i, rfl⟩ := Int.eq_ofNat_of_zero_le h0
    have hi : i < bs.length := by omega
    have hr := hb (bs[i]) (List.getElem_mem _)
    simp only [br_t, in_dec hi, Int.toNat_natCast, okAt_its hi, Bool.and_self, gd_t, iAt_its]
    rw [show bs.getD i 0 = bs[i] by simp [List.getD, hi], show IntKind.i64.wrap bs[i] = bs[i] by rw [wrap64] <;> omega]
    cases decide ((i : Int) + 1 ≤ (bs.length : Int))
    · exact ⟨_, _, and255 _, rfl⟩
    · exact ⟨_, _, hr, rfl⟩
theorem s_pick (n : Nat) {bs : List Int} (hb : Bytes bs) {a : Int} (h0 : 0 ≤ a) (h1 : a ≤ 1125899906842622) (sd k : Int) :
    ∃ r a' sd', (0 ≤ r ∧ (1 < k → r < k) ∧ (k ≤ 1 → r = 0)) ∧ (a ≤ a' ∧ a' ≤ a + 2) ∧ f76_s_l00Srcpick (n + 2) bs.length (its .u8 bs) a sd k = some (r, bs.length, its .u8 bs, a', sd') := by
  rw [f76_s_l00Srcpick]
  by_cases hk : k ≤ 1
  · rw [decide_eq_true hk]; exact ⟨0, a, sd, by omega, by omega, rfl⟩
  rw [decide_eq_false hk]
  obtain ⟨r, s1, hr, e1⟩ := s_next n hb h0 (by omega) sd
  simp only [br_f, e1, bd_s]
  have hk0 : (!decide (k = 0)) = true := by simp; omega
  by_cases hk2 : k > 200
  · rw [decide_eq_true hk2]
    obtain ⟨r', s2, hr', e2⟩ := s_next n hb (a := a + 1) (by omega) (by omega) s1
    simp only [br_t, e2, bd_s, hk0, gd_t]
    rw [show IntKind.i64.wrap (r * 256) = r * 256 by rw [wrap64] <;> omega, show IntKind.i64.wrap (r * 256 + r') = r * 256 + r' by rw [wrap64] <;> omega]
    refine ⟨_, _, _, ?_, ?_, rfl⟩
    · rw [Int.tmod_eq_emod_of_nonneg (by omega)]
      have := Int.emod_nonneg (r * 256 + r') (show k ≠ 0 by omega)
      have := Int.emod_lt_of_pos (r * 256 + r') (show 0 < k by omega)
      omega
    · omega
  · rw [decide_eq_false hk2]
    simp only [br_f, hk0, gd_t]
    refine ⟨_, _, _, ?_, ?_, rfl⟩
    · rw [Int.tmod_eq_emod_of_nonneg (by omega)]
      have := Int.emod_nonneg r (show k ≠ 0 by omega)
      have := Int.emod_lt_of_pos r (show 0 < k by omega)
      omega
    · omega
theorem s_one (n : Nat) {bs : List Int} (hb : Bytes bs) {a : Int} (h0 : 0 ≤ a) (h1 : a ≤ 1125899906842622) (sd k : Int) :
    ∃ r a' sd', (a ≤ a' ∧ a' ≤ a + 2) ∧ f129_s_l00Srcone (n + 3) bs.length (its .u8 bs) a sd k = some (r, bs.length, its .u8 bs, a', sd') := by
  obtain ⟨r, a', s', -, ha, e⟩ := s_pick n hb h0 h1 sd k
  rw [f129_s_l00Srcone, e]
  exact ⟨_, _, _, ha, rfl⟩
theorem s_plain (n : Nat) {bs : List Int} (hb : Bytes bs) {a : Int} (h0 : 0 ≤ a) (h1 : a ≤ 1125899906842620) (sd : Int) :
    ∃ x a' sd', Plain x ∧ (a ≤ a' ∧ a' ≤ a + 4) ∧ f77_s_l01DrawPlain (n + 4) bs.length (its .u8 bs) a sd = some (x, bs.length, its .u8 bs, a', sd') := by
  obtain ⟨r, a1, s1, hr, ha, e⟩ := s_pick (n + 1) hb h0 (by omega) sd 129
  obtain ⟨b, a2, s2, ha2, e2⟩ := s_one n hb (a := a1) (by omega) (by omega) s1 4
  rw [f77_s_l01DrawPlain, e]
  simp only [bd_s, e2]
  rw [show IntKind.i64.wrap (r - 64) = r - 64 by rw [wrap64] <;> omega]
  cases b
  · exact ⟨_, a2, s2, ⟨r - 64, by omega, .inr rfl⟩, by omega, rfl⟩
  · exact ⟨_, a2, s2, ⟨r - 64, by omega, .inl rfl⟩, by omega, rfl⟩
theorem s_r8plain_loop (n : Nat) {bs : List Int} (hb : Bytes bs) (k : Nat) : ∀ (j m : Nat) (a sd : Int) (acc : List Nat), 0 ≤ a → a + 4 * (j : Int) ≤ 1125899906842000 → k = acc.length + j → k ≤ 1000 → j < m → (∀ x ∈ acc, Plain x) →
    ∃ ys, ys.length = k ∧ (∀ x ∈ ys, Plain x) ∧
      (∃ u, f44_s_R8Plain.l0 (n + 4) m (k : Int) bs.length (its .u8 bs) a sd acc.length (fls .f32 acc) (acc.length : Int) = some u ∧ u = (ys.length, fls .f32 ys)) := by
  intro j
  induction j with
  | zero =>
    intro m a sd acc h0 h1 hl hk hm hw
    obtain ⟨m, rfl⟩ : ∃ k, m = k + 1 := ⟨m - 1, by omega⟩
    rw [f44_s_R8Plain.l0, decide_eq_false (show ¬ ((acc.length : Int) < (k : Int)) by omega)]
    exact ⟨acc, by omega, hw, _, rfl, rfl⟩
  | succ j ih =>
    intro m a sd acc h0 h1 hl hk hm hw
    obtain ⟨m, rfl⟩ : ∃ k, m = k + 1 := ⟨m - 1, by omega⟩
    obtain ⟨x, a1, s1, hx, ha, e⟩ := s_plain n hb h0 (by omega) sd
    rw [f44_s_R8Plain.l0, decide_eq_true (show ((acc.length : Int) < (k : Int)) by omega)]
    simp only [br_t, e, bd_s, push_ok (show acc.length < 2147483648 by omega), gd_t, push_fls]
    rw [wrap_len (z := x) (by omega), show acc.length + 1 = (acc ++ [x]).length by simp]
    exact ih m a1 s1 (acc ++ [x]) (by omega) (by omega) (by simp; omega) hk (by omega) (by
        intro y hy; simp only [List.mem_append, List.mem_singleton] at hy; rcases hy with hy | rfl
        · exact hw y hy
        · exact hx)
theorem s_r8plain (n : Nat) {bs : List Int} (hb : Bytes bs) (k : Nat) (hk : k ≤ 1000) (hn : k < n) : ∃ xs, xs.length = k ∧ (∀ x ∈ xs, Plain x) ∧ f44_s_R8Plain (n + 5) bs.length (its .u8 bs) (k : Int) = some (xs.length, fls .f32 xs) := by
  obtain ⟨ys, hy, hw, u, e, rfl⟩ := s_r8plain_loop n hb k k (n + 4) 0 0 [] (by omega) (by omega) (by simp) hk (by omega) (by simp)
  rw [f44_s_R8Plain, s_from]
  have e : f44_s_R8Plain.l0 (n + 4) (n + 4) (k : Int) bs.length (its .u8 bs) 0 0 0 (reps 0 [(T.flt FloatKind.f32 0)]) 0 = some (ys.length, fls .f32 ys) := e
  refine ⟨ys, hy, hw, ?_⟩
  simp only [bd_s, e]

theorem l_long (n : Nat) (bs cs : List Int) : f27_l_r8Long (n + 1) bs.length (its .u8 bs) cs.length (its .u8 cs) = some (decide (48 < bs.length ∨ 48 < cs.length)) := by
  rw [f27_l_r8Long]
  by_cases h : 48 < bs.length
  · rw [decide_eq_true (show (bs.length : Int) > 48 by omega), decide_eq_true (Or.inl h)]; rfl
  · rw [decide_eq_false (show ¬ (bs.length : Int) > 48 by omega), br_f]
    congr 1
    simp [h]; omega
theorem l_at (n : Nat) {bs : List Int} (hb : Bytes bs) {i k : Int} (hi : 0 ≤ i) (hk : 1 ≤ k) : ∃ r, (0 ≤ r ∧ r < k) ∧ f28_l_r8At (n + 1) bs.length (its .u8 bs) i k = some r := by
  rw [f28_l_r8At]
  by_cases h : k ≤ 1
  · rw [decide_eq_true h]; exact ⟨0, by omega, rfl⟩
  rw [decide_eq_false h]
  by_cases h2 : i ≥ (bs.length : Int)
  · rw [decide_eq_true h2]; exact ⟨0, by omega, rfl⟩
  rw [decide_eq_false h2]
  obtain ⟨i, rfl⟩ := Int.eq_ofNat_of_zero_le hi
  have hi : i < bs.length := by omega
  have hr := hb (bs[i]) (List.getElem_mem _)
  have hk0 : (!decide (k = 0)) = true := by simp; omega
  simp only [br_f, in_dec hi, Int.toNat_natCast, okAt_its hi, Bool.and_self, gd_t, iAt_its, hk0]
  rw [show bs.getD i 0 = bs[i] by simp [List.getD, hi], show IntKind.i64.wrap bs[i] = bs[i] by rw [wrap64] <;> omega]
  refine ⟨_, ?_, rfl⟩
  rw [Int.tmod_eq_emod_of_nonneg (by omega)]
  have := Int.emod_nonneg bs[i] (show k ≠ 0 by omega)
  have := Int.emod_lt_of_pos bs[i] (show 0 < k by omega)
  omega

theorem i_few (n k : Nat) (l : List T) : f94_i_areSamples (n + 1) k l = some (decide ((k : Int) ≤ 256)) := by rw [f94_i_areSamples]

theorem i_in (n : Nat) (a b c : Int) : f83_i_within (n + 1) a b c = some (decide (b ≤ a ∧ a ≤ c)) := by
  rw [f83_i_within]
  by_cases h : b ≤ a <;> simp [br, h]

theorem i_absolute (n : Nat) {x : Nat} (hg : W32 x) : f127_i_absolute (n + 2) x = some (size32 x) := by
  obtain ⟨h1, h2⟩ := abs_size hg.1 hg.2 n
  rw [f127_i_absolute, fltToFlt_wide]
  simp only [bd, h1, h2]

/-- the greatest size so far -/
def peakM (m : Nat) (xs : List Nat) : Nat := xs.foldl (fun m x => if fgt .f32 (size32 x) m then size32 x else m) m
theorem w32_peak : ∀ (xs : List Nat) (m : Nat), W32 m → (∀ x ∈ xs, W32 x) → W32 (peakM m xs)
  | [], m, h, _ => h
  | x :: xs, m, h, hx => by
    show W32 (peakM (if fgt .f32 (size32 x) m then size32 x else m) xs)
    refine w32_peak xs _ ?_ (fun y hy => hx y (by simp [hy]))
    split
    · exact w32_size (hx x (by simp))
    · exact h
theorem i_peak_loop (n : Nat) (N : Nat) (cs : List T) : ∀ (zs p : List Nat) (mx m : Nat), (∀ x ∈ zs, W32 x) → p.length + zs.length < 1048576 → zs.length < m →
    f96_i_peakOf.l0 (n + 2) m N cs mx (p ++ zs).length (fls .f32 (p ++ zs)) ((p ++ zs).length : Int) (p.length : Int) = some (peakM mx zs) := by
  intro zs
  induction zs with
  | nil =>
    intro p mx m _ _ hm
    obtain ⟨m, rfl⟩ : ∃ k, m = k + 1 := ⟨m - 1, by omega⟩
    rw [f96_i_peakOf.l0, lt_end]; rfl
  | cons z zs ih =>
    intro p mx m hz hp hm
    obtain ⟨m, rfl⟩ : ∃ k, m = k + 1 := ⟨m - 1, by omega⟩
    have ih' := fun mx => ih (p ++ [z]) mx m (fun x hx => hz x (by simp [hx])) (by simp at hp ⊢; omega) (by simp at hm; omega)
    simp only [List.append_assoc, List.cons_append, List.nil_append] at ih'
    rw [f96_i_peakOf.l0, lt_mid, in_mid, toNat_len, okAt_mid, fAt_mid]
    simp only [br_t, gd_t, Bool.and_self, i_absolute n (hz z (by simp)), bd_s, wrap_len (z := z) (show p.length < 4611686018427387904 by simp at hp; omega)]
    show _ = some (peakM (if fgt .f32 (size32 z) mx then size32 z else mx) zs)
    cases fgt .f32 (size32 z) mx
    · exact ih' mx
    · exact ih' _
theorem i_peak (n : Nat) (xs : List Nat) (hx : ∀ x ∈ xs, W32 x) (hl : xs.length < 1048576) (hn : xs.length < n) : f96_i_peakOf (n + 3) xs.length (fls .f32 xs) = some (peakM 0 xs) := by
  rw [f96_i_peakOf]
  have e := i_peak_loop n xs.length (fls .f32 xs) xs [] 0 (n + 2) hx (by simpa using hl) (by omega)
  have e : f96_i_peakOf.l0 (n + 2) (n + 2) xs.length (fls .f32 xs) 0 xs.length (fls .f32 xs) (xs.length : Int) 0 = some (peakM 0 xs) := e
  rw [e]; rfl
theorem i_peakof (n : Nat) (xs : List Nat) (hx : ∀ x ∈ xs, W32 x) (hl : xs.length ≤ 256) (hn : xs.length < n) : f56_i_PeakOf (n + 4) xs.length (fls .f32 xs) = some (peakM 0 xs, true) := by
  rw [f56_i_PeakOf, i_few, decide_eq_true (show (xs.length : Int) ≤ 256 by omega)]
  simp only [bd_s, br_not, br_t, i_peak n xs hx (by omega) hn]
theorem peak_facts : ∀ (xs : List Nat) (m : Nat), W32 m → isNaN .f32 m = false → 0 ≤ key .f32 m → (∀ x ∈ xs, W32 x) →
    isNaN .f32 (peakM m xs) = false ∧ key .f32 m ≤ key .f32 (peakM m xs) ∧ (∀ x ∈ xs, isNaN .f32 x = false → (key .f32 x).natAbs ≤ key .f32 (peakM m xs)) ∧ (peakM m xs = m ∨ ∃ x ∈ xs, isNaN .f32 x = false ∧ peakM m xs = size32 x)
  | [], m, _, hn, _, _ => ⟨hn, Int.le_refl _, by simp, .inl rfl⟩
  | x :: xs, m, hm, hn, h0, hx => by
    have hw := hx x (by simp)
    show isNaN .f32 (peakM (if fgt .f32 (size32 x) m then size32 x else m) xs) = false ∧ _
    cases hc : fgt .f32 (size32 x) m
    · obtain ⟨h1, h2, h3, h4⟩ := peak_facts xs m hm hn h0 (fun y hy => hx y (by simp [hy]))
      have e : peakM m (x :: xs) = peakM m xs := by show peakM (if fgt .f32 (size32 x) m then size32 x else m) xs = _; rw [hc]; rfl
      rw [e]
      refine ⟨h1, h2, fun y hy hyn => ?_, ?_⟩
      · simp only [List.mem_cons] at hy
        rcases hy with rfl | hy
        · rw [fgt_key] at hc
          unfold num2 at hc
          rw [nan_size, hyn, hn, key_size32 hw.1 hyn] at hc
          simp at hc
          omega
        · exact h3 y hy hyn
      · rcases h4 with h4 | ⟨y, hy, h5⟩
        · exact .inl h4
        · exact .inr ⟨y, by simp [hy], h5⟩
    · have hxn : isNaN .f32 x = false := by
        cases h : isNaN .f32 x
        · rfl
        · rw [fgt_nan _ (by rw [nan_size]; exact h)] at hc; cases hc
      have hk := key_size32 hw.1 hxn
      rw [fgt_key] at hc
      unfold num2 at hc
      rw [nan_size, hxn, hn, hk] at hc
      simp at hc
      obtain ⟨h1, h2, h3, h4⟩ := peak_facts xs (size32 x) (w32_size hw) (by rw [nan_size]; exact hxn) (by rw [hk]; omega) (fun y hy => hx y (by simp [hy]))
      have e : peakM m (x :: xs) = peakM (size32 x) xs := by
        show peakM (if fgt .f32 (size32 x) m then size32 x else m) xs = _
        rw [fgt_key]; unfold num2; rw [nan_size, hxn, hn, hk]; simp [hc]
      rw [e]
      refine ⟨h1, by omega, fun y hy hyn => ?_, ?_⟩
      · simp only [List.mem_cons] at hy
        rcases hy with rfl | hy
        · omega
        · exact h3 y hy hyn
      · rcases h4 with h4 | ⟨y, hy, h5⟩
        · exact .inr ⟨x, by simp, hxn, h4⟩
        · exact .inr ⟨y, by simp [hy], h5⟩

def qk (k : Nat) : Nat := fdiv .f64 (FloatKind.f64.nearest (k : Int)) 4616189618054758400
def fk (k : Nat) : Nat := match fltToFlt .f64 (fsub .f64 (qk k) (FloatKind.f64.nearest ((k / 4 : Nat) : Int))) .f32 with
  | some y => y
  | none => 0
def placeOk (k : Nat) : Bool := (fltToInt .f64 (qk k) .i64 == some ((k / 4 : Nat) : Int)) && (integralF .down (qk k) == FloatKind.f64.nearest ((k / 4 : Nat) : Int)) && fge .f64 (qk k) 0 &&
  (fltToFlt .f64 (fsub .f64 (qk k) (FloatKind.f64.nearest ((k / 4 : Nat) : Int))) .f32 == some (fk k)) && (fltToInt .f64 (FloatKind.f64.nearest ((k / 4 : Nat) : Int)) .i64 == some ((k / 4 : Nat) : Int)) &&
  decide (key .f64 (qk k) ≤ key .f64 (qk (k + 1))) && !isNaN .f64 (qk k) && (feq .f64 (FloatKind.f64.nearest ((k / 4 : Nat) : Int)) 0 == decide (k / 4 = 0)) && (!(k % 4 == 0) || (qk k == FloatKind.f64.nearest ((k / 4 : Nat) : Int)))
theorem places : ∀ k, k < 1024 → placeOk k = true := by decide +kernel
theorem place (k : Nat) (h : k < 1024) : fltToInt .f64 (qk k) .i64 = some ((k / 4 : Nat) : Int) ∧ integralF .down (qk k) = FloatKind.f64.nearest ((k / 4 : Nat) : Int) ∧ fge .f64 (qk k) 0 = true ∧
    fltToFlt .f64 (fsub .f64 (qk k) (FloatKind.f64.nearest ((k / 4 : Nat) : Int))) .f32 = some (fk k) ∧ fltToInt .f64 (FloatKind.f64.nearest ((k / 4 : Nat) : Int)) .i64 = some ((k / 4 : Nat) : Int) ∧
    key .f64 (qk k) ≤ key .f64 (qk (k + 1)) ∧ isNaN .f64 (qk k) = false ∧ (feq .f64 (FloatKind.f64.nearest ((k / 4 : Nat) : Int)) 0 = decide (k / 4 = 0)) ∧ (k % 4 = 0 → qk k = FloatKind.f64.nearest ((k / 4 : Nat) : Int)) := by
  have := places k h
  unfold placeOk at this
  simp only [Bool.and_eq_true, beq_iff_eq, decide_eq_true_eq, Bool.not_eq_true', Bool.or_eq_true, Bool.not_eq_eq_eq_not, Bool.not_true, beq_eq_false_iff_ne] at this
  obtain ⟨⟨⟨⟨⟨⟨⟨⟨h1, h2⟩, h3⟩, h4⟩, h5⟩, h6⟩, h7⟩, h8⟩, h9⟩ := this
  exact ⟨h1, h2, h3, h4, h5, h6, h7, h8, fun h => h9.elim (fun e => absurd h e) id⟩
/-- the sample next to a place -/
def sampM (xs : List Nat) (i : Int) : Nat := xs.getD (min (max 0 i) ((xs.length : Int) - 1)).toNat 0
theorem i_sample (n : Nat) (xs : List Nat) (y : Nat) (q : Nat) (c : Int) (hq : fltToInt .f64 y .i64 = some (q : Int)) (hq2 : q ≤ 1024) (hc : -1 ≤ c ∧ c ≤ 2) (h1 : 1 ≤ xs.length) (h2 : xs.length ≤ 256) : f138_i_readAt1 (n + 1) c xs.length (fls .f32 xs) y = some (sampM xs ((q : Int) + c)) := by
  rw [f138_i_readAt1, hq]
  simp only [bd_s]
  rw [show IntKind.i64.wrap ((xs.length : Int) - 1) = (xs.length : Int) - 1 by rw [wrap64] <;> omega, show IntKind.i64.wrap ((q : Int) + c) = (q : Int) + c by rw [wrap64] <;> omega]
  have e : (if (xs.length : Int) - 1 < (if (q : Int) + c > 0 then (q : Int) + c else 0) then (xs.length : Int) - 1 else (if (q : Int) + c > 0 then (q : Int) + c else 0)) = min (max 0 ((q : Int) + c)) ((xs.length : Int) - 1) := by
    split <;> split <;> omega
  rw [e]
  unfold sampM
  obtain ⟨j, hj⟩ := Int.eq_ofNat_of_zero_le (show 0 ≤ min (max 0 ((q : Int) + c)) ((xs.length : Int) - 1) by omega)
  have hjl : j < xs.length := by omega
  rw [hj, in_dec hjl, Int.toNat_natCast, okAt_fls hjl, fAt_fls]
  rfl

/-! ### between samples -/
theorem const_bd {x B : Nat} (h : fin32 x = true) (h1 : fle .f32 x (FloatKind.f32.nearest (B : Int)) = true) (h2 : fge .f32 x (FloatKind.f32.nearest (-(B : Int))) = true) (hB : B ≤ 2 * FloatKind.f32.format.binade) : Bd .f32 x B := by
  have hv := fin_val h
  have i1 := int_val (k := .f32) (n := (B : Int)) (by omega)
  have i2 := int_val (k := .f32) (n := -(B : Int)) (by omega)
  have a1 := (fle_val hv i1).1 h1
  have a2 := (fge_val hv i2).1 h2
  rw [Rat.intCast_natCast] at a1
  rw [Rat.intCast_neg, Rat.intCast_natCast] at a2
  exact ⟨_, hv, a2, a1⟩
theorem mul_zero {x : Nat} {v : Rat} (hx : Val .f32 x v) : Val .f32 (fmul .f32 x 0) 0 := by
  have hz : Rep0 .f32 (0 : Rat) := by
    have := rep_nat .f32 (Nat.zero_le _)
    rwa [show ((0 : Nat) : Rat) = 0 from rfl] at this
  have e : v * 0 = 0 := Rat.mul_zero v
  obtain ⟨R, r1, r2⟩ := mul_val hx (val_zero .f32) hz (p2_pos _) (by rw [e]; exact Rat.le_refl) (by rw [e]; decide)
  rw [e] at r2
  exact r1.near_eq r2 (repZ _)
theorem add_zero {t x B : Nat} (ht : Val .f32 t 0) (hx : Bd .f32 x B) (hB : B ≤ 2 * FloatKind.f32.format.binade) : ∃ v, Val .f32 x v ∧ Val .f32 (fadd .f32 t x) v := by
  obtain ⟨v, v1, v2, v3⟩ := hx
  obtain ⟨R, r1, r2⟩ := add_val ht v1 (rep_nat .f32 hB) (nat_top .f32 hB) (by rw [Rat.zero_add]; exact v3) (by rw [Rat.zero_add]; exact v2)
  rw [Rat.zero_add] at r2
  exact ⟨v, v1, r1.near_eq r2 v1.rep⟩
theorem plain_bd {x : Nat} (h : Plain x) : Bd .f32 x 10 := by
  obtain ⟨v, -, -, v3, v4, v5⟩ := h.val
  have h10 : ((10 : Nat) : Rat) = 10 := rfl
  refine ⟨_, fin_val h.fin, ?_, ?_⟩ <;> rw [h10] <;> rcases v5 with e | e <;> rw [e] <;> grind
theorem le100 {B : Nat} (h : B ≤ 100) : B ≤ 2 * FloatKind.f32.format.binade := Nat.le_trans h (Nat.le_trans (by decide : 100 ≤ 16777216) (Nat.le_of_eq binade32.symm))
/-- at a sample the curve is the sample -/
theorem curve_at {a b c z : Nat} (ha : Plain a) (hb : Plain b) (hc : Plain c) (hz : Plain z) : Val .f32 (fadd .f32 (fmul .f32 (fadd .f32 (fmul .f32 (fadd .f32 (fmul .f32 (fadd .f32 (fmul .f32 1069547520 (fsub .f32 a b)) (fmul .f32 1056964608 (fsub .f32 c z))) 0) (fsub .f32 (fadd .f32 (fsub .f32 z (fmul .f32 1075838976 a)) (fmul .f32 1073741824 b)) (fmul .f32 1056964608 c))) 0) (fmul .f32 1056964608 (fsub .f32 b z))) 0) a) (fval .f32 a) := by
  have ba := plain_bd ha
  have bb := plain_bd hb
  have bc := plain_bd hc
  have bz := plain_bd hz
  have k1 : Bd .f32 1056964608 1 := const_bd (by decide) (by decide) (by decide) (le100 (by decide))
  have k2 : Bd .f32 1073741824 2 := const_bd (by decide) (by decide) (by decide) (le100 (by decide))
  have k3 : Bd .f32 1075838976 3 := const_bd (by decide) (by decide) (by decide) (le100 (by decide))
  have k4 : Bd .f32 1069547520 2 := const_bd (by decide) (by decide) (by decide) (le100 (by decide))
  have hR := (k4.mul (ba.sub bb (le100 (by decide))) (le100 (by decide))).add (k1.mul (bc.sub bz (le100 (by decide))) (le100 (by decide))) (le100 (by decide))
  have hQ := ((bz.sub (k3.mul ba (le100 (by decide))) (le100 (by decide))).add (k2.mul bb (le100 (by decide))) (le100 (by decide))).sub (k1.mul bc (le100 (by decide))) (le100 (by decide))
  have hP := k1.mul (bb.sub bz (le100 (by decide))) (le100 (by decide))
  obtain ⟨r, r1, -, -⟩ := hR
  obtain ⟨q, -, q2⟩ := add_zero (mul_zero r1) hQ (le100 (by decide))
  obtain ⟨p, -, p2_⟩ := add_zero (mul_zero q2) hP (le100 (by decide))
  obtain ⟨v, v1, v2⟩ := add_zero (mul_zero p2_) ba (le100 (by decide))
  rw [v1.inj (fin_val ha.fin)] at v2
  exact v2
theorem fk_zero : ∀ j : Nat, j < 20 → fk (4 * j) = 0 := by decide +kernel
theorem sampM_mem {xs : List Nat} (h : 1 ≤ xs.length) (i : Int) : sampM xs i ∈ xs := by
  unfold sampM
  obtain ⟨j, hj⟩ := Int.eq_ofNat_of_zero_le (show 0 ≤ min (max 0 i) ((xs.length : Int) - 1) by omega)
  have hjl : j < xs.length := by omega
  rw [hj, Int.toNat_natCast]
  have : xs.getD j 0 = xs[j] := by simp [List.getD, hjl]
  rw [this]; exact List.getElem_mem hjl
theorem sampM_at {xs : List Nat} {j : Nat} (h : j < xs.length) : sampM xs (j : Int) = xs.getD j 0 := by
  unfold sampM
  rw [show min (max 0 (j : Int)) ((xs.length : Int) - 1) = (j : Int) by omega, Int.toNat_natCast]
theorem i_read (n' k : Nat) (xs : List Nat) (hp : ∀ x ∈ xs, Plain x) (h1 : 1 ≤ xs.length) (h2 : xs.length ≤ 20) (hk : k ≤ 4 * (xs.length - 1)) : ∃ r, W32 r ∧ f126_i_readAt (n' + 3) 2 xs.length (fls .f32 xs) (qk k) = some r ∧ (∀ j, k = 4 * j → Val .f32 r (fval .f32 (xs.getD j 0))) := by
  obtain ⟨p1, p2, p3, p4, p5, p6, p7, p8, -⟩ := place k (by omega)
  have f1 : f137_mathFloor (n' + 2) (qk k) = some (FloatKind.f64.nearest ((k / 4 : Nat) : Int)) := by
    rw [f137_mathFloor]
    show bd (some (integralF .down (qk k))) _ = _
    rw [p2]; rfl
  have a0 : ((2 : Int) == 0) = false := by decide
  have a1 : ((2 : Int) == 1) = false := by decide
  have i0 : ∀ c : Int, -1 ≤ c ∧ c ≤ 2 → f138_i_readAt1 (n' + 2) c xs.length (fls .f32 xs) (FloatKind.f64.nearest ((k / 4 : Nat) : Int)) = some (sampM xs (((k / 4 : Nat) : Int) + c)) := fun c hc => i_sample (n' + 1) xs _ _ c p5 (by omega) hc h1 (by omega)
  have e0 : ((k / 4 : Nat) : Int) + 0 = ((k / 4 : Nat) : Int) := Int.add_zero _
  have hval : ∀ j, k = 4 * j → Val .f32 (fadd .f32 (fmul .f32 (fadd .f32 (fmul .f32 (fadd .f32 (fmul .f32 (fadd .f32 (fmul .f32 1069547520 (fsub .f32 (sampM xs ((k / 4 : Nat) : Int)) (sampM xs (((k / 4 : Nat) : Int) + 1)))) (fmul .f32 1056964608 (fsub .f32 (sampM xs (((k / 4 : Nat) : Int) + 2)) (sampM xs (((k / 4 : Nat) : Int) + (-1)))))) (fk k)) (fsub .f32 (fadd .f32 (fsub .f32 (sampM xs (((k / 4 : Nat) : Int) + (-1))) (fmul .f32 1075838976 (sampM xs ((k / 4 : Nat) : Int)))) (fmul .f32 1073741824 (sampM xs (((k / 4 : Nat) : Int) + 1)))) (fmul .f32 1056964608 (sampM xs (((k / 4 : Nat) : Int) + 2))))) (fk k)) (fmul .f32 1056964608 (fsub .f32 (sampM xs (((k / 4 : Nat) : Int) + 1)) (sampM xs (((k / 4 : Nat) : Int) + (-1)))))) (fk k)) (sampM xs ((k / 4 : Nat) : Int))) (fval .f32 (xs.getD j 0)) := by
    intro j hj
    have hfk : fk k = 0 := by rw [hj]; exact fk_zero j (by omega)
    have hj4 : k / 4 = j := by omega
    have hs : sampM xs ((j : Nat) : Int) = xs.getD j 0 := sampM_at (by omega)
    rw [hfk, hj4, ← hs]
    exact curve_at (hp _ (sampM_mem h1 _)) (hp _ (sampM_mem h1 _)) (hp _ (sampM_mem h1 _)) (hp _ (sampM_mem h1 _))
  refine ⟨_, w32_fadd _ _, ?_, hval⟩
  rw [f126_i_readAt]
  simp only [bd_s, f1, p8, a0, a1]
  cases hz : decide (k / 4 = 0)
  · simp only [br_f, p4, bd_s, i0 0 (by omega), i0 1 (by omega), i0 (-1) (by omega), i0 2 (by omega), e0]
  · have hz : k / 4 = 0 := by simpa using hz
    have n0 : FloatKind.f64.nearest ((0 : Nat) : Int) = 0 := by decide
    rw [hz, n0] at p4 i0
    rw [hz] at e0
    simp only [br_t, br_f, p4, bd_s, i0 0 (by omega), i0 1 (by omega), i0 (-1) (by omega), i0 2 (by omega), e0, hz]
theorem between_loop (n' : Nat) (xs : List Nat) (hp : ∀ x ∈ xs, Plain x) (h2 : xs.length ≤ 20) : ∀ (j i m' : Nat) (acc : List Nat), 4 * (xs.length - 1) + 1 ≤ i + j → acc.length = i → i ≤ 100 → (∀ x ∈ acc, W32 x) → (∀ k, k < xs.length → 4 * k < i → ∃ r ∈ acc, Val .f32 r (fval .f32 (xs.getD k 0))) → j < m' →
    ∃ ys, (∀ x ∈ ys, W32 x) ∧ ys.length ≤ 200 ∧ (∀ k, k < xs.length → ∃ r ∈ ys, Val .f32 r (fval .f32 (xs.getD k 0))) ∧ f72_i_PeakBetween.l0 (n' + 3) m' xs.length (fls .f32 xs) acc.length (fls .f32 acc) (i : Int) = some (ys.length, fls .f32 ys) := by
  intro j
  induction j with
  | zero =>
    intro i m' acc hj ha hi hw hk hm'
    obtain ⟨m', rfl⟩ : ∃ k, m' = k + 1 := ⟨m' - 1, by omega⟩
    have : decide ((i : Int) ≤ IntKind.i64.wrap (4 * IntKind.i64.wrap ((xs.length : Int) - 1))) = false := by
      rw [show IntKind.i64.wrap ((xs.length : Int) - 1) = (xs.length : Int) - 1 by rw [wrap64] <;> omega, show IntKind.i64.wrap (4 * ((xs.length : Int) - 1)) = 4 * ((xs.length : Int) - 1) by rw [wrap64] <;> omega]
      simp; omega
    refine ⟨acc, hw, by omega, fun k hk1 => hk k hk1 (by omega), ?_⟩
    rw [f72_i_PeakBetween.l0, this]; rfl
  | succ j ih =>
    intro i m' acc hj ha hi hw hk hm'
    obtain ⟨m', rfl⟩ : ∃ k, m' = k + 1 := ⟨m' - 1, by omega⟩
    rw [f72_i_PeakBetween.l0, show IntKind.i64.wrap ((xs.length : Int) - 1) = (xs.length : Int) - 1 by rw [wrap64] <;> omega, show IntKind.i64.wrap (4 * ((xs.length : Int) - 1)) = 4 * ((xs.length : Int) - 1) by rw [wrap64] <;> omega]
    by_cases hc : (i : Int) ≤ 4 * ((xs.length : Int) - 1)
    case neg => rw [decide_eq_false hc]; exact ⟨acc, hw, by omega, fun k hk1 => hk k hk1 (by omega), rfl⟩
    rw [decide_eq_true hc]
    obtain ⟨r, wr, e2, hv⟩ := i_read n' i xs hp (by omega) h2 (by omega)
    unfold qk at e2
    simp only [br_t, e2, bd_s, push_ok (show acc.length < 2147483648 by omega), gd_t, push_fls, wrap_succ (show i < 9223372036854775807 by omega)]
    rw [push_len (z := r)]
    exact ih (i + 1) m' (acc ++ [r]) (by omega) (by simp; omega) (by omega) (by
      intro x hx; simp only [List.mem_append, List.mem_singleton] at hx
      rcases hx with hx | rfl
      · exact hw x hx
      · exact wr) (by
      intro k hk1 hk2
      rcases Nat.lt_or_ge (4 * k) i with h | h
      · obtain ⟨r', r1, r2⟩ := hk k hk1 h
        exact ⟨r', by simp [r1], r2⟩
      · exact ⟨r, by simp, hv k (by omega)⟩) (by omega)
theorem between_ (n' : Nat) (xs : List Nat) (hp : ∀ x ∈ xs, Plain x) (h2 : xs.length ≤ 20) (hn : 200 < n') : ∃ ys, (∀ x ∈ ys, W32 x) ∧ (∀ k, k < xs.length → ∃ r ∈ ys, Val .f32 r (fval .f32 (xs.getD k 0))) ∧ f72_i_PeakBetween (n' + 4) xs.length (fls .f32 xs) = some (peakM 0 ys, true) := by
  obtain ⟨ys, wy, hy, hv, e2⟩ := between_loop n' xs hp h2 100 0 (n' + 3) [] (by omega) rfl (by omega) (by simp) (by intro k _ h; omega) (by omega)
  have e2 : f72_i_PeakBetween.l0 (n' + 3) (n' + 3) xs.length (fls .f32 xs) 0 [] 0 = some (ys.length, fls .f32 ys) := e2
  refine ⟨ys, wy, hv, ?_⟩
  rw [f72_i_PeakBetween]
  simp only [i_few, bd_s, br_not, decide_eq_true (show (xs.length : Int) ≤ 256 by omega), br_t, e2, i_peak n' ys wy (by omega) (by omega)]
/-! ### held peaks -/
def holdM (fall l x : Nat) : Nat := if fgt .f32 (size32 x) (fmul .f32 l fall) then size32 x else fmul .f32 l fall
def holdStep (fall : Nat) (l x : Nat) : Nat × Nat := (holdM fall l x, holdM fall l x)
theorem hold_val {fall l x : Nat} {f v : Rat} (hf : Val .f32 fall f) (f0 : 0 ≤ f) (f1 : f ≤ 1) (hl : Val .f32 l v) (v0 : 0 ≤ v) (v1 : v ≤ 10) (hx : Plain x) : ∃ w h u, Val .f32 (holdM fall l x) w ∧ Val .f32 (fmul .f32 l fall) h ∧ Val .f32 (size32 x) u ∧ 0 ≤ w ∧ w ≤ 10 ∧ h ≤ w ∧ u ≤ w := by
  obtain ⟨u, u1, -, u3, u4, -⟩ := hx.val
  have hB := rep_nat .f32 (le100 (show 10 ≤ 100 by decide))
  have hT := nat_top .f32 (le100 (show 10 ≤ 100 by decide))
  have h10 : ((10 : Nat) : Rat) = 10 := rfl
  rw [h10] at hB hT
  have a0 := Rat.mul_nonneg v0 f0
  have a1 : v * f ≤ v * 1 := Rat.mul_le_mul_of_nonneg_left f1 v0
  obtain ⟨h, h1, h2⟩ := mul_val hl hf hB hT (by grind) (by grind)
  have hh0 := (h2 0 (repZ _)).2 a0
  have hh1 := (h2 _ hB.rep).1 (show v * f ≤ 10 by grind)
  unfold holdM
  cases hg : fgt .f32 (size32 x) (fmul .f32 l fall)
  · rw [if_neg (by decide)]
    refine ⟨h, h, u, h1, h1, u1, hh0, hh1, Rat.le_refl, ?_⟩
    refine Rat.not_lt.1 fun hlt => ?_
    rw [(fgt_val u1 h1).2 hlt] at hg; exact absurd hg (by decide)
  · rw [if_pos rfl]
    have := (fgt_val u1 h1).1 hg
    exact ⟨u, h, u, u1, h1, u1, u3, u4, Rat.le_of_lt this, Rat.le_refl⟩
theorem hold_loop (n : Nat) (N : Nat) (cs : List T) (fall : Nat) : ∀ (zs p acc : List Nat) (l m : Nat), (∀ x ∈ zs, Plain x) → acc.length + zs.length < 1048576 → p.length + zs.length < 1048576 → zs.length < m →
    f73_i_HoldPeaks.l0 (n + 2) m N cs l fall acc.length (fls .f32 acc) (p ++ zs).length (fls .f32 (p ++ zs)) ((p ++ zs).length : Int) (p.length : Int) = some ((acc ++ (scan (holdStep fall) l zs).1).length, fls .f32 (acc ++ (scan (holdStep fall) l zs).1)) := by
  intro zs
  induction zs with
  | nil =>
    intro p acc l m _ _ _ hm
    obtain ⟨m, rfl⟩ : ∃ k, m = k + 1 := ⟨m - 1, by omega⟩
    rw [f73_i_HoldPeaks.l0, lt_end]; simp [br_f, scan]
  | cons z zs ih =>
    intro p acc l m hz ha hp hm
    obtain ⟨m, rfl⟩ : ∃ k, m = k + 1 := ⟨m - 1, by omega⟩
    have hpz := hz z (by simp)
    have ha' : acc.length < 1048576 := by simp at ha; omega
    have hw := wrap_len (p := p) (z := z) (by simp at hp; omega)
    have hnn : fne .f32 (size32 z) (size32 z) = false := by
      obtain ⟨u, u1, -⟩ := hpz.val
      rw [fne_nan]; exact u1.num
    have next := ih (p ++ [z]) (acc ++ [holdM fall l z]) (holdM fall l z) m (fun x hx => hz x (by simp [hx])) (by simp at ha ⊢; omega) (by simp at hp ⊢; omega) (by simp at hm; omega)
    rw [f73_i_HoldPeaks.l0, lt_mid, in_mid, toNat_len, okAt_mid, fAt_mid]
    simp only [br_t, gd_t, Bool.and_self, i_absolute n hpz.w32, bd_s, hnn, br_f, push_ok (show acc.length < 2147483648 by omega), push_fls, hw]
    cases hg : fgt .f32 (size32 z) (fmul .f32 l fall)
    · have e : holdM fall l z = fmul .f32 l fall := by unfold holdM; rw [hg, if_neg (by decide)]
      rw [e] at next
      rw [br_f]
      simpa [scan, holdStep, e] using next
    · have e : holdM fall l z = size32 z := by unfold holdM; rw [hg, if_pos rfl]
      rw [e] at next
      rw [br_t]
      simpa [scan, holdStep, e] using next
theorem held (n : Nat) (xs : List Nat) (l fall : Nat) (hp : ∀ x ∈ xs, Plain x) (hl : xs.length ≤ 256) (hn : xs.length < n) : f73_i_HoldPeaks (n + 3) xs.length (fls .f32 xs) l fall = some ((scan (holdStep fall) l xs).1.length, fls .f32 (scan (holdStep fall) l xs).1, true) := by
  have e := hold_loop n xs.length (fls .f32 xs) fall xs [] [] l (n + 2) hp (by simp; omega) (by simp; omega) (by omega)
  have e : f73_i_HoldPeaks.l0 (n + 2) (n + 2) xs.length (fls .f32 xs) l fall 0 [] xs.length (fls .f32 xs) (xs.length : Int) 0 = _ := e
  rw [f73_i_HoldPeaks]
  simp only [i_few, bd_s, br_not, decide_eq_true (show (xs.length : Int) ≤ 256 by omega), br_t, e]
  rfl
/-! ### runs -/
def clip (t x : Nat) : Bool := fge .f32 (size32 x) t
def runOf (t : Nat) : List Nat → Nat
  | [] => 0
  | x :: xs => if clip t x then runOf t xs + 1 else 0
theorem runOf_le (t : Nat) : ∀ xs, runOf t xs ≤ xs.length
  | [] => Nat.le_refl _
  | x :: xs => by
    have := runOf_le t xs
    simp only [runOf]; split <;> simp <;> omega
theorem runOf_in (t : Nat) : ∀ (zs : List Nat) (k : Nat), k < runOf t zs → clip t (zs.getD k 0) = true
  | [], k, h => by simp [runOf] at h
  | z :: zs, k, h => by
    simp only [runOf] at h
    by_cases hc : clip t z = true
    · rw [if_pos hc] at h
      cases k with
      | zero => simpa [List.getD] using hc
      | succ k => have := runOf_in t zs k (by omega); simpa [List.getD] using this
    · rw [if_neg hc] at h; omega
theorem runOf_stop (t : Nat) : ∀ (zs : List Nat), runOf t zs < zs.length → clip t (zs.getD (runOf t zs) 0) = false
  | [], h => by simp [runOf] at h
  | z :: zs, h => by
    simp only [runOf] at h ⊢
    by_cases hc : clip t z = true
    · rw [if_pos hc] at h ⊢
      have := runOf_stop t zs (by simpa using h)
      simpa [List.getD] using this
    · rw [if_neg hc]
      simpa [List.getD] using hc
theorem drop_getD (xs : List Nat) (i k : Nat) : (xs.drop i).getD k 0 = xs.getD (i + k) 0 := by simp [List.getD]
def runsM (t : Nat) (xs : List Nat) : Nat → Nat → List (List Int)
  | 0, _ => []
  | j + 1, i => if i < xs.length then (if runOf t (xs.drop i) = 0 then runsM t xs j (i + 1) else [(i : Int), ((runOf t (xs.drop i) : Nat) : Int)] :: runsM t xs j (i + runOf t (xs.drop i))) else []
theorem i_run (n : Nat) (xs : List Nat) (t : Nat) (least : Int) (N : Nat) (cs : List T) (i0 : Int) (hg : ∀ x ∈ xs, W32 x) : ∀ (zs p : List Nat) (m : Nat), xs = p ++ zs → xs.length ≤ 1048576 → zs.length < m →
    f74_i_ClippedRuns.l1 (n + 2) m xs.length (fls .f32 xs) t least N cs i0 (p.length : Int) = some (xs.length, fls .f32 xs, t, least, N, cs, i0, ((p.length + runOf t zs : Nat) : Int)) := by
  intro zs
  induction zs with
  | nil =>
    intro p m h hl hm
    obtain ⟨m, rfl⟩ : ∃ k, m = k + 1 := ⟨m - 1, by omega⟩
    subst h
    rw [f74_i_ClippedRuns.l1, lt_end]; rfl
  | cons z zs ih =>
    intro p m h hl hm
    obtain ⟨m, rfl⟩ : ∃ k, m = k + 1 := ⟨m - 1, by omega⟩
    have hgz : W32 z := hg z (by rw [h]; simp)
    have ih' := ih (p ++ [z]) m (by simp [h]) hl (by simp at hm; omega)
    have hp : p.length < 1048576 := by rw [h] at hl; simp at hl; omega
    subst h
    rw [f74_i_ClippedRuns.l1, lt_mid, in_mid, toNat_len, okAt_mid, fAt_mid, i_absolute n hgz, wrap_len (z := z) (by omega)]
    have hcl : fge .f32 (size32 z) t = clip t z := rfl
    simp only [br_t, gd_t, bd_s, Bool.and_self, runOf, hcl]
    by_cases hc : clip t z = true
    · rw [if_pos hc, hc, br_t, ih', show (p ++ [z]).length + runOf t zs = p.length + (runOf t zs + 1) by simp; omega]
    · rw [if_neg hc, show clip t z = false by simpa using hc]; rfl
theorem i_sizeOf (n : Nat) (x : Int) : f82_i_size (n + 1) x = some x := by rw [f82_i_size]
theorem push_row (acc : List (List Int)) (a b : Int) : acc.map rwI ++ setN (reps 1 [T.lst 0 []]) 0 [T.lst 2 (setN (setN (reps 2 [T.int .i64 0]) 0 [T.int .i64 a]) 1 [T.int .i64 b])] = (acc ++ [[a, b]]).map rwI := by
  simp [rwI, its, setN, reps]
theorem runs_loop (n : Nat) (xs : List Nat) (t : Nat) (hg : ∀ x ∈ xs, W32 x) (hx : xs.length ≤ 1000) (hn : xs.length < n) : ∀ (j i m : Nat) (acc : List (List Int)), xs.length < i + j → i ≤ xs.length → acc.length ≤ i → j < m →
    f74_i_ClippedRuns.l0 (n + 2) m xs.length (fls .f32 xs) t 1 acc.length (acc.map rwI) (i : Int) = some ((acc ++ runsM t xs j i).length, (acc ++ runsM t xs j i).map rwI) := by
  intro j
  induction j with
  | zero => intro i m acc h1 h2; omega
  | succ j ih =>
    intro i m acc h1 h2 ha hm
    obtain ⟨m, rfl⟩ : ∃ k, m = k + 1 := ⟨m - 1, by omega⟩
    rw [f74_i_ClippedRuns.l0]
    unfold runsM
    rcases Nat.lt_or_ge i xs.length with hlt | hge
    case inr => rw [nlt_dec hge, if_neg (by omega)]; simp [br_f]
    rw [lt_dec hlt, if_pos hlt]
    have hpl : (xs.take i).length = i := by rw [List.length_take]; omega
    have e2 := i_run n xs t 1 acc.length (acc.map rwI) i hg (xs.drop i) (xs.take i) (n + 2) (by simp) (by omega) (by simp; omega)
    rw [hpl] at e2
    have hr := runOf_le t (xs.drop i)
    rw [List.length_drop] at hr
    generalize runOf t (xs.drop i) = r at *
    have w1 : IntKind.i64.wrap (((i + r : Nat) : Int) - (i : Int)) = (r : Int) := by rw [wrap64] <;> omega
    have w2 : IntKind.i64.wrap (((i + r : Nat) : Int) - 1) = ((i + r : Nat) : Int) - 1 := by rw [wrap64] <;> omega
    simp only [br_t, e2, bd_s, w1, w2, i_sizeOf, push_row, push_ok (show acc.length < 2147483648 by omega), gd_t]
    have w4 : IntKind.i64.wrap ((if ((i + r : Nat) : Int) - 1 > (i : Int) then ((i + r : Nat) : Int) - 1 else (i : Int)) + 1) = ((max (i + 1) (i + r) : Nat) : Int) := by
      rw [wrap64] <;> split <;> omega
    rw [w4]
    by_cases h0 : r = 0
    · subst h0
      rw [if_pos rfl, decide_eq_false (show ¬ (((0 : Nat) : Int) ≥ 1) by omega), show max (i + 1) (i + 0) = i + 1 by omega, br_f]
      exact ih (i + 1) m acc (by omega) (by omega) (by omega) (by omega)
    · rw [if_neg h0, decide_eq_true (show ((r : Int) ≥ 1) by omega), show max (i + 1) (i + r) = i + r by omega, br_t, push_len (z := [(i : Int), (r : Int)])]
      have := ih (i + r) m (acc ++ [[(i : Int), (r : Int)]]) (by omega) (by omega) (by simp; omega) (by omega)
      rw [this]; simp
theorem i_runs (n : Nat) (xs : List Nat) (t : Nat) (hg : ∀ x ∈ xs, W32 x) (hx : xs.length ≤ 256) (hn : xs.length + 2 < n) : f74_i_ClippedRuns (n + 3) xs.length (fls .f32 xs) t 1 = some ((runsM t xs (xs.length + 1) 0).length, (runsM t xs (xs.length + 1) 0).map rwI, true) := by
  have e := runs_loop n xs t hg (by omega) (by omega) (xs.length + 1) 0 (n + 2) [] (by omega) (by omega) (by simp) (by omega)
  have e : f74_i_ClippedRuns.l0 (n + 2) (n + 2) xs.length (fls .f32 xs) t 1 0 [] 0 = _ := e
  rw [f74_i_ClippedRuns]
  simp only [i_few, bd_s, br_not, decide_eq_true (show (xs.length : Int) ≤ 256 by omega), br_t, i_in, decide_eq_true (show (1 : Int) ≤ 1 ∧ (1 : Int) ≤ 256 by omega), e]
  rfl
/-! ### the list of truth values -/
def bls (bs : List Bool) : List T := bs.map T.bool
def flagsM (t : Nat) (xs : List Nat) (k : Nat) : List Bool := (xs.take k).map (clip t) ++ List.replicate (xs.length - k) false
theorem flags_length (t : Nat) (xs : List Nat) {k : Nat} (h : k ≤ xs.length) : (flagsM t xs k).length = xs.length := by simp [flagsM]; omega
theorem flags_set (t : Nat) (xs : List Nat) {k : Nat} (h : k < xs.length) (hc : clip t (xs.getD k 0) = true) : (flagsM t xs k).set k true = flagsM t xs (k + 1) := by
  have hk : ((xs.take k).map (clip t)).length = k := by simp; omega
  have hr : List.replicate (xs.length - k) false = false :: List.replicate (xs.length - (k + 1)) false := by
    rw [show xs.length - k = (xs.length - (k + 1)) + 1 by omega, List.replicate_succ]
  have hg : xs.getD k 0 = xs[k] := by simp [List.getD, h]
  rw [hg] at hc
  unfold flagsM
  rw [hr]
  have := set_mid ((xs.take k).map (clip t)) false true (List.replicate (xs.length - (k + 1)) false)
  rw [hk] at this
  rw [this, List.take_succ_eq_append_getElem h, List.map_append, List.map_singleton, hc]
  simp
theorem flags_skip (t : Nat) (xs : List Nat) {k : Nat} (h : k < xs.length) (hc : clip t (xs.getD k 0) = false) : flagsM t xs k = flagsM t xs (k + 1) := by
  have hr : List.replicate (xs.length - k) false = false :: List.replicate (xs.length - (k + 1)) false := by
    rw [show xs.length - k = (xs.length - (k + 1)) + 1 by omega, List.replicate_succ]
  have hg : xs.getD k 0 = xs[k] := by simp [List.getD, h]
  rw [hg] at hc
  unfold flagsM
  rw [hr, List.take_succ_eq_append_getElem h, List.map_append, List.map_singleton, hc]
  simp
theorem inner_loop (n : Nat) (xs : List Nat) (t : Nat) (P F H : Nat) (ch : List T) (L : Nat) (b : Bool) (p zs : List (List Int)) (a r : Nat) (hx : xs.length ≤ 1000) (hend : a + r ≤ xs.length) (hin : ∀ k, k < r → clip t (xs.getD (a + k) 0) = true) : ∀ (j k m : Nat), k + j = r → j < m →
    f14_l_FnPeaks.l1 n m xs.length (fls .f32 xs) P F H ch L (p ++ [(a : Int), (r : Int)] :: zs).length ((p ++ [(a : Int), (r : Int)] :: zs).map rwI) b xs.length (bls (flagsM t xs (a + k))) (p.length : Int) ((a + k : Nat) : Int) =
      some (xs.length, fls .f32 xs, P, F, H, ch, L, (p ++ [(a : Int), (r : Int)] :: zs).length, (p ++ [(a : Int), (r : Int)] :: zs).map rwI, b, xs.length, bls (flagsM t xs (a + r)), (p.length : Int)) := by
  have o0 : okAt [.int .i64] (its .i64 [(a : Int), (r : Int)]) 0 = true := rfl
  have o1 : okAt [.int .i64] (its .i64 [(a : Int), (r : Int)]) 1 = true := rfl
  have i0 : iAt (its .i64 [(a : Int), (r : Int)]) 0 = (a : Int) := rfl
  have i1 : iAt (its .i64 [(a : Int), (r : Int)]) 1 = (r : Int) := rfl
  have d0 : decide ((0 : Int) ≤ 0 ∧ (0 : Int) < (([(a : Int), (r : Int)].length : Nat) : Int)) = true := by simp
  have d1 : decide ((0 : Int) ≤ 1 ∧ (1 : Int) < (([(a : Int), (r : Int)].length : Nat) : Int)) = true := by simp
  intro j
  induction j with
  | zero =>
    intro k m he hm
    obtain ⟨m, rfl⟩ : ∃ q, m = q + 1 := ⟨m - 1, by omega⟩
    obtain rfl : k = r := by omega
    rw [f14_l_FnPeaks.l1, in_mid, toNat_len, okAt_midR, nAt_midR, lAt_midR, d0, d1, o0, o1, i0, i1, show IntKind.i64.wrap ((a : Int) + (k : Int)) = ((a + k : Nat) : Int) by rw [wrap64] <;> omega, nlt_dec (Nat.le_refl _)]
    rfl
  | succ j ih =>
    intro k m he hm
    obtain ⟨m, rfl⟩ : ∃ q, m = q + 1 := ⟨m - 1, by omega⟩
    have hlt : a + k < xs.length := by omega
    have hfl := flags_length t xs (k := a + k) (by omega)
    rw [f14_l_FnPeaks.l1, in_mid, toNat_len, okAt_midR, nAt_midR, lAt_midR, d0, d1, o0, o1, i0, i1, show IntKind.i64.wrap ((a : Int) + (r : Int)) = ((a + r : Nat) : Int) by rw [wrap64] <;> omega, lt_dec (show a + k < a + r by omega), in_dec hlt, Int.toNat_natCast, le_ble (show a + k + 1 ≤ (bls (flagsM t xs (a + k))).length by simp [bls, hfl]; omega), setN_one, wrap_succ (by omega)]
    have hset : (bls (flagsM t xs (a + k))).set (a + k) (T.bool true) = bls (flagsM t xs (a + (k + 1))) := by
      unfold bls
      rw [← List.map_set, flags_set t xs hlt (hin k (by omega)), Nat.add_assoc]
    rw [hset]
    simp only [gd_t, br_t, Bool.and_self]
    exact ih (k + 1) m (by omega) (by omega)
theorem rows_loop (n : Nat) (xs : List Nat) (t : Nat) (P F H : Nat) (ch : List T) (L : Nat) (b : Bool) (hx : xs.length ≤ 1000) (hn : xs.length < n) : ∀ (j i m : Nat) (p : List (List Int)) (end_ : Int), xs.length < i + j → i ≤ xs.length → p.length ≤ i → (end_ < (i : Int) ∨ (end_ = (i : Int) ∧ (i < xs.length → clip t (xs.getD i 0) = false))) → j < m →
    f14_l_FnPeaks.l0 n m xs.length (fls .f32 xs) P F H ch L (p ++ runsM t xs j i).length ((p ++ runsM t xs j i).map rwI) b xs.length (bls (flagsM t xs i)) end_ (p.length : Int) = some (.inr (xs.length, fls .f32 xs, P, F, H, ch, L, b, xs.length, bls (flagsM t xs xs.length))) := by
  intro j
  induction j with
  | zero => intro i m p end_ h1 h2; omega
  | succ j ih =>
    intro i m p end_ h1 h2 hp hend hm
    obtain ⟨m, rfl⟩ : ∃ k, m = k + 1 := ⟨m - 1, by omega⟩
    unfold runsM
    rcases Nat.lt_or_ge i xs.length with hlt | hge
    case inr =>
      obtain rfl : i = xs.length := by omega
      rw [if_neg (by omega), f14_l_FnPeaks.l0, lt_end]; rfl
    rw [if_pos hlt]
    have hr := runOf_le t (xs.drop i)
    rw [List.length_drop] at hr
    have hin : ∀ k, k < runOf t (xs.drop i) → clip t (xs.getD (i + k) 0) = true := fun k hk => by
      have := runOf_in t (xs.drop i) k hk
      rwa [drop_getD] at this
    have hstop : i + runOf t (xs.drop i) < xs.length → clip t (xs.getD (i + runOf t (xs.drop i)) 0) = false := fun h => by
      have := runOf_stop t (xs.drop i) (by rw [List.length_drop]; omega)
      rwa [drop_getD] at this
    generalize runOf t (xs.drop i) = r at *
    by_cases h0 : r = 0
    · subst h0
      rw [if_pos rfl, flags_skip t xs hlt (hstop hlt)]
      exact ih (i + 1) (m + 1) p end_ (by omega) (by omega) (by omega) (.inl (by rcases hend with h | h <;> omega)) (by omega)
    · rw [if_neg h0]
      have hend' : end_ < (i : Int) := by
        rcases hend with h | ⟨h, h'⟩
        · exact h
        · have h3 := hin 0 (by omega)
          have h4 := h' hlt
          rw [Nat.add_zero, h4] at h3; exact absurd h3 (by decide)
      have o0 : okAt [.int .i64] (its .i64 [(i : Int), (r : Int)]) 0 = true := rfl
      have o1 : okAt [.int .i64] (its .i64 [(i : Int), (r : Int)]) 1 = true := rfl
      have i0 : iAt (its .i64 [(i : Int), (r : Int)]) 0 = (i : Int) := rfl
      have i1 : iAt (its .i64 [(i : Int), (r : Int)]) 1 = (r : Int) := rfl
      have d0 : decide ((0 : Int) ≤ 0 ∧ (0 : Int) < (([(i : Int), (r : Int)].length : Nat) : Int)) = true := by simp
      have d1 : decide ((0 : Int) ≤ 1 ∧ (1 : Int) < (([(i : Int), (r : Int)].length : Nat) : Int)) = true := by simp
      have d2 : ((([(i : Int), (r : Int)].length : Nat) : Int) != 2) = false := by simp
      have w1 : IntKind.i64.wrap ((i : Int) + (r : Int)) = ((i + r : Nat) : Int) := by rw [wrap64] <;> omega
      have e := inner_loop n xs t P F H ch L b p (runsM t xs j (i + r)) i r hx (by omega) hin r 0 n (by omega) (by omega)
      have e : f14_l_FnPeaks.l1 n n xs.length (fls .f32 xs) P F H ch L (p ++ [(i : Int), (r : Int)] :: runsM t xs j (i + r)).length ((p ++ [(i : Int), (r : Int)] :: runsM t xs j (i + r)).map rwI) b xs.length (bls (flagsM t xs i)) (p.length : Int) (i : Int) = _ := e
      rw [f14_l_FnPeaks.l0, lt_mid, in_mid, toNat_len, okAt_midR, nAt_midR, lAt_midR, d0, d1, d2, o0, o1, i0, i1, w1, decide_eq_false (show ¬ (i : Int) ≤ end_ by omega), decide_eq_false (show ¬ (r : Int) < 1 by omega), decide_eq_false (show ¬ ((i + r : Nat) : Int) > (xs.length : Int) by omega), e]
      simp only [br_t, br_f, gd_t, bd_s, Bool.and_self, in_mid, toNat_len, okAt_midR, nAt_midR, lAt_midR, d0, d1, o0, o1, i0, i1, w1, wrap_len (z := [(i : Int), (r : Int)]) (show p.length < 4611686018427387904 by omega)]
      have := ih (i + r) m (p ++ [[(i : Int), (r : Int)]]) ((i + r : Nat) : Int) (by omega) (by omega) (by simp; omega) (.inr ⟨rfl, hstop⟩) (by omega)
      simpa using this
/-! ### the law's own loop -/
def mxM (z : Nat) : Nat := fmx true .f32 z (negF .f32 z)
theorem mx_val {z : Nat} (h : Plain z) : ∃ u, Val .f32 (mxM z) u ∧ Val .f32 (size32 z) u ∧ 0 ≤ u := by
  obtain ⟨u, u1, -, u3, -, u5⟩ := h.val
  have hv := fin_val h.fin
  have hn := neg_val h.w32 hv
  obtain ⟨o1, o2, o3⟩ := order_val hv hn
  generalize fval .f32 z = a at *
  refine ⟨u, ?_, u1, u3⟩
  unfold mxM fmx
  rcases (show a < -a ∨ a = -a ∨ -a < a by grind) with h | h | h
  · rw [o1.2 h]; simp only [if_true]
    have : u = -a := by rcases u5 with e | e <;> grind
    rw [this]; exact hn
  · rw [o2.2 h]
    have h0 : u = a ∧ u = -a := by rcases u5 with e | e <;> grind
    simp only
    split
    · rw [h0.2]; exact hn
    · rw [h0.1]; exact hv
  · rw [o3.2 h]; simp only [if_true]
    have : u = a := by rcases u5 with e | e <;> grind
    rw [this]; exact hv
theorem told_loop (n : Nat) (t fall peak : Nat) {tv f P : Rat} (ht : Val .f32 t tv) (hf : Val .f32 fall f) (f0 : 0 ≤ f) (f1 : f ≤ 1) (hP : Val .f32 peak P) : ∀ (zs p hp : List Nat) (l m : Nat) (found : Bool), hp.length = p.length → (∀ x ∈ zs, Plain x) → (∀ x ∈ zs, ∀ u, Val .f32 (size32 x) u → u ≤ P) → (∃ v, Val .f32 l v ∧ 0 ≤ v ∧ v ≤ 10) → p.length + zs.length ≤ 1000 → zs.length < m →
    f14_l_FnPeaks.l2 n m (p ++ zs).length (fls .f32 (p ++ zs)) peak fall (hp ++ (scan (holdStep fall) l zs).1).length (fls .f32 (hp ++ (scan (holdStep fall) l zs).1)) t found (p ++ zs).length (bls ((p ++ zs).map (clip t))) l (p.length : Int) = some (.inr (found || zs.any (fun z => feq .f32 (mxM z) peak))) := by
  intro zs
  induction zs with
  | nil =>
    intro p hp l m found _ _ _ _ _ hm
    obtain ⟨m, rfl⟩ : ∃ k, m = k + 1 := ⟨m - 1, by omega⟩
    rw [f14_l_FnPeaks.l2, lt_end]; simp [br_f]
  | cons z zs ih =>
    intro p hp l m found hl hz hle hv hlen hm
    obtain ⟨m, rfl⟩ : ∃ k, m = k + 1 := ⟨m - 1, by omega⟩
    have hpz := hz z (by simp)
    obtain ⟨v, v1, v2, v3⟩ := hv
    obtain ⟨w, h, u, w1, h1, u1, w2, w3, w4, w5⟩ := hold_val hf f0 f1 v1 v2 v3 hpz
    obtain ⟨u', m1, m2, m3⟩ := mx_val hpz
    have hu := m2.inj u1
    subst hu
    have hsc : (scan (holdStep fall) l (z :: zs)).1 = holdM fall l z :: (scan (holdStep fall) (holdM fall l z) zs).1 := rfl
    rw [hsc]
    have a1 : okAt [.flt .f32] (fls .f32 (hp ++ holdM fall l z :: (scan (holdStep fall) (holdM fall l z) zs).1)) p.length = true := by rw [← hl]; exact okAt_mid
    have a2 : fAt (fls .f32 (hp ++ holdM fall l z :: (scan (holdStep fall) (holdM fall l z) zs).1)) p.length = holdM fall l z := by rw [← hl]; exact fAt_mid
    have a3 : decide ((0 : Int) ≤ (p.length : Int) ∧ (p.length : Int) < ((hp ++ holdM fall l z :: (scan (holdStep fall) (holdM fall l z) zs).1).length : Int)) = true := by rw [← hl]; exact in_mid
    have b1 : okAt [.bool] (bls ((p ++ z :: zs).map (clip t))) p.length = true := by simp [okAt, bls, isCK]
    have b2 : bAt (bls ((p ++ z :: zs).map (clip t))) p.length = clip t z := by simp [bAt, bls]
    have c1 : fgt .f32 (mxM z) peak = false := by
      cases hg : fgt .f32 (mxM z) peak
      · rfl
      · have := (fgt_val m1 hP).1 hg
        have := hle z (by simp) _ u1
        grind
    have c2 : flt .f32 (holdM fall l z) (mxM z) = false := by
      cases hg : flt .f32 (holdM fall l z) (mxM z)
      · rfl
      · have := (flt_val w1 m1).1 hg; grind
    have c3 : flt .f32 (holdM fall l z) (fmul .f32 l fall) = false := by
      cases hg : flt .f32 (holdM fall l z) (fmul .f32 l fall)
      · rfl
      · have := (flt_val w1 h1).1 hg; grind
    have c4 : fge .f32 (mxM z) t = clip t z := by
      unfold clip
      rw [Bool.eq_iff_iff, fge_val m1 ht, fge_val u1 ht]
    have mxe : fmx true .f32 z (negF .f32 z) = mxM z := rfl
    have next := fun fd => ih (p ++ [z]) (hp ++ [holdM fall l z]) (holdM fall l z) m fd (by simp [hl]) (fun x hx => hz x (by simp [hx])) (fun x hx => hle x (by simp [hx])) ⟨w, w1, w2, w3⟩ (by simp at hlen ⊢; omega) (by simp at hm; omega)
    simp only [List.append_assoc, List.singleton_append] at next
    rw [f14_l_FnPeaks.l2, lt_mid, in_mid, toNat_len, okAt_mid, fAt_mid, a1, a2, a3, b1, b2, mxe]
    simp only [br_t, gd_t, c1, br_f, c2, c3, c4, beq_self_eq_true, br_not, wrap_len (z := z) (show p.length < 4611686018427387904 by simp at hlen; omega), List.any_cons]
    cases found
    · rw [br_f, next, Bool.false_or]
    · rw [br_t, next, Bool.true_or, Bool.true_or]
theorem exact_ (cs : List Int) (hc : ∀ b ∈ cs, GoodI .u8 b) (lc : cs.length ≤ maxLen) (ms : List Int) (hm : ∀ b ∈ ms, GoodI .u8 b) (lm : ms.length ≤ maxLen) : ∃ n, f14_l_FnPeaks n cs.length (its .u8 cs) ms.length (its .u8 ms) = some true := by
  refine ⟨1000, ?_⟩
  suffices h : ∀ n, f14_l_FnPeaks (n + 500) cs.length (its .u8 cs) ms.length (its .u8 ms) = some true from h 500
  intro n
  rw [f14_l_FnPeaks, l_long]
  cases hlong : decide (48 < cs.length ∨ 48 < ms.length)
  case true => rfl
  obtain ⟨c, hc1, e1⟩ := l_at (n + 498) (bytes_of hc) (i := 40) (k := 14) (by omega) (by omega)
  obtain ⟨c, rfl⟩ := Int.eq_ofNat_of_zero_le hc1.1
  obtain ⟨xs, hxl, hxp, e2⟩ := s_r8plain (n + 494) (bytes_of hm) c (by omega) (by omega)
  have e2 : f44_s_R8Plain (n + 499) ms.length (its .u8 ms) (c : Int) = some (xs.length, fls .f32 xs) := e2
  obtain ⟨d, hd1, e3⟩ := l_at (n + 498) (bytes_of hc) (i := 41) (k := 17) (by omega) (by omega)
  obtain ⟨d, rfl⟩ := Int.eq_ofNat_of_zero_le hd1.1
  obtain ⟨g, hg1, e4⟩ := l_at (n + 498) (bytes_of hc) (i := 42) (k := 64) (by omega) (by omega)
  obtain ⟨g, rfl⟩ := Int.eq_ofNat_of_zero_le hg1.1
  have hxw : ∀ x ∈ xs, W32 x := fun x hx => (hxp x hx).w32
  have vf := sixteenth_val (i := d) (by omega)
  obtain ⟨f0, f1⟩ := sixteenth_le (i := d) (by omega)
  have vt := sixteenth_val (i := g) (by omega)
  obtain ⟨fall, hfall⟩ : ∃ x, x = fdiv .f32 (FloatKind.f32.nearest (d : Int)) 1098907648 := ⟨_, rfl⟩
  obtain ⟨t, ht⟩ : ∃ x, x = fdiv .f32 (FloatKind.f32.nearest (g : Int)) 1098907648 := ⟨_, rfl⟩
  rw [← hfall] at vf
  rw [← ht] at vt
  have g1 := i_peakof (n + 495) xs hxw (by omega) (by omega)
  obtain ⟨ys, wy, hys, g2⟩ := between_ (n + 495) xs hxp (by omega) (by omega)
  have g3 := held (n + 496) xs 0 fall hxp (by omega) (by omega)
  have g4 := i_runs (n + 496) xs t hxw (by omega) (by omega)
  obtain ⟨pf1, pf2, pf3, pf4⟩ := peak_facts xs 0 w32_zero (by decide) (by decide) hxw
  obtain ⟨qf1, qf2, qf3, qf4⟩ := peak_facts ys 0 w32_zero (by decide) (by decide) wy
  have hpeak : ∃ P, Val .f32 (peakM 0 xs) P ∧ 0 ≤ P := by
    rcases pf4 with h | ⟨x, hx, -, h⟩
    · rw [h]; exact ⟨0, val_zero .f32, Rat.le_refl⟩
    · obtain ⟨v, v1, -, v3, -, -⟩ := (hxp x hx).val
      rw [h]; exact ⟨v, v1, v3⟩
  obtain ⟨P, hP, hP0⟩ := hpeak
  have hle : ∀ x ∈ xs, ∀ u, Val .f32 (size32 x) u → u ≤ P := by
    intro x hx v hv
    have hxn := fin_num (hxp x hx).fin
    have h1 := pf3 x hx hxn
    refine (fle_val hv hP).1 ?_
    rw [fle_key]; unfold num2
    rw [hv.num, pf1, key_size32 (hxw x hx).1 hxn]
    simpa using h1
  have hbet : flt .f32 (peakM 0 ys) (peakM 0 xs) = false := by
    rw [flt_key]
    have hk : key .f32 (peakM 0 xs) ≤ key .f32 (peakM 0 ys) := by
      rcases pf4 with h | ⟨x, hx, hxn, h⟩
      · rw [h]; exact qf2
      · obtain ⟨k, hk, rfl⟩ := List.getElem_of_mem hx
        obtain ⟨r, r1, r2⟩ := hys k hk
        rw [show xs.getD k 0 = xs[k] by simp [List.getD, hk]] at r2
        have hf := (feq_val r2 (fin_val (hxp _ hx).fin)).2 rfl
        rw [feq_key, Bool.and_eq_true, decide_eq_true_eq] at hf
        have := qf3 r r1 r2.num
        rw [h, key_size32 (hxw _ hx).1 hxn, ← hf.2]; exact this
    rw [decide_eq_false (show ¬ key .f32 (peakM 0 ys) < key .f32 (peakM 0 xs) by omega), Bool.and_false]
  have hlen := scan_length (holdStep fall) 0 xs
  have g5 := rows_loop (n + 499) xs t (peakM 0 xs) fall (scan (holdStep fall) 0 xs).1.length (fls .f32 (scan (holdStep fall) 0 xs).1) t (((xs.length : Nat) : Int) == 0) (by omega) (by omega) (xs.length + 1) 0 (n + 499) [] (-1) (by omega) (by omega) (by simp) (.inl (by omega)) (by omega)
  have hf0 : bls (flagsM t xs 0) = reps xs.length [T.bool false] := by
    rw [reps_one]; simp [bls, flagsM]
  have hfn : bls (flagsM t xs xs.length) = bls (xs.map (clip t)) := by simp [flagsM]
  rw [hf0, hfn] at g5
  have g5 : f14_l_FnPeaks.l0 (n + 499) (n + 499) xs.length (fls .f32 xs) (peakM 0 xs) fall (scan (holdStep fall) 0 xs).1.length (fls .f32 (scan (holdStep fall) 0 xs).1) t (runsM t xs (xs.length + 1) 0).length ((runsM t xs (xs.length + 1) 0).map rwI) (((xs.length : Nat) : Int) == 0) xs.length (reps xs.length [T.bool false]) (-1) 0 = _ := g5
  have g6 := told_loop (n + 499) t fall (peakM 0 xs) vt vf f0 f1 hP xs [] [] 0 (n + 499) (((xs.length : Nat) : Int) == 0) rfl hxp hle ⟨0, val_zero .f32, Rat.le_refl, by decide⟩ (by simp; omega) (by omega)
  have g6 : f14_l_FnPeaks.l2 (n + 499) (n + 499) xs.length (fls .f32 xs) (peakM 0 xs) fall (scan (holdStep fall) 0 xs).1.length (fls .f32 (scan (holdStep fall) 0 xs).1) t (((xs.length : Nat) : Int) == 0) xs.length (bls (xs.map (clip t))) 0 0 = _ := g6
  have hany : ((((xs.length : Nat) : Int) == 0) || xs.any (fun z => feq .f32 (mxM z) (peakM 0 xs))) = true := by
    rcases Nat.eq_zero_or_pos xs.length with h0 | h0
    · rw [h0]; rfl
    · rw [Bool.or_eq_true]; right
      rw [List.any_eq_true]
      rcases pf4 with h | ⟨x, hx, -, h⟩
      · refine ⟨xs[0], List.getElem_mem h0, ?_⟩
        obtain ⟨u, m1, m2, m3⟩ := mx_val (hxp _ (List.getElem_mem h0))
        have h1 := hle _ (List.getElem_mem h0) u m2
        have h2 : P = 0 := by rw [h] at hP; exact hP.inj (val_zero .f32)
        exact (feq_val m1 hP).2 (by grind)
      · refine ⟨x, hx, ?_⟩
        obtain ⟨u, m1, m2, -⟩ := mx_val (hxp _ hx)
        rw [h]
        exact (feq_val m1 m2).2 rfl
  have q1 : ((((scan (holdStep fall) 0 xs).1.length : Nat) : Int) != ((xs.length : Nat) : Int)) = false := by rw [hlen]; simp
  have q2 : decide ((0 : Int) ≤ ((xs.length : Nat) : Int) ∧ ((xs.length : Nat) : Int) ≤ 2147483648) = true := decide_eq_true (by omega)
  simp only [br_f, bd_s, e1, e2, e3, e4, ← hfall, ← ht, g1, g2, g3, g4, br_not, br_t, hbet, q1, q2, gd_t, g5, sm_r, g6, hany]
theorem law14 : ∀ args, LawArgs E Try.f14.params.toList args → ∃ N os, evalFn E N 14 args = some ⟨[⟨false, [.leaf], [.bool true]⟩], os⟩ := by
  intro args h0
  have hp : Try.f14.params.toList = [22, 22] := by kernel_rfl
  rw [hp] at h0
  obtain ⟨ts0, r0, rfl, hw0, h1⟩ := h0.cons_inv (d := ⟨false, 1, 24, [.sl .own [.leaf]], [.lst 0 []], .slc 5⟩) (by kernel_rfl)
  obtain ⟨n0, cs0, rfl, gl0, hs0⟩ := hw0.slc_inv (e := 5) (d := ⟨false, 1, 24, [.sl .own [.leaf]], [.lst 0 []], .slc 5⟩) (by kernel_rfl) rfl
  obtain ⟨a0, rfl, rfl, g0⟩ := hs0.ints (k := .u8) (d := ⟨false, 1, 1, [.leaf], [.int .u8 0], .int .u8⟩) (by kernel_rfl) rfl
  obtain ⟨ts1, r1, rfl, hw1, h2⟩ := h1.cons_inv (d := ⟨false, 1, 24, [.sl .own [.leaf]], [.lst 0 []], .slc 5⟩) (by kernel_rfl)
  obtain ⟨n1, cs1, rfl, gl1, hs1⟩ := hw1.slc_inv (e := 5) (d := ⟨false, 1, 24, [.sl .own [.leaf]], [.lst 0 []], .slc 5⟩) (by kernel_rfl) rfl
  obtain ⟨a1, rfl, rfl, g1⟩ := hs1.ints (k := .u8) (d := ⟨false, 1, 1, [.leaf], [.int .u8 0], .int .u8⟩) (by kernel_rfl) rfl
  obtain rfl := h2.nil_inv
  obtain ⟨N, hN⟩ := exact_ a0 g0 gl0 a1 g1 gl1
  exact ⟨N, _, f14_l_FnPeaks.ok N (a0.length, its .u8 a0, a1.length, its .u8 a1) true hN⟩


end Go.Proofs.Ytdejjalkfekjiaa.D
end
section
/- FnPeaks holds: for every input the law returns true, and its arguments read as before. -/
namespace Go.Proofs.Ytdejjalkfekjiaa.fnPeaks
open Go Go.ChangeShapes Go.WideShapes Go.ChangeAt Go.RowKit Go.Desk
set_option linter.unusedVariables false
theorem own : ownKnob Try.prog.godebug = none := by kernel_rfl
theorem laidOut : laidOutB Try.prog = true := by kernel_rfl
set_option maxRecDepth 100000 in
theorem lifted (os : Os) (started : os.Started) (H : Type) (enc : TypeId × Value → H) :
    ReturnsInHanded {} Try.checked os 14 .any (Rows.fnPeaksSpec.pre6 enc Try.prog Try.f14 Rows.fnPeaksRow.domain false) (Rows.fnPeaksSpec.post enc Try.prog Try.f14 false true false false) := by
  refine returnsInHanded_of_change (C := Try.checked) own started (by kernel_rfl) Try.func14
    (ChangeSpec.witness6 (enc := enc) (C := Try.checked) false ⟨#[], #[.slice none 0 0, .slice none 0 0], []⟩ 8 (by kernel_rfl) (by kernel_rfl) (by kernel_rfl) (by kernel_rfl)) ?_
  intro W base args ds gs before hval hW hcnd _
  exact law_contract (c := D.c14) Try.checked.mixed D.tysOk D.fnOk Try.func14 (by kernel_rfl) (by kernel_rfl) (by kernel_rfl) Try.underlying4 rfl
    (fun ds h => by
      rw [show Try.f14.params.toList.length = 2 by kernel_rfl] at h
      match ds, h with
      | [_, _], _ => rfl)
    laidOut (N := 8) (by kernel_rfl) (by kernel_rfl) D.law14 hval hW
theorem over : Rows.fnPeaksRow.holds Try.pinned (OpenSpec.ofChange Rows.fnPeaksSpec) :=
  OpenClaim.holds_of_wide 14 Try.f14 rfl rfl rfl rfl rfl rfl rfl ⟨rfl, rfl, rfl, rfl, rfl⟩ rfl rfl rfl rfl rfl (by kernel_rfl) Try.func14 (by kernel_rfl)
    (of_decide_eq_true (by kernel_rfl)) (by unfold Func.isWrapper; first | (rw [if_pos (by decide +kernel)]; kernel_rfl) | (rw [if_neg (by decide +kernel)]; exact ⟨rfl, rfl⟩))
    (fun os started H enc _ => lifted os started H enc)
theorem proved : Rows.FnPeaksSaid := over
#print axioms proved
end Go.Proofs.Ytdejjalkfekjiaa.fnPeaks
namespace Go.Proofs.Ytdejjalkfekjiaa
/-- The row, under a short name, for the claim. -/
theorem fnPeaks_holds : Rows.FnPeaksSaid := fnPeaks.proved
end Go.Proofs.Ytdejjalkfekjiaa
end
