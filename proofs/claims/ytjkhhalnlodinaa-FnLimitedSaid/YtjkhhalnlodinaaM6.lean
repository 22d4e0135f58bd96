/- FnLimited holds: for every input the law returns true, and its arguments read as before. -/
import Derived.Test.YtjkhhalnlodinaaChecked
import Derived.Test.YtjkhhalnlodinaaDeskF
import Derived.KernelRfl
import Derived.Test.YtjkhhalnlodinaaRows
import Derived.WalkKit
import Derived.ProofKit
import Derived.OpenShut
import Derived.ShutString
import Derived.ChangeOld
import Derived.Below
import Derived.SizedLaws
set_option linter.all false
section
/- What math.Abs owes: tables of its own, and the reading of its code. -/
namespace Go.Proofs.Ytjkhhalnlodinaa.DA
open Go Go.Desk
def bodyOf (f : Func) : Code := match f.body with
  | some c => c
  | none => .skip
def tyTab : List (Nat × TD) := [
  (34, ⟨false, 1, 8, [.leaf], [.flt .f64 0], .flt .f64⟩),
  (174, ⟨false, 1, 8, [.leaf], [.int .u64 0], .int .u64⟩)]
noncomputable def c179 : Code := bodyOf Try.f179
noncomputable def fnTab : List (Nat × FD) := [
  (178, .ext (pF64frombits)),
  (179, .code c179 [.val] [] [(2, none)] [(0, [0]), (1, [0])]),
  (189, .ext (pF64bits))]
noncomputable def E : Env := ⟨fun t => lookT tyTab t, lookF fnTab⟩
noncomputable def fdAt (n : Nat) : FD := match lookF fnTab n with
  | some d => d
  | none => .ext fun _ => none
noncomputable def keepAt (n : Nat) : List (Nat × List Nat) := match lookF fnTab n with
  | some d => d.keep
  | none => []
theorem tysOk : TysOk Try.prog E := tysOk_of (l := tyTab) (fun _ => rfl) (by kernel_rfl)
theorem ft178 : FnTab Try.prog E 178 (.ext (pF64frombits)) := ext_pF64frombits Try.func178 (by kernel_rfl) (by kernel_rfl) (by kernel_rfl) (by kernel_rfl)
theorem ft179 : FnTab Try.prog E 179 (fdAt 179) := fnTab_code (c := c179) (modes := (fdAt 179).ms) (outs := (fdAt 179).os) (results := (fdAt 179).rs) (keep := (fdAt 179).keep) Try.func179 (by kernel_rfl) (by kernel_rfl) (by kernel_rfl)
theorem ft189 : FnTab Try.prog E 189 (.ext (pF64bits)) := ext_pF64bits Try.func189 (by kernel_rfl) (by kernel_rfl) (by kernel_rfl) (by kernel_rfl)
theorem allFns : AllFns Try.prog E fnTab := .cons ft178 (.cons ft179 (.cons ft189 (.nil)))
theorem fnOk : ∀ f fd, E.fn f = some fd → FnTab Try.prog E f fd := fnTab_of (l := fnTab) (fun _ => rfl) allFns
end Go.Proofs.Ytjkhhalnlodinaa.DA
section
namespace Go.Proofs.Ytjkhhalnlodinaa.DA
open Go Go.Desk
set_option linter.unusedVariables false
noncomputable def x178.w : FnW E := xF64frombits.w 178 (by kernel_rfl)

noncomputable def x189.w : FnW E := xF64bits.w 189 (by kernel_rfl)

def f179_mathAbs : Nat → Nat → Option (Nat)
  | 0, _ => none
  | n + 1, x1 =>
    bd (xF64bits n x1) fun r2 =>
    let i3 : Int := r2
    bd (xF64frombits n (intBits BinOp.andNot IntKind.u64 i3 (9223372036854775808 : Int))) fun r4 =>
    let x5 : Nat := r4
    some x5
def sg_f : Sig (Nat) where
  pk := fun v => [.flt v]
  up := fun ls => match ls with
    | [.flt a0] => some a0
    | _ => none
  ok := by
    intro ls v h
    split at h
    · cases h; rfl
    · cases h

def f179_mathAbs.P : List Arg := [⟨.val, ⟨false, [.leaf], [.flt .f64 0]⟩⟩]
def f179_mathAbs.A : RAlt (Nat) := .one ⟨[⟨false, [.leaf], [.flt .f64 0]⟩], [none]⟩ sg_f
def f179_mathAbs.F (n : Nat) (v : Nat) := f179_mathAbs n v
noncomputable def f179_mathAbs.O (n : Nat) : Orc := orcOf (E := E) [x178.w, x189.w] [] n
theorem f179_mathAbs.ok : ∀ n v x, f179_mathAbs.F n v = some x → evalFn E n 179 (flAs f179_mathAbs.P (sg_f.pk v)) = some (f179_mathAbs.A.enc x) :=
  fn_pure (modes := (fdAt 179).ms) (outs := (fdAt 179).os) (results := (fdAt 179).rs) f179_mathAbs.O (c := c179) (keep := keepAt 179) (by kernel_rfl) (fun n => orcOf_cf _ _ n) (fun n => lpOk_of (bs := []) (by kernel_rfl) .nil) (fun _ => rfl) (fun _ _ => by kernel_rfl)
noncomputable def f179_mathAbs.w : FnW E := fnW 179 f179_mathAbs.P sg_f f179_mathAbs.A f179_mathAbs.F f179_mathAbs.ok
end Go.Proofs.Ytjkhhalnlodinaa.DA
end
namespace Go.Proofs.Ytjkhhalnlodinaa.DA
open Go Go.Desk
theorem absOk : ExtOk Try.prog 179 pAbs := ext_pAbs_of Try.checked.mixed tysOk fnOk
  (fun x hN hx => ⟨3, f179_mathAbs.ok 3 x _ (abs_plain 1 hN)⟩)
  ⟨5, by kernel_rfl⟩
end Go.Proofs.Ytjkhhalnlodinaa.DA
end
section
/- The tables of the reading: types and functions of the translation, with what is kept at each region's beginning (written by a program of this workplace). -/
namespace Go.Proofs.Ytjkhhalnlodinaa.D
open Go Go.Desk
def bodyOf (f : Func) : Code := match f.body with
  | some c => c
  | none => .skip
def tyTab : List (Nat × TD) := [
  (2, ⟨false, 1, 8, [.leaf], [.int .i64 0], .int .i64⟩),
  (3, ⟨false, 1, 8, [.leaf], [.int .i64 0], .int .i64⟩),
  (4, ⟨false, 1, 1, [.leaf], [.bool false], .bool⟩),
  (5, ⟨false, 1, 1, [.leaf], [.int .u8 0], .int .u8⟩),
  (22, ⟨false, 1, 24, [.sl .own [.leaf]], [.lst 0 []], .slc 5⟩),
  (24, ⟨false, 1, 24, [.sl .own [.leaf]], [.lst 0 []], .slc 29⟩),
  (29, ⟨false, 1, 4, [.leaf], [.flt .f32 0], .flt .f32⟩),
  (34, ⟨false, 1, 8, [.leaf], [.flt .f64 0], .flt .f64⟩),
  (35, ⟨false, 1, 8, [.leaf], [.int .u64 0], .int .u64⟩),
  (36, ⟨false, 1, 24, [.sl .own [.leaf]], [.lst 0 []], .slc 2⟩),
  (48, ⟨true, 4, 40, [.leaf, .leaf, .leaf, .sl .own [.leaf]], [.flt .f32 0, .flt .f32 0, .flt .f32 0, .lst 0 []], .st [(0, 29), (1, 29), (2, 29), (3, 24)]⟩),
  (120, ⟨false, 1, 8, [.leaf], [.nil], .ptr 176⟩),
  (128, ⟨false, 1, 4, [.leaf], [.int .u32 0], .int .u32⟩),
  (174, ⟨false, 1, 8, [.leaf], [.int .u64 0], .int .u64⟩),
  (176, ⟨true, 3, 40, [.sl .own [.leaf], .leaf, .leaf], [.lst 0 [], .int .i64 0, .int .u64 0], .st [(0, 22), (1, 3), (2, 174)]⟩)]
noncomputable def c6 : Code := bodyOf Try.f6
noncomputable def c15 : Code := bodyOf Try.f15
noncomputable def c17 : Code := bodyOf Try.f17
noncomputable def c21 : Code := bodyOf Try.f21
noncomputable def c22 : Code := bodyOf Try.f22
noncomputable def c36 : Code := bodyOf Try.f36
noncomputable def c37 : Code := bodyOf Try.f37
noncomputable def c38 : Code := bodyOf Try.f38
noncomputable def c39 : Code := bodyOf Try.f39
noncomputable def c90 : Code := bodyOf Try.f90
noncomputable def c91 : Code := bodyOf Try.f91
noncomputable def c92 : Code := bodyOf Try.f92
noncomputable def c93 : Code := bodyOf Try.f93
noncomputable def c97 : Code := bodyOf Try.f97
noncomputable def c98 : Code := bodyOf Try.f98
noncomputable def c107 : Code := bodyOf Try.f107
noncomputable def c108 : Code := bodyOf Try.f108
noncomputable def c109 : Code := bodyOf Try.f109
noncomputable def c110 : Code := bodyOf Try.f110
noncomputable def c111 : Code := bodyOf Try.f111
noncomputable def c112 : Code := bodyOf Try.f112
noncomputable def c136 : Code := bodyOf Try.f136
noncomputable def c158 : Code := bodyOf Try.f158
noncomputable def c163 : Code := bodyOf Try.f163
noncomputable def c166 : Code := bodyOf Try.f166
noncomputable def c167 : Code := bodyOf Try.f167
noncomputable def c168 : Code := bodyOf Try.f168
noncomputable def fnTab : List (Nat × FD) := [
  (6, .code c6 [.val, .val] [] [(4, none)] [(0, [0, 1]), (1, [0, 1]), (2, []), (3, [0, 1]), (4, [0, 1, 5]), (5, [0, 1, 5, 6]), (6, [0, 1, 5, 6, 7]), (7, [0, 1, 5, 7, 8, 9]), (8, [0, 5, 7, 8, 9, 10]), (9, [5, 7, 8, 9, 10, 11]), (10, [5, 7, 8, 9, 10, 11, 12, 13, 14]), (11, [5, 7, 9, 10, 11, 12, 13, 14, 15, 16, 17]), (12, [5, 7, 9, 10, 12, 13, 14, 15, 17, 18, 19, 20]), (13, []), (14, [5, 7, 10, 12]), (15, [5, 7, 10, 12, 21]), (16, [5, 7, 10, 12, 21, 22]), (17, [5, 7, 10, 12, 21, 22]), (18, [5, 7, 10, 12, 21, 22]), (19, []), (20, [5, 7, 10, 12, 21, 22]), (21, [5, 7, 10, 12, 21]), (22, [5, 7, 10, 12, 21, 23]), (23, [5, 7, 10, 12, 21, 23]), (24, [5, 7, 10, 12, 21, 23]), (25, [5, 7, 10, 12, 21, 23, 24]), (26, [5, 7, 10, 12, 21, 23]), (27, [5, 7, 10, 12, 21, 23, 24]), (28, []), (29, [5, 10]), (30, [5, 10, 25, 26]), (31, []), (32, [5, 10, 25]), (33, [5, 10, 25, 27]), (34, [5, 10, 25, 27]), (35, [5, 10, 25, 27]), (36, []), (37, []), (1000016, [4, 5, 7, 10, 12, 21]), (1000022, [4, 5, 10]), (1000033, [4])]),
  (15, .code c15 [.val, .val] [] [(4, none)] [(0, [0, 1]), (1, [0, 1])]),
  (17, .code c17 [.val, .val, .val] [] [(6, none)] [(0, [0, 1, 2]), (1, [0, 1, 2]), (2, []), (3, [0, 1, 2])]),
  (21, .code c21 [.val, .val] [] [(4, none)] [(0, [0, 1]), (1, [0, 1]), (2, [0, 1]), (3, [0, 1])]),
  (22, .code c22 [.val, .val] [] [(4, none)] [(0, [0, 1]), (1, [0, 1]), (2, [1, 5]), (3, [5, 6])]),
  (36, .code c36 [.val, .val, .val] [] [(6, some (true, 4)), (7, none)] [(0, [0, 1, 2]), (1, [0, 1, 2, 6]), (2, [6]), (3, [0, 1, 2, 6])]),
  (37, .code c37 [.val, .val] [] [(4, none), (5, some (true, 4)), (6, none)] [(0, [0, 1]), (1, [1, 2, 5]), (2, [5]), (3, [1, 2, 5]), (4, [1, 2, 5]), (5, [1, 2, 5, 7, 1000000002]), (6, [1, 2, 5, 7, 34, 35, 36, 1000000002]), (7, [1, 2, 5, 7, 34, 35, 36, 1000000002]), (8, [1, 2, 5, 7, 9, 34, 35, 36, 1000000002]), (9, [1, 2, 5, 7, 10, 34, 35, 36, 1000000010, 1000000002]), (10, [1, 2, 5, 7, 10, 11, 34, 35, 36, 1000000010, 1000000002]), (11, [1, 2, 5, 7, 10, 11, 12, 34, 35, 36, 1000000010, 1000000002]), (12, [1, 2, 5, 7, 10, 12, 34, 35, 36, 1000000010, 1000000002]), (13, [1, 2, 5, 7, 10, 11, 34, 35, 36, 1000000010, 1000000002]), (14, [1, 2, 5, 7, 10, 11, 13, 34, 35, 36, 1000000010, 1000000002]), (15, [1, 2, 5, 7, 10, 11, 34, 35, 36, 1000000010, 1000000002]), (16, [1, 2, 5, 7, 10, 13, 34, 35, 36, 1000000010, 1000000002]), (17, [1, 2, 5, 7, 10, 13, 34, 35, 36, 1000000010, 1000000002]), (18, [1, 2, 5, 7, 10, 13, 34, 35, 36, 1000000010, 1000000002]), (19, [1, 2, 5, 7, 34, 35, 36, 1000000002]), (20, [2, 5, 7]), (21, [2, 5, 7]), (1000006, [2, 5, 7, 1000000002])]),
  (38, .code c38 [.val, .val] [] [(4, none)] [(0, [0, 1]), (1, [0, 1]), (2, []), (3, [0, 1]), (4, [0, 1, 5]), (5, [0, 1, 5]), (6, [0, 1, 5]), (7, []), (8, []), (1000004, [4])]),
  (39, .code c39 [.val, .val] [] [(4, none), (5, none)] [(0, [0, 1]), (1, [0, 1]), (2, []), (3, [0, 1]), (4, [0, 1, 6]), (5, [0, 1, 6, 12, 13, 14]), (6, [0, 1, 6, 12, 13, 14]), (7, [0, 1, 6, 8, 12, 13, 14]), (8, [0, 1, 6, 12, 13, 14]), (9, [6]), (1000005, [6])]),
  (90, .code c90 [.val] [] [(2, none)] [(0, [0]), (1, [0])]),
  (91, .code c91 [.iop] [0] [(2, none)] [(0, [0]), (1, [0]), (2, [0, 3]), (3, [0, 3]), (4, [0, 3])]),
  (92, .code c92 [.val] [] [(2, none)] [(0, [0]), (1, [0])]),
  (93, .code c93 [.val, .val, .val] [] [(6, none)] [(0, [0, 1, 2]), (1, [0, 1, 2])]),
  (96, .ext (pF32bits)),
  (97, .code c97 [.iop, .val] [0] [(4, none)] [(0, [0, 1]), (1, [0, 1]), (2, [0]), (3, [0, 1]), (4, [0, 1, 5]), (5, [0, 1, 5]), (6, [0, 1, 5])]),
  (98, .code c98 [.iop, .val] [0] [(4, none)] [(0, [0, 1]), (1, [0, 1]), (2, [0, 1, 5]), (3, [0, 1, 5, 6]), (4, [0, 1, 5, 6]), (5, [0, 1, 5, 6]), (6, [0, 1, 5, 6]), (7, [0, 1, 5, 6]), (8, [0, 5]), (1000003, [0, 5])]),
  (107, .code c107 [.val] [] [(2, none)] [(0, [0]), (1, [0])]),
  (108, .code c108 [.val] [] [(2, none)] [(0, [0]), (1, [0])]),
  (109, .code c109 [.val] [] [(2, none)] [(0, [0]), (1, [0])]),
  (110, .code c110 [.val] [] [(2, none)] [(0, [0]), (1, [0]), (2, [0, 3]), (3, [0, 3, 7, 8, 9]), (4, [0, 3, 7, 8, 9]), (5, [0, 3, 5, 7, 8, 9]), (6, [0, 3, 6, 7, 8, 9]), (7, [0, 6, 7, 8, 9]), (8, [0, 3, 7, 8, 9]), (9, [3]), (1000003, [3])]),
  (111, .code c111 [.val, .val] [] [(4, none)] [(0, [0, 1]), (1, [0, 1]), (2, [0]), (3, [0, 1]), (4, [1]), (5, [1])]),
  (112, .code c112 [.iop] [0] [(2, none)] [(0, [0]), (1, [0]), (2, [0]), (3, [0]), (4, [0, 10]), (5, [0]), (6, [0, 10]), (7, [0]), (8, [0, 3]), (9, [0, 10]), (10, [0]), (11, [0])]),
  (136, .code c136 [.val] [] [(2, none)] [(0, [0]), (1, [0])]),
  (158, .code c158 [.iop, .val] [0] [(4, none)] [(0, [0, 1]), (1, [0, 1])]),
  (163, .code c163 [.iop] [0] [(2, none)] [(0, [0]), (1, [0]), (2, [0, 3]), (3, [0]), (4, [0, 3]), (5, [0, 3]), (6, [0, 3]), (7, [0, 3]), (8, [0])]),
  (166, .code c166 [.val] [] [(2, none)] [(0, [0]), (1, [0])]),
  (167, .code c167 [.val] [] [(2, none)] [(0, [0]), (1, [0])]),
  (168, .code c168 [.iop, .io] [0, 1] [(4, none)] [(0, [0, 1]), (1, [0, 1])]),
  (179, .ext (pAbs)),
  (183, .ext (pF32frombits))]
noncomputable def E : Env := ⟨fun t => lookT tyTab t, lookF fnTab⟩
noncomputable def fdAt (n : Nat) : FD := match lookF fnTab n with
  | some d => d
  | none => .ext fun _ => none
noncomputable def keepAt (n : Nat) : List (Nat × List Nat) := match lookF fnTab n with
  | some d => d.keep
  | none => []
theorem tysOk : TysOk Try.prog E := tysOk_of (l := tyTab) (fun _ => rfl) (by kernel_rfl)
theorem ft6 : FnTab Try.prog E 6 (fdAt 6) := fnTab_code (c := c6) (modes := (fdAt 6).ms) (outs := (fdAt 6).os) (results := (fdAt 6).rs) (keep := (fdAt 6).keep) Try.func6 (by kernel_rfl) (by kernel_rfl) (by kernel_rfl)
theorem ft15 : FnTab Try.prog E 15 (fdAt 15) := fnTab_code (c := c15) (modes := (fdAt 15).ms) (outs := (fdAt 15).os) (results := (fdAt 15).rs) (keep := (fdAt 15).keep) Try.func15 (by kernel_rfl) (by kernel_rfl) (by kernel_rfl)
theorem ft17 : FnTab Try.prog E 17 (fdAt 17) := fnTab_code (c := c17) (modes := (fdAt 17).ms) (outs := (fdAt 17).os) (results := (fdAt 17).rs) (keep := (fdAt 17).keep) Try.func17 (by kernel_rfl) (by kernel_rfl) (by kernel_rfl)
theorem ft21 : FnTab Try.prog E 21 (fdAt 21) := fnTab_code (c := c21) (modes := (fdAt 21).ms) (outs := (fdAt 21).os) (results := (fdAt 21).rs) (keep := (fdAt 21).keep) Try.func21 (by kernel_rfl) (by kernel_rfl) (by kernel_rfl)
theorem ft22 : FnTab Try.prog E 22 (fdAt 22) := fnTab_code (c := c22) (modes := (fdAt 22).ms) (outs := (fdAt 22).os) (results := (fdAt 22).rs) (keep := (fdAt 22).keep) Try.func22 (by kernel_rfl) (by kernel_rfl) (by kernel_rfl)
theorem ft36 : FnTab Try.prog E 36 (fdAt 36) := fnTab_code (c := c36) (modes := (fdAt 36).ms) (outs := (fdAt 36).os) (results := (fdAt 36).rs) (keep := (fdAt 36).keep) Try.func36 (by kernel_rfl) (by kernel_rfl) (by kernel_rfl)
theorem ft37 : FnTab Try.prog E 37 (fdAt 37) := fnTab_code (c := c37) (modes := (fdAt 37).ms) (outs := (fdAt 37).os) (results := (fdAt 37).rs) (keep := (fdAt 37).keep) Try.func37 (by kernel_rfl) (by kernel_rfl) (by kernel_rfl)
theorem ft38 : FnTab Try.prog E 38 (fdAt 38) := fnTab_code (c := c38) (modes := (fdAt 38).ms) (outs := (fdAt 38).os) (results := (fdAt 38).rs) (keep := (fdAt 38).keep) Try.func38 (by kernel_rfl) (by kernel_rfl) (by kernel_rfl)
theorem ft39 : FnTab Try.prog E 39 (fdAt 39) := fnTab_code (c := c39) (modes := (fdAt 39).ms) (outs := (fdAt 39).os) (results := (fdAt 39).rs) (keep := (fdAt 39).keep) Try.func39 (by kernel_rfl) (by kernel_rfl) (by kernel_rfl)
theorem ft90 : FnTab Try.prog E 90 (fdAt 90) := fnTab_code (c := c90) (modes := (fdAt 90).ms) (outs := (fdAt 90).os) (results := (fdAt 90).rs) (keep := (fdAt 90).keep) Try.func90 (by kernel_rfl) (by kernel_rfl) (by kernel_rfl)
theorem ft91 : FnTab Try.prog E 91 (fdAt 91) := fnTab_code (c := c91) (modes := (fdAt 91).ms) (outs := (fdAt 91).os) (results := (fdAt 91).rs) (keep := (fdAt 91).keep) Try.func91 (by kernel_rfl) (by kernel_rfl) (by kernel_rfl)
theorem ft92 : FnTab Try.prog E 92 (fdAt 92) := fnTab_code (c := c92) (modes := (fdAt 92).ms) (outs := (fdAt 92).os) (results := (fdAt 92).rs) (keep := (fdAt 92).keep) Try.func92 (by kernel_rfl) (by kernel_rfl) (by kernel_rfl)
theorem ft93 : FnTab Try.prog E 93 (fdAt 93) := fnTab_code (c := c93) (modes := (fdAt 93).ms) (outs := (fdAt 93).os) (results := (fdAt 93).rs) (keep := (fdAt 93).keep) Try.func93 (by kernel_rfl) (by kernel_rfl) (by kernel_rfl)
theorem ft96 : FnTab Try.prog E 96 (.ext (pF32bits)) := ext_pF32bits Try.func96 (by kernel_rfl) (by kernel_rfl) (by kernel_rfl) (by kernel_rfl)
theorem ft97 : FnTab Try.prog E 97 (fdAt 97) := fnTab_code (c := c97) (modes := (fdAt 97).ms) (outs := (fdAt 97).os) (results := (fdAt 97).rs) (keep := (fdAt 97).keep) Try.func97 (by kernel_rfl) (by kernel_rfl) (by kernel_rfl)
theorem ft98 : FnTab Try.prog E 98 (fdAt 98) := fnTab_code (c := c98) (modes := (fdAt 98).ms) (outs := (fdAt 98).os) (results := (fdAt 98).rs) (keep := (fdAt 98).keep) Try.func98 (by kernel_rfl) (by kernel_rfl) (by kernel_rfl)
theorem ft107 : FnTab Try.prog E 107 (fdAt 107) := fnTab_code (c := c107) (modes := (fdAt 107).ms) (outs := (fdAt 107).os) (results := (fdAt 107).rs) (keep := (fdAt 107).keep) Try.func107 (by kernel_rfl) (by kernel_rfl) (by kernel_rfl)
theorem ft108 : FnTab Try.prog E 108 (fdAt 108) := fnTab_code (c := c108) (modes := (fdAt 108).ms) (outs := (fdAt 108).os) (results := (fdAt 108).rs) (keep := (fdAt 108).keep) Try.func108 (by kernel_rfl) (by kernel_rfl) (by kernel_rfl)
theorem ft109 : FnTab Try.prog E 109 (fdAt 109) := fnTab_code (c := c109) (modes := (fdAt 109).ms) (outs := (fdAt 109).os) (results := (fdAt 109).rs) (keep := (fdAt 109).keep) Try.func109 (by kernel_rfl) (by kernel_rfl) (by kernel_rfl)
theorem ft110 : FnTab Try.prog E 110 (fdAt 110) := fnTab_code (c := c110) (modes := (fdAt 110).ms) (outs := (fdAt 110).os) (results := (fdAt 110).rs) (keep := (fdAt 110).keep) Try.func110 (by kernel_rfl) (by kernel_rfl) (by kernel_rfl)
theorem ft111 : FnTab Try.prog E 111 (fdAt 111) := fnTab_code (c := c111) (modes := (fdAt 111).ms) (outs := (fdAt 111).os) (results := (fdAt 111).rs) (keep := (fdAt 111).keep) Try.func111 (by kernel_rfl) (by kernel_rfl) (by kernel_rfl)
theorem ft112 : FnTab Try.prog E 112 (fdAt 112) := fnTab_code (c := c112) (modes := (fdAt 112).ms) (outs := (fdAt 112).os) (results := (fdAt 112).rs) (keep := (fdAt 112).keep) Try.func112 (by kernel_rfl) (by kernel_rfl) (by kernel_rfl)
theorem ft136 : FnTab Try.prog E 136 (fdAt 136) := fnTab_code (c := c136) (modes := (fdAt 136).ms) (outs := (fdAt 136).os) (results := (fdAt 136).rs) (keep := (fdAt 136).keep) Try.func136 (by kernel_rfl) (by kernel_rfl) (by kernel_rfl)
theorem ft158 : FnTab Try.prog E 158 (fdAt 158) := fnTab_code (c := c158) (modes := (fdAt 158).ms) (outs := (fdAt 158).os) (results := (fdAt 158).rs) (keep := (fdAt 158).keep) Try.func158 (by kernel_rfl) (by kernel_rfl) (by kernel_rfl)
theorem ft163 : FnTab Try.prog E 163 (fdAt 163) := fnTab_code (c := c163) (modes := (fdAt 163).ms) (outs := (fdAt 163).os) (results := (fdAt 163).rs) (keep := (fdAt 163).keep) Try.func163 (by kernel_rfl) (by kernel_rfl) (by kernel_rfl)
theorem ft166 : FnTab Try.prog E 166 (fdAt 166) := fnTab_code (c := c166) (modes := (fdAt 166).ms) (outs := (fdAt 166).os) (results := (fdAt 166).rs) (keep := (fdAt 166).keep) Try.func166 (by kernel_rfl) (by kernel_rfl) (by kernel_rfl)
theorem ft167 : FnTab Try.prog E 167 (fdAt 167) := fnTab_code (c := c167) (modes := (fdAt 167).ms) (outs := (fdAt 167).os) (results := (fdAt 167).rs) (keep := (fdAt 167).keep) Try.func167 (by kernel_rfl) (by kernel_rfl) (by kernel_rfl)
theorem ft168 : FnTab Try.prog E 168 (fdAt 168) := fnTab_code (c := c168) (modes := (fdAt 168).ms) (outs := (fdAt 168).os) (results := (fdAt 168).rs) (keep := (fdAt 168).keep) Try.func168 (by kernel_rfl) (by kernel_rfl) (by kernel_rfl)
theorem ft179 : FnTab Try.prog E 179 (.ext (pAbs)) := DA.absOk
theorem ft183 : FnTab Try.prog E 183 (.ext (pF32frombits)) := ext_pF32frombits Try.func183 (by kernel_rfl) (by kernel_rfl) (by kernel_rfl) (by kernel_rfl)
theorem allFns : AllFns Try.prog E fnTab := .cons ft6 (.cons ft15 (.cons ft17 (.cons ft21 (.cons ft22 (.cons ft36 (.cons ft37 (.cons ft38 (.cons ft39 (.cons ft90 (.cons ft91 (.cons ft92 (.cons ft93 (.cons ft96 (.cons ft97 (.cons ft98 (.cons ft107 (.cons ft108 (.cons ft109 (.cons ft110 (.cons ft111 (.cons ft112 (.cons ft136 (.cons ft158 (.cons ft163 (.cons ft166 (.cons ft167 (.cons ft168 (.cons ft179 (.cons ft183 (.nil))))))))))))))))))))))))))))))
theorem fnOk : ∀ f fd, E.fn f = some fd → FnTab Try.prog E f fd := fnTab_of (l := fnTab) (fun _ => rfl) allFns
end Go.Proofs.Ytjkhhalnlodinaa.D
end
section
/- Plain functions for the law's Go functions, each tied to the reading by the kernel (printed by a program of this workplace). -/
namespace Go.Proofs.Ytjkhhalnlodinaa.D
open Go Go.Desk
set_option linter.unusedVariables false
noncomputable def x96.w : FnW E := xF32bits.w 96 (by kernel_rfl)

noncomputable def x183.w : FnW E := xF32frombits.w 183 (by kernel_rfl)

noncomputable def x179.w : FnW E := xAbs.w 179 (by kernel_rfl)

def f15_l_r8Long : Nat → Nat → List T → Nat → List T → Option (Bool)
  | 0, _, _, _, _ => none
  | n + 1, n1, l2, n3, l4 =>
    br (decide (((n1 : Nat) : Int) > (48 : Int))) (
     some true) (
     some (decide (((n3 : Nat) : Int) > (48 : Int))))
def sg_ll : Sig (Nat × List T × Nat × List T) where
  pk := fun v => [.lst v.1 v.2.1, .lst v.2.2.1 v.2.2.2]
  up := fun ls => match ls with
    | [.lst a0 a1, .lst a2 a3] => some (a0, a1, a2, a3)
    | _ => none
  ok := by
    intro ls v h
    split at h
    · cases h; rfl
    · cases h

def sg_b : Sig (Bool) where
  pk := fun v => [.bool v]
  up := fun ls => match ls with
    | [.bool a0] => some a0
    | _ => none
  ok := by
    intro ls v h
    split at h
    · cases h; rfl
    · cases h

def f15_l_r8Long.P : List Arg := [⟨.val, ⟨false, [.sl .shr [.leaf]], [.lst 0 []]⟩⟩, ⟨.val, ⟨false, [.sl .shr [.leaf]], [.lst 0 []]⟩⟩]
def f15_l_r8Long.A : RAlt (Bool) := .one ⟨[⟨false, [.leaf], [.bool false]⟩], [none, none]⟩ sg_b
def f15_l_r8Long.F (n : Nat) (v : Nat × List T × Nat × List T) := f15_l_r8Long n v.1 v.2.1 v.2.2.1 v.2.2.2
noncomputable def f15_l_r8Long.O (n : Nat) : Orc := orcOf (E := E) [] [] n
theorem f15_l_r8Long.ok : ∀ n v x, f15_l_r8Long.F n v = some x → evalFn E n 15 (flAs f15_l_r8Long.P (sg_ll.pk v)) = some (f15_l_r8Long.A.enc x) :=
  fn_pure (modes := (fdAt 15).ms) (outs := (fdAt 15).os) (results := (fdAt 15).rs) f15_l_r8Long.O (c := c15) (keep := keepAt 15) (by kernel_rfl) (fun n => orcOf_cf _ _ n) (fun n => lpOk_of (bs := []) (by kernel_rfl) .nil) (fun _ => rfl) (fun _ _ => by kernel_rfl)
noncomputable def f15_l_r8Long.w : FnW E := fnW 15 f15_l_r8Long.P sg_ll f15_l_r8Long.A f15_l_r8Long.F f15_l_r8Long.ok

def f17_l_r8At : Nat → Nat → List T → Int → Int → Option (Int)
  | 0, _, _, _, _ => none
  | n + 1, n1, l2, i3, i4 =>
    br (decide (i4 ≤ (1 : Int))) (
     some (0 : Int)) (
     br (decide (i3 ≥ ((n1 : Nat) : Int))) (
      some (0 : Int)) (
      gd ((decide (((0 : Int) ≤ i3) ∧ (i3 < ((n1 : Nat) : Int)))) && (okAt [(CK.int IntKind.u8)] l2 (Int.toNat i3))) (
      gd (!(decide (i4 = (0 : Int)))) (
      some (Int.tmod (IntKind.i64.wrap (iAt l2 (Int.toNat i3))) i4)))))
def sg_lii : Sig (Nat × List T × Int × Int) where
  pk := fun v => [.lst v.1 v.2.1, .int v.2.2.1, .int v.2.2.2]
  up := fun ls => match ls with
    | [.lst a0 a1, .int a2, .int a3] => some (a0, a1, a2, a3)
    | _ => none
  ok := by
    intro ls v h
    split at h
    · cases h; rfl
    · cases h

def sg_i : Sig (Int) where
  pk := fun v => [.int v]
  up := fun ls => match ls with
    | [.int a0] => some a0
    | _ => none
  ok := by
    intro ls v h
    split at h
    · cases h; rfl
    · cases h

def f17_l_r8At.P : List Arg := [⟨.val, ⟨false, [.sl .shr [.leaf]], [.lst 0 []]⟩⟩, ⟨.val, ⟨false, [.leaf], [.int .i64 0]⟩⟩, ⟨.val, ⟨false, [.leaf], [.int .i64 0]⟩⟩]
def f17_l_r8At.A : RAlt (Int) := .one ⟨[⟨false, [.leaf], [.int .i64 0]⟩], [none, none, none]⟩ sg_i
def f17_l_r8At.F (n : Nat) (v : Nat × List T × Int × Int) := f17_l_r8At n v.1 v.2.1 v.2.2.1 v.2.2.2
noncomputable def f17_l_r8At.O (n : Nat) : Orc := orcOf (E := E) [] [] n
theorem f17_l_r8At.ok : ∀ n v x, f17_l_r8At.F n v = some x → evalFn E n 17 (flAs f17_l_r8At.P (sg_lii.pk v)) = some (f17_l_r8At.A.enc x) :=
  fn_pure (modes := (fdAt 17).ms) (outs := (fdAt 17).os) (results := (fdAt 17).rs) f17_l_r8At.O (c := c17) (keep := keepAt 17) (by kernel_rfl) (fun n => orcOf_cf _ _ n) (fun n => lpOk_of (bs := []) (by kernel_rfl) .nil) (fun _ => rfl) (fun _ _ => by kernel_rfl)
noncomputable def f17_l_r8At.w : FnW E := fnW 17 f17_l_r8At.P sg_lii f17_l_r8At.A f17_l_r8At.F f17_l_r8At.ok

def f136_i_IsFinite : Nat → Nat → Option (Bool)
  | 0, _ => none
  | n + 1, x1 =>
    some (feq FloatKind.f32 (fsub FloatKind.f32 x1 x1) 0)
def sg_f : Sig (Nat) where
  pk := fun v => [.flt v]
  up := fun ls => match ls with
    | [.flt a0] => some a0
    | _ => none
  ok := by
    intro ls v h
    split at h
    · cases h; rfl
    · cases h

def f136_i_IsFinite.P : List Arg := [⟨.val, ⟨false, [.leaf], [.flt .f32 0]⟩⟩]
def f136_i_IsFinite.A : RAlt (Bool) := .one ⟨[⟨false, [.leaf], [.bool false]⟩], [none]⟩ sg_b
def f136_i_IsFinite.F (n : Nat) (v : Nat) := f136_i_IsFinite n v
noncomputable def f136_i_IsFinite.O (n : Nat) : Orc := orcOf (E := E) [] [] n
theorem f136_i_IsFinite.ok : ∀ n v x, f136_i_IsFinite.F n v = some x → evalFn E n 136 (flAs f136_i_IsFinite.P (sg_f.pk v)) = some (f136_i_IsFinite.A.enc x) :=
  fn_pure (modes := (fdAt 136).ms) (outs := (fdAt 136).os) (results := (fdAt 136).rs) f136_i_IsFinite.O (c := c136) (keep := keepAt 136) (by kernel_rfl) (fun n => orcOf_cf _ _ n) (fun n => lpOk_of (bs := []) (by kernel_rfl) .nil) (fun _ => rfl) (fun _ _ => by kernel_rfl)
noncomputable def f136_i_IsFinite.w : FnW E := fnW 136 f136_i_IsFinite.P sg_f f136_i_IsFinite.A f136_i_IsFinite.F f136_i_IsFinite.ok

def f107_i_isLimit : Nat → Nat → Option (Bool)
  | 0, _ => none
  | n + 1, x1 =>
    bd (f136_i_IsFinite n x1) fun r2 =>
    let b3 : Bool := r2
    br b3 (
     some (fgt FloatKind.f32 x1 0)) (
     some false)
def f107_i_isLimit.P : List Arg := [⟨.val, ⟨false, [.leaf], [.flt .f32 0]⟩⟩]
def f107_i_isLimit.A : RAlt (Bool) := .one ⟨[⟨false, [.leaf], [.bool false]⟩], [none]⟩ sg_b
def f107_i_isLimit.F (n : Nat) (v : Nat) := f107_i_isLimit n v
noncomputable def f107_i_isLimit.O (n : Nat) : Orc := orcOf (E := E) [f136_i_IsFinite.w] [] n
theorem f107_i_isLimit.ok : ∀ n v x, f107_i_isLimit.F n v = some x → evalFn E n 107 (flAs f107_i_isLimit.P (sg_f.pk v)) = some (f107_i_isLimit.A.enc x) :=
  fn_pure (modes := (fdAt 107).ms) (outs := (fdAt 107).os) (results := (fdAt 107).rs) f107_i_isLimit.O (c := c107) (keep := keepAt 107) (by kernel_rfl) (fun n => orcOf_cf _ _ n) (fun n => lpOk_of (bs := []) (by kernel_rfl) .nil) (fun _ => rfl) (fun _ _ => by kernel_rfl)
noncomputable def f107_i_isLimit.w : FnW E := fnW 107 f107_i_isLimit.P sg_f f107_i_isLimit.A f107_i_isLimit.F f107_i_isLimit.ok

def f93_i_within : Nat → Int → Int → Int → Option (Bool)
  | 0, _, _, _ => none
  | n + 1, i1, i2, i3 =>
    br (decide (i2 ≤ i1)) (
     some (decide (i1 ≤ i3))) (
     some false)
def sg_iii : Sig (Int × Int × Int) where
  pk := fun v => [.int v.1, .int v.2.1, .int v.2.2]
  up := fun ls => match ls with
    | [.int a0, .int a1, .int a2] => some (a0, a1, a2)
    | _ => none
  ok := by
    intro ls v h
    split at h
    · cases h; rfl
    · cases h

def f93_i_within.P : List Arg := [⟨.val, ⟨false, [.leaf], [.int .i64 0]⟩⟩, ⟨.val, ⟨false, [.leaf], [.int .i64 0]⟩⟩, ⟨.val, ⟨false, [.leaf], [.int .i64 0]⟩⟩]
def f93_i_within.A : RAlt (Bool) := .one ⟨[⟨false, [.leaf], [.bool false]⟩], [none, none, none]⟩ sg_b
def f93_i_within.F (n : Nat) (v : Int × Int × Int) := f93_i_within n v.1 v.2.1 v.2.2
noncomputable def f93_i_within.O (n : Nat) : Orc := orcOf (E := E) [] [] n
theorem f93_i_within.ok : ∀ n v x, f93_i_within.F n v = some x → evalFn E n 93 (flAs f93_i_within.P (sg_iii.pk v)) = some (f93_i_within.A.enc x) :=
  fn_pure (modes := (fdAt 93).ms) (outs := (fdAt 93).os) (results := (fdAt 93).rs) f93_i_within.O (c := c93) (keep := keepAt 93) (by kernel_rfl) (fun n => orcOf_cf _ _ n) (fun n => lpOk_of (bs := []) (by kernel_rfl) .nil) (fun _ => rfl) (fun _ _ => by kernel_rfl)
noncomputable def f93_i_within.w : FnW E := fnW 93 f93_i_within.P sg_iii f93_i_within.A f93_i_within.F f93_i_within.ok

def f108_i_zeros : Nat → Int → Option (Nat × List T)
  | 0, _ => none
  | n + 1, i1 =>
    gd (decide (((0 : Int) ≤ i1) ∧ (i1 ≤ (2147483648 : Int)))) (
    some ((Int.toNat i1), (reps (Int.toNat i1) [(T.flt FloatKind.f32 0)])))
def sg_l : Sig (Nat × List T) where
  pk := fun v => [.lst v.1 v.2]
  up := fun ls => match ls with
    | [.lst a0 a1] => some (a0, a1)
    | _ => none
  ok := by
    intro ls v h
    split at h
    · cases h; rfl
    · cases h

def f108_i_zeros.P : List Arg := [⟨.val, ⟨false, [.leaf], [.int .i64 0]⟩⟩]
def f108_i_zeros.A : RAlt (Nat × List T) := .one ⟨[⟨false, [.sl .own [.leaf]], [.lst 0 []]⟩], [none]⟩ sg_l
def f108_i_zeros.F (n : Nat) (v : Int) := f108_i_zeros n v
noncomputable def f108_i_zeros.O (n : Nat) : Orc := orcOf (E := E) [] [] n
theorem f108_i_zeros.ok : ∀ n v x, f108_i_zeros.F n v = some x → evalFn E n 108 (flAs f108_i_zeros.P (sg_i.pk v)) = some (f108_i_zeros.A.enc x) :=
  fn_pure (modes := (fdAt 108).ms) (outs := (fdAt 108).os) (results := (fdAt 108).rs) f108_i_zeros.O (c := c108) (keep := keepAt 108) (by kernel_rfl) (fun n => orcOf_cf _ _ n) (fun n => lpOk_of (bs := []) (by kernel_rfl) .nil) (fun _ => rfl) (fun _ _ => by kernel_rfl)
noncomputable def f108_i_zeros.w : FnW E := fnW 108 f108_i_zeros.P sg_i f108_i_zeros.A f108_i_zeros.F f108_i_zeros.ok

def f36_i_NewLimiter : Nat → Nat → Nat → Int → Option (Nat × Nat × Nat × Nat × List T × Bool)
  | 0, _, _, _ => none
  | n + 1, x1, x2, i3 =>
    bd (f107_i_isLimit n x1) fun r4 =>
    let b5 : Bool := r4
    br (!b5) (
     some (0, 0, 0, 0, [], false)) (
     bd (f93_i_within n i3 (0 : Int) (64 : Int)) fun r6 =>
     let b7 : Bool := r6
     br (!b7) (
      some (0, 0, 0, 0, [], false)) (
      bd (f108_i_zeros n i3) fun r8 =>
      let n9 : Nat := r8.1
      let l10 : List T := r8.2
      some (x1, x2, 1065353216, n9, l10, true)))
def sg_ffi : Sig (Nat × Nat × Int) where
  pk := fun v => [.flt v.1, .flt v.2.1, .int v.2.2]
  up := fun ls => match ls with
    | [.flt a0, .flt a1, .int a2] => some (a0, a1, a2)
    | _ => none
  ok := by
    intro ls v h
    split at h
    · cases h; rfl
    · cases h

def sg_ffflb : Sig (Nat × Nat × Nat × Nat × List T × Bool) where
  pk := fun v => [.flt v.1, .flt v.2.1, .flt v.2.2.1, .lst v.2.2.2.1 v.2.2.2.2.1, .bool v.2.2.2.2.2]
  up := fun ls => match ls with
    | [.flt a0, .flt a1, .flt a2, .lst a3 a4, .bool a5] => some (a0, a1, a2, a3, a4, a5)
    | _ => none
  ok := by
    intro ls v h
    split at h
    · cases h; rfl
    · cases h

def f36_i_NewLimiter.P : List Arg := [⟨.val, ⟨false, [.leaf], [.flt .f32 0]⟩⟩, ⟨.val, ⟨false, [.leaf], [.flt .f32 0]⟩⟩, ⟨.val, ⟨false, [.leaf], [.int .i64 0]⟩⟩]
def f36_i_NewLimiter.A : RAlt (Nat × Nat × Nat × Nat × List T × Bool) := .one ⟨[⟨true, [.leaf, .leaf, .leaf, .sl .own [.leaf]], [.flt .f32 0, .flt .f32 0, .flt .f32 0, .lst 0 []]⟩, ⟨false, [.leaf], [.bool false]⟩], [none, none, none]⟩ sg_ffflb
def f36_i_NewLimiter.F (n : Nat) (v : Nat × Nat × Int) := f36_i_NewLimiter n v.1 v.2.1 v.2.2
noncomputable def f36_i_NewLimiter.O (n : Nat) : Orc := orcOf (E := E) [f107_i_isLimit.w, f93_i_within.w, f108_i_zeros.w] [] n
theorem f36_i_NewLimiter.ok : ∀ n v x, f36_i_NewLimiter.F n v = some x → evalFn E n 36 (flAs f36_i_NewLimiter.P (sg_ffi.pk v)) = some (f36_i_NewLimiter.A.enc x) :=
  fn_pure (modes := (fdAt 36).ms) (outs := (fdAt 36).os) (results := (fdAt 36).rs) f36_i_NewLimiter.O (c := c36) (keep := keepAt 36) (by kernel_rfl) (fun n => orcOf_cf _ _ n) (fun n => lpOk_of (bs := []) (by kernel_rfl) .nil) (fun _ => rfl) (fun _ _ => by kernel_rfl)
noncomputable def f36_i_NewLimiter.w : FnW E := fnW 36 f36_i_NewLimiter.P sg_ffi f36_i_NewLimiter.A f36_i_NewLimiter.F f36_i_NewLimiter.ok

def f90_s_l00From : Nat → Nat → List T → Option (Nat × List T × Int × Int)
  | 0, _, _ => none
  | n + 1, n1, l2 =>
    some (n1, l2, (0 : Int), (0 : Int))
def f90_s_l00From.P : List Arg := [⟨.val, ⟨false, [.sl .shr [.leaf]], [.lst 0 []]⟩⟩]
def f90_s_l00From.A : RAlt (Nat × List T × Int × Int) := .one ⟨[⟨false, [.rf .own [.sl .shr [.leaf], .leaf, .leaf]], [.ref [.lst 0 [], .int .i64 0, .int .u64 0]]⟩], [none]⟩ sg_lii
def f90_s_l00From.F (n : Nat) (v : Nat × List T) := f90_s_l00From n v.1 v.2
noncomputable def f90_s_l00From.O (n : Nat) : Orc := orcOf (E := E) [] [] n
theorem f90_s_l00From.ok : ∀ n v x, f90_s_l00From.F n v = some x → evalFn E n 90 (flAs f90_s_l00From.P (sg_l.pk v)) = some (f90_s_l00From.A.enc x) :=
  fn_pure (modes := (fdAt 90).ms) (outs := (fdAt 90).os) (results := (fdAt 90).rs) f90_s_l00From.O (c := c90) (keep := keepAt 90) (by kernel_rfl) (fun n => orcOf_cf _ _ n) (fun n => lpOk_of (bs := []) (by kernel_rfl) .nil) (fun _ => rfl) (fun _ _ => by kernel_rfl)
noncomputable def f90_s_l00From.w : FnW E := fnW 90 f90_s_l00From.P sg_l f90_s_l00From.A f90_s_l00From.F f90_s_l00From.ok

def f163_s_l00Srcnext : Nat → Nat → List T → Int → Int → Option (Int × Nat × List T × Int × Int)
  | 0, _, _, _, _ => none
  | n + 1, n1, l2, i3, i4 =>
    br (decide (i3 < ((n1 : Nat) : Int))) (
     gd ((decide (((0 : Int) ≤ i3) ∧ (i3 < ((n1 : Nat) : Int)))) && (okAt [(CK.int IntKind.u8)] l2 (Int.toNat i3))) (
     let i5 : Int := (IntKind.i64.wrap (iAt l2 (Int.toNat i3)))
     let i6 : Int := (IntKind.i64.wrap (i3 + (1 : Int)))
     let i7 : Int := (IntKind.u64.wrap ((IntKind.u64.wrap ((IntKind.u64.wrap (i4 * (6364136223846793005 : Int))) + (IntKind.u64.wrap i5))) + (1442695040888963407 : Int)))
     br (decide (i6 ≤ ((n1 : Nat) : Int))) (
      some (i5, n1, l2, i6, i7)) (
      some ((IntKind.i64.wrap (intBits BinOp.and IntKind.u64 (Int.fdiv i7 (1099511627776 : Int)) (255 : Int))), n1, l2, i6, i7)))) (
     let i8 : Int := (IntKind.i64.wrap (i3 + (1 : Int)))
     let i9 : Int := (IntKind.u64.wrap ((IntKind.u64.wrap ((IntKind.u64.wrap (i4 * (6364136223846793005 : Int))) + (0 : Int))) + (1442695040888963407 : Int)))
     br (decide (i8 ≤ ((n1 : Nat) : Int))) (
      some ((0 : Int), n1, l2, i8, i9)) (
      some ((IntKind.i64.wrap (intBits BinOp.and IntKind.u64 (Int.fdiv i9 (1099511627776 : Int)) (255 : Int))), n1, l2, i8, i9)))
def sg_ilii : Sig (Int × Nat × List T × Int × Int) where
  pk := fun v => [.int v.1, .lst v.2.1 v.2.2.1, .int v.2.2.2.1, .int v.2.2.2.2]
  up := fun ls => match ls with
    | [.int a0, .lst a1 a2, .int a3, .int a4] => some (a0, a1, a2, a3, a4)
    | _ => none
  ok := by
    intro ls v h
    split at h
    · cases h; rfl
    · cases h

def f163_s_l00Srcnext.P : List Arg := [⟨.iop, ⟨false, [.rf .own [.sl .shr [.leaf], .leaf, .leaf]], [.ref [.lst 0 [], .int .i64 0, .int .u64 0]]⟩⟩]
def f163_s_l00Srcnext.A : RAlt (Int × Nat × List T × Int × Int) := .one ⟨[⟨false, [.leaf], [.int .i64 0]⟩], [some ⟨false, [.rf .own [.sl .shr [.leaf], .leaf, .leaf]], [.ref [.lst 0 [], .int .i64 0, .int .u64 0]]⟩]⟩ sg_ilii
def f163_s_l00Srcnext.F (n : Nat) (v : Nat × List T × Int × Int) := f163_s_l00Srcnext n v.1 v.2.1 v.2.2.1 v.2.2.2
noncomputable def f163_s_l00Srcnext.O (n : Nat) : Orc := orcOf (E := E) [] [] n
theorem f163_s_l00Srcnext.ok : ∀ n v x, f163_s_l00Srcnext.F n v = some x → evalFn E n 163 (flAs f163_s_l00Srcnext.P (sg_lii.pk v)) = some (f163_s_l00Srcnext.A.enc x) :=
  fn_pure (modes := (fdAt 163).ms) (outs := (fdAt 163).os) (results := (fdAt 163).rs) f163_s_l00Srcnext.O (c := c163) (keep := keepAt 163) (by kernel_rfl) (fun n => orcOf_cf _ _ n) (fun n => lpOk_of (bs := []) (by kernel_rfl) .nil) (fun _ => rfl) (fun _ _ => by kernel_rfl)
noncomputable def f163_s_l00Srcnext.w : FnW E := fnW 163 f163_s_l00Srcnext.P sg_lii f163_s_l00Srcnext.A f163_s_l00Srcnext.F f163_s_l00Srcnext.ok

def f97_s_l00Srcpick : Nat → Nat → List T → Int → Int → Int → Option (Int × Nat × List T × Int × Int)
  | 0, _, _, _, _, _ => none
  | n + 1, n1, l2, i3, i4, i5 =>
    br (decide (i5 ≤ (1 : Int))) (
     some ((0 : Int), n1, l2, i3, i4)) (
     bd (f163_s_l00Srcnext n n1 l2 i3 i4) fun r6 =>
     let i7 : Int := r6.1
     let n8 : Nat := r6.2.1
     let l9 : List T := r6.2.2.1
     let i10 : Int := r6.2.2.2.1
     let i11 : Int := r6.2.2.2.2
     br (decide (i5 > (200 : Int))) (
      bd (f163_s_l00Srcnext n n8 l9 i10 i11) fun r12 =>
      let i13 : Int := r12.1
      let n14 : Nat := r12.2.1
      let l15 : List T := r12.2.2.1
      let i16 : Int := r12.2.2.2.1
      let i17 : Int := r12.2.2.2.2
      let i18 : Int := (IntKind.i64.wrap ((IntKind.i64.wrap (i7 * (256 : Int))) + i13))
      gd (!(decide (i5 = (0 : Int)))) (
      some ((Int.tmod i18 i5), n14, l15, i16, i17))) (
      gd (!(decide (i5 = (0 : Int)))) (
      some ((Int.tmod i7 i5), n8, l9, i10, i11))))
def sg_liii : Sig (Nat × List T × Int × Int × Int) where
  pk := fun v => [.lst v.1 v.2.1, .int v.2.2.1, .int v.2.2.2.1, .int v.2.2.2.2]
  up := fun ls => match ls with
    | [.lst a0 a1, .int a2, .int a3, .int a4] => some (a0, a1, a2, a3, a4)
    | _ => none
  ok := by
    intro ls v h
    split at h
    · cases h; rfl
    · cases h

def f97_s_l00Srcpick.P : List Arg := [⟨.iop, ⟨false, [.rf .own [.sl .shr [.leaf], .leaf, .leaf]], [.ref [.lst 0 [], .int .i64 0, .int .u64 0]]⟩⟩, ⟨.val, ⟨false, [.leaf], [.int .i64 0]⟩⟩]
def f97_s_l00Srcpick.A : RAlt (Int × Nat × List T × Int × Int) := .one ⟨[⟨false, [.leaf], [.int .i64 0]⟩], [some ⟨false, [.rf .own [.sl .shr [.leaf], .leaf, .leaf]], [.ref [.lst 0 [], .int .i64 0, .int .u64 0]]⟩, none]⟩ sg_ilii
def f97_s_l00Srcpick.F (n : Nat) (v : Nat × List T × Int × Int × Int) := f97_s_l00Srcpick n v.1 v.2.1 v.2.2.1 v.2.2.2.1 v.2.2.2.2
noncomputable def f97_s_l00Srcpick.O (n : Nat) : Orc := orcOf (E := E) [f163_s_l00Srcnext.w] [] n
theorem f97_s_l00Srcpick.ok : ∀ n v x, f97_s_l00Srcpick.F n v = some x → evalFn E n 97 (flAs f97_s_l00Srcpick.P (sg_liii.pk v)) = some (f97_s_l00Srcpick.A.enc x) :=
  fn_pure (modes := (fdAt 97).ms) (outs := (fdAt 97).os) (results := (fdAt 97).rs) f97_s_l00Srcpick.O (c := c97) (keep := keepAt 97) (by kernel_rfl) (fun n => orcOf_cf _ _ n) (fun n => lpOk_of (bs := []) (by kernel_rfl) .nil) (fun _ => rfl) (fun _ _ => by kernel_rfl)
noncomputable def f97_s_l00Srcpick.w : FnW E := fnW 97 f97_s_l00Srcpick.P sg_liii f97_s_l00Srcpick.A f97_s_l00Srcpick.F f97_s_l00Srcpick.ok

def f158_s_l00Srcone : Nat → Nat → List T → Int → Int → Int → Option (Bool × Nat × List T × Int × Int)
  | 0, _, _, _, _, _ => none
  | n + 1, n1, l2, i3, i4, i5 =>
    bd (f97_s_l00Srcpick n n1 l2 i3 i4 i5) fun r6 =>
    let i7 : Int := r6.1
    let n8 : Nat := r6.2.1
    let l9 : List T := r6.2.2.1
    let i10 : Int := r6.2.2.2.1
    let i11 : Int := r6.2.2.2.2
    some ((i7 == (0 : Int)), n8, l9, i10, i11)
def sg_blii : Sig (Bool × Nat × List T × Int × Int) where
  pk := fun v => [.bool v.1, .lst v.2.1 v.2.2.1, .int v.2.2.2.1, .int v.2.2.2.2]
  up := fun ls => match ls with
    | [.bool a0, .lst a1 a2, .int a3, .int a4] => some (a0, a1, a2, a3, a4)
    | _ => none
  ok := by
    intro ls v h
    split at h
    · cases h; rfl
    · cases h

def f158_s_l00Srcone.P : List Arg := [⟨.iop, ⟨false, [.rf .own [.sl .shr [.leaf], .leaf, .leaf]], [.ref [.lst 0 [], .int .i64 0, .int .u64 0]]⟩⟩, ⟨.val, ⟨false, [.leaf], [.int .i64 0]⟩⟩]
def f158_s_l00Srcone.A : RAlt (Bool × Nat × List T × Int × Int) := .one ⟨[⟨false, [.leaf], [.bool false]⟩], [some ⟨false, [.rf .own [.sl .shr [.leaf], .leaf, .leaf]], [.ref [.lst 0 [], .int .i64 0, .int .u64 0]]⟩, none]⟩ sg_blii
def f158_s_l00Srcone.F (n : Nat) (v : Nat × List T × Int × Int × Int) := f158_s_l00Srcone n v.1 v.2.1 v.2.2.1 v.2.2.2.1 v.2.2.2.2
noncomputable def f158_s_l00Srcone.O (n : Nat) : Orc := orcOf (E := E) [f97_s_l00Srcpick.w] [] n
theorem f158_s_l00Srcone.ok : ∀ n v x, f158_s_l00Srcone.F n v = some x → evalFn E n 158 (flAs f158_s_l00Srcone.P (sg_liii.pk v)) = some (f158_s_l00Srcone.A.enc x) :=
  fn_pure (modes := (fdAt 158).ms) (outs := (fdAt 158).os) (results := (fdAt 158).rs) f158_s_l00Srcone.O (c := c158) (keep := keepAt 158) (by kernel_rfl) (fun n => orcOf_cf _ _ n) (fun n => lpOk_of (bs := []) (by kernel_rfl) .nil) (fun _ => rfl) (fun _ _ => by kernel_rfl)
noncomputable def f158_s_l00Srcone.w : FnW E := fnW 158 f158_s_l00Srcone.P sg_liii f158_s_l00Srcone.A f158_s_l00Srcone.F f158_s_l00Srcone.ok

def f91_s_l01DrawPlain : Nat → Nat → List T → Int → Int → Option (Nat × Nat × List T × Int × Int)
  | 0, _, _, _, _ => none
  | n + 1, n1, l2, i3, i4 =>
    bd (f97_s_l00Srcpick n n1 l2 i3 i4 (129 : Int)) fun r5 =>
    let i6 : Int := r5.1
    let n7 : Nat := r5.2.1
    let l8 : List T := r5.2.2.1
    let i9 : Int := r5.2.2.2.1
    let i10 : Int := r5.2.2.2.2
    let i11 : Int := (IntKind.i64.wrap (i6 - (64 : Int)))
    bd (f158_s_l00Srcone n n7 l8 i9 i10 (4 : Int)) fun r12 =>
    let b13 : Bool := r12.1
    let n14 : Nat := r12.2.1
    let l15 : List T := r12.2.2.1
    let i16 : Int := r12.2.2.2.1
    let i17 : Int := r12.2.2.2.2
    br b13 (
     some ((fdiv FloatKind.f32 (FloatKind.nearest FloatKind.f32 i11) 1088421888), n14, l15, i16, i17)) (
     some ((fdiv FloatKind.f32 (FloatKind.nearest FloatKind.f32 i11) 1098907648), n14, l15, i16, i17))
def sg_flii : Sig (Nat × Nat × List T × Int × Int) where
  pk := fun v => [.flt v.1, .lst v.2.1 v.2.2.1, .int v.2.2.2.1, .int v.2.2.2.2]
  up := fun ls => match ls with
    | [.flt a0, .lst a1 a2, .int a3, .int a4] => some (a0, a1, a2, a3, a4)
    | _ => none
  ok := by
    intro ls v h
    split at h
    · cases h; rfl
    · cases h

def f91_s_l01DrawPlain.P : List Arg := [⟨.iop, ⟨false, [.rf .own [.sl .shr [.leaf], .leaf, .leaf]], [.ref [.lst 0 [], .int .i64 0, .int .u64 0]]⟩⟩]
def f91_s_l01DrawPlain.A : RAlt (Nat × Nat × List T × Int × Int) := .one ⟨[⟨false, [.leaf], [.flt .f32 0]⟩], [some ⟨false, [.rf .own [.sl .shr [.leaf], .leaf, .leaf]], [.ref [.lst 0 [], .int .i64 0, .int .u64 0]]⟩]⟩ sg_flii
def f91_s_l01DrawPlain.F (n : Nat) (v : Nat × List T × Int × Int) := f91_s_l01DrawPlain n v.1 v.2.1 v.2.2.1 v.2.2.2
noncomputable def f91_s_l01DrawPlain.O (n : Nat) : Orc := orcOf (E := E) [f97_s_l00Srcpick.w, f158_s_l00Srcone.w] [] n
theorem f91_s_l01DrawPlain.ok : ∀ n v x, f91_s_l01DrawPlain.F n v = some x → evalFn E n 91 (flAs f91_s_l01DrawPlain.P (sg_lii.pk v)) = some (f91_s_l01DrawPlain.A.enc x) :=
  fn_pure (modes := (fdAt 91).ms) (outs := (fdAt 91).os) (results := (fdAt 91).rs) f91_s_l01DrawPlain.O (c := c91) (keep := keepAt 91) (by kernel_rfl) (fun n => orcOf_cf _ _ n) (fun n => lpOk_of (bs := []) (by kernel_rfl) .nil) (fun _ => rfl) (fun _ _ => by kernel_rfl)
noncomputable def f91_s_l01DrawPlain.w : FnW E := fnW 91 f91_s_l01DrawPlain.P sg_lii f91_s_l01DrawPlain.A f91_s_l01DrawPlain.F f91_s_l01DrawPlain.ok

def f168_s_l00Srcamong : Nat → Nat → List T → Int → Int → Nat → List T → Option (Int × Nat × List T × Int × Int × Nat × List T)
  | 0, _, _, _, _, _, _ => none
  | n + 1, n1, l2, i3, i4, n5, l6 =>
    bd (f97_s_l00Srcpick n n1 l2 i3 i4 ((n5 : Nat) : Int)) fun r7 =>
    let i8 : Int := r7.1
    let n9 : Nat := r7.2.1
    let l10 : List T := r7.2.2.1
    let i11 : Int := r7.2.2.2.1
    let i12 : Int := r7.2.2.2.2
    gd (decide (((0 : Int) ≤ i8) ∧ (i8 < ((n5 : Nat) : Int)))) (
    gd (okAt [(CK.int IntKind.i64)] l6 (Int.toNat i8)) (
    some ((iAt l6 (Int.toNat i8)), n9, l10, i11, i12, n5, l6)))
def sg_liil : Sig (Nat × List T × Int × Int × Nat × List T) where
  pk := fun v => [.lst v.1 v.2.1, .int v.2.2.1, .int v.2.2.2.1, .lst v.2.2.2.2.1 v.2.2.2.2.2]
  up := fun ls => match ls with
    | [.lst a0 a1, .int a2, .int a3, .lst a4 a5] => some (a0, a1, a2, a3, a4, a5)
    | _ => none
  ok := by
    intro ls v h
    split at h
    · cases h; rfl
    · cases h

def sg_iliil : Sig (Int × Nat × List T × Int × Int × Nat × List T) where
  pk := fun v => [.int v.1, .lst v.2.1 v.2.2.1, .int v.2.2.2.1, .int v.2.2.2.2.1, .lst v.2.2.2.2.2.1 v.2.2.2.2.2.2]
  up := fun ls => match ls with
    | [.int a0, .lst a1 a2, .int a3, .int a4, .lst a5 a6] => some (a0, a1, a2, a3, a4, a5, a6)
    | _ => none
  ok := by
    intro ls v h
    split at h
    · cases h; rfl
    · cases h

def f168_s_l00Srcamong.P : List Arg := [⟨.iop, ⟨false, [.rf .own [.sl .shr [.leaf], .leaf, .leaf]], [.ref [.lst 0 [], .int .i64 0, .int .u64 0]]⟩⟩, ⟨.io, ⟨false, [.sl .own [.leaf]], [.lst 0 []]⟩⟩]
def f168_s_l00Srcamong.A : RAlt (Int × Nat × List T × Int × Int × Nat × List T) := .one ⟨[⟨false, [.leaf], [.int .i64 0]⟩], [some ⟨false, [.rf .own [.sl .shr [.leaf], .leaf, .leaf]], [.ref [.lst 0 [], .int .i64 0, .int .u64 0]]⟩, some ⟨false, [.sl .own [.leaf]], [.lst 0 []]⟩]⟩ sg_iliil
def f168_s_l00Srcamong.F (n : Nat) (v : Nat × List T × Int × Int × Nat × List T) := f168_s_l00Srcamong n v.1 v.2.1 v.2.2.1 v.2.2.2.1 v.2.2.2.2.1 v.2.2.2.2.2
noncomputable def f168_s_l00Srcamong.O (n : Nat) : Orc := orcOf (E := E) [f97_s_l00Srcpick.w] [] n
theorem f168_s_l00Srcamong.ok : ∀ n v x, f168_s_l00Srcamong.F n v = some x → evalFn E n 168 (flAs f168_s_l00Srcamong.P (sg_liil.pk v)) = some (f168_s_l00Srcamong.A.enc x) :=
  fn_pure (modes := (fdAt 168).ms) (outs := (fdAt 168).os) (results := (fdAt 168).rs) f168_s_l00Srcamong.O (c := c168) (keep := keepAt 168) (by kernel_rfl) (fun n => orcOf_cf _ _ n) (fun n => lpOk_of (bs := []) (by kernel_rfl) .nil) (fun _ => rfl) (fun _ _ => by kernel_rfl)
noncomputable def f168_s_l00Srcamong.w : FnW E := fnW 168 f168_s_l00Srcamong.P sg_liil f168_s_l00Srcamong.A f168_s_l00Srcamong.F f168_s_l00Srcamong.ok

def f167_s_l01From : Nat → Int → Option (Nat)
  | 0, _ => none
  | n + 1, i1 =>
    bd (xF32frombits n (IntKind.u32.wrap i1)) fun r2 =>
    let x3 : Nat := r2
    some x3
def f167_s_l01From.P : List Arg := [⟨.val, ⟨false, [.leaf], [.int .i64 0]⟩⟩]
def f167_s_l01From.A : RAlt (Nat) := .one ⟨[⟨false, [.leaf], [.flt .f32 0]⟩], [none]⟩ sg_f
def f167_s_l01From.F (n : Nat) (v : Int) := f167_s_l01From n v
noncomputable def f167_s_l01From.O (n : Nat) : Orc := orcOf (E := E) [x183.w] [] n
theorem f167_s_l01From.ok : ∀ n v x, f167_s_l01From.F n v = some x → evalFn E n 167 (flAs f167_s_l01From.P (sg_i.pk v)) = some (f167_s_l01From.A.enc x) :=
  fn_pure (modes := (fdAt 167).ms) (outs := (fdAt 167).os) (results := (fdAt 167).rs) f167_s_l01From.O (c := c167) (keep := keepAt 167) (by kernel_rfl) (fun n => orcOf_cf _ _ n) (fun n => lpOk_of (bs := []) (by kernel_rfl) .nil) (fun _ => rfl) (fun _ _ => by kernel_rfl)
noncomputable def f167_s_l01From.w : FnW E := fnW 167 f167_s_l01From.P sg_i f167_s_l01From.A f167_s_l01From.F f167_s_l01From.ok

def f112_s_l01DrawFloat : Nat → Nat → List T → Int → Int → Option (Nat × Nat × List T × Int × Int)
  | 0, _, _, _, _ => none
  | n + 1, n1, l2, i3, i4 =>
    bd (f158_s_l00Srcone n n1 l2 i3 i4 (12 : Int)) fun r5 =>
    let b6 : Bool := r5.1
    let n7 : Nat := r5.2.1
    let l8 : List T := r5.2.2.1
    let i9 : Int := r5.2.2.2.1
    let i10 : Int := r5.2.2.2.2
    br (!b6) (
     bd (f91_s_l01DrawPlain n n7 l8 i9 i10) fun r11 =>
     let x12 : Nat := r11.1
     let n13 : Nat := r11.2.1
     let l14 : List T := r11.2.2.1
     let i15 : Int := r11.2.2.2.1
     let i16 : Int := r11.2.2.2.2
     some (x12, n13, l14, i15, i16)) (
     bd (f97_s_l00Srcpick n n7 l8 i9 i10 (4 : Int)) fun r17 =>
     let i18 : Int := r17.1
     let n19 : Nat := r17.2.1
     let l20 : List T := r17.2.2.1
     let i21 : Int := r17.2.2.2.1
     let i22 : Int := r17.2.2.2.2
     br (i18 == (0 : Int)) (
      bd (f168_s_l00Srcamong n n19 l20 i21 i22 10 (setN (setN (setN (setN (setN (setN (setN (setN (setN (setN (reps 10 [(T.int IntKind.i64 (0 : Int))]) 0 [(T.int IntKind.i64 (0 : Int))]) 1 [(T.int IntKind.i64 (2147483648 : Int))]) 2 [(T.int IntKind.i64 (2139095040 : Int))]) 3 [(T.int IntKind.i64 (4286578688 : Int))]) 4 [(T.int IntKind.i64 (2143289344 : Int))]) 5 [(T.int IntKind.i64 (1 : Int))]) 6 [(T.int IntKind.i64 (2139095039 : Int))]) 7 [(T.int IntKind.i64 (8388608 : Int))]) 8 [(T.int IntKind.i64 (8388607 : Int))]) 9 [(T.int IntKind.i64 (2147483649 : Int))])) fun r23 =>
      let i24 : Int := r23.1
      let n25 : Nat := r23.2.1
      let l26 : List T := r23.2.2.1
      let i27 : Int := r23.2.2.2.1
      let i28 : Int := r23.2.2.2.2.1
      let n29 : Nat := r23.2.2.2.2.2.1
      let l30 : List T := r23.2.2.2.2.2.2
      bd (f167_s_l01From n i24) fun r31 =>
      let x32 : Nat := r31
      some (x32, n25, l26, i27, i28)) (
      br (i18 == (1 : Int)) (
       bd (f97_s_l00Srcpick n n19 l20 i21 i22 (65536 : Int)) fun r33 =>
       let i34 : Int := r33.1
       let n35 : Nat := r33.2.1
       let l36 : List T := r33.2.2.1
       let i37 : Int := r33.2.2.2.1
       let i38 : Int := r33.2.2.2.2
       let i39 : Int := (IntKind.i64.wrap (i34 * (65536 : Int)))
       bd (f97_s_l00Srcpick n n35 l36 i37 i38 (65536 : Int)) fun r40 =>
       let i41 : Int := r40.1
       let n42 : Nat := r40.2.1
       let l43 : List T := r40.2.2.1
       let i44 : Int := r40.2.2.2.1
       let i45 : Int := r40.2.2.2.2
       bd (f167_s_l01From n (IntKind.i64.wrap (i39 + i41))) fun r46 =>
       let x47 : Nat := r46
       some (x47, n42, l43, i44, i45)) (
       br (i18 == (2 : Int)) (
        bd (f97_s_l00Srcpick n n19 l20 i21 i22 (65536 : Int)) fun r48 =>
        let i49 : Int := r48.1
        let n50 : Nat := r48.2.1
        let l51 : List T := r48.2.2.1
        let i52 : Int := r48.2.2.2.1
        let i53 : Int := r48.2.2.2.2
        bd (f167_s_l01From n (IntKind.i64.wrap (i49 * (65536 : Int)))) fun r54 =>
        let x55 : Nat := r54
        some (x55, n50, l51, i52, i53)) (
        bd (f91_s_l01DrawPlain n n19 l20 i21 i22) fun r56 =>
        let x57 : Nat := r56.1
        let n58 : Nat := r56.2.1
        let l59 : List T := r56.2.2.1
        let i60 : Int := r56.2.2.2.1
        let i61 : Int := r56.2.2.2.2
        bd (f168_s_l00Srcamong n n58 l59 i60 i61 4 (setN (setN (setN (setN (reps 4 [(T.int IntKind.i64 (0 : Int))]) 0 [(T.int IntKind.i64 (8388608 : Int))]) 1 [(T.int IntKind.i64 (2130706432 : Int))]) 2 [(T.int IntKind.i64 (1610612736 : Int))]) 3 [(T.int IntKind.i64 (536870912 : Int))])) fun r62 =>
        let i63 : Int := r62.1
        let n64 : Nat := r62.2.1
        let l65 : List T := r62.2.2.1
        let i66 : Int := r62.2.2.2.1
        let i67 : Int := r62.2.2.2.2.1
        let n68 : Nat := r62.2.2.2.2.2.1
        let l69 : List T := r62.2.2.2.2.2.2
        bd (f167_s_l01From n i63) fun r70 =>
        let x71 : Nat := r70
        some ((fmul FloatKind.f32 x57 x71), n64, l65, i66, i67)))))
def f112_s_l01DrawFloat.P : List Arg := [⟨.iop, ⟨false, [.rf .own [.sl .shr [.leaf], .leaf, .leaf]], [.ref [.lst 0 [], .int .i64 0, .int .u64 0]]⟩⟩]
def f112_s_l01DrawFloat.A : RAlt (Nat × Nat × List T × Int × Int) := .one ⟨[⟨false, [.leaf], [.flt .f32 0]⟩], [some ⟨false, [.rf .own [.sl .shr [.leaf], .leaf, .leaf]], [.ref [.lst 0 [], .int .i64 0, .int .u64 0]]⟩]⟩ sg_flii
def f112_s_l01DrawFloat.F (n : Nat) (v : Nat × List T × Int × Int) := f112_s_l01DrawFloat n v.1 v.2.1 v.2.2.1 v.2.2.2
noncomputable def f112_s_l01DrawFloat.O (n : Nat) : Orc := orcOf (E := E) [f97_s_l00Srcpick.w, f158_s_l00Srcone.w, f91_s_l01DrawPlain.w, f168_s_l00Srcamong.w, f167_s_l01From.w] [] n
theorem f112_s_l01DrawFloat.ok : ∀ n v x, f112_s_l01DrawFloat.F n v = some x → evalFn E n 112 (flAs f112_s_l01DrawFloat.P (sg_lii.pk v)) = some (f112_s_l01DrawFloat.A.enc x) :=
  fn_pure (modes := (fdAt 112).ms) (outs := (fdAt 112).os) (results := (fdAt 112).rs) f112_s_l01DrawFloat.O (c := c112) (keep := keepAt 112) (by kernel_rfl) (fun n => orcOf_cf _ _ n) (fun n => lpOk_of (bs := []) (by kernel_rfl) .nil) (fun _ => rfl) (fun _ _ => by kernel_rfl)
noncomputable def f112_s_l01DrawFloat.w : FnW E := fnW 112 f112_s_l01DrawFloat.P sg_lii f112_s_l01DrawFloat.A f112_s_l01DrawFloat.F f112_s_l01DrawFloat.ok

def f98_s_l01DrawFloats.l0 (n : Nat) : Nat → Nat → List T → Int → Int → Int → Nat → List T → Bool → Option (Nat × List T × Int × Int × Nat × List T)
  | 0, _, _, _, _, _, _, _, _ => none
  | m + 1, n1, l2, i3, i4, i5, n6, l7, b8 =>
    br (decide (i5 > (0 : Int))) (
     br b8 (
      bd (f112_s_l01DrawFloat n n1 l2 i3 i4) fun r9 =>
      let x10 : Nat := r9.1
      let n11 : Nat := r9.2.1
      let l12 : List T := r9.2.2.1
      let i13 : Int := r9.2.2.2.1
      let i14 : Int := r9.2.2.2.2
      gd (Nat.ble (n6 + 1) 2147483648) (
      let n15 : Nat := (n6 + 1)
      let l16 : List T := (l7 ++ (setN (reps 1 [(T.flt FloatKind.f32 0)]) 0 [(T.flt FloatKind.f32 x10)]))
      f98_s_l01DrawFloats.l0 n m n11 l12 i13 i14 (IntKind.i64.wrap (i5 - (1 : Int))) n15 l16 b8)) (
      bd (f91_s_l01DrawPlain n n1 l2 i3 i4) fun r17 =>
      let x18 : Nat := r17.1
      let n19 : Nat := r17.2.1
      let l20 : List T := r17.2.2.1
      let i21 : Int := r17.2.2.2.1
      let i22 : Int := r17.2.2.2.2
      gd (Nat.ble (n6 + 1) 2147483648) (
      let n23 : Nat := (n6 + 1)
      let l24 : List T := (l7 ++ (setN (reps 1 [(T.flt FloatKind.f32 0)]) 0 [(T.flt FloatKind.f32 x18)]))
      f98_s_l01DrawFloats.l0 n m n19 l20 i21 i22 (IntKind.i64.wrap (i5 - (1 : Int))) n23 l24 b8))) (
     some (n1, l2, i3, i4, n6, l7))
def f98_s_l01DrawFloats : Nat → Nat → List T → Int → Int → Int → Option (Nat × List T × Nat × List T × Int × Int)
  | 0, _, _, _, _, _ => none
  | n + 1, n1, l2, i3, i4, i5 =>
    bd (f158_s_l00Srcone n n1 l2 i3 i4 (4 : Int)) fun r6 =>
    let b7 : Bool := r6.1
    let n8 : Nat := r6.2.1
    let l9 : List T := r6.2.2.1
    let i10 : Int := r6.2.2.2.1
    let i11 : Int := r6.2.2.2.2
    bd (f98_s_l01DrawFloats.l0 n n n8 l9 i10 i11 i5 0 (reps 0 [(T.flt FloatKind.f32 0)]) b7) fun r12 =>
    let n13 : Nat := r12.1
    let l14 : List T := r12.2.1
    let i15 : Int := r12.2.2.1
    let i16 : Int := r12.2.2.2.1
    let n17 : Nat := r12.2.2.2.2.1
    let l18 : List T := r12.2.2.2.2.2
    some (n17, l18, n13, l14, i15, i16)
def sg_llii : Sig (Nat × List T × Nat × List T × Int × Int) where
  pk := fun v => [.lst v.1 v.2.1, .lst v.2.2.1 v.2.2.2.1, .int v.2.2.2.2.1, .int v.2.2.2.2.2]
  up := fun ls => match ls with
    | [.lst a0 a1, .lst a2 a3, .int a4, .int a5] => some (a0, a1, a2, a3, a4, a5)
    | _ => none
  ok := by
    intro ls v h
    split at h
    · cases h; rfl
    · cases h

def sg_liiilb : Sig (Nat × List T × Int × Int × Int × Nat × List T × Bool) where
  pk := fun v => [.lst v.1 v.2.1, .int v.2.2.1, .int v.2.2.2.1, .int v.2.2.2.2.1, .lst v.2.2.2.2.2.1 v.2.2.2.2.2.2.1, .bool v.2.2.2.2.2.2.2]
  up := fun ls => match ls with
    | [.lst a0 a1, .int a2, .int a3, .int a4, .lst a5 a6, .bool a7] => some (a0, a1, a2, a3, a4, a5, a6, a7)
    | _ => none
  ok := by
    intro ls v h
    split at h
    · cases h; rfl
    · cases h

def f98_s_l01DrawFloats.l0.P : AS := ⟨[(0, .box [.sl .shr [.leaf], .leaf, .leaf] [.lst 0 [], .int .i64 0, .int .u64 0] [] 0), (1, .val false [.leaf] [.int .i64 0] [] 0), (5, .val false [.sl .own [.leaf]] [.lst 0 []] [] 0), (6, .val false [.leaf] [.bool false] [] 0)], 0⟩
def f98_s_l01DrawFloats.l0.A : Alt (Nat × List T × Int × Int × Nat × List T) := .one (.exit 0) ⟨[(0, .box [.sl .shr [.leaf], .leaf, .leaf] [.lst 0 [], .int .i64 0, .int .u64 0] [] 0), (5, .val false [.sl .own [.leaf]] [.lst 0 []] [] 0)], 0⟩ sg_liil
def f98_s_l01DrawFloats.l0.F (n m : Nat) (v : Nat × List T × Int × Int × Int × Nat × List T × Bool) := f98_s_l01DrawFloats.l0 n m v.1 v.2.1 v.2.2.1 v.2.2.2.1 v.2.2.2.2.1 v.2.2.2.2.2.1 v.2.2.2.2.2.2.1 v.2.2.2.2.2.2.2
def f98_s_l01DrawFloats.l0.W (n : Nat) : LpW := .of 48 f98_s_l01DrawFloats.l0.P sg_liiilb f98_s_l01DrawFloats.l0.A (f98_s_l01DrawFloats.l0.F n n)
def f98_s_l01DrawFloats.P : List Arg := [⟨.iop, ⟨false, [.rf .own [.sl .shr [.leaf], .leaf, .leaf]], [.ref [.lst 0 [], .int .i64 0, .int .u64 0]]⟩⟩, ⟨.val, ⟨false, [.leaf], [.int .i64 0]⟩⟩]
def f98_s_l01DrawFloats.A : RAlt (Nat × List T × Nat × List T × Int × Int) := .one ⟨[⟨false, [.sl .own [.leaf]], [.lst 0 []]⟩], [some ⟨false, [.rf .own [.sl .shr [.leaf], .leaf, .leaf]], [.ref [.lst 0 [], .int .i64 0, .int .u64 0]]⟩, none]⟩ sg_llii
def f98_s_l01DrawFloats.F (n : Nat) (v : Nat × List T × Int × Int × Int) := f98_s_l01DrawFloats n v.1 v.2.1 v.2.2.1 v.2.2.2.1 v.2.2.2.2
noncomputable def f98_s_l01DrawFloats.O (n : Nat) : Orc := orcOf (E := E) [f158_s_l00Srcone.w, f91_s_l01DrawPlain.w, f112_s_l01DrawFloat.w] [f98_s_l01DrawFloats.l0.W n] n
theorem f98_s_l01DrawFloats.l0.ok (n : Nat) : LpOk (f98_s_l01DrawFloats.O n) E (evalFn E n) n (keepAt 98) (.loop (loopAt c98 0)) :=
  lp_pure f98_s_l01DrawFloats.l0.P sg_liiilb f98_s_l01DrawFloats.l0.A (f98_s_l01DrawFloats.l0.F n) (orcOf_cf _ _ n) (lpOk_of (bs := []) (by kernel_rfl) .nil) (fun _ => rfl) (fun _ _ => by kernel_rfl) (fun _ _ _ => by kernel_rfl)
theorem f98_s_l01DrawFloats.ok : ∀ n v x, f98_s_l01DrawFloats.F n v = some x → evalFn E n 98 (flAs f98_s_l01DrawFloats.P (sg_liii.pk v)) = some (f98_s_l01DrawFloats.A.enc x) :=
  fn_pure (modes := (fdAt 98).ms) (outs := (fdAt 98).os) (results := (fdAt 98).rs) f98_s_l01DrawFloats.O (c := c98) (keep := keepAt 98) (by kernel_rfl) (fun n => orcOf_cf _ _ n) (fun n => lpOk_of (bs := [loopAt c98 0]) (by kernel_rfl) (.cons (f98_s_l01DrawFloats.l0.ok n) .nil)) (fun _ => rfl) (fun _ _ => by kernel_rfl)
noncomputable def f98_s_l01DrawFloats.w : FnW E := fnW 98 f98_s_l01DrawFloats.P sg_liii f98_s_l01DrawFloats.A f98_s_l01DrawFloats.F f98_s_l01DrawFloats.ok

def f22_s_R8Samples : Nat → Nat → List T → Int → Option (Nat × List T)
  | 0, _, _, _ => none
  | n + 1, n1, l2, i3 =>
    bd (f90_s_l00From n n1 l2) fun r4 =>
    let n5 : Nat := r4.1
    let l6 : List T := r4.2.1
    let i7 : Int := r4.2.2.1
    let i8 : Int := r4.2.2.2
    bd (f97_s_l00Srcpick n n5 l6 i7 i8 (IntKind.i64.wrap (i3 + (1 : Int)))) fun r9 =>
    let i10 : Int := r9.1
    let n11 : Nat := r9.2.1
    let l12 : List T := r9.2.2.1
    let i13 : Int := r9.2.2.2.1
    let i14 : Int := r9.2.2.2.2
    bd (f98_s_l01DrawFloats n n11 l12 i13 i14 i10) fun r15 =>
    let n16 : Nat := r15.1
    let l17 : List T := r15.2.1
    let n18 : Nat := r15.2.2.1
    let l19 : List T := r15.2.2.2.1
    let i20 : Int := r15.2.2.2.2.1
    let i21 : Int := r15.2.2.2.2.2
    some (n16, l17)
def sg_li : Sig (Nat × List T × Int) where
  pk := fun v => [.lst v.1 v.2.1, .int v.2.2]
  up := fun ls => match ls with
    | [.lst a0 a1, .int a2] => some (a0, a1, a2)
    | _ => none
  ok := by
    intro ls v h
    split at h
    · cases h; rfl
    · cases h

def f22_s_R8Samples.P : List Arg := [⟨.val, ⟨false, [.sl .shr [.leaf]], [.lst 0 []]⟩⟩, ⟨.val, ⟨false, [.leaf], [.int .i64 0]⟩⟩]
def f22_s_R8Samples.A : RAlt (Nat × List T) := .one ⟨[⟨false, [.sl .own [.leaf]], [.lst 0 []]⟩], [none, none]⟩ sg_l
def f22_s_R8Samples.F (n : Nat) (v : Nat × List T × Int) := f22_s_R8Samples n v.1 v.2.1 v.2.2
noncomputable def f22_s_R8Samples.O (n : Nat) : Orc := orcOf (E := E) [f90_s_l00From.w, f97_s_l00Srcpick.w, f98_s_l01DrawFloats.w] [] n
theorem f22_s_R8Samples.ok : ∀ n v x, f22_s_R8Samples.F n v = some x → evalFn E n 22 (flAs f22_s_R8Samples.P (sg_li.pk v)) = some (f22_s_R8Samples.A.enc x) :=
  fn_pure (modes := (fdAt 22).ms) (outs := (fdAt 22).os) (results := (fdAt 22).rs) f22_s_R8Samples.O (c := c22) (keep := keepAt 22) (by kernel_rfl) (fun n => orcOf_cf _ _ n) (fun n => lpOk_of (bs := []) (by kernel_rfl) .nil) (fun _ => rfl) (fun _ _ => by kernel_rfl)
noncomputable def f22_s_R8Samples.w : FnW E := fnW 22 f22_s_R8Samples.P sg_li f22_s_R8Samples.A f22_s_R8Samples.F f22_s_R8Samples.ok

def f92_i_areSamples : Nat → Nat → List T → Option (Bool)
  | 0, _, _ => none
  | n + 1, n1, l2 =>
    some (decide (((n1 : Nat) : Int) ≤ (256 : Int)))
def f92_i_areSamples.P : List Arg := [⟨.val, ⟨false, [.sl .shr [.leaf]], [.lst 0 []]⟩⟩]
def f92_i_areSamples.A : RAlt (Bool) := .one ⟨[⟨false, [.leaf], [.bool false]⟩], [none]⟩ sg_b
def f92_i_areSamples.F (n : Nat) (v : Nat × List T) := f92_i_areSamples n v.1 v.2
noncomputable def f92_i_areSamples.O (n : Nat) : Orc := orcOf (E := E) [] [] n
theorem f92_i_areSamples.ok : ∀ n v x, f92_i_areSamples.F n v = some x → evalFn E n 92 (flAs f92_i_areSamples.P (sg_l.pk v)) = some (f92_i_areSamples.A.enc x) :=
  fn_pure (modes := (fdAt 92).ms) (outs := (fdAt 92).os) (results := (fdAt 92).rs) f92_i_areSamples.O (c := c92) (keep := keepAt 92) (by kernel_rfl) (fun n => orcOf_cf _ _ n) (fun n => lpOk_of (bs := []) (by kernel_rfl) .nil) (fun _ => rfl) (fun _ _ => by kernel_rfl)
noncomputable def f92_i_areSamples.w : FnW E := fnW 92 f92_i_areSamples.P sg_l f92_i_areSamples.A f92_i_areSamples.F f92_i_areSamples.ok

def f109_i_copyNumbers : Nat → Nat → List T → Option (Nat × List T)
  | 0, _, _ => none
  | n + 1, n1, l2 =>
    gd (Nat.ble (0 + n1) 2147483648) (
    some ((0 + n1), ((reps 0 [(T.flt FloatKind.f32 0)]) ++ l2)))
def f109_i_copyNumbers.P : List Arg := [⟨.val, ⟨false, [.sl .shr [.leaf]], [.lst 0 []]⟩⟩]
def f109_i_copyNumbers.A : RAlt (Nat × List T) := .one ⟨[⟨false, [.sl .own [.leaf]], [.lst 0 []]⟩], [none]⟩ sg_l
def f109_i_copyNumbers.F (n : Nat) (v : Nat × List T) := f109_i_copyNumbers n v.1 v.2
noncomputable def f109_i_copyNumbers.O (n : Nat) : Orc := orcOf (E := E) [] [] n
theorem f109_i_copyNumbers.ok : ∀ n v x, f109_i_copyNumbers.F n v = some x → evalFn E n 109 (flAs f109_i_copyNumbers.P (sg_l.pk v)) = some (f109_i_copyNumbers.A.enc x) :=
  fn_pure (modes := (fdAt 109).ms) (outs := (fdAt 109).os) (results := (fdAt 109).rs) f109_i_copyNumbers.O (c := c109) (keep := keepAt 109) (by kernel_rfl) (fun n => orcOf_cf _ _ n) (fun n => lpOk_of (bs := []) (by kernel_rfl) .nil) (fun _ => rfl) (fun _ _ => by kernel_rfl)
noncomputable def f109_i_copyNumbers.w : FnW E := fnW 109 f109_i_copyNumbers.P sg_l f109_i_copyNumbers.A f109_i_copyNumbers.F f109_i_copyNumbers.ok

def f166_i_absolute : Nat → Nat → Option (Nat)
  | 0, _ => none
  | n + 1, x1 =>
    bd ((fltToFlt FloatKind.f32 x1 FloatKind.f64)) fun y2 =>
    bd (xAbs n y2) fun r3 =>
    let x4 : Nat := r3
    bd ((fltToFlt FloatKind.f64 x4 FloatKind.f32)) fun y5 =>
    some y5
def f166_i_absolute.P : List Arg := [⟨.val, ⟨false, [.leaf], [.flt .f32 0]⟩⟩]
def f166_i_absolute.A : RAlt (Nat) := .one ⟨[⟨false, [.leaf], [.flt .f32 0]⟩], [none]⟩ sg_f
def f166_i_absolute.F (n : Nat) (v : Nat) := f166_i_absolute n v
noncomputable def f166_i_absolute.O (n : Nat) : Orc := orcOf (E := E) [x179.w] [] n
theorem f166_i_absolute.ok : ∀ n v x, f166_i_absolute.F n v = some x → evalFn E n 166 (flAs f166_i_absolute.P (sg_f.pk v)) = some (f166_i_absolute.A.enc x) :=
  fn_pure (modes := (fdAt 166).ms) (outs := (fdAt 166).os) (results := (fdAt 166).rs) f166_i_absolute.O (c := c166) (keep := keepAt 166) (by kernel_rfl) (fun n => orcOf_cf _ _ n) (fun n => lpOk_of (bs := []) (by kernel_rfl) .nil) (fun _ => rfl) (fun _ _ => by kernel_rfl)
noncomputable def f166_i_absolute.w : FnW E := fnW 166 f166_i_absolute.P sg_f f166_i_absolute.A f166_i_absolute.F f166_i_absolute.ok

def f110_i_peakOf.l0 (n : Nat) : Nat → Nat → List T → Nat → Nat → List T → Int → Int → Option (Nat)
  | 0, _, _, _, _, _, _, _ => none
  | m + 1, n1, l2, x3, n4, l5, i6, i7 =>
    br (decide (i7 < i6)) (
     gd ((decide (((0 : Int) ≤ i7) ∧ (i7 < ((n4 : Nat) : Int)))) && (okAt [(CK.flt FloatKind.f32)] l5 (Int.toNat i7))) (
     let x8 : Nat := (fAt l5 (Int.toNat i7))
     bd (f166_i_absolute n x8) fun r9 =>
     let x10 : Nat := r9
     br (fgt FloatKind.f32 x10 x3) (
      f110_i_peakOf.l0 n m n1 l2 x10 n4 l5 i6 (IntKind.i64.wrap (i7 + (1 : Int)))) (
      f110_i_peakOf.l0 n m n1 l2 x3 n4 l5 i6 (IntKind.i64.wrap (i7 + (1 : Int)))))) (
     some x3)
def f110_i_peakOf : Nat → Nat → List T → Option (Nat)
  | 0, _, _ => none
  | n + 1, n1, l2 =>
    bd (f110_i_peakOf.l0 n n n1 l2 0 n1 l2 ((n1 : Nat) : Int) (0 : Int)) fun r3 =>
    let x4 : Nat := r3
    some x4
def sg_lflii : Sig (Nat × List T × Nat × Nat × List T × Int × Int) where
  pk := fun v => [.lst v.1 v.2.1, .flt v.2.2.1, .lst v.2.2.2.1 v.2.2.2.2.1, .int v.2.2.2.2.2.1, .int v.2.2.2.2.2.2]
  up := fun ls => match ls with
    | [.lst a0 a1, .flt a2, .lst a3 a4, .int a5, .int a6] => some (a0, a1, a2, a3, a4, a5, a6)
    | _ => none
  ok := by
    intro ls v h
    split at h
    · cases h; rfl
    · cases h

def f110_i_peakOf.l0.P : AS := ⟨[(0, .val false [.sl .shr [.leaf]] [.lst 0 []] [] 0), (3, .val false [.leaf] [.flt .f32 0] [] 0), (7, .val false [.sl .shr [.leaf]] [.lst 0 []] [] 0), (8, .val false [.leaf] [.int .i64 0] [] 0), (9, .val false [.leaf] [.int .i64 0] [] 0)], 0⟩
def f110_i_peakOf.l0.A : Alt (Nat) := .one (.exit 0) ⟨[(3, .val false [.leaf] [.flt .f32 0] [] 0)], 0⟩ sg_f
def f110_i_peakOf.l0.F (n m : Nat) (v : Nat × List T × Nat × Nat × List T × Int × Int) := f110_i_peakOf.l0 n m v.1 v.2.1 v.2.2.1 v.2.2.2.1 v.2.2.2.2.1 v.2.2.2.2.2.1 v.2.2.2.2.2.2
def f110_i_peakOf.l0.W (n : Nat) : LpW := .of 48 f110_i_peakOf.l0.P sg_lflii f110_i_peakOf.l0.A (f110_i_peakOf.l0.F n n)
def f110_i_peakOf.P : List Arg := [⟨.val, ⟨false, [.sl .shr [.leaf]], [.lst 0 []]⟩⟩]
def f110_i_peakOf.A : RAlt (Nat) := .one ⟨[⟨false, [.leaf], [.flt .f32 0]⟩], [none]⟩ sg_f
def f110_i_peakOf.F (n : Nat) (v : Nat × List T) := f110_i_peakOf n v.1 v.2
noncomputable def f110_i_peakOf.O (n : Nat) : Orc := orcOf (E := E) [f166_i_absolute.w] [f110_i_peakOf.l0.W n] n
theorem f110_i_peakOf.l0.ok (n : Nat) : LpOk (f110_i_peakOf.O n) E (evalFn E n) n (keepAt 110) (.loop (loopAt c110 0)) :=
  lp_pure f110_i_peakOf.l0.P sg_lflii f110_i_peakOf.l0.A (f110_i_peakOf.l0.F n) (orcOf_cf _ _ n) (lpOk_of (bs := []) (by kernel_rfl) .nil) (fun _ => rfl) (fun _ _ => by kernel_rfl) (fun _ _ _ => by kernel_rfl)
theorem f110_i_peakOf.ok : ∀ n v x, f110_i_peakOf.F n v = some x → evalFn E n 110 (flAs f110_i_peakOf.P (sg_l.pk v)) = some (f110_i_peakOf.A.enc x) :=
  fn_pure (modes := (fdAt 110).ms) (outs := (fdAt 110).os) (results := (fdAt 110).rs) f110_i_peakOf.O (c := c110) (keep := keepAt 110) (by kernel_rfl) (fun n => orcOf_cf _ _ n) (fun n => lpOk_of (bs := [loopAt c110 0]) (by kernel_rfl) (.cons (f110_i_peakOf.l0.ok n) .nil)) (fun _ => rfl) (fun _ _ => by kernel_rfl)
noncomputable def f110_i_peakOf.w : FnW E := fnW 110 f110_i_peakOf.P sg_l f110_i_peakOf.A f110_i_peakOf.F f110_i_peakOf.ok

def f111_i_clipped : Nat → Nat → Nat → Option (Nat)
  | 0, _, _ => none
  | n + 1, x1, x2 =>
    bd (f166_i_absolute n x1) fun r3 =>
    let x4 : Nat := r3
    br (!(fgt FloatKind.f32 x4 x2)) (
     some x1) (
     br (flt FloatKind.f32 x1 0) (
      some (negF FloatKind.f32 x2)) (
      some x2))
def sg_ff : Sig (Nat × Nat) where
  pk := fun v => [.flt v.1, .flt v.2]
  up := fun ls => match ls with
    | [.flt a0, .flt a1] => some (a0, a1)
    | _ => none
  ok := by
    intro ls v h
    split at h
    · cases h; rfl
    · cases h

def f111_i_clipped.P : List Arg := [⟨.val, ⟨false, [.leaf], [.flt .f32 0]⟩⟩, ⟨.val, ⟨false, [.leaf], [.flt .f32 0]⟩⟩]
def f111_i_clipped.A : RAlt (Nat) := .one ⟨[⟨false, [.leaf], [.flt .f32 0]⟩], [none, none]⟩ sg_f
def f111_i_clipped.F (n : Nat) (v : Nat × Nat) := f111_i_clipped n v.1 v.2
noncomputable def f111_i_clipped.O (n : Nat) : Orc := orcOf (E := E) [f166_i_absolute.w] [] n
theorem f111_i_clipped.ok : ∀ n v x, f111_i_clipped.F n v = some x → evalFn E n 111 (flAs f111_i_clipped.P (sg_ff.pk v)) = some (f111_i_clipped.A.enc x) :=
  fn_pure (modes := (fdAt 111).ms) (outs := (fdAt 111).os) (results := (fdAt 111).rs) f111_i_clipped.O (c := c111) (keep := keepAt 111) (by kernel_rfl) (fun n => orcOf_cf _ _ n) (fun n => lpOk_of (bs := []) (by kernel_rfl) .nil) (fun _ => rfl) (fun _ _ => by kernel_rfl)
noncomputable def f111_i_clipped.w : FnW E := fnW 111 f111_i_clipped.P sg_ff f111_i_clipped.A f111_i_clipped.F f111_i_clipped.ok

def f37_i_RunLimiter.l0 (n : Nat) : Nat → Nat → List T → Nat → Nat → Nat → Nat → List T → Nat → Nat → Nat → Nat → List T → Nat → List T → Nat → List T → Int → Int → Option (Nat × Nat × Nat × Nat × List T × Nat × Nat × Nat × Nat × List T × Nat × List T)
  | 0, _, _, _, _, _, _, _, _, _, _, _, _, _, _, _, _, _, _ => none
  | m + 1, n1, l2, x3, x4, x5, n6, l7, x8, x9, x10, n11, l12, n13, l14, n15, l16, i17, i18 =>
    br (decide (i18 < i17)) (
     gd ((decide (((0 : Int) ≤ i18) ∧ (i18 < ((n15 : Nat) : Int)))) && (okAt [(CK.flt FloatKind.f32)] l16 (Int.toNat i18))) (
     let x19 : Nat := (fAt l16 (Int.toNat i18))
     bd (f109_i_copyNumbers n n6 l7) fun r20 =>
     let n21 : Nat := r20.1
     let l22 : List T := r20.2
     gd (Nat.ble (n21 + 1) 2147483648) (
     let n23 : Nat := (n21 + 1)
     let l24 : List T := (l22 ++ (setN (reps 1 [(T.flt FloatKind.f32 0)]) 0 [(T.flt FloatKind.f32 x19)]))
     bd (f110_i_peakOf n n23 l24) fun r25 =>
     let x26 : Nat := r25
     br (fgt FloatKind.f32 x26 x3) (
      let x27 : Nat := (fdiv FloatKind.f32 x3 x26)
      let x28 : Nat := (fadd FloatKind.f32 x5 x4)
      br (flt FloatKind.f32 x27 x28) (
       gd (decide (((0 : Int) ≤ (1 : Int)) ∧ (((1 : Int) ≤ ((n23 : Nat) : Int)) ∧ (((n23 : Nat) : Int) ≤ ((n23 : Nat) : Int))))) (
       let n29 : Nat := (n23 - 1)
       let l30 : List T := (List.take (n23 - 1) (List.drop 1 l24))
       gd ((decide (((0 : Int) ≤ (0 : Int)) ∧ ((0 : Int) < ((n23 : Nat) : Int)))) && (okAt [(CK.flt FloatKind.f32)] l24 0)) (
       bd (f111_i_clipped n (fmul FloatKind.f32 (fAt l24 0) x27) x3) fun r31 =>
       let x32 : Nat := r31
       gd (Nat.ble (n13 + 1) 2147483648) (
       let n33 : Nat := (n13 + 1)
       let l34 : List T := (l14 ++ (setN (reps 1 [(T.flt FloatKind.f32 0)]) 0 [(T.flt FloatKind.f32 x32)]))
       f37_i_RunLimiter.l0 n m n1 l2 x3 x4 x27 n29 l30 x8 x9 x10 n11 l12 n33 l34 n15 l16 i17 (IntKind.i64.wrap (i18 + (1 : Int))))))) (
       br (fne FloatKind.f32 x28 x28) (
        gd (decide (((0 : Int) ≤ (1 : Int)) ∧ (((1 : Int) ≤ ((n23 : Nat) : Int)) ∧ (((n23 : Nat) : Int) ≤ ((n23 : Nat) : Int))))) (
        let n35 : Nat := (n23 - 1)
        let l36 : List T := (List.take (n23 - 1) (List.drop 1 l24))
        gd ((decide (((0 : Int) ≤ (0 : Int)) ∧ ((0 : Int) < ((n23 : Nat) : Int)))) && (okAt [(CK.flt FloatKind.f32)] l24 0)) (
        bd (f111_i_clipped n (fmul FloatKind.f32 (fAt l24 0) x27) x3) fun r37 =>
        let x38 : Nat := r37
        gd (Nat.ble (n13 + 1) 2147483648) (
        let n39 : Nat := (n13 + 1)
        let l40 : List T := (l14 ++ (setN (reps 1 [(T.flt FloatKind.f32 0)]) 0 [(T.flt FloatKind.f32 x38)]))
        f37_i_RunLimiter.l0 n m n1 l2 x3 x4 x27 n35 l36 x8 x9 x10 n11 l12 n39 l40 n15 l16 i17 (IntKind.i64.wrap (i18 + (1 : Int))))))) (
        gd (decide (((0 : Int) ≤ (1 : Int)) ∧ (((1 : Int) ≤ ((n23 : Nat) : Int)) ∧ (((n23 : Nat) : Int) ≤ ((n23 : Nat) : Int))))) (
        let n41 : Nat := (n23 - 1)
        let l42 : List T := (List.take (n23 - 1) (List.drop 1 l24))
        gd ((decide (((0 : Int) ≤ (0 : Int)) ∧ ((0 : Int) < ((n23 : Nat) : Int)))) && (okAt [(CK.flt FloatKind.f32)] l24 0)) (
        bd (f111_i_clipped n (fmul FloatKind.f32 (fAt l24 0) x28) x3) fun r43 =>
        let x44 : Nat := r43
        gd (Nat.ble (n13 + 1) 2147483648) (
        let n45 : Nat := (n13 + 1)
        let l46 : List T := (l14 ++ (setN (reps 1 [(T.flt FloatKind.f32 0)]) 0 [(T.flt FloatKind.f32 x44)]))
        f37_i_RunLimiter.l0 n m n1 l2 x3 x4 x28 n41 l42 x8 x9 x10 n11 l12 n45 l46 n15 l16 i17 (IntKind.i64.wrap (i18 + (1 : Int))))))))) (
      let x47 : Nat := (fadd FloatKind.f32 x5 x4)
      br (flt FloatKind.f32 1065353216 x47) (
       gd (decide (((0 : Int) ≤ (1 : Int)) ∧ (((1 : Int) ≤ ((n23 : Nat) : Int)) ∧ (((n23 : Nat) : Int) ≤ ((n23 : Nat) : Int))))) (
       let n48 : Nat := (n23 - 1)
       let l49 : List T := (List.take (n23 - 1) (List.drop 1 l24))
       gd ((decide (((0 : Int) ≤ (0 : Int)) ∧ ((0 : Int) < ((n23 : Nat) : Int)))) && (okAt [(CK.flt FloatKind.f32)] l24 0)) (
       bd (f111_i_clipped n (fmul FloatKind.f32 (fAt l24 0) 1065353216) x3) fun r50 =>
       let x51 : Nat := r50
       gd (Nat.ble (n13 + 1) 2147483648) (
       let n52 : Nat := (n13 + 1)
       let l53 : List T := (l14 ++ (setN (reps 1 [(T.flt FloatKind.f32 0)]) 0 [(T.flt FloatKind.f32 x51)]))
       f37_i_RunLimiter.l0 n m n1 l2 x3 x4 1065353216 n48 l49 x8 x9 x10 n11 l12 n52 l53 n15 l16 i17 (IntKind.i64.wrap (i18 + (1 : Int))))))) (
       br (fne FloatKind.f32 x47 x47) (
        gd (decide (((0 : Int) ≤ (1 : Int)) ∧ (((1 : Int) ≤ ((n23 : Nat) : Int)) ∧ (((n23 : Nat) : Int) ≤ ((n23 : Nat) : Int))))) (
        let n54 : Nat := (n23 - 1)
        let l55 : List T := (List.take (n23 - 1) (List.drop 1 l24))
        gd ((decide (((0 : Int) ≤ (0 : Int)) ∧ ((0 : Int) < ((n23 : Nat) : Int)))) && (okAt [(CK.flt FloatKind.f32)] l24 0)) (
        bd (f111_i_clipped n (fmul FloatKind.f32 (fAt l24 0) 1065353216) x3) fun r56 =>
        let x57 : Nat := r56
        gd (Nat.ble (n13 + 1) 2147483648) (
        let n58 : Nat := (n13 + 1)
        let l59 : List T := (l14 ++ (setN (reps 1 [(T.flt FloatKind.f32 0)]) 0 [(T.flt FloatKind.f32 x57)]))
        f37_i_RunLimiter.l0 n m n1 l2 x3 x4 1065353216 n54 l55 x8 x9 x10 n11 l12 n58 l59 n15 l16 i17 (IntKind.i64.wrap (i18 + (1 : Int))))))) (
        gd (decide (((0 : Int) ≤ (1 : Int)) ∧ (((1 : Int) ≤ ((n23 : Nat) : Int)) ∧ (((n23 : Nat) : Int) ≤ ((n23 : Nat) : Int))))) (
        let n60 : Nat := (n23 - 1)
        let l61 : List T := (List.take (n23 - 1) (List.drop 1 l24))
        gd ((decide (((0 : Int) ≤ (0 : Int)) ∧ ((0 : Int) < ((n23 : Nat) : Int)))) && (okAt [(CK.flt FloatKind.f32)] l24 0)) (
        bd (f111_i_clipped n (fmul FloatKind.f32 (fAt l24 0) x47) x3) fun r62 =>
        let x63 : Nat := r62
        gd (Nat.ble (n13 + 1) 2147483648) (
        let n64 : Nat := (n13 + 1)
        let l65 : List T := (l14 ++ (setN (reps 1 [(T.flt FloatKind.f32 0)]) 0 [(T.flt FloatKind.f32 x63)]))
        f37_i_RunLimiter.l0 n m n1 l2 x3 x4 x47 n60 l61 x8 x9 x10 n11 l12 n64 l65 n15 l16 i17 (IntKind.i64.wrap (i18 + (1 : Int)))))))))))) (
     some (x3, x4, x5, n6, l7, x8, x9, x10, n11, l12, n13, l14))
termination_by structural x => x
def f37_i_RunLimiter : Nat → Nat → Nat → Nat → Nat → List T → Nat → List T → Option (Nat × List T × Nat × Nat × Nat × Nat × List T × Bool)
  | 0, _, _, _, _, _, _, _ => none
  | n + 1, x1, x2, x3, n4, l5, n6, l7 =>
    bd (f107_i_isLimit n x1) fun r8 =>
    let b9 : Bool := r8
    br (!b9) (
     some (0, [], 0, 0, 0, 0, [], false)) (
     br (decide (((n4 : Nat) : Int) > (64 : Int))) (
      some (0, [], 0, 0, 0, 0, [], false)) (
      bd (f92_i_areSamples n n6 l7) fun r10 =>
      let b11 : Bool := r10
      br (!b11) (
       some (0, [], 0, 0, 0, 0, [], false)) (
       bd (f109_i_copyNumbers n n4 l5) fun r12 =>
       let n13 : Nat := r12.1
       let l14 : List T := r12.2
       bd (f37_i_RunLimiter.l0 n n n6 l7 x1 x2 x3 n13 l14 0 0 0 0 [] 0 [] n6 l7 ((n6 : Nat) : Int) (0 : Int)) fun r15 =>
       let x16 : Nat := r15.1
       let x17 : Nat := r15.2.1
       let x18 : Nat := r15.2.2.1
       let n19 : Nat := r15.2.2.2.1
       let l20 : List T := r15.2.2.2.2.1
       let x21 : Nat := r15.2.2.2.2.2.1
       let x22 : Nat := r15.2.2.2.2.2.2.1
       let x23 : Nat := r15.2.2.2.2.2.2.2.1
       let n24 : Nat := r15.2.2.2.2.2.2.2.2.1
       let l25 : List T := r15.2.2.2.2.2.2.2.2.2.1
       let n26 : Nat := r15.2.2.2.2.2.2.2.2.2.2.1
       let l27 : List T := r15.2.2.2.2.2.2.2.2.2.2.2
       bd (f109_i_copyNumbers n n19 l20) fun r28 =>
       let n29 : Nat := r28.1
       let l30 : List T := r28.2
       some (n26, l27, x16, x17, x18, n29, l30, true))))
def sg_fffll : Sig (Nat × Nat × Nat × Nat × List T × Nat × List T) where
  pk := fun v => [.flt v.1, .flt v.2.1, .flt v.2.2.1, .lst v.2.2.2.1 v.2.2.2.2.1, .lst v.2.2.2.2.2.1 v.2.2.2.2.2.2]
  up := fun ls => match ls with
    | [.flt a0, .flt a1, .flt a2, .lst a3 a4, .lst a5 a6] => some (a0, a1, a2, a3, a4, a5, a6)
    | _ => none
  ok := by
    intro ls v h
    split at h
    · cases h; rfl
    · cases h

def sg_lffflb : Sig (Nat × List T × Nat × Nat × Nat × Nat × List T × Bool) where
  pk := fun v => [.lst v.1 v.2.1, .flt v.2.2.1, .flt v.2.2.2.1, .flt v.2.2.2.2.1, .lst v.2.2.2.2.2.1 v.2.2.2.2.2.2.1, .bool v.2.2.2.2.2.2.2]
  up := fun ls => match ls with
    | [.lst a0 a1, .flt a2, .flt a3, .flt a4, .lst a5 a6, .bool a7] => some (a0, a1, a2, a3, a4, a5, a6, a7)
    | _ => none
  ok := by
    intro ls v h
    split at h
    · cases h; rfl
    · cases h

def sg_lffflffflllii : Sig (Nat × List T × Nat × Nat × Nat × Nat × List T × Nat × Nat × Nat × Nat × List T × Nat × List T × Nat × List T × Int × Int) where
  pk := fun v => [.lst v.1 v.2.1, .flt v.2.2.1, .flt v.2.2.2.1, .flt v.2.2.2.2.1, .lst v.2.2.2.2.2.1 v.2.2.2.2.2.2.1, .flt v.2.2.2.2.2.2.2.1, .flt v.2.2.2.2.2.2.2.2.1, .flt v.2.2.2.2.2.2.2.2.2.1, .lst v.2.2.2.2.2.2.2.2.2.2.1 v.2.2.2.2.2.2.2.2.2.2.2.1, .lst v.2.2.2.2.2.2.2.2.2.2.2.2.1 v.2.2.2.2.2.2.2.2.2.2.2.2.2.1, .lst v.2.2.2.2.2.2.2.2.2.2.2.2.2.2.1 v.2.2.2.2.2.2.2.2.2.2.2.2.2.2.2.1, .int v.2.2.2.2.2.2.2.2.2.2.2.2.2.2.2.2.1, .int v.2.2.2.2.2.2.2.2.2.2.2.2.2.2.2.2.2]
  up := fun ls => match ls with
    | [.lst a0 a1, .flt a2, .flt a3, .flt a4, .lst a5 a6, .flt a7, .flt a8, .flt a9, .lst a10 a11, .lst a12 a13, .lst a14 a15, .int a16, .int a17] => some (a0, a1, a2, a3, a4, a5, a6, a7, a8, a9, a10, a11, a12, a13, a14, a15, a16, a17)
    | _ => none
  ok := by
    intro ls v h
    split at h
    · cases h; rfl
    · cases h

def sg_ffflfffll : Sig (Nat × Nat × Nat × Nat × List T × Nat × Nat × Nat × Nat × List T × Nat × List T) where
  pk := fun v => [.flt v.1, .flt v.2.1, .flt v.2.2.1, .lst v.2.2.2.1 v.2.2.2.2.1, .flt v.2.2.2.2.2.1, .flt v.2.2.2.2.2.2.1, .flt v.2.2.2.2.2.2.2.1, .lst v.2.2.2.2.2.2.2.2.1 v.2.2.2.2.2.2.2.2.2.1, .lst v.2.2.2.2.2.2.2.2.2.2.1 v.2.2.2.2.2.2.2.2.2.2.2]
  up := fun ls => match ls with
    | [.flt a0, .flt a1, .flt a2, .lst a3 a4, .flt a5, .flt a6, .flt a7, .lst a8 a9, .lst a10 a11] => some (a0, a1, a2, a3, a4, a5, a6, a7, a8, a9, a10, a11)
    | _ => none
  ok := by
    intro ls v h
    split at h
    · cases h; rfl
    · cases h

def f37_i_RunLimiter.l0.P : AS := ⟨[(1, .val false [.sl .shr [.leaf]] [.lst 0 []] [] 0), (2, .box [.leaf, .leaf, .leaf, .sl .shr [.leaf]] [.flt .f32 0, .flt .f32 0, .flt .f32 0, .lst 0 []] [] 0), (5, .box [.leaf, .leaf, .leaf, .sl .own [.leaf]] [.flt .f32 0, .flt .f32 0, .flt .f32 0, .lst 0 []] [] 0), (7, .val false [.sl .own [.leaf]] [.lst 0 []] [] 0), (34, .val false [.sl .shr [.leaf]] [.lst 0 []] [] 0), (35, .val false [.leaf] [.int .i64 0] [] 0), (36, .val false [.leaf] [.int .i64 0] [] 0)], 0⟩
def f37_i_RunLimiter.l0.A : Alt (Nat × Nat × Nat × Nat × List T × Nat × Nat × Nat × Nat × List T × Nat × List T) := .one (.exit 0) ⟨[(2, .box [.leaf, .leaf, .leaf, .sl .shr [.leaf]] [.flt .f32 0, .flt .f32 0, .flt .f32 0, .lst 0 []] [] 0), (5, .box [.leaf, .leaf, .leaf, .sl .own [.leaf]] [.flt .f32 0, .flt .f32 0, .flt .f32 0, .lst 0 []] [] 0), (7, .val false [.sl .own [.leaf]] [.lst 0 []] [] 0)], 0⟩ sg_ffflfffll
def f37_i_RunLimiter.l0.F (n m : Nat) (v : Nat × List T × Nat × Nat × Nat × Nat × List T × Nat × Nat × Nat × Nat × List T × Nat × List T × Nat × List T × Int × Int) := f37_i_RunLimiter.l0 n m v.1 v.2.1 v.2.2.1 v.2.2.2.1 v.2.2.2.2.1 v.2.2.2.2.2.1 v.2.2.2.2.2.2.1 v.2.2.2.2.2.2.2.1 v.2.2.2.2.2.2.2.2.1 v.2.2.2.2.2.2.2.2.2.1 v.2.2.2.2.2.2.2.2.2.2.1 v.2.2.2.2.2.2.2.2.2.2.2.1 v.2.2.2.2.2.2.2.2.2.2.2.2.1 v.2.2.2.2.2.2.2.2.2.2.2.2.2.1 v.2.2.2.2.2.2.2.2.2.2.2.2.2.2.1 v.2.2.2.2.2.2.2.2.2.2.2.2.2.2.2.1 v.2.2.2.2.2.2.2.2.2.2.2.2.2.2.2.2.1 v.2.2.2.2.2.2.2.2.2.2.2.2.2.2.2.2.2
def f37_i_RunLimiter.l0.W (n : Nat) : LpW := .of 96 f37_i_RunLimiter.l0.P sg_lffflffflllii f37_i_RunLimiter.l0.A (f37_i_RunLimiter.l0.F n n)
def f37_i_RunLimiter.P : List Arg := [⟨.val, ⟨true, [.leaf, .leaf, .leaf, .sl .shr [.leaf]], [.flt .f32 0, .flt .f32 0, .flt .f32 0, .lst 0 []]⟩⟩, ⟨.val, ⟨false, [.sl .shr [.leaf]], [.lst 0 []]⟩⟩]
def f37_i_RunLimiter.A : RAlt (Nat × List T × Nat × Nat × Nat × Nat × List T × Bool) := .one ⟨[⟨false, [.sl .own [.leaf]], [.lst 0 []]⟩, ⟨true, [.leaf, .leaf, .leaf, .sl .own [.leaf]], [.flt .f32 0, .flt .f32 0, .flt .f32 0, .lst 0 []]⟩, ⟨false, [.leaf], [.bool false]⟩], [none, none]⟩ sg_lffflb
def f37_i_RunLimiter.F (n : Nat) (v : Nat × Nat × Nat × Nat × List T × Nat × List T) := f37_i_RunLimiter n v.1 v.2.1 v.2.2.1 v.2.2.2.1 v.2.2.2.2.1 v.2.2.2.2.2.1 v.2.2.2.2.2.2
noncomputable def f37_i_RunLimiter.O (n : Nat) : Orc := orcOf (E := E) [f107_i_isLimit.w, f92_i_areSamples.w, f109_i_copyNumbers.w, f110_i_peakOf.w, f111_i_clipped.w] [f37_i_RunLimiter.l0.W n] n
theorem f37_i_RunLimiter.l0.ok (n : Nat) : LpOk (f37_i_RunLimiter.O n) E (evalFn E n) n (keepAt 37) (.loop (loopAt c37 0)) :=
  lp_pure f37_i_RunLimiter.l0.P sg_lffflffflllii f37_i_RunLimiter.l0.A (f37_i_RunLimiter.l0.F n) (orcOf_cf _ _ n) (lpOk_of (bs := []) (by kernel_rfl) .nil) (fun _ => rfl) (fun _ _ => by kernel_rfl) (fun _ _ _ => by kernel_rfl)
theorem f37_i_RunLimiter.ok : ∀ n v x, f37_i_RunLimiter.F n v = some x → evalFn E n 37 (flAs f37_i_RunLimiter.P (sg_fffll.pk v)) = some (f37_i_RunLimiter.A.enc x) :=
  fn_pure (modes := (fdAt 37).ms) (outs := (fdAt 37).os) (results := (fdAt 37).rs) f37_i_RunLimiter.O (c := c37) (keep := keepAt 37) (by kernel_rfl) (fun n => orcOf_cf _ _ n) (fun n => lpOk_of (bs := [loopAt c37 0]) (by kernel_rfl) (.cons (f37_i_RunLimiter.l0.ok n) .nil)) (fun _ => rfl) (fun _ _ => by kernel_rfl)
noncomputable def f37_i_RunLimiter.w : FnW E := fnW 37 f37_i_RunLimiter.P sg_fffll f37_i_RunLimiter.A f37_i_RunLimiter.F f37_i_RunLimiter.ok

def f21_i_SameNumber : Nat → Nat → Nat → Option (Bool)
  | 0, _, _ => none
  | n + 1, x1, x2 =>
    br (fne FloatKind.f32 x1 x1) (
     br (fne FloatKind.f32 x1 x1) (
      some (fne FloatKind.f32 x2 x2)) (
      some false)) (
     br (fne FloatKind.f32 x2 x2) (
      br (fne FloatKind.f32 x1 x1) (
       some (fne FloatKind.f32 x2 x2)) (
       some false)) (
      bd (xF32bits n x1) fun r3 =>
      let i4 : Int := r3
      bd (xF32bits n x2) fun r5 =>
      let i6 : Int := r5
      some (i4 == i6)))
def f21_i_SameNumber.P : List Arg := [⟨.val, ⟨false, [.leaf], [.flt .f32 0]⟩⟩, ⟨.val, ⟨false, [.leaf], [.flt .f32 0]⟩⟩]
def f21_i_SameNumber.A : RAlt (Bool) := .one ⟨[⟨false, [.leaf], [.bool false]⟩], [none, none]⟩ sg_b
def f21_i_SameNumber.F (n : Nat) (v : Nat × Nat) := f21_i_SameNumber n v.1 v.2
noncomputable def f21_i_SameNumber.O (n : Nat) : Orc := orcOf (E := E) [x96.w] [] n
theorem f21_i_SameNumber.ok : ∀ n v x, f21_i_SameNumber.F n v = some x → evalFn E n 21 (flAs f21_i_SameNumber.P (sg_ff.pk v)) = some (f21_i_SameNumber.A.enc x) :=
  fn_pure (modes := (fdAt 21).ms) (outs := (fdAt 21).os) (results := (fdAt 21).rs) f21_i_SameNumber.O (c := c21) (keep := keepAt 21) (by kernel_rfl) (fun n => orcOf_cf _ _ n) (fun n => lpOk_of (bs := []) (by kernel_rfl) .nil) (fun _ => rfl) (fun _ _ => by kernel_rfl)
noncomputable def f21_i_SameNumber.w : FnW E := fnW 21 f21_i_SameNumber.P sg_ff f21_i_SameNumber.A f21_i_SameNumber.F f21_i_SameNumber.ok

def f38_l_r8Same.l0 (n : Nat) : Nat → Nat → List T → Nat → List T → Int → Option ((Bool) ⊕ (Unit))
  | 0, _, _, _, _, _ => none
  | m + 1, n1, l2, n3, l4, i5 =>
    br (decide (i5 < ((n1 : Nat) : Int))) (
     gd ((decide (((0 : Int) ≤ i5) ∧ (i5 < ((n1 : Nat) : Int)))) && (okAt [(CK.flt FloatKind.f32)] l2 (Int.toNat i5))) (
     gd ((decide (((0 : Int) ≤ i5) ∧ (i5 < ((n3 : Nat) : Int)))) && (okAt [(CK.flt FloatKind.f32)] l4 (Int.toNat i5))) (
     bd (f21_i_SameNumber n (fAt l2 (Int.toNat i5)) (fAt l4 (Int.toNat i5))) fun r6 =>
     let b7 : Bool := r6
     br (!b7) (
      some (Sum.inl false)) (
      f38_l_r8Same.l0 n m n1 l2 n3 l4 (IntKind.i64.wrap (i5 + (1 : Int))))))) (
     some (Sum.inr ()))
def f38_l_r8Same : Nat → Nat → List T → Nat → List T → Option (Bool)
  | 0, _, _, _, _ => none
  | n + 1, n1, l2, n3, l4 =>
    br (((n1 : Nat) : Int) != ((n3 : Nat) : Int)) (
     some false) (
     bd (f38_l_r8Same.l0 n n n1 l2 n3 l4 (0 : Int)) fun r5 =>
     sm r5 (fun u6 =>
      let b7 : Bool := u6
      some b7) (fun u8 =>
      some true))
def sg_lli : Sig (Nat × List T × Nat × List T × Int) where
  pk := fun v => [.lst v.1 v.2.1, .lst v.2.2.1 v.2.2.2.1, .int v.2.2.2.2]
  up := fun ls => match ls with
    | [.lst a0 a1, .lst a2 a3, .int a4] => some (a0, a1, a2, a3, a4)
    | _ => none
  ok := by
    intro ls v h
    split at h
    · cases h; rfl
    · cases h

def sg : Sig (Unit) where
  pk := fun v => []
  up := fun ls => match ls with
    | [] => some ()
    | _ => none
  ok := by
    intro ls v h
    split at h
    · cases h; rfl
    · cases h

def f38_l_r8Same.l0.P : AS := ⟨[(0, .val false [.sl .shr [.leaf]] [.lst 0 []] [] 0), (1, .val false [.sl .shr [.leaf]] [.lst 0 []] [] 0), (5, .val false [.leaf] [.int .i64 0] [] 0)], 0⟩
def f38_l_r8Same.l0.A : Alt ((Bool) ⊕ (Unit)) := .or (.one .ret ⟨[(4, .val false [.leaf] [.bool false] [] 0)], 0⟩ sg_b) (.one (.exit 0) ⟨[(4, .dead)], 0⟩ sg)
def f38_l_r8Same.l0.F (n m : Nat) (v : Nat × List T × Nat × List T × Int) := f38_l_r8Same.l0 n m v.1 v.2.1 v.2.2.1 v.2.2.2.1 v.2.2.2.2
def f38_l_r8Same.l0.W (n : Nat) : LpW := .of 64 f38_l_r8Same.l0.P sg_lli f38_l_r8Same.l0.A (f38_l_r8Same.l0.F n n)
def f38_l_r8Same.P : List Arg := [⟨.val, ⟨false, [.sl .shr [.leaf]], [.lst 0 []]⟩⟩, ⟨.val, ⟨false, [.sl .shr [.leaf]], [.lst 0 []]⟩⟩]
def f38_l_r8Same.A : RAlt (Bool) := .one ⟨[⟨false, [.leaf], [.bool false]⟩], [none, none]⟩ sg_b
def f38_l_r8Same.F (n : Nat) (v : Nat × List T × Nat × List T) := f38_l_r8Same n v.1 v.2.1 v.2.2.1 v.2.2.2
noncomputable def f38_l_r8Same.O (n : Nat) : Orc := orcOf (E := E) [f21_i_SameNumber.w] [f38_l_r8Same.l0.W n] n
theorem f38_l_r8Same.l0.ok (n : Nat) : LpOk (f38_l_r8Same.O n) E (evalFn E n) n (keepAt 38) (.loop (loopAt c38 0)) :=
  lp_pure f38_l_r8Same.l0.P sg_lli f38_l_r8Same.l0.A (f38_l_r8Same.l0.F n) (orcOf_cf _ _ n) (lpOk_of (bs := []) (by kernel_rfl) .nil) (fun _ => rfl) (fun _ _ => by kernel_rfl) (fun _ _ _ => by kernel_rfl)
theorem f38_l_r8Same.ok : ∀ n v x, f38_l_r8Same.F n v = some x → evalFn E n 38 (flAs f38_l_r8Same.P (sg_ll.pk v)) = some (f38_l_r8Same.A.enc x) :=
  fn_pure (modes := (fdAt 38).ms) (outs := (fdAt 38).os) (results := (fdAt 38).rs) f38_l_r8Same.O (c := c38) (keep := keepAt 38) (by kernel_rfl) (fun n => orcOf_cf _ _ n) (fun n => lpOk_of (bs := [loopAt c38 0]) (by kernel_rfl) (.cons (f38_l_r8Same.l0.ok n) .nil)) (fun _ => rfl) (fun _ _ => by kernel_rfl)
noncomputable def f38_l_r8Same.w : FnW E := fnW 38 f38_l_r8Same.P sg_ll f38_l_r8Same.A f38_l_r8Same.F f38_l_r8Same.ok

def f6_l_FnLimited.l0 (n : Nat) : Nat → Nat → Int → Nat → List T → Nat → List T → Bool → Int → Option ((Bool) ⊕ (Nat × Int × Nat × List T × Nat × List T × Bool))
  | 0, _, _, _, _, _, _, _, _ => none
  | m + 1, x1, i2, n3, l4, n5, l6, b7, i8 =>
    br (decide (i8 < ((n3 : Nat) : Int))) (
     gd (decide (((0 : Int) ≤ i8) ∧ (i8 < ((n5 : Nat) : Int)))) (
     gd (okAt [(CK.flt FloatKind.f32)] l6 (Int.toNat i8)) (
     br (fgt FloatKind.f32 (fAt l6 (Int.toNat i8)) x1) (
      some (Sum.inl false)) (
      gd (decide (((0 : Int) ≤ i8) ∧ (i8 < ((n5 : Nat) : Int)))) (
      gd (okAt [(CK.flt FloatKind.f32)] l6 (Int.toNat i8)) (
      br (flt FloatKind.f32 (fAt l6 (Int.toNat i8)) (negF FloatKind.f32 x1)) (
       some (Sum.inl false)) (
       br b7 (
        gd (decide (((0 : Int) ≤ i8) ∧ (i8 < ((n3 : Nat) : Int)))) (
        gd (okAt [(CK.flt FloatKind.f32)] l4 (Int.toNat i8)) (
        br (fle FloatKind.f32 (fAt l4 (Int.toNat i8)) x1) (
         gd (decide (((0 : Int) ≤ i8) ∧ (i8 < ((n3 : Nat) : Int)))) (
         gd (okAt [(CK.flt FloatKind.f32)] l4 (Int.toNat i8)) (
         let b9 : Bool := (fge FloatKind.f32 (fAt l4 (Int.toNat i8)) (negF FloatKind.f32 x1))
         f6_l_FnLimited.l0 n m x1 i2 n3 l4 n5 l6 b9 (IntKind.i64.wrap (i8 + (1 : Int)))))) (
         f6_l_FnLimited.l0 n m x1 i2 n3 l4 n5 l6 false (IntKind.i64.wrap (i8 + (1 : Int))))))) (
        f6_l_FnLimited.l0 n m x1 i2 n3 l4 n5 l6 false (IntKind.i64.wrap (i8 + (1 : Int))))))))))) (
     some (Sum.inr (x1, i2, n3, l4, n5, l6, b7)))
def f6_l_FnLimited.l1 (n : Nat) : Nat → Nat → Int → Nat → List T → Nat → List T → Bool → Int → Option ((Bool) ⊕ (Nat × Nat × List T))
  | 0, _, _, _, _, _, _, _, _ => none
  | m + 1, x1, i2, n3, l4, n5, l6, b7, i8 =>
    br (decide (i8 < ((n3 : Nat) : Int))) (
     br b7 (
      br (decide (i8 ≥ i2)) (
       gd (decide (((0 : Int) ≤ (IntKind.i64.wrap (i8 - i2))) ∧ ((IntKind.i64.wrap (i8 - i2)) < ((n3 : Nat) : Int)))) (
       gd (okAt [(CK.flt FloatKind.f32)] l4 (Int.toNat (IntKind.i64.wrap (i8 - i2)))) (
       let x9 : Nat := (fAt l4 (Int.toNat (IntKind.i64.wrap (i8 - i2))))
       gd (decide (((0 : Int) ≤ i8) ∧ (i8 < ((n5 : Nat) : Int)))) (
       gd (okAt [(CK.flt FloatKind.f32)] l6 (Int.toNat i8)) (
       br (fne FloatKind.f32 (fAt l6 (Int.toNat i8)) x9) (
        some (Sum.inl false)) (
        f6_l_FnLimited.l1 n m x1 i2 n3 l4 n5 l6 b7 (IntKind.i64.wrap (i8 + (1 : Int))))))))) (
       gd (decide (((0 : Int) ≤ i8) ∧ (i8 < ((n5 : Nat) : Int)))) (
       gd (okAt [(CK.flt FloatKind.f32)] l6 (Int.toNat i8)) (
       br (fne FloatKind.f32 (fAt l6 (Int.toNat i8)) 0) (
        some (Sum.inl false)) (
        f6_l_FnLimited.l1 n m x1 i2 n3 l4 n5 l6 b7 (IntKind.i64.wrap (i8 + (1 : Int)))))))) (
      some (Sum.inr (x1, n3, l4)))) (
     some (Sum.inr (x1, n3, l4)))
def f39_i_ClipSamples.l0 (n : Nat) : Nat → Nat → List T → Nat → Nat → List T → Nat → List T → Int → Int → Option (Nat × List T)
  | 0, _, _, _, _, _, _, _, _, _ => none
  | m + 1, n1, l2, x3, n4, l5, n6, l7, i8, i9 =>
    br (decide (i9 < i8)) (
     gd ((decide (((0 : Int) ≤ i9) ∧ (i9 < ((n6 : Nat) : Int)))) && (okAt [(CK.flt FloatKind.f32)] l7 (Int.toNat i9))) (
     let x10 : Nat := (fAt l7 (Int.toNat i9))
     bd (f111_i_clipped n x10 x3) fun r11 =>
     let x12 : Nat := r11
     gd (Nat.ble (n4 + 1) 2147483648) (
     let n13 : Nat := (n4 + 1)
     let l14 : List T := (l5 ++ (setN (reps 1 [(T.flt FloatKind.f32 0)]) 0 [(T.flt FloatKind.f32 x12)]))
     f39_i_ClipSamples.l0 n m n1 l2 x3 n13 l14 n6 l7 i8 (IntKind.i64.wrap (i9 + (1 : Int)))))) (
     some (n4, l5))
def f39_i_ClipSamples : Nat → Nat → List T → Nat → Option (Nat × List T × Bool)
  | 0, _, _, _ => none
  | n + 1, n1, l2, x3 =>
    bd (f92_i_areSamples n n1 l2) fun r4 =>
    let b5 : Bool := r4
    br (!b5) (
     some (0, [], false)) (
     bd (f39_i_ClipSamples.l0 n n n1 l2 x3 0 [] n1 l2 ((n1 : Nat) : Int) (0 : Int)) fun r6 =>
     let n7 : Nat := r6.1
     let l8 : List T := r6.2
     some (n7, l8, true))
def sg_lf : Sig (Nat × List T × Nat) where
  pk := fun v => [.lst v.1 v.2.1, .flt v.2.2]
  up := fun ls => match ls with
    | [.lst a0 a1, .flt a2] => some (a0, a1, a2)
    | _ => none
  ok := by
    intro ls v h
    split at h
    · cases h; rfl
    · cases h

def sg_lb : Sig (Nat × List T × Bool) where
  pk := fun v => [.lst v.1 v.2.1, .bool v.2.2]
  up := fun ls => match ls with
    | [.lst a0 a1, .bool a2] => some (a0, a1, a2)
    | _ => none
  ok := by
    intro ls v h
    split at h
    · cases h; rfl
    · cases h

def sg_lfllii : Sig (Nat × List T × Nat × Nat × List T × Nat × List T × Int × Int) where
  pk := fun v => [.lst v.1 v.2.1, .flt v.2.2.1, .lst v.2.2.2.1 v.2.2.2.2.1, .lst v.2.2.2.2.2.1 v.2.2.2.2.2.2.1, .int v.2.2.2.2.2.2.2.1, .int v.2.2.2.2.2.2.2.2]
  up := fun ls => match ls with
    | [.lst a0 a1, .flt a2, .lst a3 a4, .lst a5 a6, .int a7, .int a8] => some (a0, a1, a2, a3, a4, a5, a6, a7, a8)
    | _ => none
  ok := by
    intro ls v h
    split at h
    · cases h; rfl
    · cases h

def f39_i_ClipSamples.l0.P : AS := ⟨[(0, .val false [.sl .shr [.leaf]] [.lst 0 []] [] 0), (1, .val false [.leaf] [.flt .f32 0] [] 0), (6, .val false [.sl .own [.leaf]] [.lst 0 []] [] 0), (12, .val false [.sl .shr [.leaf]] [.lst 0 []] [] 0), (13, .val false [.leaf] [.int .i64 0] [] 0), (14, .val false [.leaf] [.int .i64 0] [] 0)], 0⟩
def f39_i_ClipSamples.l0.A : Alt (Nat × List T) := .one (.exit 0) ⟨[(6, .val false [.sl .own [.leaf]] [.lst 0 []] [] 0)], 0⟩ sg_l
def f39_i_ClipSamples.l0.F (n m : Nat) (v : Nat × List T × Nat × Nat × List T × Nat × List T × Int × Int) := f39_i_ClipSamples.l0 n m v.1 v.2.1 v.2.2.1 v.2.2.2.1 v.2.2.2.2.1 v.2.2.2.2.2.1 v.2.2.2.2.2.2.1 v.2.2.2.2.2.2.2.1 v.2.2.2.2.2.2.2.2
def f39_i_ClipSamples.l0.W (n : Nat) : LpW := .of 80 f39_i_ClipSamples.l0.P sg_lfllii f39_i_ClipSamples.l0.A (f39_i_ClipSamples.l0.F n n)
def f39_i_ClipSamples.P : List Arg := [⟨.val, ⟨false, [.sl .shr [.leaf]], [.lst 0 []]⟩⟩, ⟨.val, ⟨false, [.leaf], [.flt .f32 0]⟩⟩]
def f39_i_ClipSamples.A : RAlt (Nat × List T × Bool) := .one ⟨[⟨false, [.sl .own [.leaf]], [.lst 0 []]⟩, ⟨false, [.leaf], [.bool false]⟩], [none, none]⟩ sg_lb
def f39_i_ClipSamples.F (n : Nat) (v : Nat × List T × Nat) := f39_i_ClipSamples n v.1 v.2.1 v.2.2
noncomputable def f39_i_ClipSamples.O (n : Nat) : Orc := orcOf (E := E) [f92_i_areSamples.w, f111_i_clipped.w] [f39_i_ClipSamples.l0.W n] n
theorem f39_i_ClipSamples.l0.ok (n : Nat) : LpOk (f39_i_ClipSamples.O n) E (evalFn E n) n (keepAt 39) (.loop (loopAt c39 0)) :=
  lp_pure f39_i_ClipSamples.l0.P sg_lfllii f39_i_ClipSamples.l0.A (f39_i_ClipSamples.l0.F n) (orcOf_cf _ _ n) (lpOk_of (bs := []) (by kernel_rfl) .nil) (fun _ => rfl) (fun _ _ => by kernel_rfl) (fun _ _ _ => by kernel_rfl)
theorem f39_i_ClipSamples.ok : ∀ n v x, f39_i_ClipSamples.F n v = some x → evalFn E n 39 (flAs f39_i_ClipSamples.P (sg_lf.pk v)) = some (f39_i_ClipSamples.A.enc x) :=
  fn_pure (modes := (fdAt 39).ms) (outs := (fdAt 39).os) (results := (fdAt 39).rs) f39_i_ClipSamples.O (c := c39) (keep := keepAt 39) (by kernel_rfl) (fun n => orcOf_cf _ _ n) (fun n => lpOk_of (bs := [loopAt c39 0]) (by kernel_rfl) (.cons (f39_i_ClipSamples.l0.ok n) .nil)) (fun _ => rfl) (fun _ _ => by kernel_rfl)
noncomputable def f39_i_ClipSamples.w : FnW E := fnW 39 f39_i_ClipSamples.P sg_lf f39_i_ClipSamples.A f39_i_ClipSamples.F f39_i_ClipSamples.ok

def f6_l_FnLimited.l2 (n : Nat) : Nat → Nat → Nat → List T → Nat → List T → Int → Option ((Bool) ⊕ (Unit))
  | 0, _, _, _, _, _, _ => none
  | m + 1, x1, n2, l3, n4, l5, i6 =>
    br (decide (i6 < ((n2 : Nat) : Int))) (
     gd (decide (((0 : Int) ≤ i6) ∧ (i6 < ((n4 : Nat) : Int)))) (
     gd (okAt [(CK.flt FloatKind.f32)] l5 (Int.toNat i6)) (
     br (fgt FloatKind.f32 (fAt l5 (Int.toNat i6)) x1) (
      some (Sum.inl false)) (
      gd (decide (((0 : Int) ≤ i6) ∧ (i6 < ((n4 : Nat) : Int)))) (
      gd (okAt [(CK.flt FloatKind.f32)] l5 (Int.toNat i6)) (
      br (flt FloatKind.f32 (fAt l5 (Int.toNat i6)) (negF FloatKind.f32 x1)) (
       some (Sum.inl false)) (
       gd (decide (((0 : Int) ≤ i6) ∧ (i6 < ((n2 : Nat) : Int)))) (
       gd (okAt [(CK.flt FloatKind.f32)] l3 (Int.toNat i6)) (
       br (fle FloatKind.f32 (fAt l3 (Int.toNat i6)) x1) (
        gd (decide (((0 : Int) ≤ i6) ∧ (i6 < ((n2 : Nat) : Int)))) (
        gd (okAt [(CK.flt FloatKind.f32)] l3 (Int.toNat i6)) (
        br (fge FloatKind.f32 (fAt l3 (Int.toNat i6)) (negF FloatKind.f32 x1)) (
         gd (decide (((0 : Int) ≤ i6) ∧ (i6 < ((n4 : Nat) : Int)))) (
         gd (okAt [(CK.flt FloatKind.f32)] l5 (Int.toNat i6)) (
         gd (decide (((0 : Int) ≤ i6) ∧ (i6 < ((n2 : Nat) : Int)))) (
         gd (okAt [(CK.flt FloatKind.f32)] l3 (Int.toNat i6)) (
         bd (f21_i_SameNumber n (fAt l5 (Int.toNat i6)) (fAt l3 (Int.toNat i6))) fun r7 =>
         let b8 : Bool := r7
         br (!b8) (
          some (Sum.inl false)) (
          f6_l_FnLimited.l2 n m x1 n2 l3 n4 l5 (IntKind.i64.wrap (i6 + (1 : Int))))))))) (
         f6_l_FnLimited.l2 n m x1 n2 l3 n4 l5 (IntKind.i64.wrap (i6 + (1 : Int))))))) (
        f6_l_FnLimited.l2 n m x1 n2 l3 n4 l5 (IntKind.i64.wrap (i6 + (1 : Int))))))))))))) (
     some (Sum.inr ()))
def f6_l_FnLimited : Nat → Nat → List T → Nat → List T → Option (Bool)
  | 0, _, _, _, _ => none
  | n + 1, n1, l2, n3, l4 =>
    bd (f15_l_r8Long n n1 l2 n3 l4) fun r5 =>
    let b6 : Bool := r5
    br b6 (
     some true) (
     bd (f17_l_r8At n n1 l2 (0 : Int) (32 : Int)) fun r7 =>
     let i8 : Int := r7
     let x9 : Nat := (fdiv FloatKind.f32 (FloatKind.nearest FloatKind.f32 (IntKind.i64.wrap ((1 : Int) + i8))) 1098907648)
     bd (f17_l_r8At n n1 l2 (1 : Int) (17 : Int)) fun r10 =>
     let i11 : Int := r10
     let x12 : Nat := (fdiv FloatKind.f32 (FloatKind.nearest FloatKind.f32 i11) 1098907648)
     bd (f17_l_r8At n n1 l2 (2 : Int) (8 : Int)) fun r13 =>
     let i14 : Int := r13
     bd (f36_i_NewLimiter n x9 x12 i14) fun r15 =>
     let x16 : Nat := r15.1
     let x17 : Nat := r15.2.1
     let x18 : Nat := r15.2.2.1
     let n19 : Nat := r15.2.2.2.1
     let l20 : List T := r15.2.2.2.2.1
     let b21 : Bool := r15.2.2.2.2.2
     bd (f22_s_R8Samples n n3 l4 (16 : Int)) fun r22 =>
     let n23 : Nat := r22.1
     let l24 : List T := r22.2
     bd (f17_l_r8At n n1 l2 (3 : Int) (IntKind.i64.wrap (((n23 : Nat) : Int) + (1 : Int)))) fun r25 =>
     let i26 : Int := r25
     bd (f37_i_RunLimiter n x16 x17 x18 n19 l20 n23 l24) fun r27 =>
     let n28 : Nat := r27.1
     let l29 : List T := r27.2.1
     let x30 : Nat := r27.2.2.1
     let x31 : Nat := r27.2.2.2.1
     let x32 : Nat := r27.2.2.2.2.1
     let n33 : Nat := r27.2.2.2.2.2.1
     let l34 : List T := r27.2.2.2.2.2.2.1
     let b35 : Bool := r27.2.2.2.2.2.2.2
     gd (decide (((0 : Int) ≤ (0 : Int)) ∧ (((0 : Int) ≤ i26) ∧ (i26 ≤ ((n23 : Nat) : Int))))) (
     bd (f37_i_RunLimiter n x16 x17 x18 n19 l20 ((Int.toNat i26) - 0) (List.take ((Int.toNat i26) - 0) (List.drop 0 l24))) fun r36 =>
     let n37 : Nat := r36.1
     let l38 : List T := r36.2.1
     let x39 : Nat := r36.2.2.1
     let x40 : Nat := r36.2.2.2.1
     let x41 : Nat := r36.2.2.2.2.1
     let n42 : Nat := r36.2.2.2.2.2.1
     let l43 : List T := r36.2.2.2.2.2.2.1
     let b44 : Bool := r36.2.2.2.2.2.2.2
     gd (decide (((0 : Int) ≤ i26) ∧ ((i26 ≤ ((n23 : Nat) : Int)) ∧ (((n23 : Nat) : Int) ≤ ((n23 : Nat) : Int))))) (
     bd (f37_i_RunLimiter n x39 x40 x41 n42 l43 (n23 - (Int.toNat i26)) (List.take (n23 - (Int.toNat i26)) (List.drop (Int.toNat i26) l24))) fun r45 =>
     let n46 : Nat := r45.1
     let l47 : List T := r45.2.1
     let x48 : Nat := r45.2.2.1
     let x49 : Nat := r45.2.2.2.1
     let x50 : Nat := r45.2.2.2.2.1
     let n51 : Nat := r45.2.2.2.2.2.1
     let l52 : List T := r45.2.2.2.2.2.2.1
     let b53 : Bool := r45.2.2.2.2.2.2.2
     br (!b21) (
      some false) (
      br (!b35) (
       some false) (
       br (!b44) (
        some false) (
        br (!b53) (
         some false) (
         br (((n28 : Nat) : Int) != ((n23 : Nat) : Int)) (
          some false) (
          gd (Nat.ble (0 + n37) 2147483648) (
          gd (Nat.ble ((0 + n37) + n46) 2147483648) (
          bd (f38_l_r8Same n ((0 + n37) + n46) (((reps 0 [(T.flt FloatKind.f32 0)]) ++ l38) ++ l47) n28 l29) fun r54 =>
          let b55 : Bool := r54
          br (!b55) (
           some false) (
           bd (f21_i_SameNumber n x32 x50) fun r56 =>
           let b57 : Bool := r56
           br (!b57) (
            some false) (
            bd (f38_l_r8Same n n33 l34 n51 l52) fun r58 =>
            let b59 : Bool := r58
            br (!b59) (
             some false) (
             br (((n33 : Nat) : Int) != i14) (
              some false) (
              bd (f6_l_FnLimited.l0 n n x9 i14 n23 l24 n28 l29 true (0 : Int)) fun r60 =>
              sm r60 (fun u61 =>
               let b62 : Bool := u61
               some b62) (fun u63 =>
               let x64 : Nat := u63.1
               let i65 : Int := u63.2.1
               let n66 : Nat := u63.2.2.1
               let l67 : List T := u63.2.2.2.1
               let n68 : Nat := u63.2.2.2.2.1
               let l69 : List T := u63.2.2.2.2.2.1
               let b70 : Bool := u63.2.2.2.2.2.2
               bd (f6_l_FnLimited.l1 n n x64 i65 n66 l67 n68 l69 b70 (0 : Int)) fun r71 =>
               sm r71 (fun u72 =>
                let b73 : Bool := u72
                some b73) (fun u74 =>
                let x75 : Nat := u74.1
                let n76 : Nat := u74.2.1
                let l77 : List T := u74.2.2
                bd (f39_i_ClipSamples n n76 l77 x75) fun r78 =>
                let n79 : Nat := r78.1
                let l80 : List T := r78.2.1
                let b81 : Bool := r78.2.2
                br (!b81) (
                 some false) (
                 br (((n79 : Nat) : Int) != ((n76 : Nat) : Int)) (
                  some false) (
                  bd (f6_l_FnLimited.l2 n n x75 n76 l77 n79 l80 (0 : Int)) fun r82 =>
                  sm r82 (fun u83 =>
                   let b84 : Bool := u83
                   some b84) (fun u85 =>
                   some true)))))))))))))))))))
def sg_fillbi : Sig (Nat × Int × Nat × List T × Nat × List T × Bool × Int) where
  pk := fun v => [.flt v.1, .int v.2.1, .lst v.2.2.1 v.2.2.2.1, .lst v.2.2.2.2.1 v.2.2.2.2.2.1, .bool v.2.2.2.2.2.2.1, .int v.2.2.2.2.2.2.2]
  up := fun ls => match ls with
    | [.flt a0, .int a1, .lst a2 a3, .lst a4 a5, .bool a6, .int a7] => some (a0, a1, a2, a3, a4, a5, a6, a7)
    | _ => none
  ok := by
    intro ls v h
    split at h
    · cases h; rfl
    · cases h

def sg_fillb : Sig (Nat × Int × Nat × List T × Nat × List T × Bool) where
  pk := fun v => [.flt v.1, .int v.2.1, .lst v.2.2.1 v.2.2.2.1, .lst v.2.2.2.2.1 v.2.2.2.2.2.1, .bool v.2.2.2.2.2.2]
  up := fun ls => match ls with
    | [.flt a0, .int a1, .lst a2 a3, .lst a4 a5, .bool a6] => some (a0, a1, a2, a3, a4, a5, a6)
    | _ => none
  ok := by
    intro ls v h
    split at h
    · cases h; rfl
    · cases h

def sg_fl : Sig (Nat × Nat × List T) where
  pk := fun v => [.flt v.1, .lst v.2.1 v.2.2]
  up := fun ls => match ls with
    | [.flt a0, .lst a1 a2] => some (a0, a1, a2)
    | _ => none
  ok := by
    intro ls v h
    split at h
    · cases h; rfl
    · cases h

def sg_flli : Sig (Nat × Nat × List T × Nat × List T × Int) where
  pk := fun v => [.flt v.1, .lst v.2.1 v.2.2.1, .lst v.2.2.2.1 v.2.2.2.2.1, .int v.2.2.2.2.2]
  up := fun ls => match ls with
    | [.flt a0, .lst a1 a2, .lst a3 a4, .int a5] => some (a0, a1, a2, a3, a4, a5)
    | _ => none
  ok := by
    intro ls v h
    split at h
    · cases h; rfl
    · cases h

def f6_l_FnLimited.l0.P : AS := ⟨[(5, .val false [.leaf] [.flt .f32 0] [] 0), (7, .val false [.leaf] [.int .i64 0] [] 0), (10, .val false [.sl .own [.leaf]] [.lst 0 []] [] 0), (12, .val false [.sl .own [.leaf]] [.lst 0 []] [] 0), (21, .val false [.leaf] [.bool false] [] 0), (22, .val false [.leaf] [.int .i64 0] [] 0)], 0⟩
def f6_l_FnLimited.l0.A : Alt ((Bool) ⊕ (Nat × Int × Nat × List T × Nat × List T × Bool)) := .or (.one .ret ⟨[(4, .val false [.leaf] [.bool false] [] 0), (5, .dead), (7, .dead), (10, .dead), (12, .dead), (21, .dead)], 0⟩ sg_b) (.one (.exit 0) ⟨[(4, .dead), (5, .val false [.leaf] [.flt .f32 0] [] 0), (7, .val false [.leaf] [.int .i64 0] [] 0), (10, .val false [.sl .own [.leaf]] [.lst 0 []] [] 0), (12, .val false [.sl .own [.leaf]] [.lst 0 []] [] 0), (21, .val false [.leaf] [.bool false] [] 0)], 0⟩ sg_fillb)
def f6_l_FnLimited.l0.F (n m : Nat) (v : Nat × Int × Nat × List T × Nat × List T × Bool × Int) := f6_l_FnLimited.l0 n m v.1 v.2.1 v.2.2.1 v.2.2.2.1 v.2.2.2.2.1 v.2.2.2.2.2.1 v.2.2.2.2.2.2.1 v.2.2.2.2.2.2.2
def f6_l_FnLimited.l0.W (n : Nat) : LpW := .of 256 f6_l_FnLimited.l0.P sg_fillbi f6_l_FnLimited.l0.A (f6_l_FnLimited.l0.F n n)
def f6_l_FnLimited.l1.P : AS := ⟨[(5, .val false [.leaf] [.flt .f32 0] [] 0), (7, .val false [.leaf] [.int .i64 0] [] 0), (10, .val false [.sl .own [.leaf]] [.lst 0 []] [] 0), (12, .val false [.sl .own [.leaf]] [.lst 0 []] [] 0), (21, .val false [.leaf] [.bool false] [] 0), (23, .val false [.leaf] [.int .i64 0] [] 0)], 0⟩
def f6_l_FnLimited.l1.A : Alt ((Bool) ⊕ (Nat × Nat × List T)) := .or (.one .ret ⟨[(4, .val false [.leaf] [.bool false] [] 0), (5, .dead), (10, .dead)], 0⟩ sg_b) (.one (.exit 2) ⟨[(4, .dead), (5, .val false [.leaf] [.flt .f32 0] [] 0), (10, .val false [.sl .own [.leaf]] [.lst 0 []] [] 0)], 0⟩ sg_fl)
def f6_l_FnLimited.l1.F (n m : Nat) (v : Nat × Int × Nat × List T × Nat × List T × Bool × Int) := f6_l_FnLimited.l1 n m v.1 v.2.1 v.2.2.1 v.2.2.2.1 v.2.2.2.2.1 v.2.2.2.2.2.1 v.2.2.2.2.2.2.1 v.2.2.2.2.2.2.2
def f6_l_FnLimited.l1.W (n : Nat) : LpW := .of 352 f6_l_FnLimited.l1.P sg_fillbi f6_l_FnLimited.l1.A (f6_l_FnLimited.l1.F n n)
def f6_l_FnLimited.l2.P : AS := ⟨[(5, .val false [.leaf] [.flt .f32 0] [] 0), (10, .val false [.sl .own [.leaf]] [.lst 0 []] [] 0), (25, .val false [.sl .own [.leaf]] [.lst 0 []] [] 0), (27, .val false [.leaf] [.int .i64 0] [] 0)], 0⟩
def f6_l_FnLimited.l2.A : Alt ((Bool) ⊕ (Unit)) := .or (.one .ret ⟨[(4, .val false [.leaf] [.bool false] [] 0)], 0⟩ sg_b) (.one (.exit 4) ⟨[(4, .dead)], 0⟩ sg)
def f6_l_FnLimited.l2.F (n m : Nat) (v : Nat × Nat × List T × Nat × List T × Int) := f6_l_FnLimited.l2 n m v.1 v.2.1 v.2.2.1 v.2.2.2.1 v.2.2.2.2.1 v.2.2.2.2.2
def f6_l_FnLimited.l2.W (n : Nat) : LpW := .of 528 f6_l_FnLimited.l2.P sg_flli f6_l_FnLimited.l2.A (f6_l_FnLimited.l2.F n n)
def f6_l_FnLimited.P : List Arg := [⟨.val, ⟨false, [.sl .shr [.leaf]], [.lst 0 []]⟩⟩, ⟨.val, ⟨false, [.sl .shr [.leaf]], [.lst 0 []]⟩⟩]
def f6_l_FnLimited.A : RAlt (Bool) := .one ⟨[⟨false, [.leaf], [.bool false]⟩], [none, none]⟩ sg_b
def f6_l_FnLimited.F (n : Nat) (v : Nat × List T × Nat × List T) := f6_l_FnLimited n v.1 v.2.1 v.2.2.1 v.2.2.2
noncomputable def f6_l_FnLimited.O (n : Nat) : Orc := orcOf (E := E) [f15_l_r8Long.w, f17_l_r8At.w, f36_i_NewLimiter.w, f22_s_R8Samples.w, f37_i_RunLimiter.w, f21_i_SameNumber.w, f38_l_r8Same.w, f39_i_ClipSamples.w] [f6_l_FnLimited.l0.W n, f6_l_FnLimited.l1.W n, f6_l_FnLimited.l2.W n] n
theorem f6_l_FnLimited.l0.ok (n : Nat) : LpOk (f6_l_FnLimited.O n) E (evalFn E n) n (keepAt 6) (.loop (loopAt c6 0)) :=
  lp_pure f6_l_FnLimited.l0.P sg_fillbi f6_l_FnLimited.l0.A (f6_l_FnLimited.l0.F n) (orcOf_cf _ _ n) (lpOk_of (bs := []) (by kernel_rfl) .nil) (fun _ => rfl) (fun _ _ => by kernel_rfl) (fun _ _ _ => by kernel_rfl)
theorem f6_l_FnLimited.l1.ok (n : Nat) : LpOk (f6_l_FnLimited.O n) E (evalFn E n) n (keepAt 6) (.loop (loopAt c6 1)) :=
  lp_pure f6_l_FnLimited.l1.P sg_fillbi f6_l_FnLimited.l1.A (f6_l_FnLimited.l1.F n) (orcOf_cf _ _ n) (lpOk_of (bs := []) (by kernel_rfl) .nil) (fun _ => rfl) (fun _ _ => by kernel_rfl) (fun _ _ _ => by kernel_rfl)
theorem f6_l_FnLimited.l2.ok (n : Nat) : LpOk (f6_l_FnLimited.O n) E (evalFn E n) n (keepAt 6) (.loop (loopAt c6 2)) :=
  lp_pure f6_l_FnLimited.l2.P sg_flli f6_l_FnLimited.l2.A (f6_l_FnLimited.l2.F n) (orcOf_cf _ _ n) (lpOk_of (bs := []) (by kernel_rfl) .nil) (fun _ => rfl) (fun _ _ => by kernel_rfl) (fun _ _ _ => by kernel_rfl)
theorem f6_l_FnLimited.ok : ∀ n v x, f6_l_FnLimited.F n v = some x → evalFn E n 6 (flAs f6_l_FnLimited.P (sg_ll.pk v)) = some (f6_l_FnLimited.A.enc x) :=
  fn_pure (modes := (fdAt 6).ms) (outs := (fdAt 6).os) (results := (fdAt 6).rs) f6_l_FnLimited.O (c := c6) (keep := keepAt 6) (by kernel_rfl) (fun n => orcOf_cf _ _ n) (fun n => lpOk_of (bs := [loopAt c6 0, loopAt c6 1, loopAt c6 2]) (by kernel_rfl) (.cons (f6_l_FnLimited.l0.ok n) (.cons (f6_l_FnLimited.l1.ok n) (.cons (f6_l_FnLimited.l2.ok n) .nil)))) (fun _ => rfl) (fun _ _ => by kernel_rfl)
noncomputable def f6_l_FnLimited.w : FnW E := fnW 6 f6_l_FnLimited.P sg_ll f6_l_FnLimited.A f6_l_FnLimited.F f6_l_FnLimited.ok
end Go.Proofs.Ytjkhhalnlodinaa.D
end
section
/- FnLimited, in plain Lean. -/
namespace Go.Proofs.Ytjkhhalnlodinaa.D
open Go Go.Desk
set_option linter.unusedVariables false
theorem s_from (n l : Nat) (c : List T) : f90_s_l00From (n + 1) l c = some (l, c, 0, 0) := by rw [f90_s_l00From]
theorem s_next (n : Nat) {bs : List Int} (hb : Bytes bs) {a : Int} (h0 : 0 ≤ a) (h1 : a ≤ 1125899906842624) (sd : Int) :
    ∃ r sd', (0 ≤ r ∧ r ≤ 255) ∧ f163_s_l00Srcnext (n + 1) bs.length (its .u8 bs) a sd = some (r, bs.length, its .u8 bs, a + 1, sd') := by
  rw [f163_s_l00Srcnext]
  rw [show IntKind.i64.wrap (a + 1) = a + 1 by rw [wrap64] <;> omega]
  cases h : decide (a < (bs.length : Int))
  · simp only [br_f]
    cases decide (a + 1 ≤ (bs.length : Int))
    · exact ⟨_, _, and255 _, rfl⟩
    · exact ⟨0, _, by omega, rfl⟩
  · simp only [decide_eq_true_eq] at h
    obtain ⟨i, rfl⟩ := Int.eq_ofNat_of_zero_le h0
    have hi : i < bs.length := by omega
    have hr := hb (bs[i]) (List.getElem_mem _)
    simp only [br_t, in_dec hi, Int.toNat_natCast, okAt_its hi, Bool.and_self, gd_t, iAt_its]
    rw [show bs.getD i 0 = bs[i] by simp [List.getD, hi], show IntKind.i64.wrap bs[i] = bs[i] by rw [wrap64] <;> omega]
    cases decide ((i : Int) + 1 ≤ (bs.length : Int))
    · exact ⟨_, _, and255 _, rfl⟩
    · exact ⟨_, _, hr, rfl⟩
theorem s_pick (n : Nat) {bs : List Int} (hb : Bytes bs) {a : Int} (h0 : 0 ≤ a) (h1 : a ≤ 1125899906842622) (sd k : Int) :
    ∃ r a' sd', (0 ≤ r ∧ (1 < k → r < k) ∧ (k ≤ 1 → r = 0)) ∧ (a ≤ a' ∧ a' ≤ a + 2) ∧ f97_s_l00Srcpick (n + 2) bs.length (its .u8 bs) a sd k = some (r, bs.length, its .u8 bs, a', sd') := by
  rw [f97_s_l00Srcpick]
  by_cases hk : k ≤ 1
  · rw [decide_eq_true hk]; exact ⟨0, a, sd, by omega, by omega, rfl⟩
  rw [decide_eq_false hk]
  obtain ⟨r, s1, hr, e1⟩ := s_next n hb h0 (by omega) sd
  simp only [br_f, e1, bd_s]
  have hk0 : (!decide (k = 0)) = true := by simp; omega
  by_cases hk2 : k > 200
  · rw [decide_eq_true hk2]
    obtain ⟨r', s2, hr', e2⟩ := s_next n hb (a := a + 1) (by omega) (by omega) s1
    simp only [br_t, e2, bd_s, hk0, gd_t]
    rw [show IntKind.i64.wrap (r * 256) = r * 256 by rw [wrap64] <;> omega, show IntKind.i64.wrap (r * 256 + r') = r * 256 + r' by rw [wrap64] <;> omega]
    refine ⟨_, _, _, ?_, ?_, rfl⟩
    · rw [Int.tmod_eq_emod_of_nonneg (by omega)]
      have := Int.emod_nonneg (r * 256 + r') (show k ≠ 0 by omega)
      have := Int.emod_lt_of_pos (r * 256 + r') (show 0 < k by omega)
      omega
    · omega
  · rw [decide_eq_false hk2]
    simp only [br_f, hk0, gd_t]
    refine ⟨_, _, _, ?_, ?_, rfl⟩
    · rw [Int.tmod_eq_emod_of_nonneg (by omega)]
      have := Int.emod_nonneg r (show k ≠ 0 by omega)
      have := Int.emod_lt_of_pos r (show 0 < k by omega)
      omega
    · omega
theorem s_one (n : Nat) {bs : List Int} (hb : Bytes bs) {a : Int} (h0 : 0 ≤ a) (h1 : a ≤ 1125899906842622) (sd k : Int) :
    ∃ r a' sd', (a ≤ a' ∧ a' ≤ a + 2) ∧ f158_s_l00Srcone (n + 3) bs.length (its .u8 bs) a sd k = some (r, bs.length, its .u8 bs, a', sd') := by
  obtain ⟨r, a', s', -, ha, e⟩ := s_pick n hb h0 h1 sd k
  rw [f158_s_l00Srcone, e]
  exact ⟨_, _, _, ha, rfl⟩
theorem s_plain (n : Nat) {bs : List Int} (hb : Bytes bs) {a : Int} (h0 : 0 ≤ a) (h1 : a ≤ 1125899906842620) (sd : Int) :
    ∃ x a' sd', Plain x ∧ (a ≤ a' ∧ a' ≤ a + 4) ∧ f91_s_l01DrawPlain (n + 4) bs.length (its .u8 bs) a sd = some (x, bs.length, its .u8 bs, a', sd') := by
  obtain ⟨r, a1, s1, hr, ha, e⟩ := s_pick (n + 1) hb h0 (by omega) sd 129
  obtain ⟨b, a2, s2, ha2, e2⟩ := s_one n hb (a := a1) (by omega) (by omega) s1 4
  rw [f91_s_l01DrawPlain, e]
  simp only [bd_s, e2]
  rw [show IntKind.i64.wrap (r - 64) = r - 64 by rw [wrap64] <;> omega]
  cases b
  · exact ⟨_, a2, s2, ⟨r - 64, by omega, .inr rfl⟩, by omega, rfl⟩
  · exact ⟨_, a2, s2, ⟨r - 64, by omega, .inl rfl⟩, by omega, rfl⟩
theorem s_among (n : Nat) {bs : List Int} (hb : Bytes bs) {a : Int} (h0 : 0 ≤ a) (h1 : a ≤ 1125899906842622) (sd : Int) (L : List Int) (hL : 0 < L.length) :
    ∃ r a' sd', r ∈ L ∧ (a ≤ a' ∧ a' ≤ a + 2) ∧ f168_s_l00Srcamong (n + 3) bs.length (its .u8 bs) a sd L.length (its .i64 L) = some (r, bs.length, its .u8 bs, a', sd', L.length, its .i64 L) := by
  obtain ⟨r, a1, s1, hr, ha, e⟩ := s_pick n hb h0 h1 sd (L.length : Int)
  rw [f168_s_l00Srcamong, e]
  obtain ⟨i, rfl⟩ := Int.eq_ofNat_of_zero_le hr.1
  have hi : i < L.length := by
    by_cases h : (L.length : Int) ≤ 1
    · have := hr.2.2 h; omega
    · have := hr.2.1 (by omega); omega
  simp only [bd_s, in_dec hi, Int.toNat_natCast, okAt_its hi, Bool.and_self, gd_t, iAt_its]
  refine ⟨_, _, _, ?_, ha, rfl⟩
  rw [show L.getD i 0 = L[i] by simp [List.getD, hi]]
  exact List.getElem_mem _
theorem s_from32 (n : Nat) {i : Int} (h0 : 0 ≤ i) (h1 : i < 4294967296) : ∃ x, W32 x ∧ f167_s_l01From (n + 2) i = some x := by
  rw [f167_s_l01From]
  refine ⟨canon .f32 i.toNat, w32_canon (by omega), ?_⟩
  rw [u32_wrap h0 h1]
  show bd (if 0 ≤ i then some (canon .f32 i.toNat) else none) _ = _
  rw [if_pos h0]; rfl
theorem s_float (n : Nat) {bs : List Int} (hb : Bytes bs) {a : Int} (h0 : 0 ≤ a) (h1 : a ≤ 1125899906842600) (sd : Int) :
    ∃ x a' sd', W32 x ∧ (a ≤ a' ∧ a' ≤ a + 16) ∧ f112_s_l01DrawFloat (n + 5) bs.length (its .u8 bs) a sd = some (x, bs.length, its .u8 bs, a', sd') := by
  obtain ⟨b, a1, s1, ha1, e1⟩ := s_one (n + 1) hb h0 (by omega) sd 12
  rw [f112_s_l01DrawFloat, e1]
  simp only [bd_s, br_not]
  cases b
  · obtain ⟨x, a2, s2, hx, ha2, e2⟩ := s_plain n hb (a := a1) (by omega) (by omega) s1
    simp only [br_f, e2, bd_s]
    exact ⟨_, _, _, hx.w32, by omega, rfl⟩
  obtain ⟨q, a2, s2, -, ha2, e2⟩ := s_pick (n + 2) hb (a := a1) (by omega) (by omega) s1 4
  simp only [br_t, e2, bd_s]
  cases q == 0
  case true =>
    obtain ⟨r, a3, s3, hr, ha3, e3⟩ := s_among (n + 1) hb (a := a2) (by omega) (by omega) s2 [0, 2147483648, 2139095040, 4286578688, 2143289344, 1, 2139095039, 8388608, 8388607, 2147483649] (by decide)
    have hr' : 0 ≤ r ∧ r < 4294967296 := by simp only [List.mem_cons, List.not_mem_nil, or_false] at hr; omega
    obtain ⟨x, hx, e4⟩ := s_from32 (n + 2) hr'.1 hr'.2
    rw [br_t]
    refine ⟨x, a3, s3, hx, by omega, ?_⟩
    refine Eq.trans (congrArg (fun o => bd o _) e3) ?_
    simp only [bd_s, e4]
  cases q == 1
  case true =>
    obtain ⟨r, a3, s3, hr, ha3, e3⟩ := s_pick (n + 2) hb (a := a2) (by omega) (by omega) s2 65536
    obtain ⟨r', a4, s4, hr', ha4, e4⟩ := s_pick (n + 2) hb (a := a3) (by omega) (by omega) s3 65536
    obtain ⟨x, hx, e5⟩ := s_from32 (n + 2) (i := r * 65536 + r') (by omega) (by omega)
    simp only [br_f, br_t, e3, e4, bd_s]
    rw [show IntKind.i64.wrap (r * 65536) = r * 65536 by rw [wrap64] <;> omega, show IntKind.i64.wrap (r * 65536 + r') = r * 65536 + r' by rw [wrap64] <;> omega, e5]
    exact ⟨x, _, _, hx, by omega, rfl⟩
  cases q == 2
  case true =>
    obtain ⟨r, a3, s3, hr, ha3, e3⟩ := s_pick (n + 2) hb (a := a2) (by omega) (by omega) s2 65536
    obtain ⟨x, hx, e5⟩ := s_from32 (n + 2) (i := r * 65536) (by omega) (by omega)
    simp only [br_f, br_t, e3, bd_s]
    rw [show IntKind.i64.wrap (r * 65536) = r * 65536 by rw [wrap64] <;> omega, e5]
    exact ⟨x, _, _, hx, by omega, rfl⟩
  obtain ⟨x, a3, s3, hx, ha3, e3⟩ := s_plain n hb (a := a2) (by omega) (by omega) s2
  obtain ⟨r, a4, s4, hr, ha4, e4⟩ := s_among (n + 1) hb (a := a3) (by omega) (by omega) s3 [8388608, 2130706432, 1610612736, 536870912] (by decide)
  have hr' : 0 ≤ r ∧ r < 4294967296 := by simp only [List.mem_cons, List.not_mem_nil, or_false] at hr; omega
  obtain ⟨y, hy, e5⟩ := s_from32 (n + 2) hr'.1 hr'.2
  simp only [br_f, e3, bd_s]
  refine ⟨_, a4, s4, w32_fmul x y, by omega, ?_⟩
  refine Eq.trans (congrArg (fun o => bd o _) e4) ?_
  simp only [bd_s, e5]
theorem s_floats_loop (n : Nat) {bs : List Int} (hb : Bytes bs) (str : Bool) : ∀ (j m : Nat) (a sd : Int) (acc : List Nat), 0 ≤ a → a + 16 * (j : Int) ≤ 1125899906842000 → acc.length + j ≤ 2147483647 → j < m → (∀ x ∈ acc, W32 x) →
    ∃ ys a' sd', ys.length = acc.length + j ∧ (∀ x ∈ ys, W32 x) ∧ (a ≤ a' ∧ a' ≤ a + 16 * (j : Int)) ∧
      f98_s_l01DrawFloats.l0 (n + 5) m bs.length (its .u8 bs) a sd (j : Int) acc.length (fls .f32 acc) str = some (bs.length, its .u8 bs, a', sd', ys.length, fls .f32 ys) := by
  intro j
  induction j with
  | zero =>
    intro m a sd acc h0 h1 hl hm hw
    obtain ⟨m, rfl⟩ : ∃ k, m = k + 1 := ⟨m - 1, by omega⟩
    rw [f98_s_l01DrawFloats.l0]
    exact ⟨acc, a, sd, by omega, hw, by omega, rfl⟩
  | succ j ih =>
    intro m a sd acc h0 h1 hl hm hw
    obtain ⟨m, rfl⟩ : ∃ k, m = k + 1 := ⟨m - 1, by omega⟩
    rw [f98_s_l01DrawFloats.l0, decide_eq_true (show (((j + 1 : Nat) : Int) > 0) by omega), show IntKind.i64.wrap (((j + 1 : Nat) : Int) - 1) = (j : Int) by rw [wrap64] <;> omega]
    have key : ∀ x a1 s1, W32 x → a ≤ a1 → a1 ≤ a + 16 → ∃ ys a' sd', ys.length = acc.length + (j + 1) ∧ (∀ x ∈ ys, W32 x) ∧ (a ≤ a' ∧ a' ≤ a + 16 * ((j + 1 : Nat) : Int)) ∧
        f98_s_l01DrawFloats.l0 (n + 5) m bs.length (its .u8 bs) a1 s1 (j : Int) (acc ++ [x]).length (fls .f32 (acc ++ [x])) str = some (bs.length, its .u8 bs, a', sd', ys.length, fls .f32 ys) := by
      intro x a1 s1 hx h2 h3
      obtain ⟨ys, a', sd', hy, hyw, ha, e⟩ := ih m a1 s1 (acc ++ [x]) (by omega) (by omega) (by simp; omega) (by omega) (by
        intro y hy; simp only [List.mem_append, List.mem_singleton] at hy; rcases hy with hy | rfl
        · exact hw y hy
        · exact hx)
      exact ⟨ys, a', sd', by simp at hy; omega, hyw, by omega, e⟩
    simp only [br_t]
    cases str
    · obtain ⟨x, a1, s1, hx, ha, e⟩ := s_plain (n + 1) hb h0 (by omega) sd
      simp only [br_f, e, bd_s, push_ok (show acc.length < 2147483648 by omega), gd_t, push_fls]
      rw [show acc.length + 1 = (acc ++ [x]).length by simp]
      exact key x a1 s1 hx.w32 (by omega) (by omega)
    · obtain ⟨x, a1, s1, hx, ha, e⟩ := s_float n hb h0 (by omega) sd
      simp only [br_t, e, bd_s, push_ok (show acc.length < 2147483648 by omega), gd_t, push_fls]
      rw [show acc.length + 1 = (acc ++ [x]).length by simp]
      exact key x a1 s1 hx (by omega) (by omega)
theorem s_floats (n : Nat) {bs : List Int} (hb : Bytes bs) {a : Int} (h0 : 0 ≤ a) (j : Nat) (h1 : a + 16 * (j : Int) ≤ 1125899906841000) (hj : j ≤ 2147483647) (hn : j < n) (sd : Int) :
    ∃ ys a' sd', ys.length = j ∧ (∀ x ∈ ys, W32 x) ∧ (a ≤ a' ∧ a' ≤ a + 2 + 16 * (j : Int)) ∧ f98_s_l01DrawFloats (n + 6) bs.length (its .u8 bs) a sd (j : Int) = some (ys.length, fls .f32 ys, bs.length, its .u8 bs, a', sd') := by
  obtain ⟨b, a1, s1, ha1, e1⟩ := s_one (n + 2) hb h0 (by omega) sd 4
  obtain ⟨ys, a2, s2, hy, hw, ha2, e2⟩ := s_floats_loop n hb b j (n + 5) a1 s1 [] (by omega) (by omega) (by simp; omega) (by omega) (by simp)
  rw [f98_s_l01DrawFloats, e1]
  refine ⟨ys, a2, s2, by simpa using hy, hw, by omega, ?_⟩
  have e2 : f98_s_l01DrawFloats.l0 (n + 5) (n + 5) bs.length (its .u8 bs) a1 s1 (j : Int) 0 (reps 0 [(T.flt FloatKind.f32 0)]) b = some (bs.length, its .u8 bs, a2, s2, ys.length, fls .f32 ys) := e2
  simp only [bd_s, e2]
theorem s_r8samples (n : Nat) {bs : List Int} (hb : Bytes bs) (k : Nat) (hk : k ≤ 1000) (hn : k < n) : ∃ xs, xs.length ≤ k ∧ (∀ x ∈ xs, W32 x) ∧ f22_s_R8Samples (n + 7) bs.length (its .u8 bs) (k : Int) = some (xs.length, fls .f32 xs) := by
  obtain ⟨r, a1, s1, hr, ha1, e1⟩ := s_pick (n + 4) hb (a := 0) (by omega) (by omega) 0 ((k : Int) + 1)
  obtain ⟨j, rfl⟩ := Int.eq_ofNat_of_zero_le hr.1
  have hj : j ≤ k := by omega
  obtain ⟨ys, a2, s2, hy, hw, ha2, e2⟩ := s_floats n hb (a := a1) (by omega) j (by omega) (by omega) (by omega) s1
  rw [f22_s_R8Samples, s_from, show IntKind.i64.wrap ((k : Int) + 1) = (k : Int) + 1 by rw [wrap64] <;> omega]
  simp only [bd_s, e1, e2]
  exact ⟨ys, by omega, hw, rfl⟩

theorem l_long (n : Nat) (bs cs : List Int) : f15_l_r8Long (n + 1) bs.length (its .u8 bs) cs.length (its .u8 cs) = some (decide (48 < bs.length ∨ 48 < cs.length)) := by
  rw [f15_l_r8Long]
  by_cases h : 48 < bs.length
  · rw [decide_eq_true (show (bs.length : Int) > 48 by omega), decide_eq_true (Or.inl h)]; rfl
  · rw [decide_eq_false (show ¬ (bs.length : Int) > 48 by omega), br_f]
    congr 1
    simp [h]; omega
theorem l_at (n : Nat) {bs : List Int} (hb : Bytes bs) {i k : Int} (hi : 0 ≤ i) (hk : 1 ≤ k) : ∃ r, (0 ≤ r ∧ r < k) ∧ f17_l_r8At (n + 1) bs.length (its .u8 bs) i k = some r := by
  rw [f17_l_r8At]
  by_cases h : k ≤ 1
  · rw [decide_eq_true h]; exact ⟨0, by omega, rfl⟩
  rw [decide_eq_false h]
  by_cases h2 : i ≥ (bs.length : Int)
  · rw [decide_eq_true h2]; exact ⟨0, by omega, rfl⟩
  rw [decide_eq_false h2]
  obtain ⟨i, rfl⟩ := Int.eq_ofNat_of_zero_le hi
  have hi : i < bs.length := by omega
  have hr := hb (bs[i]) (List.getElem_mem _)
  have hk0 : (!decide (k = 0)) = true := by simp; omega
  simp only [br_f, in_dec hi, Int.toNat_natCast, okAt_its hi, Bool.and_self, gd_t, iAt_its, hk0]
  rw [show bs.getD i 0 = bs[i] by simp [List.getD, hi], show IntKind.i64.wrap bs[i] = bs[i] by rw [wrap64] <;> omega]
  refine ⟨_, ?_, rfl⟩
  rw [Int.tmod_eq_emod_of_nonneg (by omega)]
  have := Int.emod_nonneg bs[i] (show k ≠ 0 by omega)
  have := Int.emod_lt_of_pos bs[i] (show 0 < k by omega)
  omega
theorem i_same (n : Nat) {x y : Nat} (hx : W32 x) (hy : W32 y) : f21_i_SameNumber (n + 2) x y = some (x == y) := by
  rw [f21_i_SameNumber]
  simp only [fne_nan]
  cases hn : isNaN .f32 x
  · cases hm : isNaN .f32 y
    · simp only [br_f]
      have e1 : ∀ z, isNaN .f32 z = false → xF32bits (n + 1) z = some (z : Int) := fun z hz => by simp [xF32bits, hz]
      simp only [e1 x hn, e1 y hm, bd_s, Option.some.injEq]
      rw [Bool.eq_iff_iff]; simp; constructor <;> omega
    · simp only [br_f, br_t]
      have : x ≠ y := fun e => by rw [e, hm] at hn; cases hn
      simp [this]
  · cases hm : isNaN .f32 y
    · simp only [br_f, br_t]
      have : x ≠ y := fun e => by rw [e, hm] at hn; cases hn
      simp [this]
    · simp only [br_t]
      have : x = y := by rw [← hx.2, ← hy.2, canon_nan hn, canon_nan hm]
      simp [this]
theorem l_same_loop (n : Nat) : ∀ (zs ys p q : List Nat) (m : Nat), ys.length = zs.length → p.length = q.length → (∀ x ∈ zs, W32 x) → (∀ x ∈ ys, W32 x) → p.length + zs.length ≤ 1048576 → zs.length < m →
    f38_l_r8Same.l0 (n + 2) m (p ++ zs).length (fls .f32 (p ++ zs)) (q ++ ys).length (fls .f32 (q ++ ys)) (p.length : Int) = some (if zs = ys then .inr () else .inl false) := by
  intro zs
  induction zs with
  | nil =>
    intro ys p q m hl hpq _ _ _ hm
    obtain ⟨m, rfl⟩ : ∃ k, m = k + 1 := ⟨m - 1, by omega⟩
    obtain rfl : ys = [] := List.length_eq_zero_iff.1 (by simpa using hl)
    rw [f38_l_r8Same.l0, lt_end]
    rfl
  | cons z zs ih =>
    intro ys p q m hl hpq hz hy hb hm
    obtain ⟨m, rfl⟩ : ∃ k, m = k + 1 := ⟨m - 1, by omega⟩
    cases ys with
    | nil => simp at hl
    | cons y ys =>
      rw [f38_l_r8Same.l0, lt_mid, in_mid]
      simp only [hpq, in_mid, toNat_len, okAt_mid]
      rw [← hpq]
      simp only [okAt_mid, fAt_mid, Bool.and_self, gd_t, br_t]
      rw [hpq]
      simp only [fAt_mid]
      rw [i_same n (hz z (by simp)) (hy y (by simp)), ← hpq]
      simp only [bd_s, br_not]
      cases h : z == y
      · simp only [beq_eq_false_iff_ne, ne_eq] at h
        simp [br_f, h]
      · simp only [beq_iff_eq] at h
        subst h
        rw [br_t, wrap_len (z := z) (by simp at hb; omega)]
        have := ih ys (p ++ [z]) (q ++ [z]) m (by simpa using hl) (by simp [hpq]) (fun x hx => hz x (by simp [hx])) (fun x hx => hy x (by simp [hx])) (by simp at hb ⊢; omega) (by simp at hm; omega)
        simpa using this
/-- two lists of numbers -/
theorem l_same (n : Nat) (xs ys : List Nat) (hx : ∀ x ∈ xs, W32 x) (hy : ∀ x ∈ ys, W32 x) (hl : xs.length ≤ 1048576) (hn : xs.length < n) : f38_l_r8Same (n + 3) xs.length (fls .f32 xs) ys.length (fls .f32 ys) = some (decide (xs = ys)) := by
  rw [f38_l_r8Same]
  by_cases h : ys.length = xs.length
  · rw [show (((xs.length : Nat) : Int) != ((ys.length : Nat) : Int)) = false by simp [h], br_f]
    have := l_same_loop n xs ys [] [] (n + 2) h rfl hx hy (by simpa using hl) (by omega)
    simp only [List.nil_append, List.length_nil] at this
    rw [show ((0 : Nat) : Int) = 0 from rfl] at this
    rw [this, bd_s]
    by_cases e : xs = ys
    · rw [if_pos e, decide_eq_true e]; rfl
    · rw [if_neg e, decide_eq_false e]; rfl
  · rw [show (((xs.length : Nat) : Int) != ((ys.length : Nat) : Int)) = true by simp; omega, decide_eq_false (fun e => h (by rw [e]))]
    rfl

theorem i_absolute (n : Nat) {x : Nat} (hg : W32 x) : f166_i_absolute (n + 2) x = some (size32 x) := by
  obtain ⟨h1, h2⟩ := abs_size hg.1 hg.2 n
  rw [f166_i_absolute, fltToFlt_wide]
  simp only [bd, h1, h2]

theorem i_in (n : Nat) (a b c : Int) : f93_i_within (n + 1) a b c = some (decide (b ≤ a ∧ a ≤ c)) := by
  rw [f93_i_within]
  by_cases h : b ≤ a <;> simp [br, h]

theorem i_finite (n : Nat) (x : Nat) : f136_i_IsFinite (n + 1) x = some (fin32 x) := by rw [f136_i_IsFinite, sub_finite]
theorem s_fromx (n : Nat) {i : Int} (h0 : 0 ≤ i) (h1 : i < 4294967296) : f167_s_l01From (n + 2) i = some (canon .f32 i.toNat) := by
  rw [f167_s_l01From, u32_wrap h0 h1]
  show bd (if 0 ≤ i then some (canon .f32 i.toNat) else none) _ = _
  rw [if_pos h0]; rfl

theorem i_few (n k : Nat) (l : List T) : f92_i_areSamples (n + 1) k l = some (decide ((k : Int) ≤ 256)) := by rw [f92_i_areSamples]


theorem i_copy (n : Nat) (xs : List Nat) (h : xs.length ≤ 2147483648) : f109_i_copyNumbers (n + 1) xs.length (fls .f32 xs) = some (xs.length, fls .f32 xs) := by
  rw [f109_i_copyNumbers, Nat.zero_add, le_ble h]; rfl

/-- the greatest size so far -/
def peakM (m : Nat) (xs : List Nat) : Nat := xs.foldl (fun m x => if fgt .f32 (size32 x) m then size32 x else m) m
theorem w32_peak : ∀ (xs : List Nat) (m : Nat), W32 m → (∀ x ∈ xs, W32 x) → W32 (peakM m xs)
  | [], m, h, _ => h
  | x :: xs, m, h, hx => by
    show W32 (peakM (if fgt .f32 (size32 x) m then size32 x else m) xs)
    refine w32_peak xs _ ?_ (fun y hy => hx y (by simp [hy]))
    split
    · exact w32_size (hx x (by simp))
    · exact h
theorem i_peak_loop (n : Nat) (N : Nat) (cs : List T) : ∀ (zs p : List Nat) (mx m : Nat), (∀ x ∈ zs, W32 x) → p.length + zs.length < 1048576 → zs.length < m →
    f110_i_peakOf.l0 (n + 2) m N cs mx (p ++ zs).length (fls .f32 (p ++ zs)) ((p ++ zs).length : Int) (p.length : Int) = some (peakM mx zs) := by
  intro zs
  induction zs with
  | nil =>
    intro p mx m _ _ hm
    obtain ⟨m, rfl⟩ : ∃ k, m = k + 1 := ⟨m - 1, by omega⟩
    rw [f110_i_peakOf.l0, lt_end]; rfl
  | cons z zs ih =>
    intro p mx m hz hp hm
    obtain ⟨m, rfl⟩ : ∃ k, m = k + 1 := ⟨m - 1, by omega⟩
    have ih' := fun mx => ih (p ++ [z]) mx m (fun x hx => hz x (by simp [hx])) (by simp at hp ⊢; omega) (by simp at hm; omega)
    simp only [List.append_assoc, List.cons_append, List.nil_append] at ih'
    rw [f110_i_peakOf.l0, lt_mid, in_mid, toNat_len, okAt_mid, fAt_mid]
    simp only [br_t, gd_t, Bool.and_self, i_absolute n (hz z (by simp)), bd_s, wrap_len (z := z) (show p.length < 4611686018427387904 by simp at hp; omega)]
    show _ = some (peakM (if fgt .f32 (size32 z) mx then size32 z else mx) zs)
    cases fgt .f32 (size32 z) mx
    · exact ih' mx
    · exact ih' _
theorem i_peak (n : Nat) (xs : List Nat) (hx : ∀ x ∈ xs, W32 x) (hl : xs.length < 1048576) (hn : xs.length < n) : f110_i_peakOf (n + 3) xs.length (fls .f32 xs) = some (peakM 0 xs) := by
  rw [f110_i_peakOf]
  have e := i_peak_loop n xs.length (fls .f32 xs) xs [] 0 (n + 2) hx (by simpa using hl) (by omega)
  have e : f110_i_peakOf.l0 (n + 2) (n + 2) xs.length (fls .f32 xs) 0 xs.length (fls .f32 xs) (xs.length : Int) 0 = some (peakM 0 xs) := e
  rw [e]; rfl
theorem peak_facts : ∀ (xs : List Nat) (m : Nat), W32 m → isNaN .f32 m = false → 0 ≤ key .f32 m → (∀ x ∈ xs, W32 x) →
    isNaN .f32 (peakM m xs) = false ∧ key .f32 m ≤ key .f32 (peakM m xs) ∧ (∀ x ∈ xs, isNaN .f32 x = false → (key .f32 x).natAbs ≤ key .f32 (peakM m xs)) ∧ (peakM m xs = m ∨ ∃ x ∈ xs, isNaN .f32 x = false ∧ peakM m xs = size32 x)
  | [], m, _, hn, _, _ => ⟨hn, Int.le_refl _, by simp, .inl rfl⟩
  | x :: xs, m, hm, hn, h0, hx => by
    have hw := hx x (by simp)
    show isNaN .f32 (peakM (if fgt .f32 (size32 x) m then size32 x else m) xs) = false ∧ _
    cases hc : fgt .f32 (size32 x) m
    · obtain ⟨h1, h2, h3, h4⟩ := peak_facts xs m hm hn h0 (fun y hy => hx y (by simp [hy]))
      have e : peakM m (x :: xs) = peakM m xs := by show peakM (if fgt .f32 (size32 x) m then size32 x else m) xs = _; rw [hc]; rfl
      rw [e]
      refine ⟨h1, h2, fun y hy hyn => ?_, ?_⟩
      · simp only [List.mem_cons] at hy
        rcases hy with rfl | hy
        · rw [fgt_key] at hc
          unfold num2 at hc
          rw [nan_size, hyn, hn, key_size32 hw.1 hyn] at hc
          simp at hc
          omega
        · exact h3 y hy hyn
      · rcases h4 with h4 | ⟨y, hy, h5⟩
        · exact .inl h4
        · exact .inr ⟨y, by simp [hy], h5⟩
    · have hxn : isNaN .f32 x = false := by
        cases h : isNaN .f32 x
        · rfl
        · rw [fgt_nan _ (by rw [nan_size]; exact h)] at hc; cases hc
      have hk := key_size32 hw.1 hxn
      rw [fgt_key] at hc
      unfold num2 at hc
      rw [nan_size, hxn, hn, hk] at hc
      simp at hc
      obtain ⟨h1, h2, h3, h4⟩ := peak_facts xs (size32 x) (w32_size hw) (by rw [nan_size]; exact hxn) (by rw [hk]; omega) (fun y hy => hx y (by simp [hy]))
      have e : peakM m (x :: xs) = peakM (size32 x) xs := by
        show peakM (if fgt .f32 (size32 x) m then size32 x else m) xs = _
        rw [fgt_key]; unfold num2; rw [nan_size, hxn, hn, hk]; simp [hc]
      rw [e]
      refine ⟨h1, by omega, fun y hy hyn => ?_, ?_⟩
      · simp only [List.mem_cons] at hy
        rcases hy with rfl | hy
        · omega
        · exact h3 y hy hyn
      · rcases h4 with h4 | ⟨y, hy, h5⟩
        · exact .inr ⟨x, by simp, hxn, h4⟩
        · exact .inr ⟨y, by simp [hy], h5⟩

theorem i_zeroed (n k : Nat) (h : k ≤ 2147483648) : f108_i_zeros (n + 1) (k : Int) = some (k, fls .f32 (List.replicate k 0)) := by
  rw [f108_i_zeros, decide_eq_true (show (0 : Int) ≤ (k : Int) ∧ (k : Int) ≤ 2147483648 by omega), gd_t, Int.toNat_natCast, reps_fls]

/-- a number that is clipped -/
def clipM (lim x : Nat) : Nat := if fgt .f32 (size32 x) lim then (if flt .f32 x 0 then negF .f32 lim else lim) else x
def limT (lim p : Nat) : Nat := if fgt .f32 p lim then fdiv .f32 lim p else 1065353216
def limG (t gn : Nat) : Nat := if flt .f32 t gn then t else if fne .f32 gn gn then t else gn
def limStep (lim rise : Nat) (s : Nat × List Nat) (x : Nat) : Nat × (Nat × List Nat) :=
  (clipM lim (fmul .f32 ((s.2 ++ [x]).getD 0 0) (limG (limT lim (peakM 0 (s.2 ++ [x]))) (fadd .f32 s.1 rise))), (limG (limT lim (peakM 0 (s.2 ++ [x]))) (fadd .f32 s.1 rise), (s.2 ++ [x]).drop 1))
theorem w32_clip {lim x : Nat} (hl : W32 lim) (hx : W32 x) : W32 (clipM lim x) := by
  unfold clipM
  split
  · split
    · exact w32_negF hl
    · exact hl
  · exact hx
theorem w32_one : W32 1065353216 := ⟨by decide, by decide⟩
theorem w32_limG {t gn : Nat} (ht : W32 t) (hg : W32 gn) : W32 (limG t gn) := by
  unfold limG
  split
  · exact ht
  · split
    · exact ht
    · exact hg
theorem w32_limT {lim p : Nat} : W32 (limT lim p) := by
  unfold limT
  split
  · exact w32_fdiv _ _
  · exact w32_one
theorem lim_inv (lim rise : Nat) (hl : W32 lim) (xs : List Nat) (s : Nat × List Nat) (h : W32 s.1 ∧ AllW s.2) (hx : ∀ x ∈ xs, W32 x) :
    AllW (scan (limStep lim rise) s xs).1 ∧ (W32 (scan (limStep lim rise) s xs).2.1 ∧ AllW (scan (limStep lim rise) s xs).2.2) :=
  scan_inv (f := limStep lim rise) (P := fun s => W32 s.1 ∧ AllW s.2) (Q := W32) (S := W32) (fun s x hs hx => ⟨w32_clip hl (w32_fmul _ _), w32_limG w32_limT (w32_fadd _ _), fun y hy => by
    have := List.mem_of_mem_drop hy
    simp only [List.mem_append, List.mem_singleton] at this
    rcases this with h | rfl
    · exact hs.2 y h
    · exact hx⟩) xs s h hx
theorem lim_length (lim rise : Nat) : ∀ (xs : List Nat) (s : Nat × List Nat), (scan (limStep lim rise) s xs).2.2.length = s.2.length := by
  intro xs
  induction xs with
  | nil => intro s; rfl
  | cons x xs ih =>
    intro s
    simp only [scan]
    rw [ih]
    simp [limStep]
theorem i_clip (n : Nat) (lim : Nat) {x : Nat} (hx : W32 x) : f111_i_clipped (n + 3) x lim = some (clipM lim x) := by
  rw [f111_i_clipped, i_absolute n hx]
  simp only [bd_s, br_not]
  unfold clipM
  cases fgt .f32 (size32 x) lim <;> cases flt .f32 x 0 <;> rfl
theorem i_lim_loop (n : Nat) (N : Nat) (cs : List T) (lim rise x8 x9 x10 n11 : Nat) (l12 : List T) (hl : W32 lim) : ∀ (zs p acc : List Nat) (s : Nat × List Nat) (m : Nat), (∀ x ∈ zs, W32 x) → (W32 s.1 ∧ AllW s.2) → s.2.length ≤ 64 → acc.length + zs.length < 1048576 → p.length + zs.length < 1048576 → zs.length < m →
    f37_i_RunLimiter.l0 (n + 100) m N cs lim rise s.1 s.2.length (fls .f32 s.2) x8 x9 x10 n11 l12 acc.length (fls .f32 acc) (p ++ zs).length (fls .f32 (p ++ zs)) ((p ++ zs).length : Int) (p.length : Int) =
      some (lim, rise, (scan (limStep lim rise) s zs).2.1, (scan (limStep lim rise) s zs).2.2.length, fls .f32 (scan (limStep lim rise) s zs).2.2, x8, x9, x10, n11, l12, (acc ++ (scan (limStep lim rise) s zs).1).length, fls .f32 (acc ++ (scan (limStep lim rise) s zs).1)) := by
  intro zs
  induction zs with
  | nil =>
    intro p acc s m _ _ _ _ _ hm
    obtain ⟨m, rfl⟩ : ∃ k, m = k + 1 := ⟨m - 1, by omega⟩
    rw [f37_i_RunLimiter.l0, lt_end]
    simp [br_f, scan]
  | cons z zs ih =>
    intro p acc s m hz hs hw ha hp hm
    obtain ⟨m, rfl⟩ : ∃ k, m = k + 1 := ⟨m - 1, by omega⟩
    have hp' : p.length < 1048576 := by simp at hp; omega
    have ha' : acc.length < 1048576 := by simp at ha; omega
    have hall : AllW (s.2 ++ [z]) := fun y hy => by
      simp only [List.mem_append, List.mem_singleton] at hy
      rcases hy with h | rfl
      · exact hs.2 y h
      · exact hz _ (by simp)
    have hpk := i_peak (n + 97) (s.2 ++ [z]) hall (by simp; omega) (by simp; omega)
    have hlen : s.2.length + 1 = (s.2 ++ [z]).length := by simp
    have c1 : decide ((0 : Int) ≤ 1 ∧ (1 : Int) ≤ ((s.2 ++ [z]).length : Int) ∧ ((s.2 ++ [z]).length : Int) ≤ ((s.2 ++ [z]).length : Int)) = true := decide_eq_true (by simp; omega)
    have c2 : ((fls .f32 (s.2 ++ [z])).drop 1).take ((s.2 ++ [z]).length - 1) = fls .f32 ((s.2 ++ [z]).drop 1) := by
      rw [fls_drop, fls_take, List.take_of_length_le (by simp)]
    have c3 : decide ((0 : Int) ≤ 0 ∧ (0 : Int) < ((s.2 ++ [z]).length : Int)) = true := decide_eq_true (by simp)
    have c4 : okAt [.flt .f32] (fls .f32 (s.2 ++ [z])) 0 = true := okAt_fls (by simp)
    have c5 : (s.2 ++ [z]).length - 1 = ((s.2 ++ [z]).drop 1).length := by simp
    rw [c5] at c2
    have c6 : Nat.ble (s.2 ++ [z]).length 2147483648 = true := le_ble (by simp; omega)
    have ih' := ih (p ++ [z]) (acc ++ [(limStep lim rise s z).1]) (limStep lim rise s z).2 m (fun x hx => hz x (by simp [hx]))
      ⟨w32_limG w32_limT (w32_fadd _ _), fun y hy => hall y (List.mem_of_mem_drop hy)⟩ (by simp [limStep]; omega) (by simp at ha ⊢; omega) (by simp at hp ⊢; omega) (by simp at hm; omega)
    rw [show p ++ [z] ++ zs = p ++ z :: zs by simp] at ih'
    rw [f37_i_RunLimiter.l0, lt_mid, in_mid, toNat_len, okAt_mid, fAt_mid]
    simp only [br_t, gd_t, Bool.and_self, i_copy (n + 99) s.2 (by omega), bd_s, push_fls, hlen, hpk, c1, c2, c3, c4, fAt_fls, c6, i_clip (n + 97) lim (w32_fmul _ _), push_ok (show acc.length < 2147483648 by omega), wrap_len (z := z) (show p.length < 4611686018427387904 by omega), c5]
    have e1 : scan (limStep lim rise) s (z :: zs) = ((limStep lim rise s z).1 :: (scan (limStep lim rise) (limStep lim rise s z).2 zs).1, (scan (limStep lim rise) (limStep lim rise s z).2 zs).2) := rfl
    rw [e1]
    have e2 : ∀ t gn, limT lim (peakM 0 (s.2 ++ [z])) = t → fadd .f32 s.1 rise = gn → ∀ g, limG t gn = g → limStep lim rise s z = (clipM lim (fmul .f32 ((s.2 ++ [z]).getD 0 0) g), (g, (s.2 ++ [z]).drop 1)) := by
      rintro t gn rfl rfl g rfl
      rfl
    have e3 : acc ++ (limStep lim rise s z).1 :: (scan (limStep lim rise) (limStep lim rise s z).2 zs).1 = (acc ++ [(limStep lim rise s z).1]) ++ (scan (limStep lim rise) (limStep lim rise s z).2 zs).1 := by simp
    have e4 : (acc ++ [(limStep lim rise s z).1]).length = acc.length + 1 := by simp
    simp only [e3]
    rw [e4] at ih'
    cases hc : fgt .f32 (peakM 0 (s.2 ++ [z])) lim
    · have ht : limT lim (peakM 0 (s.2 ++ [z])) = 1065353216 := by unfold limT; simp [hc]
      cases h1 : flt .f32 1065353216 (fadd .f32 s.1 rise)
      · cases h2 : fne .f32 (fadd .f32 s.1 rise) (fadd .f32 s.1 rise)
        · have e := e2 _ _ ht rfl (fadd .f32 s.1 rise) (by unfold limG; simp [h1, h2])
          rw [e] at ih' ⊢
          exact ih'
        · have e := e2 _ _ ht rfl 1065353216 (by unfold limG; simp [h1, h2])
          rw [e] at ih' ⊢
          exact ih'
      · have e := e2 _ _ ht rfl 1065353216 (by unfold limG; simp [h1])
        rw [e] at ih' ⊢
        exact ih'
    · have ht : limT lim (peakM 0 (s.2 ++ [z])) = fdiv .f32 lim (peakM 0 (s.2 ++ [z])) := by unfold limT; simp [hc]
      cases h1 : flt .f32 (fdiv .f32 lim (peakM 0 (s.2 ++ [z]))) (fadd .f32 s.1 rise)
      · cases h2 : fne .f32 (fadd .f32 s.1 rise) (fadd .f32 s.1 rise)
        · have e := e2 _ _ ht rfl (fadd .f32 s.1 rise) (by unfold limG; simp [h1, h2])
          rw [e] at ih' ⊢
          exact ih'
        · have e := e2 _ _ ht rfl (fdiv .f32 lim (peakM 0 (s.2 ++ [z]))) (by unfold limG; simp [h1, h2])
          rw [e] at ih' ⊢
          exact ih'
      · have e := e2 _ _ ht rfl (fdiv .f32 lim (peakM 0 (s.2 ++ [z]))) (by unfold limG; simp [h1])
        rw [e] at ih' ⊢
        exact ih'
theorem i_islimit (n : Nat) (lim : Nat) : f107_i_isLimit (n + 2) lim = some (fin32 lim && fgt .f32 lim 0) := by
  rw [f107_i_isLimit, i_finite]
  cases fin32 lim <;> rfl
theorem i_runlimiter (n : Nat) (lim rise g : Nat) (w xs : List Nat) (hl : W32 lim) (hlim : (fin32 lim && fgt .f32 lim 0) = true) (hg : W32 g) (hw : AllW w) (hwl : w.length ≤ 64) (hx : ∀ x ∈ xs, W32 x) (hxl : xs.length ≤ 256) (hn : 300 < n) :
    f37_i_RunLimiter (n + 101) lim rise g w.length (fls .f32 w) xs.length (fls .f32 xs) =
      some ((scan (limStep lim rise) (g, w) xs).1.length, fls .f32 (scan (limStep lim rise) (g, w) xs).1, lim, rise, (scan (limStep lim rise) (g, w) xs).2.1, (scan (limStep lim rise) (g, w) xs).2.2.length, fls .f32 (scan (limStep lim rise) (g, w) xs).2.2, true) := by
  have e := i_lim_loop n xs.length (fls .f32 xs) lim rise 0 0 0 0 [] hl xs [] [] (g, w) (n + 100) hx ⟨hg, hw⟩ hwl (by simp; omega) (by simp; omega) (by omega)
  have e : f37_i_RunLimiter.l0 (n + 100) (n + 100) xs.length (fls .f32 xs) lim rise g w.length (fls .f32 w) 0 0 0 0 [] 0 [] xs.length (fls .f32 xs) (xs.length : Int) 0 = _ := e
  have hlen := lim_length lim rise xs (g, w)
  rw [f37_i_RunLimiter, i_islimit, hlim, i_few, i_copy (n + 99) w (by omega), decide_eq_false (show ¬ (w.length : Int) > 64 by omega), decide_eq_true (show (xs.length : Int) ≤ 256 by omega)]
  simp only [bd_s, br_not, br_t, br_f, e, i_copy (n + 99) (scan (limStep lim rise) (g, w) xs).2.2 (by simp at hlen; omega), List.nil_append]
theorem i_clips_loop (n : Nat) (N : Nat) (cs : List T) (lim : Nat) : ∀ (zs p acc : List Nat) (m : Nat), (∀ x ∈ zs, W32 x) → acc.length + zs.length < 1048576 → p.length + zs.length < 1048576 → zs.length < m →
    f39_i_ClipSamples.l0 (n + 3) m N cs lim acc.length (fls .f32 acc) (p ++ zs).length (fls .f32 (p ++ zs)) ((p ++ zs).length : Int) (p.length : Int) = some ((acc ++ zs.map (clipM lim)).length, fls .f32 (acc ++ zs.map (clipM lim))) := by
  intro zs
  induction zs with
  | nil =>
    intro p acc m _ _ _ hm
    obtain ⟨m, rfl⟩ : ∃ k, m = k + 1 := ⟨m - 1, by omega⟩
    rw [f39_i_ClipSamples.l0, lt_end]; simp [br_f]
  | cons z zs ih =>
    intro p acc m hz ha hp hm
    obtain ⟨m, rfl⟩ : ∃ k, m = k + 1 := ⟨m - 1, by omega⟩
    have ha' : acc.length < 1048576 := by simp at ha; omega
    rw [f39_i_ClipSamples.l0, lt_mid, in_mid, toNat_len, okAt_mid, fAt_mid]
    simp only [br_t, gd_t, Bool.and_self, i_clip n lim (hz z (by simp)), bd_s, push_ok (show acc.length < 2147483648 by omega), push_fls, wrap_len (z := z) (show p.length < 4611686018427387904 by simp at hp; omega)]
    have := ih (p ++ [z]) (acc ++ [clipM lim z]) m (fun x hx => hz x (by simp [hx])) (by simp at ha ⊢; omega) (by simp at hp ⊢; omega) (by simp at hm; omega)
    simpa using this
theorem i_clips (n : Nat) (lim : Nat) (xs : List Nat) (hx : ∀ x ∈ xs, W32 x) (hl : xs.length ≤ 256) (hn : xs.length < n) : f39_i_ClipSamples (n + 4) xs.length (fls .f32 xs) lim = some (xs.length, fls .f32 (xs.map (clipM lim)), true) := by
  have e := i_clips_loop n xs.length (fls .f32 xs) lim xs [] [] (n + 3) hx (by simp; omega) (by simp; omega) (by omega)
  have e : f39_i_ClipSamples.l0 (n + 3) (n + 3) xs.length (fls .f32 xs) lim 0 [] xs.length (fls .f32 xs) (xs.length : Int) 0 = _ := e
  rw [f39_i_ClipSamples, i_few, decide_eq_true (show (xs.length : Int) ≤ 256 by omega)]
  simp only [bd_s, br_not, br_t, e, List.nil_append, List.length_map]
theorem i_newlimiter (n : Nat) (lim rise : Nat) (k : Nat) (hlim : (fin32 lim && fgt .f32 lim 0) = true) (hk : k ≤ 64) : f36_i_NewLimiter (n + 3) lim rise (k : Int) = some (lim, rise, 1065353216, k, fls .f32 (List.replicate k 0), true) := by
  rw [f36_i_NewLimiter, i_islimit, hlim, i_in, decide_eq_true (show (0 : Int) ≤ (k : Int) ∧ (k : Int) ≤ 64 by omega), i_zeroed (n + 1) k (by omega)]
  rfl
/-! ### What is within the limit -/
theorem lim_key {lim : Nat} (hl : W32 lim) (h : (fin32 lim && fgt .f32 lim 0) = true) : isNaN .f32 lim = false ∧ 0 < key .f32 lim := by
  simp only [Bool.and_eq_true] at h
  have hn := fin_num h.1
  refine ⟨hn, ?_⟩
  have h2 := h.2
  rw [fgt_key] at h2
  simp only [Bool.and_eq_true, decide_eq_true_eq] at h2
  have : key .f32 0 = 0 := by decide
  omega
theorem clip_within {lim x : Nat} (hl : W32 lim) (h : (fin32 lim && fgt .f32 lim 0) = true) (hx : W32 x) : fgt .f32 (clipM lim x) lim = false ∧ flt .f32 (clipM lim x) (negF .f32 lim) = false := by
  obtain ⟨hn, hk⟩ := lim_key hl h
  have hnn := isNaN_negF32 hl.1 hn
  have hkn := key_negF32 hl.1 hn
  unfold clipM
  cases hc : fgt .f32 (size32 x) lim
  · simp only [Bool.false_eq_true, if_false]
    cases hxn : isNaN .f32 x
    · have hks := key_size32 hx.1 hxn
      rw [fgt_key] at hc
      unfold num2 at hc
      rw [nan_size, hxn, hn, hks] at hc
      simp at hc
      rw [fgt_key, flt_key]
      unfold num2
      rw [hxn, hn, hnn, hkn]
      simp
      omega
    · exact ⟨fgt_nan _ hxn, flt_nan _ hxn⟩
  · simp only [if_true]
    split
    · rw [fgt_key, flt_key]
      unfold num2
      rw [hn, hnn, hkn]
      simp
      omega
    · rw [fgt_key, flt_key]
      unfold num2
      rw [hn, hnn, hkn]
      simp
      omega
def quietB (lim x : Nat) : Bool := fle .f32 x lim && fge .f32 x (negF .f32 lim)
theorem quiet_key {lim x : Nat} (hl : W32 lim) (h : (fin32 lim && fgt .f32 lim 0) = true) (hq : quietB lim x = true) : isNaN .f32 x = false ∧ ((key .f32 x).natAbs : Int) ≤ key .f32 lim := by
  obtain ⟨hn, hk⟩ := lim_key hl h
  have hkn := key_negF32 hl.1 hn
  unfold quietB at hq
  rw [fle_key, fge_key] at hq
  unfold num2 at hq
  rw [hkn] at hq
  simp only [Bool.and_eq_true, Bool.not_eq_true', decide_eq_true_eq] at hq
  exact ⟨hq.1.1.1, by omega⟩
theorem quiet_zero {lim : Nat} (hl : W32 lim) (h : (fin32 lim && fgt .f32 lim 0) = true) : quietB lim 0 = true := by
  obtain ⟨hn, hk⟩ := lim_key hl h
  have hnn := isNaN_negF32 hl.1 hn
  have hkn := key_negF32 hl.1 hn
  have k0 : key .f32 0 = 0 := by decide
  have n0 : isNaN .f32 0 = false := by decide
  unfold quietB
  rw [fle_key, fge_key]
  unfold num2
  rw [hkn, hn, hnn, k0, n0]
  simp
  omega
theorem quiet_clip {lim x : Nat} (hl : W32 lim) (h : (fin32 lim && fgt .f32 lim 0) = true) (hx : W32 x) (hq : quietB lim x = true) : clipM lim x = x := by
  obtain ⟨hxn, hk⟩ := quiet_key hl h hq
  obtain ⟨hn, hk0⟩ := lim_key hl h
  unfold clipM
  rw [fgt_key]
  unfold num2
  rw [nan_size, hxn, hn, key_size32 hx.1 hxn]
  have : ¬ key .f32 lim < ((key .f32 x).natAbs : Int) := by omega
  simp [this]
theorem mul_one32 {x : Nat} (hx : W32 x) (hf : fin32 x = true) : fmul .f32 x 1065353216 = x := by
  have hv := fin_val hf
  by_cases h0 : fval .f32 x = 0
  · rw [h0] at hv
    rcases val_zero_word hx.1 hv with rfl | rfl <;> decide
  · have e : fval .f32 x * 1 = fval .f32 x := Rat.mul_one _
    obtain ⟨s, m, i, h1, h2, h3, h4⟩ := hv
    have hb : mv m i < p2 (topE .f32) := by
      obtain ⟨a1, a2, a3⟩ := single_finite h1
      have q := (mv_lt (m := m) (n := 2 ^ 24) (e := i)).2 (by omega)
      rw [mv_pow] at q
      have q2 := p2_le (show i + ((24 : Nat) : Int) ≤ 128 by omega)
      show mv m i < p2 128
      grind
    have habs : fval .f32 x ≤ mv m i ∧ -(mv m i) ≤ fval .f32 x := by
      have := mv_nonneg m i
      cases s <;> simp only [sg_true, sg_false] at h2 <;> grind
    obtain ⟨R, q1, q2⟩ := mul_val (fin_val hf) val_one32 (B := mv m i) ⟨m, i, h3, h4, rfl⟩ hb (by rw [e]; exact habs.1) (by rw [e]; exact habs.2)
    rw [e] at q2
    have q3 := q1.near_eq q2 (fin_val hf).rep
    exact word_of_val (fmul_lt _ _ _) hx.1 q3 (fin_val hf) h0
theorem quiet_fin {lim x : Nat} (hl : W32 lim) (h : (fin32 lim && fgt .f32 lim 0) = true) (hx : W32 x) (hq : quietB lim x = true) : fin32 x = true := by
  obtain ⟨hxn, hk⟩ := quiet_key hl h hq
  obtain ⟨hn, hk0⟩ := lim_key hl h
  simp only [Bool.and_eq_true] at h
  have hf := h.1
  rw [key32 hl.1] at hk hk0
  rw [key32 hx.1] at hk
  unfold fin32 at hf ⊢
  simp only [decide_eq_true_eq] at hf ⊢
  have := hx.1
  have := hl.1
  split at hk0 <;> split at hk <;> omega
theorem quiet_peak {lim : Nat} (hl : W32 lim) (h : (fin32 lim && fgt .f32 lim 0) = true) (xs : List Nat) (hx : ∀ x ∈ xs, W32 x ∧ quietB lim x = true) : fgt .f32 (peakM 0 xs) lim = false := by
  obtain ⟨hn, hk0⟩ := lim_key hl h
  obtain ⟨h1, h2, h3, h4⟩ := peak_facts xs 0 w32_zero (by decide) (by decide) (fun x hx' => (hx x hx').1)
  rw [fgt_key]
  unfold num2
  rw [h1, hn]
  have : key .f32 (peakM 0 xs) ≤ key .f32 lim := by
    rcases h4 with h4 | ⟨x, hx', hxn, h4⟩
    · rw [h4]
      have : key .f32 0 = 0 := by decide
      omega
    · rw [h4, key_size32 (hx x hx').1.1 hxn]
      exact (quiet_key hl h (hx x hx').2).2
  have : ¬ key .f32 lim < key .f32 (peakM 0 xs) := by omega
  simp [this]
theorem quiet_scan {lim rise : Nat} (hl : W32 lim) (h : (fin32 lim && fgt .f32 lim 0) = true) (hr : limG 1065353216 (fadd .f32 1065353216 rise) = 1065353216) : ∀ (xs w : List Nat), (∀ x ∈ xs, W32 x ∧ quietB lim x = true) → (∀ x ∈ w, W32 x ∧ quietB lim x = true) →
    scan (limStep lim rise) (1065353216, w) xs = ((w ++ xs).take xs.length, (1065353216, (w ++ xs).drop xs.length)) := by
  intro xs
  induction xs with
  | nil => intro w _ _; simp [scan]
  | cons x xs ih =>
    intro w hx hw
    have hall : ∀ y ∈ w ++ [x], W32 y ∧ quietB lim y = true := fun y hy => by
      simp only [List.mem_append, List.mem_singleton] at hy
      rcases hy with hy | rfl
      · exact hw y hy
      · exact hx _ (by simp)
    obtain ⟨v, vs, hv⟩ : ∃ v vs, w ++ [x] = v :: vs := by cases w with
      | nil => exact ⟨x, [], rfl⟩
      | cons v vs => exact ⟨v, vs ++ [x], rfl⟩
    have ht : limT lim (peakM 0 (w ++ [x])) = 1065353216 := by unfold limT; rw [quiet_peak hl h _ hall]; rfl
    have hv0 := hall v (by rw [hv]; simp)
    have e : limStep lim rise (1065353216, w) x = (v, (1065353216, vs)) := by
      unfold limStep
      simp only [ht, hr]
      rw [hv]
      simp only [List.getD_cons_zero, List.drop_succ_cons, List.drop_zero]
      rw [mul_one32 hv0.1 (quiet_fin hl h hv0.1 hv0.2), quiet_clip hl h hv0.1 hv0.2]
    have e2 : w ++ x :: xs = v :: (vs ++ xs) := by
      rw [show w ++ x :: xs = (w ++ [x]) ++ xs by simp, hv]; rfl
    simp only [scan, e]
    rw [ih vs (fun y hy => hx y (by simp [hy])) (fun y hy => hall y (by rw [hv]; simp [hy])), e2]
    simp
theorem limit_tab : ∀ k : Nat, k < 32 → (fin32 (fdiv .f32 (FloatKind.f32.nearest ((k + 1 : Nat) : Int)) 1098907648) && fgt .f32 (fdiv .f32 (FloatKind.f32.nearest ((k + 1 : Nat) : Int)) 1098907648) 0) = true := by decide +kernel
theorem rise_tab : ∀ k : Nat, k < 17 → limG 1065353216 (fadd .f32 1065353216 (fdiv .f32 (FloatKind.f32.nearest (k : Int)) 1098907648)) = 1065353216 := by decide +kernel

theorem told0 (n : Nat) (lim : Nat) (i2 : Int) : ∀ (zs ys p q : List Nat) (b : Bool) (m : Nat), ys.length = zs.length → q.length = p.length → (∀ y ∈ ys, fgt .f32 y lim = false ∧ flt .f32 y (negF .f32 lim) = false) → p.length + zs.length < 1048576 → zs.length < m →
    f6_l_FnLimited.l0 n m lim i2 (p ++ zs).length (fls .f32 (p ++ zs)) (q ++ ys).length (fls .f32 (q ++ ys)) b (p.length : Int) = some (.inr (lim, i2, (p ++ zs).length, fls .f32 (p ++ zs), (q ++ ys).length, fls .f32 (q ++ ys), b && zs.all (quietB lim))) := by
  intro zs
  induction zs with
  | nil =>
    intro ys p q b m hl hq _ _ hm
    obtain ⟨m, rfl⟩ : ∃ k, m = k + 1 := ⟨m - 1, by omega⟩
    rw [f6_l_FnLimited.l0, lt_end]; simp [br_f]
  | cons z zs ih =>
    intro ys p q b m hl hq hy hp hm
    obtain ⟨m, rfl⟩ : ∃ k, m = k + 1 := ⟨m - 1, by omega⟩
    cases ys with
    | nil => simp at hl
    | cons y ys =>
      have e1 : okAt [.flt .f32] (fls .f32 (q ++ y :: ys)) p.length = true := by rw [← hq]; exact okAt_mid
      have e2 : fAt (fls .f32 (q ++ y :: ys)) p.length = y := by rw [← hq]; exact fAt_mid
      have e3 : decide ((0 : Int) ≤ (p.length : Int) ∧ (p.length : Int) < ((q ++ y :: ys).length : Int)) = true := by rw [← hq]; exact in_mid
      obtain ⟨y1, y2⟩ := hy y (by simp)
      have ih' := fun b => ih ys (p ++ [z]) (q ++ [y]) b m (by simpa using hl) (by simp [hq]) (fun y hy' => hy y (by simp [hy'])) (by simp at hp ⊢; omega) (by simp at hm; omega)
      simp only [List.append_assoc, List.singleton_append] at ih'
      rw [f6_l_FnLimited.l0, lt_mid, in_mid, toNat_len, okAt_mid, fAt_mid, e1, e2, e3, wrap_len (z := z) (show p.length < 4611686018427387904 by simp at hp; omega)]
      simp only [br_t, gd_t, y1, y2, br_f, ih', List.all_cons, quietB]
      cases b <;> cases fle .f32 z lim <;> simp [br]
theorem told1 (n : Nat) (lim k : Nat) (b : Bool) (X Y : List Nat) (hXY : Y.length = X.length) (hX : X.length ≤ 256)
    (h1 : b = true → ∀ i, i < X.length → i < k → fne .f32 (Y.getD i 0) 0 = false) (h2 : b = true → ∀ i, i < X.length → k ≤ i → fne .f32 (Y.getD i 0) (X.getD (i - k) 0) = false) :
    ∀ (j i m : Nat), i + j = X.length → j < m →
    f6_l_FnLimited.l1 n m lim (k : Int) X.length (fls .f32 X) Y.length (fls .f32 Y) b (i : Int) = some (.inr (lim, X.length, fls .f32 X)) := by
  intro j
  induction j with
  | zero =>
    intro i m hi hm
    obtain ⟨m, rfl⟩ : ∃ k, m = k + 1 := ⟨m - 1, by omega⟩
    rw [f6_l_FnLimited.l1, nlt_dec (by omega)]; rfl
  | succ j ih =>
    intro i m hi hm
    obtain ⟨m, rfl⟩ : ∃ k, m = k + 1 := ⟨m - 1, by omega⟩
    have hi' : i < X.length := by omega
    have hiY : i < Y.length := by omega
    have w1 : IntKind.i64.wrap ((i : Int) + 1) = ((i + 1 : Nat) : Int) := by rw [wrap64] <;> omega
    rw [f6_l_FnLimited.l1, lt_dec hi', w1]
    cases b with
    | false => rfl
    | true =>
      by_cases hiL : k ≤ i
      · have w2 : IntKind.i64.wrap ((i : Int) - (k : Int)) = ((i - k : Nat) : Int) := by rw [wrap64] <;> omega
        have hi2 : i - k < X.length := by omega
        rw [decide_eq_true (show (i : Int) ≥ (k : Int) by omega), w2, in_dec hi2, Int.toNat_natCast, okAt_fls hi2, in_dec hiY, Int.toNat_natCast, okAt_fls hiY]
        simp only [br_t, gd_t, fAt_fls, h2 rfl i hi' hiL, br_f]
        exact ih (i + 1) m (by omega) (by omega)
      · rw [decide_eq_false (show ¬ (i : Int) ≥ (k : Int) by omega), in_dec hiY, Int.toNat_natCast, okAt_fls hiY]
        simp only [br_t, gd_t, br_f, fAt_fls, h1 rfl i hi' (by omega)]
        exact ih (i + 1) m (by omega) (by omega)
theorem told2 (n : Nat) (lim : Nat) (hl : W32 lim) (hlim : (fin32 lim && fgt .f32 lim 0) = true) : ∀ (zs p : List Nat) (q : List Nat) (m : Nat), (∀ x ∈ zs, W32 x) → q.length = p.length → p.length + zs.length < 1048576 → zs.length < m →
    f6_l_FnLimited.l2 (n + 2) m lim (p ++ zs).length (fls .f32 (p ++ zs)) (q ++ zs.map (clipM lim)).length (fls .f32 (q ++ zs.map (clipM lim))) (p.length : Int) = some (.inr ()) := by
  intro zs
  induction zs with
  | nil =>
    intro p q m _ hq _ hm
    obtain ⟨m, rfl⟩ : ∃ k, m = k + 1 := ⟨m - 1, by omega⟩
    rw [f6_l_FnLimited.l2, lt_end]; rfl
  | cons z zs ih =>
    intro p q m hz hq hp hm
    obtain ⟨m, rfl⟩ : ∃ k, m = k + 1 := ⟨m - 1, by omega⟩
    have hw := hz z (by simp)
    have e1 : okAt [.flt .f32] (fls .f32 (q ++ clipM lim z :: zs.map (clipM lim))) p.length = true := by rw [← hq]; exact okAt_mid
    have e2 : fAt (fls .f32 (q ++ clipM lim z :: zs.map (clipM lim))) p.length = clipM lim z := by rw [← hq]; exact fAt_mid
    have e3 : decide ((0 : Int) ≤ (p.length : Int) ∧ (p.length : Int) < ((q ++ clipM lim z :: zs.map (clipM lim)).length : Int)) = true := by rw [← hq]; exact in_mid
    obtain ⟨y1, y2⟩ := clip_within hl hlim hw
    have ih' := ih (p ++ [z]) (q ++ [clipM lim z]) m (fun x hx => hz x (by simp [hx])) (by simp [hq]) (by simp at hp ⊢; omega) (by simp at hm; omega)
    simp only [List.append_assoc, List.singleton_append] at ih'
    rw [List.map_cons, f6_l_FnLimited.l2, lt_mid, in_mid, toNat_len, okAt_mid, fAt_mid, e1, e2, e3, wrap_len (z := z) (show p.length < 4611686018427387904 by simp at hp; omega)]
    simp only [br_t, gd_t, y1, y2, br_f, ih', i_same n (w32_clip hl hw) hw, bd_s, br_not]
    cases h1 : fle .f32 z lim
    · rfl
    · cases h2 : fge .f32 z (negF .f32 lim)
      · rfl
      · rw [quiet_clip hl hlim hw (by unfold quietB; rw [h1, h2]; rfl)]
        simp [br]
theorem bd_e {α β : Type} (a : α) (k : α → Option β) : bd (some a) k = k a := by
  cases h : k a with
  | none => rw [bd_s, h]
  | some => rw [bd_s, h]
theorem exact_ (cs : List Int) (hc : ∀ b ∈ cs, GoodI .u8 b) (lc : cs.length ≤ maxLen) (ms : List Int) (hm : ∀ b ∈ ms, GoodI .u8 b) (lm : ms.length ≤ maxLen) : ∃ n, f6_l_FnLimited n cs.length (its .u8 cs) ms.length (its .u8 ms) = some true := by
  refine ⟨1000, ?_⟩
  suffices h : ∀ n, f6_l_FnLimited (n + 500) cs.length (its .u8 cs) ms.length (its .u8 ms) = some true from h 500
  intro n
  rw [f6_l_FnLimited, l_long]
  cases hlong : decide (48 < cs.length ∨ 48 < ms.length)
  case true => rfl
  obtain ⟨k, hk, e1⟩ := l_at (n + 498) (bytes_of hc) (i := 0) (k := 32) (by omega) (by omega)
  obtain ⟨k, rfl⟩ := Int.eq_ofNat_of_zero_le hk.1
  obtain ⟨r, hr, e2⟩ := l_at (n + 498) (bytes_of hc) (i := 1) (k := 17) (by omega) (by omega)
  obtain ⟨r, rfl⟩ := Int.eq_ofNat_of_zero_le hr.1
  obtain ⟨d, hd, e3⟩ := l_at (n + 498) (bytes_of hc) (i := 2) (k := 8) (by omega) (by omega)
  obtain ⟨d, rfl⟩ := Int.eq_ofNat_of_zero_le hd.1
  obtain ⟨xs, hxl, hxw, e4⟩ := s_r8samples (n + 492) (bytes_of hm) 16 (by omega) (by omega)
  have e4 : f22_s_R8Samples (n + 499) ms.length (its .u8 ms) 16 = some (xs.length, fls .f32 xs) := e4
  obtain ⟨a, ha1, e5⟩ := l_at (n + 498) (bytes_of hc) (i := 3) (k := (xs.length : Int) + 1) (by omega) (by omega)
  obtain ⟨a, rfl⟩ := Int.eq_ofNat_of_zero_le ha1.1
  have ha : a ≤ xs.length := by omega
  have wk : IntKind.i64.wrap (1 + (k : Int)) = ((k + 1 : Nat) : Int) := by rw [wrap64] <;> omega
  have hlim := limit_tab k (by omega)
  have hrise := rise_tab r (by omega)
  have hl0 : W32 (fdiv .f32 (FloatKind.f32.nearest ((k + 1 : Nat) : Int)) 1098907648) := w32_fdiv _ _
  simp only [br_f, bd_s, e1, e2]
  rw [wk]
  revert hlim hrise hl0
  generalize fdiv .f32 (FloatKind.f32.nearest ((k + 1 : Nat) : Int)) 1098907648 = lim
  generalize fdiv .f32 (FloatKind.f32.nearest (r : Int)) 1098907648 = rise
  intro hlim hrise hl
  have e6 := i_newlimiter (n + 496) lim rise d hlim (by omega)
  have hl2 : (xs.take a).length = a := by rw [List.length_take]; omega
  have hl3 : (xs.drop a).length = xs.length - a := List.length_drop
  have w0 : AllW (List.replicate d 0) := fun y hy => by rw [List.eq_of_mem_replicate hy]; exact w32_zero
  have wt : ∀ x ∈ xs.take a, W32 x := fun x hx => hxw x (List.mem_of_mem_take hx)
  have wd : ∀ x ∈ xs.drop a, W32 x := fun x hx => hxw x (List.mem_of_mem_drop hx)
  have s0 : W32 1065353216 := ⟨by decide, by decide⟩
  obtain ⟨v1, v2, v3⟩ := lim_inv lim rise hl xs (1065353216, List.replicate d 0) ⟨s0, w0⟩ hxw
  obtain ⟨u1, u2, u3⟩ := lim_inv lim rise hl (xs.take a) (1065353216, List.replicate d 0) ⟨s0, w0⟩ wt
  have L1 := lim_length lim rise xs (1065353216, List.replicate d 0)
  have L2 := lim_length lim rise (xs.take a) (1065353216, List.replicate d 0)
  simp only [List.length_replicate] at L1 L2
  have n1 := scan_length (limStep lim rise) (1065353216, List.replicate d 0) xs
  have n2 := scan_length (limStep lim rise) (1065353216, List.replicate d 0) (xs.take a)
  have n3 := scan_length (limStep lim rise) (scan (limStep lim rise) (1065353216, List.replicate d 0) (xs.take a)).2 (xs.drop a)
  have hs1 := scan_append (limStep lim rise) (1065353216, List.replicate d 0) (xs.take a) (xs.drop a)
  rw [List.take_append_drop] at hs1
  have A1 : (scan (limStep lim rise) (1065353216, List.replicate d 0) (xs.take a)).1 ++ (scan (limStep lim rise) (scan (limStep lim rise) (1065353216, List.replicate d 0) (xs.take a)).2 (xs.drop a)).1 = (scan (limStep lim rise) (1065353216, List.replicate d 0) xs).1 := by rw [hs1]
  have A2 : (scan (limStep lim rise) (scan (limStep lim rise) (1065353216, List.replicate d 0) (xs.take a)).2 (xs.drop a)).2 = (scan (limStep lim rise) (1065353216, List.replicate d 0) xs).2 := by rw [hs1]
  have g1 := i_runlimiter (n + 398) lim rise 1065353216 (List.replicate d 0) xs hl hlim s0 w0 (by simp; omega) hxw (by omega) (by omega)
  have g2 := i_runlimiter (n + 398) lim rise 1065353216 (List.replicate d 0) (xs.take a) hl hlim s0 w0 (by simp; omega) wt (by omega) (by omega)
  have g3 := i_runlimiter (n + 398) lim rise (scan (limStep lim rise) (1065353216, List.replicate d 0) (xs.take a)).2.1 (scan (limStep lim rise) (1065353216, List.replicate d 0) (xs.take a)).2.2 (xs.drop a) hl hlim u2 u3 (by omega) wd (by omega) (by omega)
  rw [List.length_replicate, n1, L1] at g1
  rw [List.length_replicate, hl2, n2, hl2, L2] at g2
  rw [hl3, n3, hl3, L2, show ((scan (limStep lim rise) (1065353216, List.replicate d 0) (xs.take a)).2.1, (scan (limStep lim rise) (1065353216, List.replicate d 0) (xs.take a)).2.2) = (scan (limStep lim rise) (1065353216, List.replicate d 0) (xs.take a)).2 from rfl, A2, L1] at g3
  have t1 := l_same (n + 496) _ _ v1 v1 (by omega) (by omega)
  have t2 := l_same (n + 496) _ _ v3 v3 (by omega) (by omega)
  have t3 := i_same (n + 497) v2 v2
  rw [n1] at t1
  rw [L1] at t2
  rw [decide_eq_true rfl] at t1 t2
  rw [beq_self_eq_true] at t3
  have t1 : f38_l_r8Same (n + 499) xs.length _ xs.length _ = _ := t1
  have t2 : f38_l_r8Same (n + 499) d _ d _ = _ := t2
  have t3 : f21_i_SameNumber (n + 499) _ _ = _ := t3
  have q0 := told0 (n + 499) lim (d : Int) xs (scan (limStep lim rise) (1065353216, List.replicate d 0) xs).1 [] [] true (n + 499) n1 rfl (fun y hy => by
    have hcl : ∀ (zs : List Nat) (s : Nat × List Nat), ∀ y ∈ (scan (limStep lim rise) s zs).1, ∃ x, W32 x ∧ y = clipM lim x := by
      intro zs
      induction zs with
      | nil => intro s y hy; simp [scan] at hy
      | cons z zs ih =>
        intro s y hy
        simp only [scan, List.mem_cons] at hy
        rcases hy with rfl | hy
        · exact ⟨_, w32_fmul _ _, rfl⟩
        · exact ih _ y hy
    obtain ⟨x, hx, rfl⟩ := hcl _ _ y hy
    exact clip_within hl hlim hx) (by simp; omega) (by omega)
  simp only [List.nil_append, n1, Bool.true_and] at q0
  have q0 : f6_l_FnLimited.l0 (n + 499) (n + 499) lim (d : Int) xs.length (fls .f32 xs) xs.length (fls .f32 (scan (limStep lim rise) (1065353216, List.replicate d 0) xs).1) true 0 = _ := q0
  have hquiet : xs.all (quietB lim) = true → scan (limStep lim rise) (1065353216, List.replicate d 0) xs = ((List.replicate d 0 ++ xs).take xs.length, (1065353216, (List.replicate d 0 ++ xs).drop xs.length)) := fun h =>
    quiet_scan hl hlim hrise xs _ (fun x hx => ⟨hxw x hx, by rw [List.all_eq_true] at h; exact h x hx⟩) (fun x hx => by
      rw [List.eq_of_mem_replicate hx]
      exact ⟨w32_zero, quiet_zero hl hlim⟩)
  have q1 := told1 (n + 499) lim d (xs.all (quietB lim)) xs (scan (limStep lim rise) (1065353216, List.replicate d 0) xs).1 n1 (by omega)
    (fun h i hi hd => by
      rw [hquiet h]
      have : ((List.replicate d 0 ++ xs).take xs.length).getD i 0 = 0 := by
        rw [List.getD, List.getElem?_take_of_lt hi, List.getElem?_append_left (by simp; omega)]
        simp [hd]
      simp only [this]
      decide)
    (fun h i hi hd => by
      rw [hquiet h]
      have : ((List.replicate d 0 ++ xs).take xs.length).getD i 0 = xs.getD (i - d) 0 := by
        rw [List.getD, List.getElem?_take_of_lt hi, List.getElem?_append_right (by simp; omega)]
        simp [List.getD]
      simp only [this]
      have hm : xs.getD (i - d) 0 ∈ xs := by
        have hlt : i - d < xs.length := by omega
        rw [show xs.getD (i - d) 0 = xs[i - d] by simp [List.getD, hlt]]
        exact List.getElem_mem _
      rw [List.all_eq_true] at h
      rw [fne_feq, feq_self (quiet_key hl hlim (h _ hm)).1]; rfl)
    xs.length 0 (n + 499) (by omega) (by omega)
  rw [n1] at q1
  have q1 : f6_l_FnLimited.l1 (n + 499) (n + 499) lim (d : Int) xs.length (fls .f32 xs) xs.length (fls .f32 (scan (limStep lim rise) (1065353216, List.replicate d 0) xs).1) (xs.all (quietB lim)) 0 = _ := q1
  have q2 := told2 (n + 497) lim hl hlim xs [] [] (n + 499) hxw rfl (by simp; omega) (by omega)
  simp only [List.nil_append, List.length_map] at q2
  have q2 : f6_l_FnLimited.l2 (n + 499) (n + 499) lim xs.length (fls .f32 xs) xs.length (fls .f32 (xs.map (clipM lim))) 0 = _ := q2
  have q3 := i_clips (n + 495) lim xs hxw (by omega) (by omega)
  have j1 : decide ((0 : Int) ≤ 0 ∧ (0 : Int) ≤ (a : Int) ∧ (a : Int) ≤ (xs.length : Int)) = true := decide_eq_true (by omega)
  have j2 : decide ((0 : Int) ≤ (a : Int) ∧ (a : Int) ≤ (xs.length : Int) ∧ (xs.length : Int) ≤ (xs.length : Int)) = true := decide_eq_true (by omega)
  have j3 : (fls .f32 xs).take a = fls .f32 (xs.take a) := fls_take _ _ _
  have j4 : ((fls .f32 xs).drop a).take (xs.length - a) = fls .f32 (xs.drop a) := by rw [fls_drop, fls_take, List.take_of_length_le (by omega)]
  have j5 : ∀ p q : List Nat, reps 0 [T.flt FloatKind.f32 0] ++ fls .f32 p ++ fls .f32 q = fls .f32 (p ++ q) := by intro p q; rw [← fls_append]; rfl
  have hsum : 0 + a + (xs.length - a) = xs.length := by omega
  have b1 : Nat.ble (0 + a) 2147483648 = true := le_ble (by omega)
  have b2 : Nat.ble xs.length 2147483648 = true := le_ble (by omega)
  simp only [br_f, br_not, bd_e, e3, e6, e4, show IntKind.i64.wrap ((xs.length : Int) + 1) = (xs.length : Int) + 1 by rw [wrap64] <;> omega, e5, g1, j1, gd_t, Int.toNat_natCast, List.drop_zero, Nat.sub_zero, j3, g2, j2, j4, g3, br_t, bne_self_eq_false, hsum, b1, b2, j5, A1, t1, t3, t2, q0, sm_r, q1, q3, q2]
theorem law6 : ∀ args, LawArgs E Try.f6.params.toList args → ∃ N os, evalFn E N 6 args = some ⟨[⟨false, [.leaf], [.bool true]⟩], os⟩ := by
  intro args h0
  have hp : Try.f6.params.toList = [22, 22] := by kernel_rfl
  rw [hp] at h0
  obtain ⟨ts0, r0, rfl, hw0, h1⟩ := h0.cons_inv (d := ⟨false, 1, 24, [.sl .own [.leaf]], [.lst 0 []], .slc 5⟩) (by kernel_rfl)
  obtain ⟨n0, cs0, rfl, gl0, hs0⟩ := hw0.slc_inv (e := 5) (d := ⟨false, 1, 24, [.sl .own [.leaf]], [.lst 0 []], .slc 5⟩) (by kernel_rfl) rfl
  obtain ⟨a0, rfl, rfl, g0⟩ := hs0.ints (k := .u8) (d := ⟨false, 1, 1, [.leaf], [.int .u8 0], .int .u8⟩) (by kernel_rfl) rfl
  obtain ⟨ts1, r1, rfl, hw1, h2⟩ := h1.cons_inv (d := ⟨false, 1, 24, [.sl .own [.leaf]], [.lst 0 []], .slc 5⟩) (by kernel_rfl)
  obtain ⟨n1, cs1, rfl, gl1, hs1⟩ := hw1.slc_inv (e := 5) (d := ⟨false, 1, 24, [.sl .own [.leaf]], [.lst 0 []], .slc 5⟩) (by kernel_rfl) rfl
  obtain ⟨a1, rfl, rfl, g1⟩ := hs1.ints (k := .u8) (d := ⟨false, 1, 1, [.leaf], [.int .u8 0], .int .u8⟩) (by kernel_rfl) rfl
  obtain rfl := h2.nil_inv
  obtain ⟨N, hN⟩ := exact_ a0 g0 gl0 a1 g1 gl1
  exact ⟨N, _, f6_l_FnLimited.ok N (a0.length, its .u8 a0, a1.length, its .u8 a1) true hN⟩


end Go.Proofs.Ytjkhhalnlodinaa.D
end
section
/- FnLimited holds: for every input the law returns true, and its arguments read as before. -/
namespace Go.Proofs.Ytjkhhalnlodinaa.fnLimited
open Go Go.ChangeShapes Go.WideShapes Go.ChangeAt Go.RowKit Go.Desk
set_option linter.unusedVariables false
theorem own : ownKnob Try.prog.godebug = none := by kernel_rfl
theorem laidOut : laidOutB Try.prog = true := by kernel_rfl
set_option maxRecDepth 100000 in
theorem lifted (os : Os) (started : os.Started) (H : Type) (enc : TypeId × Value → H) :
    ReturnsInHanded {} Try.checked os 6 .any (Rows.fnLimitedSpec.pre6 enc Try.prog Try.f6 Rows.fnLimitedRow.domain false) (Rows.fnLimitedSpec.post enc Try.prog Try.f6 false true false false) := by
  refine returnsInHanded_of_change (C := Try.checked) own started (by kernel_rfl) Try.func6
    (ChangeSpec.witness6 (enc := enc) (C := Try.checked) false ⟨#[], #[.slice none 0 0, .slice none 0 0], []⟩ 8 (by kernel_rfl) (by kernel_rfl) (by kernel_rfl) (by kernel_rfl)) ?_
  intro W base args ds gs before hval hW hcnd _
  exact law_contract (c := D.c6) Try.checked.mixed D.tysOk D.fnOk Try.func6 (by kernel_rfl) (by kernel_rfl) (by kernel_rfl) Try.underlying4 rfl
    (fun ds h => by
      rw [show Try.f6.params.toList.length = 2 by kernel_rfl] at h
      match ds, h with
      | [_, _], _ => rfl)
    laidOut (N := 8) (by kernel_rfl) (by kernel_rfl) D.law6 hval hW
theorem over : Rows.fnLimitedRow.holds Try.pinned (OpenSpec.ofChange Rows.fnLimitedSpec) :=
  OpenClaim.holds_of_wide 6 Try.f6 rfl rfl rfl rfl rfl rfl rfl ⟨rfl, rfl, rfl, rfl, rfl⟩ rfl rfl rfl rfl rfl (by kernel_rfl) Try.func6 (by kernel_rfl)
    (of_decide_eq_true (by kernel_rfl)) (by unfold Func.isWrapper; first | (rw [if_pos (by decide +kernel)]; kernel_rfl) | (rw [if_neg (by decide +kernel)]; exact ⟨rfl, rfl⟩))
    (fun os started H enc _ => lifted os started H enc)
theorem proved : Rows.FnLimitedSaid := over
#print axioms proved
end Go.Proofs.Ytjkhhalnlodinaa.fnLimited
namespace Go.Proofs.Ytjkhhalnlodinaa
/-- The row, under a short name, for the claim. -/
theorem fnLimited_holds : Rows.FnLimitedSaid := fnLimited.proved
end Go.Proofs.Ytjkhhalnlodinaa
end
