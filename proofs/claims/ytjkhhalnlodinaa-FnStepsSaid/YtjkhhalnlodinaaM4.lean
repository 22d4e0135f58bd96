/- FnSteps holds: for every input the law returns true, and its arguments read as before. -/
import Derived.Test.YtjkhhalnlodinaaChecked
import Derived.Test.YtjkhhalnlodinaaDeskF
import Derived.KernelRfl
import Derived.Test.YtjkhhalnlodinaaRows
import Derived.WalkKit
import Derived.ProofKit
import Derived.OpenShut
import Derived.ShutString
import Derived.ChangeOld
import Derived.Below
import Derived.SizedLaws
set_option linter.all false
section
/- The tables of the reading: types and functions of the translation, with what is kept at each region's beginning (written by a program of this workplace). -/
namespace Go.Proofs.Ytjkhhalnlodinaa.D
open Go Go.Desk
def bodyOf (f : Func) : Code := match f.body with
  | some c => c
  | none => .skip
def tyTab : List (Nat × TD) := [
  (2, ⟨false, 1, 8, [.leaf], [.int .i64 0], .int .i64⟩),
  (3, ⟨false, 1, 8, [.leaf], [.int .i64 0], .int .i64⟩),
  (4, ⟨false, 1, 1, [.leaf], [.bool false], .bool⟩),
  (5, ⟨false, 1, 1, [.leaf], [.int .u8 0], .int .u8⟩),
  (9, ⟨false, 1, 16, [.leaf], [.str []], .str⟩),
  (22, ⟨false, 1, 24, [.sl .own [.leaf]], [.lst 0 []], .slc 5⟩),
  (24, ⟨false, 1, 24, [.sl .own [.leaf]], [.lst 0 []], .slc 29⟩),
  (29, ⟨false, 1, 4, [.leaf], [.flt .f32 0], .flt .f32⟩),
  (34, ⟨false, 1, 8, [.leaf], [.flt .f64 0], .flt .f64⟩),
  (35, ⟨false, 1, 8, [.leaf], [.int .u64 0], .int .u64⟩),
  (36, ⟨false, 1, 24, [.sl .own [.leaf]], [.lst 0 []], .slc 2⟩),
  (120, ⟨false, 1, 8, [.leaf], [.nil], .ptr 176⟩),
  (128, ⟨false, 1, 4, [.leaf], [.int .u32 0], .int .u32⟩),
  (137, ⟨false, 1, 2, [.leaf], [.int .i16 0], .int .i16⟩),
  (138, ⟨false, 1, 2, [.leaf], [.int .u16 0], .int .u16⟩),
  (174, ⟨false, 1, 8, [.leaf], [.int .u64 0], .int .u64⟩),
  (176, ⟨true, 3, 40, [.sl .own [.leaf], .leaf, .leaf], [.lst 0 [], .int .i64 0, .int .u64 0], .st [(0, 22), (1, 3), (2, 174)]⟩)]
noncomputable def c4 : Code := bodyOf Try.f4
noncomputable def c15 : Code := bodyOf Try.f15
noncomputable def c17 : Code := bodyOf Try.f17
noncomputable def c22 : Code := bodyOf Try.f22
noncomputable def c23 : Code := bodyOf Try.f23
noncomputable def c24 : Code := bodyOf Try.f24
noncomputable def c25 : Code := bodyOf Try.f25
noncomputable def c26 : Code := bodyOf Try.f26
noncomputable def c27 : Code := bodyOf Try.f27
noncomputable def c90 : Code := bodyOf Try.f90
noncomputable def c91 : Code := bodyOf Try.f91
noncomputable def c92 : Code := bodyOf Try.f92
noncomputable def c93 : Code := bodyOf Try.f93
noncomputable def c97 : Code := bodyOf Try.f97
noncomputable def c98 : Code := bodyOf Try.f98
noncomputable def c99 : Code := bodyOf Try.f99
noncomputable def c100 : Code := bodyOf Try.f100
noncomputable def c101 : Code := bodyOf Try.f101
noncomputable def c102 : Code := bodyOf Try.f102
noncomputable def c103 : Code := bodyOf Try.f103
noncomputable def c112 : Code := bodyOf Try.f112
noncomputable def c116 : Code := bodyOf Try.f116
noncomputable def c158 : Code := bodyOf Try.f158
noncomputable def c163 : Code := bodyOf Try.f163
noncomputable def c167 : Code := bodyOf Try.f167
noncomputable def c168 : Code := bodyOf Try.f168
noncomputable def fnTab : List (Nat × FD) := [
  (4, .code c4 [.val, .val] [] [(4, none)] [(0, [0, 1]), (1, [0, 1]), (2, []), (3, [0, 1]), (4, [1, 5]), (5, [1, 5, 6]), (6, [5, 6, 7]), (7, [5, 6, 7, 8, 9]), (8, [5, 6, 7, 8, 9, 10, 11]), (9, [5, 6, 7, 8, 9, 10, 11, 12, 13]), (10, [6, 7, 8, 9, 10, 11, 12, 13, 14, 15]), (11, []), (12, [6, 7, 8, 12, 14]), (13, [6, 7, 8, 12, 14, 16]), (14, [6, 7, 8, 12, 14, 16, 17]), (15, [6, 7, 8, 12, 14, 16, 17]), (16, [6, 7, 8, 12, 14, 16, 17]), (17, []), (18, [6, 7, 8, 12, 14, 16, 17]), (19, [6, 7, 8, 12, 14, 16, 17]), (20, [6, 7, 8, 12, 14, 16, 17]), (21, [6, 7, 8, 12, 14, 16, 17, 18]), (22, [6, 7, 8, 12, 14, 16, 17, 18, 19]), (23, []), (24, [6, 7, 8, 12, 14, 16, 17]), (25, [6, 7, 8, 12, 14, 16, 17, 20]), (26, [6, 7, 8, 12, 14, 16, 17, 20]), (27, [6, 7, 8, 12, 14, 16, 17, 20]), (28, []), (29, [7, 14, 16]), (30, [7, 14, 16, 21, 22]), (31, [7, 14, 16, 21, 22, 23, 24]), (32, [7, 14, 16, 21, 22, 23, 24, 25, 26]), (33, []), (34, [21, 25]), (35, [21, 25, 27]), (36, [21, 25, 27]), (37, [21, 25, 27]), (38, []), (39, []), (1000014, [4, 7, 14, 16]), (1000025, [4, 6, 7, 8, 12, 14, 16, 17]), (1000035, [4])]),
  (15, .code c15 [.val, .val] [] [(4, none)] [(0, [0, 1]), (1, [0, 1])]),
  (17, .code c17 [.val, .val, .val] [] [(6, none)] [(0, [0, 1, 2]), (1, [0, 1, 2]), (2, []), (3, [0, 1, 2])]),
  (22, .code c22 [.val, .val] [] [(4, none)] [(0, [0, 1]), (1, [0, 1]), (2, [1, 5]), (3, [5, 6])]),
  (23, .code c23 [.val, .val] [] [(4, none), (5, none)] [(0, [0, 1]), (1, [0, 1]), (2, []), (3, [0, 1]), (4, [0, 1, 6]), (5, [0, 1, 6, 17, 18, 19]), (6, [0, 1, 6, 17, 18, 19]), (7, [0, 1, 6, 8, 17, 18, 19]), (8, [0, 1, 6, 17, 18, 19]), (9, [6]), (1000005, [6])]),
  (24, .code c24 [.val, .val] [] [(4, none), (5, none)] [(0, [0, 1]), (1, [0, 1]), (2, []), (3, [0, 1]), (4, [0, 1, 6]), (5, [0, 1, 6, 13, 14, 15]), (6, [0, 1, 6, 13, 14, 15]), (7, [0, 1, 6, 8, 13, 14, 15]), (8, [0, 1, 6, 13, 14, 15]), (9, [6]), (1000005, [6])]),
  (25, .code c25 [.val, .val] [] [(4, none), (5, none)] [(0, [0, 1]), (1, [0, 1]), (2, []), (3, [0, 1]), (4, [1, 6]), (5, [1, 6, 7]), (6, [1, 6, 7, 17, 18, 19]), (7, [1, 6, 7, 17, 18, 19]), (8, [1, 6, 7, 9, 17, 18, 19]), (9, [1, 6, 7, 17, 18, 19]), (10, [1, 6, 7, 17, 18, 19]), (11, [7]), (1000006, [7])]),
  (26, .code c26 [.val] [] [(2, none), (3, none)] [(0, [0]), (1, [0]), (2, []), (3, [0]), (4, [0, 4]), (5, [0, 4, 10, 11, 12]), (6, [0, 4, 10, 11, 12]), (7, [0, 4, 6, 10, 11, 12]), (8, [0, 4, 10, 11, 12]), (9, [4]), (1000005, [4])]),
  (27, .code c27 [.val] [] [(2, none), (3, none)] [(0, [0]), (1, [0]), (2, []), (3, [0]), (4, [0, 4]), (5, [0, 4, 5]), (6, [0, 4, 5]), (7, [0, 4, 5]), (8, [4]), (1000005, [4])]),
  (90, .code c90 [.val] [] [(2, none)] [(0, [0]), (1, [0])]),
  (91, .code c91 [.iop] [0] [(2, none)] [(0, [0]), (1, [0]), (2, [0, 3]), (3, [0, 3]), (4, [0, 3])]),
  (92, .code c92 [.val] [] [(2, none)] [(0, [0]), (1, [0])]),
  (93, .code c93 [.val, .val, .val] [] [(6, none)] [(0, [0, 1, 2]), (1, [0, 1, 2])]),
  (97, .code c97 [.iop, .val] [0] [(4, none)] [(0, [0, 1]), (1, [0, 1]), (2, [0]), (3, [0, 1]), (4, [0, 1, 5]), (5, [0, 1, 5]), (6, [0, 1, 5])]),
  (98, .code c98 [.iop, .val] [0] [(4, none)] [(0, [0, 1]), (1, [0, 1]), (2, [0, 1, 5]), (3, [0, 1, 5, 6]), (4, [0, 1, 5, 6]), (5, [0, 1, 5, 6]), (6, [0, 1, 5, 6]), (7, [0, 1, 5, 6]), (8, [0, 5]), (1000003, [0, 5])]),
  (99, .code c99 [.val] [] [(2, none)] [(0, [0]), (1, [0])]),
  (100, .code c100 [.val, .val] [] [(4, none)] [(0, [0, 1]), (1, [0, 1]), (2, [1, 5]), (3, []), (4, [1, 5])]),
  (101, .code c101 [.val, .val] [] [(4, none)] [(0, [0, 1]), (1, [0, 1])]),
  (102, .code c102 [.val, .val] [] [(4, none)] [(0, [0, 1]), (1, [0, 1]), (2, []), (3, [0, 1]), (4, [1, 5])]),
  (103, .code c103 [.val, .val] [] [(4, none)] [(0, [0, 1]), (1, [0, 1])]),
  (112, .code c112 [.iop] [0] [(2, none)] [(0, [0]), (1, [0]), (2, [0]), (3, [0]), (4, [0, 10]), (5, [0]), (6, [0, 10]), (7, [0]), (8, [0, 3]), (9, [0, 10]), (10, [0]), (11, [0])]),
  (116, .code c116 [.val, .val, .val] [] [(6, none)] [(0, [0, 1, 2]), (1, [0, 1, 2]), (2, [0, 1, 2, 9, 10, 11]), (3, [0, 1, 2, 9, 10, 11]), (4, [0, 1, 2, 8, 9, 10, 11]), (5, []), (6, [0, 1, 2, 9, 10, 11]), (7, []), (1000002, [6])]),
  (158, .code c158 [.iop, .val] [0] [(4, none)] [(0, [0, 1]), (1, [0, 1])]),
  (163, .code c163 [.iop] [0] [(2, none)] [(0, [0]), (1, [0]), (2, [0, 3]), (3, [0]), (4, [0, 3]), (5, [0, 3]), (6, [0, 3]), (7, [0, 3]), (8, [0])]),
  (164, .ext (pIntegral .even)),
  (167, .code c167 [.val] [] [(2, none)] [(0, [0]), (1, [0])]),
  (168, .code c168 [.iop, .io] [0, 1] [(4, none)] [(0, [0, 1]), (1, [0, 1])]),
  (183, .ext (pF32frombits))]
noncomputable def E : Env := ⟨fun t => lookT tyTab t, lookF fnTab⟩
noncomputable def fdAt (n : Nat) : FD := match lookF fnTab n with
  | some d => d
  | none => .ext fun _ => none
noncomputable def keepAt (n : Nat) : List (Nat × List Nat) := match lookF fnTab n with
  | some d => d.keep
  | none => []
theorem tysOk : TysOk Try.prog E := tysOk_of (l := tyTab) (fun _ => rfl) (by kernel_rfl)
theorem ft4 : FnTab Try.prog E 4 (fdAt 4) := fnTab_code (c := c4) (modes := (fdAt 4).ms) (outs := (fdAt 4).os) (results := (fdAt 4).rs) (keep := (fdAt 4).keep) Try.func4 (by kernel_rfl) (by kernel_rfl) (by kernel_rfl)
theorem ft15 : FnTab Try.prog E 15 (fdAt 15) := fnTab_code (c := c15) (modes := (fdAt 15).ms) (outs := (fdAt 15).os) (results := (fdAt 15).rs) (keep := (fdAt 15).keep) Try.func15 (by kernel_rfl) (by kernel_rfl) (by kernel_rfl)
theorem ft17 : FnTab Try.prog E 17 (fdAt 17) := fnTab_code (c := c17) (modes := (fdAt 17).ms) (outs := (fdAt 17).os) (results := (fdAt 17).rs) (keep := (fdAt 17).keep) Try.func17 (by kernel_rfl) (by kernel_rfl) (by kernel_rfl)
theorem ft22 : FnTab Try.prog E 22 (fdAt 22) := fnTab_code (c := c22) (modes := (fdAt 22).ms) (outs := (fdAt 22).os) (results := (fdAt 22).rs) (keep := (fdAt 22).keep) Try.func22 (by kernel_rfl) (by kernel_rfl) (by kernel_rfl)
theorem ft23 : FnTab Try.prog E 23 (fdAt 23) := fnTab_code (c := c23) (modes := (fdAt 23).ms) (outs := (fdAt 23).os) (results := (fdAt 23).rs) (keep := (fdAt 23).keep) Try.func23 (by kernel_rfl) (by kernel_rfl) (by kernel_rfl)
theorem ft24 : FnTab Try.prog E 24 (fdAt 24) := fnTab_code (c := c24) (modes := (fdAt 24).ms) (outs := (fdAt 24).os) (results := (fdAt 24).rs) (keep := (fdAt 24).keep) Try.func24 (by kernel_rfl) (by kernel_rfl) (by kernel_rfl)
theorem ft25 : FnTab Try.prog E 25 (fdAt 25) := fnTab_code (c := c25) (modes := (fdAt 25).ms) (outs := (fdAt 25).os) (results := (fdAt 25).rs) (keep := (fdAt 25).keep) Try.func25 (by kernel_rfl) (by kernel_rfl) (by kernel_rfl)
theorem ft26 : FnTab Try.prog E 26 (fdAt 26) := fnTab_code (c := c26) (modes := (fdAt 26).ms) (outs := (fdAt 26).os) (results := (fdAt 26).rs) (keep := (fdAt 26).keep) Try.func26 (by kernel_rfl) (by kernel_rfl) (by kernel_rfl)
theorem ft27 : FnTab Try.prog E 27 (fdAt 27) := fnTab_code (c := c27) (modes := (fdAt 27).ms) (outs := (fdAt 27).os) (results := (fdAt 27).rs) (keep := (fdAt 27).keep) Try.func27 (by kernel_rfl) (by kernel_rfl) (by kernel_rfl)
theorem ft90 : FnTab Try.prog E 90 (fdAt 90) := fnTab_code (c := c90) (modes := (fdAt 90).ms) (outs := (fdAt 90).os) (results := (fdAt 90).rs) (keep := (fdAt 90).keep) Try.func90 (by kernel_rfl) (by kernel_rfl) (by kernel_rfl)
theorem ft91 : FnTab Try.prog E 91 (fdAt 91) := fnTab_code (c := c91) (modes := (fdAt 91).ms) (outs := (fdAt 91).os) (results := (fdAt 91).rs) (keep := (fdAt 91).keep) Try.func91 (by kernel_rfl) (by kernel_rfl) (by kernel_rfl)
theorem ft92 : FnTab Try.prog E 92 (fdAt 92) := fnTab_code (c := c92) (modes := (fdAt 92).ms) (outs := (fdAt 92).os) (results := (fdAt 92).rs) (keep := (fdAt 92).keep) Try.func92 (by kernel_rfl) (by kernel_rfl) (by kernel_rfl)
theorem ft93 : FnTab Try.prog E 93 (fdAt 93) := fnTab_code (c := c93) (modes := (fdAt 93).ms) (outs := (fdAt 93).os) (results := (fdAt 93).rs) (keep := (fdAt 93).keep) Try.func93 (by kernel_rfl) (by kernel_rfl) (by kernel_rfl)
theorem ft97 : FnTab Try.prog E 97 (fdAt 97) := fnTab_code (c := c97) (modes := (fdAt 97).ms) (outs := (fdAt 97).os) (results := (fdAt 97).rs) (keep := (fdAt 97).keep) Try.func97 (by kernel_rfl) (by kernel_rfl) (by kernel_rfl)
theorem ft98 : FnTab Try.prog E 98 (fdAt 98) := fnTab_code (c := c98) (modes := (fdAt 98).ms) (outs := (fdAt 98).os) (results := (fdAt 98).rs) (keep := (fdAt 98).keep) Try.func98 (by kernel_rfl) (by kernel_rfl) (by kernel_rfl)
theorem ft99 : FnTab Try.prog E 99 (fdAt 99) := fnTab_code (c := c99) (modes := (fdAt 99).ms) (outs := (fdAt 99).os) (results := (fdAt 99).rs) (keep := (fdAt 99).keep) Try.func99 (by kernel_rfl) (by kernel_rfl) (by kernel_rfl)
theorem ft100 : FnTab Try.prog E 100 (fdAt 100) := fnTab_code (c := c100) (modes := (fdAt 100).ms) (outs := (fdAt 100).os) (results := (fdAt 100).rs) (keep := (fdAt 100).keep) Try.func100 (by kernel_rfl) (by kernel_rfl) (by kernel_rfl)
theorem ft101 : FnTab Try.prog E 101 (fdAt 101) := fnTab_code (c := c101) (modes := (fdAt 101).ms) (outs := (fdAt 101).os) (results := (fdAt 101).rs) (keep := (fdAt 101).keep) Try.func101 (by kernel_rfl) (by kernel_rfl) (by kernel_rfl)
theorem ft102 : FnTab Try.prog E 102 (fdAt 102) := fnTab_code (c := c102) (modes := (fdAt 102).ms) (outs := (fdAt 102).os) (results := (fdAt 102).rs) (keep := (fdAt 102).keep) Try.func102 (by kernel_rfl) (by kernel_rfl) (by kernel_rfl)
theorem ft103 : FnTab Try.prog E 103 (fdAt 103) := fnTab_code (c := c103) (modes := (fdAt 103).ms) (outs := (fdAt 103).os) (results := (fdAt 103).rs) (keep := (fdAt 103).keep) Try.func103 (by kernel_rfl) (by kernel_rfl) (by kernel_rfl)
theorem ft112 : FnTab Try.prog E 112 (fdAt 112) := fnTab_code (c := c112) (modes := (fdAt 112).ms) (outs := (fdAt 112).os) (results := (fdAt 112).rs) (keep := (fdAt 112).keep) Try.func112 (by kernel_rfl) (by kernel_rfl) (by kernel_rfl)
theorem ft116 : FnTab Try.prog E 116 (fdAt 116) := fnTab_code (c := c116) (modes := (fdAt 116).ms) (outs := (fdAt 116).os) (results := (fdAt 116).rs) (keep := (fdAt 116).keep) Try.func116 (by kernel_rfl) (by kernel_rfl) (by kernel_rfl)
theorem ft158 : FnTab Try.prog E 158 (fdAt 158) := fnTab_code (c := c158) (modes := (fdAt 158).ms) (outs := (fdAt 158).os) (results := (fdAt 158).rs) (keep := (fdAt 158).keep) Try.func158 (by kernel_rfl) (by kernel_rfl) (by kernel_rfl)
theorem ft163 : FnTab Try.prog E 163 (fdAt 163) := fnTab_code (c := c163) (modes := (fdAt 163).ms) (outs := (fdAt 163).os) (results := (fdAt 163).rs) (keep := (fdAt 163).keep) Try.func163 (by kernel_rfl) (by kernel_rfl) (by kernel_rfl)
theorem ft164 : FnTab Try.prog E 164 (.ext (pIntegral .even)) := ext_pIntegral_even Try.func164 (by kernel_rfl) (by kernel_rfl) (by kernel_rfl) (by kernel_rfl)
theorem ft167 : FnTab Try.prog E 167 (fdAt 167) := fnTab_code (c := c167) (modes := (fdAt 167).ms) (outs := (fdAt 167).os) (results := (fdAt 167).rs) (keep := (fdAt 167).keep) Try.func167 (by kernel_rfl) (by kernel_rfl) (by kernel_rfl)
theorem ft168 : FnTab Try.prog E 168 (fdAt 168) := fnTab_code (c := c168) (modes := (fdAt 168).ms) (outs := (fdAt 168).os) (results := (fdAt 168).rs) (keep := (fdAt 168).keep) Try.func168 (by kernel_rfl) (by kernel_rfl) (by kernel_rfl)
theorem ft183 : FnTab Try.prog E 183 (.ext (pF32frombits)) := ext_pF32frombits Try.func183 (by kernel_rfl) (by kernel_rfl) (by kernel_rfl) (by kernel_rfl)
theorem allFns : AllFns Try.prog E fnTab := .cons ft4 (.cons ft15 (.cons ft17 (.cons ft22 (.cons ft23 (.cons ft24 (.cons ft25 (.cons ft26 (.cons ft27 (.cons ft90 (.cons ft91 (.cons ft92 (.cons ft93 (.cons ft97 (.cons ft98 (.cons ft99 (.cons ft100 (.cons ft101 (.cons ft102 (.cons ft103 (.cons ft112 (.cons ft116 (.cons ft158 (.cons ft163 (.cons ft164 (.cons ft167 (.cons ft168 (.cons ft183 (.nil))))))))))))))))))))))))))))
theorem fnOk : ∀ f fd, E.fn f = some fd → FnTab Try.prog E f fd := fnTab_of (l := fnTab) (fun _ => rfl) allFns
end Go.Proofs.Ytjkhhalnlodinaa.D
end
section
/- Plain functions for the law's Go functions, each tied to the reading by the kernel (printed by a program of this workplace). -/
namespace Go.Proofs.Ytjkhhalnlodinaa.D
open Go Go.Desk
set_option linter.unusedVariables false
noncomputable def x183.w : FnW E := xF32frombits.w 183 (by kernel_rfl)

noncomputable def x164.w : FnW E := xIntegral_even.w 164 (by kernel_rfl)

def f15_l_r8Long : Nat → Nat → List T → Nat → List T → Option (Bool)
  | 0, _, _, _, _ => none
  | n + 1, n1, l2, n3, l4 =>
    br (decide (((n1 : Nat) : Int) > (48 : Int))) (
     some true) (
     some (decide (((n3 : Nat) : Int) > (48 : Int))))
def sg_ll : Sig (Nat × List T × Nat × List T) where
  pk := fun v => [.lst v.1 v.2.1, .lst v.2.2.1 v.2.2.2]
  up := fun ls => match ls with
    | [.lst a0 a1, .lst a2 a3] => some (a0, a1, a2, a3)
    | _ => none
  ok := by
    intro ls v h
    split at h
    · cases h; rfl
    · cases h

def sg_b : Sig (Bool) where
  pk := fun v => [.bool v]
  up := fun ls => match ls with
    | [.bool a0] => some a0
    | _ => none
  ok := by
    intro ls v h
    split at h
    · cases h; rfl
    · cases h

def f15_l_r8Long.P : List Arg := [⟨.val, ⟨false, [.sl .shr [.leaf]], [.lst 0 []]⟩⟩, ⟨.val, ⟨false, [.sl .shr [.leaf]], [.lst 0 []]⟩⟩]
def f15_l_r8Long.A : RAlt (Bool) := .one ⟨[⟨false, [.leaf], [.bool false]⟩], [none, none]⟩ sg_b
def f15_l_r8Long.F (n : Nat) (v : Nat × List T × Nat × List T) := f15_l_r8Long n v.1 v.2.1 v.2.2.1 v.2.2.2
noncomputable def f15_l_r8Long.O (n : Nat) : Orc := orcOf (E := E) [] [] n
theorem f15_l_r8Long.ok : ∀ n v x, f15_l_r8Long.F n v = some x → evalFn E n 15 (flAs f15_l_r8Long.P (sg_ll.pk v)) = some (f15_l_r8Long.A.enc x) :=
  fn_pure (modes := (fdAt 15).ms) (outs := (fdAt 15).os) (results := (fdAt 15).rs) f15_l_r8Long.O (c := c15) (keep := keepAt 15) (by kernel_rfl) (fun n => orcOf_cf _ _ n) (fun n => lpOk_of (bs := []) (by kernel_rfl) .nil) (fun _ => rfl) (fun _ _ => by kernel_rfl)
noncomputable def f15_l_r8Long.w : FnW E := fnW 15 f15_l_r8Long.P sg_ll f15_l_r8Long.A f15_l_r8Long.F f15_l_r8Long.ok

def f17_l_r8At : Nat → Nat → List T → Int → Int → Option (Int)
  | 0, _, _, _, _ => none
  | n + 1, n1, l2, i3, i4 =>
    br (decide (i4 ≤ (1 : Int))) (
     some (0 : Int)) (
     br (decide (i3 ≥ ((n1 : Nat) : Int))) (
      some (0 : Int)) (
      gd ((decide (((0 : Int) ≤ i3) ∧ (i3 < ((n1 : Nat) : Int)))) && (okAt [(CK.int IntKind.u8)] l2 (Int.toNat i3))) (
      gd (!(decide (i4 = (0 : Int)))) (
      some (Int.tmod (IntKind.i64.wrap (iAt l2 (Int.toNat i3))) i4)))))
def sg_lii : Sig (Nat × List T × Int × Int) where
  pk := fun v => [.lst v.1 v.2.1, .int v.2.2.1, .int v.2.2.2]
  up := fun ls => match ls with
    | [.lst a0 a1, .int a2, .int a3] => some (a0, a1, a2, a3)
    | _ => none
  ok := by
    intro ls v h
    split at h
    · cases h; rfl
    · cases h

def sg_i : Sig (Int) where
  pk := fun v => [.int v]
  up := fun ls => match ls with
    | [.int a0] => some a0
    | _ => none
  ok := by
    intro ls v h
    split at h
    · cases h; rfl
    · cases h

def f17_l_r8At.P : List Arg := [⟨.val, ⟨false, [.sl .shr [.leaf]], [.lst 0 []]⟩⟩, ⟨.val, ⟨false, [.leaf], [.int .i64 0]⟩⟩, ⟨.val, ⟨false, [.leaf], [.int .i64 0]⟩⟩]
def f17_l_r8At.A : RAlt (Int) := .one ⟨[⟨false, [.leaf], [.int .i64 0]⟩], [none, none, none]⟩ sg_i
def f17_l_r8At.F (n : Nat) (v : Nat × List T × Int × Int) := f17_l_r8At n v.1 v.2.1 v.2.2.1 v.2.2.2
noncomputable def f17_l_r8At.O (n : Nat) : Orc := orcOf (E := E) [] [] n
theorem f17_l_r8At.ok : ∀ n v x, f17_l_r8At.F n v = some x → evalFn E n 17 (flAs f17_l_r8At.P (sg_lii.pk v)) = some (f17_l_r8At.A.enc x) :=
  fn_pure (modes := (fdAt 17).ms) (outs := (fdAt 17).os) (results := (fdAt 17).rs) f17_l_r8At.O (c := c17) (keep := keepAt 17) (by kernel_rfl) (fun n => orcOf_cf _ _ n) (fun n => lpOk_of (bs := []) (by kernel_rfl) .nil) (fun _ => rfl) (fun _ _ => by kernel_rfl)
noncomputable def f17_l_r8At.w : FnW E := fnW 17 f17_l_r8At.P sg_lii f17_l_r8At.A f17_l_r8At.F f17_l_r8At.ok

def f90_s_l00From : Nat → Nat → List T → Option (Nat × List T × Int × Int)
  | 0, _, _ => none
  | n + 1, n1, l2 =>
    some (n1, l2, (0 : Int), (0 : Int))
def sg_l : Sig (Nat × List T) where
  pk := fun v => [.lst v.1 v.2]
  up := fun ls => match ls with
    | [.lst a0 a1] => some (a0, a1)
    | _ => none
  ok := by
    intro ls v h
    split at h
    · cases h; rfl
    · cases h

def f90_s_l00From.P : List Arg := [⟨.val, ⟨false, [.sl .shr [.leaf]], [.lst 0 []]⟩⟩]
def f90_s_l00From.A : RAlt (Nat × List T × Int × Int) := .one ⟨[⟨false, [.rf .own [.sl .shr [.leaf], .leaf, .leaf]], [.ref [.lst 0 [], .int .i64 0, .int .u64 0]]⟩], [none]⟩ sg_lii
def f90_s_l00From.F (n : Nat) (v : Nat × List T) := f90_s_l00From n v.1 v.2
noncomputable def f90_s_l00From.O (n : Nat) : Orc := orcOf (E := E) [] [] n
theorem f90_s_l00From.ok : ∀ n v x, f90_s_l00From.F n v = some x → evalFn E n 90 (flAs f90_s_l00From.P (sg_l.pk v)) = some (f90_s_l00From.A.enc x) :=
  fn_pure (modes := (fdAt 90).ms) (outs := (fdAt 90).os) (results := (fdAt 90).rs) f90_s_l00From.O (c := c90) (keep := keepAt 90) (by kernel_rfl) (fun n => orcOf_cf _ _ n) (fun n => lpOk_of (bs := []) (by kernel_rfl) .nil) (fun _ => rfl) (fun _ _ => by kernel_rfl)
noncomputable def f90_s_l00From.w : FnW E := fnW 90 f90_s_l00From.P sg_l f90_s_l00From.A f90_s_l00From.F f90_s_l00From.ok

def f163_s_l00Srcnext : Nat → Nat → List T → Int → Int → Option (Int × Nat × List T × Int × Int)
  | 0, _, _, _, _ => none
  | n + 1, n1, l2, i3, i4 =>
    br (decide (i3 < ((n1 : Nat) : Int))) (
     gd ((decide (((0 : Int) ≤ i3) ∧ (i3 < ((n1 : Nat) : Int)))) && (okAt [(CK.int IntKind.u8)] l2 (Int.toNat i3))) (
     let i5 : Int := (IntKind.i64.wrap (iAt l2 (Int.toNat i3)))
     let i6 : Int := (IntKind.i64.wrap (i3 + (1 : Int)))
     let i7 : Int := (IntKind.u64.wrap ((IntKind.u64.wrap ((IntKind.u64.wrap (i4 * (6364136223846793005 : Int))) + (IntKind.u64.wrap i5))) + (1442695040888963407 : Int)))
     br (decide (i6 ≤ ((n1 : Nat) : Int))) (
      some (i5, n1, l2, i6, i7)) (
      some ((IntKind.i64.wrap (intBits BinOp.and IntKind.u64 (Int.fdiv i7 (1099511627776 : Int)) (255 : Int))), n1, l2, i6, i7)))) (
     let i8 : Int := (IntKind.i64.wrap (i3 + (1 : Int)))
     let i9 : Int := (IntKind.u64.wrap ((IntKind.u64.wrap ((IntKind.u64.wrap (i4 * (6364136223846793005 : Int))) + (0 : Int))) + (1442695040888963407 : Int)))
     br (decide (i8 ≤ ((n1 : Nat) : Int))) (
      some ((0 : Int), n1, l2, i8, i9)) (
      some ((IntKind.i64.wrap (intBits BinOp.and IntKind.u64 (Int.fdiv i9 (1099511627776 : Int)) (255 : Int))), n1, l2, i8, i9)))
def sg_ilii : Sig (Int × Nat × List T × Int × Int) where
  pk := fun v => [.int v.1, .lst v.2.1 v.2.2.1, .int v.2.2.2.1, .int v.2.2.2.2]
  up := fun ls => match ls with
    | [.int a0, .lst a1 a2, .int a3, .int a4] => some (a0, a1, a2, a3, a4)
    | _ => none
  ok := by
    intro ls v h
    split at h
    · cases h; rfl
    · cases h

def f163_s_l00Srcnext.P : List Arg := [⟨.iop, ⟨false, [.rf .own [.sl .shr [.leaf], .leaf, .leaf]], [.ref [.lst 0 [], .int .i64 0, .int .u64 0]]⟩⟩]
def f163_s_l00Srcnext.A : RAlt (Int × Nat × List T × Int × Int) := .one ⟨[⟨false, [.leaf], [.int .i64 0]⟩], [some ⟨false, [.rf .own [.sl .shr [.leaf], .leaf, .leaf]], [.ref [.lst 0 [], .int .i64 0, .int .u64 0]]⟩]⟩ sg_ilii
def f163_s_l00Srcnext.F (n : Nat) (v : Nat × List T × Int × Int) := f163_s_l00Srcnext n v.1 v.2.1 v.2.2.1 v.2.2.2
noncomputable def f163_s_l00Srcnext.O (n : Nat) : Orc := orcOf (E := E) [] [] n
theorem f163_s_l00Srcnext.ok : ∀ n v x, f163_s_l00Srcnext.F n v = some x → evalFn E n 163 (flAs f163_s_l00Srcnext.P (sg_lii.pk v)) = some (f163_s_l00Srcnext.A.enc x) :=
  fn_pure (modes := (fdAt 163).ms) (outs := (fdAt 163).os) (results := (fdAt 163).rs) f163_s_l00Srcnext.O (c := c163) (keep := keepAt 163) (by kernel_rfl) (fun n => orcOf_cf _ _ n) (fun n => lpOk_of (bs := []) (by kernel_rfl) .nil) (fun _ => rfl) (fun _ _ => by kernel_rfl)
noncomputable def f163_s_l00Srcnext.w : FnW E := fnW 163 f163_s_l00Srcnext.P sg_lii f163_s_l00Srcnext.A f163_s_l00Srcnext.F f163_s_l00Srcnext.ok

def f97_s_l00Srcpick : Nat → Nat → List T → Int → Int → Int → Option (Int × Nat × List T × Int × Int)
  | 0, _, _, _, _, _ => none
  | n + 1, n1, l2, i3, i4, i5 =>
    br (decide (i5 ≤ (1 : Int))) (
     some ((0 : Int), n1, l2, i3, i4)) (
     bd (f163_s_l00Srcnext n n1 l2 i3 i4) fun r6 =>
     let i7 : Int := r6.1
     let n8 : Nat := r6.2.1
     let l9 : List T := r6.2.2.1
     let i10 : Int := r6.2.2.2.1
     let i11 : Int := r6.2.2.2.2
     br (decide (i5 > (200 : Int))) (
      bd (f163_s_l00Srcnext n n8 l9 i10 i11) fun r12 =>
      let i13 : Int := r12.1
      let n14 : Nat := r12.2.1
      let l15 : List T := r12.2.2.1
      let i16 : Int := r12.2.2.2.1
      let i17 : Int := r12.2.2.2.2
      let i18 : Int := (IntKind.i64.wrap ((IntKind.i64.wrap (i7 * (256 : Int))) + i13))
      gd (!(decide (i5 = (0 : Int)))) (
      some ((Int.tmod i18 i5), n14, l15, i16, i17))) (
      gd (!(decide (i5 = (0 : Int)))) (
      some ((Int.tmod i7 i5), n8, l9, i10, i11))))
def sg_liii : Sig (Nat × List T × Int × Int × Int) where
  pk := fun v => [.lst v.1 v.2.1, .int v.2.2.1, .int v.2.2.2.1, .int v.2.2.2.2]
  up := fun ls => match ls with
    | [.lst a0 a1, .int a2, .int a3, .int a4] => some (a0, a1, a2, a3, a4)
    | _ => none
  ok := by
    intro ls v h
    split at h
    · cases h; rfl
    · cases h

def f97_s_l00Srcpick.P : List Arg := [⟨.iop, ⟨false, [.rf .own [.sl .shr [.leaf], .leaf, .leaf]], [.ref [.lst 0 [], .int .i64 0, .int .u64 0]]⟩⟩, ⟨.val, ⟨false, [.leaf], [.int .i64 0]⟩⟩]
def f97_s_l00Srcpick.A : RAlt (Int × Nat × List T × Int × Int) := .one ⟨[⟨false, [.leaf], [.int .i64 0]⟩], [some ⟨false, [.rf .own [.sl .shr [.leaf], .leaf, .leaf]], [.ref [.lst 0 [], .int .i64 0, .int .u64 0]]⟩, none]⟩ sg_ilii
def f97_s_l00Srcpick.F (n : Nat) (v : Nat × List T × Int × Int × Int) := f97_s_l00Srcpick n v.1 v.2.1 v.2.2.1 v.2.2.2.1 v.2.2.2.2
noncomputable def f97_s_l00Srcpick.O (n : Nat) : Orc := orcOf (E := E) [f163_s_l00Srcnext.w] [] n
theorem f97_s_l00Srcpick.ok : ∀ n v x, f97_s_l00Srcpick.F n v = some x → evalFn E n 97 (flAs f97_s_l00Srcpick.P (sg_liii.pk v)) = some (f97_s_l00Srcpick.A.enc x) :=
  fn_pure (modes := (fdAt 97).ms) (outs := (fdAt 97).os) (results := (fdAt 97).rs) f97_s_l00Srcpick.O (c := c97) (keep := keepAt 97) (by kernel_rfl) (fun n => orcOf_cf _ _ n) (fun n => lpOk_of (bs := []) (by kernel_rfl) .nil) (fun _ => rfl) (fun _ _ => by kernel_rfl)
noncomputable def f97_s_l00Srcpick.w : FnW E := fnW 97 f97_s_l00Srcpick.P sg_liii f97_s_l00Srcpick.A f97_s_l00Srcpick.F f97_s_l00Srcpick.ok

def f158_s_l00Srcone : Nat → Nat → List T → Int → Int → Int → Option (Bool × Nat × List T × Int × Int)
  | 0, _, _, _, _, _ => none
  | n + 1, n1, l2, i3, i4, i5 =>
    bd (f97_s_l00Srcpick n n1 l2 i3 i4 i5) fun r6 =>
    let i7 : Int := r6.1
    let n8 : Nat := r6.2.1
    let l9 : List T := r6.2.2.1
    let i10 : Int := r6.2.2.2.1
    let i11 : Int := r6.2.2.2.2
    some ((i7 == (0 : Int)), n8, l9, i10, i11)
def sg_blii : Sig (Bool × Nat × List T × Int × Int) where
  pk := fun v => [.bool v.1, .lst v.2.1 v.2.2.1, .int v.2.2.2.1, .int v.2.2.2.2]
  up := fun ls => match ls with
    | [.bool a0, .lst a1 a2, .int a3, .int a4] => some (a0, a1, a2, a3, a4)
    | _ => none
  ok := by
    intro ls v h
    split at h
    · cases h; rfl
    · cases h

def f158_s_l00Srcone.P : List Arg := [⟨.iop, ⟨false, [.rf .own [.sl .shr [.leaf], .leaf, .leaf]], [.ref [.lst 0 [], .int .i64 0, .int .u64 0]]⟩⟩, ⟨.val, ⟨false, [.leaf], [.int .i64 0]⟩⟩]
def f158_s_l00Srcone.A : RAlt (Bool × Nat × List T × Int × Int) := .one ⟨[⟨false, [.leaf], [.bool false]⟩], [some ⟨false, [.rf .own [.sl .shr [.leaf], .leaf, .leaf]], [.ref [.lst 0 [], .int .i64 0, .int .u64 0]]⟩, none]⟩ sg_blii
def f158_s_l00Srcone.F (n : Nat) (v : Nat × List T × Int × Int × Int) := f158_s_l00Srcone n v.1 v.2.1 v.2.2.1 v.2.2.2.1 v.2.2.2.2
noncomputable def f158_s_l00Srcone.O (n : Nat) : Orc := orcOf (E := E) [f97_s_l00Srcpick.w] [] n
theorem f158_s_l00Srcone.ok : ∀ n v x, f158_s_l00Srcone.F n v = some x → evalFn E n 158 (flAs f158_s_l00Srcone.P (sg_liii.pk v)) = some (f158_s_l00Srcone.A.enc x) :=
  fn_pure (modes := (fdAt 158).ms) (outs := (fdAt 158).os) (results := (fdAt 158).rs) f158_s_l00Srcone.O (c := c158) (keep := keepAt 158) (by kernel_rfl) (fun n => orcOf_cf _ _ n) (fun n => lpOk_of (bs := []) (by kernel_rfl) .nil) (fun _ => rfl) (fun _ _ => by kernel_rfl)
noncomputable def f158_s_l00Srcone.w : FnW E := fnW 158 f158_s_l00Srcone.P sg_liii f158_s_l00Srcone.A f158_s_l00Srcone.F f158_s_l00Srcone.ok

def f91_s_l01DrawPlain : Nat → Nat → List T → Int → Int → Option (Nat × Nat × List T × Int × Int)
  | 0, _, _, _, _ => none
  | n + 1, n1, l2, i3, i4 =>
    bd (f97_s_l00Srcpick n n1 l2 i3 i4 (129 : Int)) fun r5 =>
    let i6 : Int := r5.1
    let n7 : Nat := r5.2.1
    let l8 : List T := r5.2.2.1
    let i9 : Int := r5.2.2.2.1
    let i10 : Int := r5.2.2.2.2
    let i11 : Int := (IntKind.i64.wrap (i6 - (64 : Int)))
    bd (f158_s_l00Srcone n n7 l8 i9 i10 (4 : Int)) fun r12 =>
    let b13 : Bool := r12.1
    let n14 : Nat := r12.2.1
    let l15 : List T := r12.2.2.1
    let i16 : Int := r12.2.2.2.1
    let i17 : Int := r12.2.2.2.2
    br b13 (
     some ((fdiv FloatKind.f32 (FloatKind.nearest FloatKind.f32 i11) 1088421888), n14, l15, i16, i17)) (
     some ((fdiv FloatKind.f32 (FloatKind.nearest FloatKind.f32 i11) 1098907648), n14, l15, i16, i17))
def sg_flii : Sig (Nat × Nat × List T × Int × Int) where
  pk := fun v => [.flt v.1, .lst v.2.1 v.2.2.1, .int v.2.2.2.1, .int v.2.2.2.2]
  up := fun ls => match ls with
    | [.flt a0, .lst a1 a2, .int a3, .int a4] => some (a0, a1, a2, a3, a4)
    | _ => none
  ok := by
    intro ls v h
    split at h
    · cases h; rfl
    · cases h

def f91_s_l01DrawPlain.P : List Arg := [⟨.iop, ⟨false, [.rf .own [.sl .shr [.leaf], .leaf, .leaf]], [.ref [.lst 0 [], .int .i64 0, .int .u64 0]]⟩⟩]
def f91_s_l01DrawPlain.A : RAlt (Nat × Nat × List T × Int × Int) := .one ⟨[⟨false, [.leaf], [.flt .f32 0]⟩], [some ⟨false, [.rf .own [.sl .shr [.leaf], .leaf, .leaf]], [.ref [.lst 0 [], .int .i64 0, .int .u64 0]]⟩]⟩ sg_flii
def f91_s_l01DrawPlain.F (n : Nat) (v : Nat × List T × Int × Int) := f91_s_l01DrawPlain n v.1 v.2.1 v.2.2.1 v.2.2.2
noncomputable def f91_s_l01DrawPlain.O (n : Nat) : Orc := orcOf (E := E) [f97_s_l00Srcpick.w, f158_s_l00Srcone.w] [] n
theorem f91_s_l01DrawPlain.ok : ∀ n v x, f91_s_l01DrawPlain.F n v = some x → evalFn E n 91 (flAs f91_s_l01DrawPlain.P (sg_lii.pk v)) = some (f91_s_l01DrawPlain.A.enc x) :=
  fn_pure (modes := (fdAt 91).ms) (outs := (fdAt 91).os) (results := (fdAt 91).rs) f91_s_l01DrawPlain.O (c := c91) (keep := keepAt 91) (by kernel_rfl) (fun n => orcOf_cf _ _ n) (fun n => lpOk_of (bs := []) (by kernel_rfl) .nil) (fun _ => rfl) (fun _ _ => by kernel_rfl)
noncomputable def f91_s_l01DrawPlain.w : FnW E := fnW 91 f91_s_l01DrawPlain.P sg_lii f91_s_l01DrawPlain.A f91_s_l01DrawPlain.F f91_s_l01DrawPlain.ok

def f168_s_l00Srcamong : Nat → Nat → List T → Int → Int → Nat → List T → Option (Int × Nat × List T × Int × Int × Nat × List T)
  | 0, _, _, _, _, _, _ => none
  | n + 1, n1, l2, i3, i4, n5, l6 =>
    bd (f97_s_l00Srcpick n n1 l2 i3 i4 ((n5 : Nat) : Int)) fun r7 =>
    let i8 : Int := r7.1
    let n9 : Nat := r7.2.1
    let l10 : List T := r7.2.2.1
    let i11 : Int := r7.2.2.2.1
    let i12 : Int := r7.2.2.2.2
    gd (decide (((0 : Int) ≤ i8) ∧ (i8 < ((n5 : Nat) : Int)))) (
    gd (okAt [(CK.int IntKind.i64)] l6 (Int.toNat i8)) (
    some ((iAt l6 (Int.toNat i8)), n9, l10, i11, i12, n5, l6)))
def sg_liil : Sig (Nat × List T × Int × Int × Nat × List T) where
  pk := fun v => [.lst v.1 v.2.1, .int v.2.2.1, .int v.2.2.2.1, .lst v.2.2.2.2.1 v.2.2.2.2.2]
  up := fun ls => match ls with
    | [.lst a0 a1, .int a2, .int a3, .lst a4 a5] => some (a0, a1, a2, a3, a4, a5)
    | _ => none
  ok := by
    intro ls v h
    split at h
    · cases h; rfl
    · cases h

def sg_iliil : Sig (Int × Nat × List T × Int × Int × Nat × List T) where
  pk := fun v => [.int v.1, .lst v.2.1 v.2.2.1, .int v.2.2.2.1, .int v.2.2.2.2.1, .lst v.2.2.2.2.2.1 v.2.2.2.2.2.2]
  up := fun ls => match ls with
    | [.int a0, .lst a1 a2, .int a3, .int a4, .lst a5 a6] => some (a0, a1, a2, a3, a4, a5, a6)
    | _ => none
  ok := by
    intro ls v h
    split at h
    · cases h; rfl
    · cases h

def f168_s_l00Srcamong.P : List Arg := [⟨.iop, ⟨false, [.rf .own [.sl .shr [.leaf], .leaf, .leaf]], [.ref [.lst 0 [], .int .i64 0, .int .u64 0]]⟩⟩, ⟨.io, ⟨false, [.sl .own [.leaf]], [.lst 0 []]⟩⟩]
def f168_s_l00Srcamong.A : RAlt (Int × Nat × List T × Int × Int × Nat × List T) := .one ⟨[⟨false, [.leaf], [.int .i64 0]⟩], [some ⟨false, [.rf .own [.sl .shr [.leaf], .leaf, .leaf]], [.ref [.lst 0 [], .int .i64 0, .int .u64 0]]⟩, some ⟨false, [.sl .own [.leaf]], [.lst 0 []]⟩]⟩ sg_iliil
def f168_s_l00Srcamong.F (n : Nat) (v : Nat × List T × Int × Int × Nat × List T) := f168_s_l00Srcamong n v.1 v.2.1 v.2.2.1 v.2.2.2.1 v.2.2.2.2.1 v.2.2.2.2.2
noncomputable def f168_s_l00Srcamong.O (n : Nat) : Orc := orcOf (E := E) [f97_s_l00Srcpick.w] [] n
theorem f168_s_l00Srcamong.ok : ∀ n v x, f168_s_l00Srcamong.F n v = some x → evalFn E n 168 (flAs f168_s_l00Srcamong.P (sg_liil.pk v)) = some (f168_s_l00Srcamong.A.enc x) :=
  fn_pure (modes := (fdAt 168).ms) (outs := (fdAt 168).os) (results := (fdAt 168).rs) f168_s_l00Srcamong.O (c := c168) (keep := keepAt 168) (by kernel_rfl) (fun n => orcOf_cf _ _ n) (fun n => lpOk_of (bs := []) (by kernel_rfl) .nil) (fun _ => rfl) (fun _ _ => by kernel_rfl)
noncomputable def f168_s_l00Srcamong.w : FnW E := fnW 168 f168_s_l00Srcamong.P sg_liil f168_s_l00Srcamong.A f168_s_l00Srcamong.F f168_s_l00Srcamong.ok

def f167_s_l01From : Nat → Int → Option (Nat)
  | 0, _ => none
  | n + 1, i1 =>
    bd (xF32frombits n (IntKind.u32.wrap i1)) fun r2 =>
    let x3 : Nat := r2
    some x3
def sg_f : Sig (Nat) where
  pk := fun v => [.flt v]
  up := fun ls => match ls with
    | [.flt a0] => some a0
    | _ => none
  ok := by
    intro ls v h
    split at h
    · cases h; rfl
    · cases h

def f167_s_l01From.P : List Arg := [⟨.val, ⟨false, [.leaf], [.int .i64 0]⟩⟩]
def f167_s_l01From.A : RAlt (Nat) := .one ⟨[⟨false, [.leaf], [.flt .f32 0]⟩], [none]⟩ sg_f
def f167_s_l01From.F (n : Nat) (v : Int) := f167_s_l01From n v
noncomputable def f167_s_l01From.O (n : Nat) : Orc := orcOf (E := E) [x183.w] [] n
theorem f167_s_l01From.ok : ∀ n v x, f167_s_l01From.F n v = some x → evalFn E n 167 (flAs f167_s_l01From.P (sg_i.pk v)) = some (f167_s_l01From.A.enc x) :=
  fn_pure (modes := (fdAt 167).ms) (outs := (fdAt 167).os) (results := (fdAt 167).rs) f167_s_l01From.O (c := c167) (keep := keepAt 167) (by kernel_rfl) (fun n => orcOf_cf _ _ n) (fun n => lpOk_of (bs := []) (by kernel_rfl) .nil) (fun _ => rfl) (fun _ _ => by kernel_rfl)
noncomputable def f167_s_l01From.w : FnW E := fnW 167 f167_s_l01From.P sg_i f167_s_l01From.A f167_s_l01From.F f167_s_l01From.ok

def f112_s_l01DrawFloat : Nat → Nat → List T → Int → Int → Option (Nat × Nat × List T × Int × Int)
  | 0, _, _, _, _ => none
  | n + 1, n1, l2, i3, i4 =>
    bd (f158_s_l00Srcone n n1 l2 i3 i4 (12 : Int)) fun r5 =>
    let b6 : Bool := r5.1
    let n7 : Nat := r5.2.1
    let l8 : List T := r5.2.2.1
    let i9 : Int := r5.2.2.2.1
    let i10 : Int := r5.2.2.2.2
    br (!b6) (
     bd (f91_s_l01DrawPlain n n7 l8 i9 i10) fun r11 =>
     let x12 : Nat := r11.1
     let n13 : Nat := r11.2.1
     let l14 : List T := r11.2.2.1
     let i15 : Int := r11.2.2.2.1
     let i16 : Int := r11.2.2.2.2
     some (x12, n13, l14, i15, i16)) (
     bd (f97_s_l00Srcpick n n7 l8 i9 i10 (4 : Int)) fun r17 =>
     let i18 : Int := r17.1
     let n19 : Nat := r17.2.1
     let l20 : List T := r17.2.2.1
     let i21 : Int := r17.2.2.2.1
     let i22 : Int := r17.2.2.2.2
     br (i18 == (0 : Int)) (
      bd (f168_s_l00Srcamong n n19 l20 i21 i22 10 (setN (setN (setN (setN (setN (setN (setN (setN (setN (setN (reps 10 [(T.int IntKind.i64 (0 : Int))]) 0 [(T.int IntKind.i64 (0 : Int))]) 1 [(T.int IntKind.i64 (2147483648 : Int))]) 2 [(T.int IntKind.i64 (2139095040 : Int))]) 3 [(T.int IntKind.i64 (4286578688 : Int))]) 4 [(T.int IntKind.i64 (2143289344 : Int))]) 5 [(T.int IntKind.i64 (1 : Int))]) 6 [(T.int IntKind.i64 (2139095039 : Int))]) 7 [(T.int IntKind.i64 (8388608 : Int))]) 8 [(T.int IntKind.i64 (8388607 : Int))]) 9 [(T.int IntKind.i64 (2147483649 : Int))])) fun r23 =>
      let i24 : Int := r23.1
      let n25 : Nat := r23.2.1
      let l26 : List T := r23.2.2.1
      let i27 : Int := r23.2.2.2.1
      let i28 : Int := r23.2.2.2.2.1
      let n29 : Nat := r23.2.2.2.2.2.1
      let l30 : List T := r23.2.2.2.2.2.2
      bd (f167_s_l01From n i24) fun r31 =>
      let x32 : Nat := r31
      some (x32, n25, l26, i27, i28)) (
      br (i18 == (1 : Int)) (
       bd (f97_s_l00Srcpick n n19 l20 i21 i22 (65536 : Int)) fun r33 =>
       let i34 : Int := r33.1
       let n35 : Nat := r33.2.1
       let l36 : List T := r33.2.2.1
       let i37 : Int := r33.2.2.2.1
       let i38 : Int := r33.2.2.2.2
       let i39 : Int := (IntKind.i64.wrap (i34 * (65536 : Int)))
       bd (f97_s_l00Srcpick n n35 l36 i37 i38 (65536 : Int)) fun r40 =>
       let i41 : Int := r40.1
       let n42 : Nat := r40.2.1
       let l43 : List T := r40.2.2.1
       let i44 : Int := r40.2.2.2.1
       let i45 : Int := r40.2.2.2.2
       bd (f167_s_l01From n (IntKind.i64.wrap (i39 + i41))) fun r46 =>
       let x47 : Nat := r46
       some (x47, n42, l43, i44, i45)) (
       br (i18 == (2 : Int)) (
        bd (f97_s_l00Srcpick n n19 l20 i21 i22 (65536 : Int)) fun r48 =>
        let i49 : Int := r48.1
        let n50 : Nat := r48.2.1
        let l51 : List T := r48.2.2.1
        let i52 : Int := r48.2.2.2.1
        let i53 : Int := r48.2.2.2.2
        bd (f167_s_l01From n (IntKind.i64.wrap (i49 * (65536 : Int)))) fun r54 =>
        let x55 : Nat := r54
        some (x55, n50, l51, i52, i53)) (
        bd (f91_s_l01DrawPlain n n19 l20 i21 i22) fun r56 =>
        let x57 : Nat := r56.1
        let n58 : Nat := r56.2.1
        let l59 : List T := r56.2.2.1
        let i60 : Int := r56.2.2.2.1
        let i61 : Int := r56.2.2.2.2
        bd (f168_s_l00Srcamong n n58 l59 i60 i61 4 (setN (setN (setN (setN (reps 4 [(T.int IntKind.i64 (0 : Int))]) 0 [(T.int IntKind.i64 (8388608 : Int))]) 1 [(T.int IntKind.i64 (2130706432 : Int))]) 2 [(T.int IntKind.i64 (1610612736 : Int))]) 3 [(T.int IntKind.i64 (536870912 : Int))])) fun r62 =>
        let i63 : Int := r62.1
        let n64 : Nat := r62.2.1
        let l65 : List T := r62.2.2.1
        let i66 : Int := r62.2.2.2.1
        let i67 : Int := r62.2.2.2.2.1
        let n68 : Nat := r62.2.2.2.2.2.1
        let l69 : List T := r62.2.2.2.2.2.2
        bd (f167_s_l01From n i63) fun r70 =>
        let x71 : Nat := r70
        some ((fmul FloatKind.f32 x57 x71), n64, l65, i66, i67)))))
def f112_s_l01DrawFloat.P : List Arg := [⟨.iop, ⟨false, [.rf .own [.sl .shr [.leaf], .leaf, .leaf]], [.ref [.lst 0 [], .int .i64 0, .int .u64 0]]⟩⟩]
def f112_s_l01DrawFloat.A : RAlt (Nat × Nat × List T × Int × Int) := .one ⟨[⟨false, [.leaf], [.flt .f32 0]⟩], [some ⟨false, [.rf .own [.sl .shr [.leaf], .leaf, .leaf]], [.ref [.lst 0 [], .int .i64 0, .int .u64 0]]⟩]⟩ sg_flii
def f112_s_l01DrawFloat.F (n : Nat) (v : Nat × List T × Int × Int) := f112_s_l01DrawFloat n v.1 v.2.1 v.2.2.1 v.2.2.2
noncomputable def f112_s_l01DrawFloat.O (n : Nat) : Orc := orcOf (E := E) [f97_s_l00Srcpick.w, f158_s_l00Srcone.w, f91_s_l01DrawPlain.w, f168_s_l00Srcamong.w, f167_s_l01From.w] [] n
theorem f112_s_l01DrawFloat.ok : ∀ n v x, f112_s_l01DrawFloat.F n v = some x → evalFn E n 112 (flAs f112_s_l01DrawFloat.P (sg_lii.pk v)) = some (f112_s_l01DrawFloat.A.enc x) :=
  fn_pure (modes := (fdAt 112).ms) (outs := (fdAt 112).os) (results := (fdAt 112).rs) f112_s_l01DrawFloat.O (c := c112) (keep := keepAt 112) (by kernel_rfl) (fun n => orcOf_cf _ _ n) (fun n => lpOk_of (bs := []) (by kernel_rfl) .nil) (fun _ => rfl) (fun _ _ => by kernel_rfl)
noncomputable def f112_s_l01DrawFloat.w : FnW E := fnW 112 f112_s_l01DrawFloat.P sg_lii f112_s_l01DrawFloat.A f112_s_l01DrawFloat.F f112_s_l01DrawFloat.ok

def f98_s_l01DrawFloats.l0 (n : Nat) : Nat → Nat → List T → Int → Int → Int → Nat → List T → Bool → Option (Nat × List T × Int × Int × Nat × List T)
  | 0, _, _, _, _, _, _, _, _ => none
  | m + 1, n1, l2, i3, i4, i5, n6, l7, b8 =>
    br (decide (i5 > (0 : Int))) (
     br b8 (
      bd (f112_s_l01DrawFloat n n1 l2 i3 i4) fun r9 =>
      let x10 : Nat := r9.1
      let n11 : Nat := r9.2.1
      let l12 : List T := r9.2.2.1
      let i13 : Int := r9.2.2.2.1
      let i14 : Int := r9.2.2.2.2
      gd (Nat.ble (n6 + 1) 2147483648) (
      let n15 : Nat := (n6 + 1)
      let l16 : List T := (l7 ++ (setN (reps 1 [(T.flt FloatKind.f32 0)]) 0 [(T.flt FloatKind.f32 x10)]))
      f98_s_l01DrawFloats.l0 n m n11 l12 i13 i14 (IntKind.i64.wrap (i5 - (1 : Int))) n15 l16 b8)) (
      bd (f91_s_l01DrawPlain n n1 l2 i3 i4) fun r17 =>
      let x18 : Nat := r17.1
      let n19 : Nat := r17.2.1
      let l20 : List T := r17.2.2.1
      let i21 : Int := r17.2.2.2.1
      let i22 : Int := r17.2.2.2.2
      gd (Nat.ble (n6 + 1) 2147483648) (
      let n23 : Nat := (n6 + 1)
      let l24 : List T := (l7 ++ (setN (reps 1 [(T.flt FloatKind.f32 0)]) 0 [(T.flt FloatKind.f32 x18)]))
      f98_s_l01DrawFloats.l0 n m n19 l20 i21 i22 (IntKind.i64.wrap (i5 - (1 : Int))) n23 l24 b8))) (
     some (n1, l2, i3, i4, n6, l7))
def f98_s_l01DrawFloats : Nat → Nat → List T → Int → Int → Int → Option (Nat × List T × Nat × List T × Int × Int)
  | 0, _, _, _, _, _ => none
  | n + 1, n1, l2, i3, i4, i5 =>
    bd (f158_s_l00Srcone n n1 l2 i3 i4 (4 : Int)) fun r6 =>
    let b7 : Bool := r6.1
    let n8 : Nat := r6.2.1
    let l9 : List T := r6.2.2.1
    let i10 : Int := r6.2.2.2.1
    let i11 : Int := r6.2.2.2.2
    bd (f98_s_l01DrawFloats.l0 n n n8 l9 i10 i11 i5 0 (reps 0 [(T.flt FloatKind.f32 0)]) b7) fun r12 =>
    let n13 : Nat := r12.1
    let l14 : List T := r12.2.1
    let i15 : Int := r12.2.2.1
    let i16 : Int := r12.2.2.2.1
    let n17 : Nat := r12.2.2.2.2.1
    let l18 : List T := r12.2.2.2.2.2
    some (n17, l18, n13, l14, i15, i16)
def sg_llii : Sig (Nat × List T × Nat × List T × Int × Int) where
  pk := fun v => [.lst v.1 v.2.1, .lst v.2.2.1 v.2.2.2.1, .int v.2.2.2.2.1, .int v.2.2.2.2.2]
  up := fun ls => match ls with
    | [.lst a0 a1, .lst a2 a3, .int a4, .int a5] => some (a0, a1, a2, a3, a4, a5)
    | _ => none
  ok := by
    intro ls v h
    split at h
    · cases h; rfl
    · cases h

def sg_liiilb : Sig (Nat × List T × Int × Int × Int × Nat × List T × Bool) where
  pk := fun v => [.lst v.1 v.2.1, .int v.2.2.1, .int v.2.2.2.1, .int v.2.2.2.2.1, .lst v.2.2.2.2.2.1 v.2.2.2.2.2.2.1, .bool v.2.2.2.2.2.2.2]
  up := fun ls => match ls with
    | [.lst a0 a1, .int a2, .int a3, .int a4, .lst a5 a6, .bool a7] => some (a0, a1, a2, a3, a4, a5, a6, a7)
    | _ => none
  ok := by
    intro ls v h
    split at h
    · cases h; rfl
    · cases h

def f98_s_l01DrawFloats.l0.P : AS := ⟨[(0, .box [.sl .shr [.leaf], .leaf, .leaf] [.lst 0 [], .int .i64 0, .int .u64 0] [] 0), (1, .val false [.leaf] [.int .i64 0] [] 0), (5, .val false [.sl .own [.leaf]] [.lst 0 []] [] 0), (6, .val false [.leaf] [.bool false] [] 0)], 0⟩
def f98_s_l01DrawFloats.l0.A : Alt (Nat × List T × Int × Int × Nat × List T) := .one (.exit 0) ⟨[(0, .box [.sl .shr [.leaf], .leaf, .leaf] [.lst 0 [], .int .i64 0, .int .u64 0] [] 0), (5, .val false [.sl .own [.leaf]] [.lst 0 []] [] 0)], 0⟩ sg_liil
def f98_s_l01DrawFloats.l0.F (n m : Nat) (v : Nat × List T × Int × Int × Int × Nat × List T × Bool) := f98_s_l01DrawFloats.l0 n m v.1 v.2.1 v.2.2.1 v.2.2.2.1 v.2.2.2.2.1 v.2.2.2.2.2.1 v.2.2.2.2.2.2.1 v.2.2.2.2.2.2.2
def f98_s_l01DrawFloats.l0.W (n : Nat) : LpW := .of 48 f98_s_l01DrawFloats.l0.P sg_liiilb f98_s_l01DrawFloats.l0.A (f98_s_l01DrawFloats.l0.F n n)
def f98_s_l01DrawFloats.P : List Arg := [⟨.iop, ⟨false, [.rf .own [.sl .shr [.leaf], .leaf, .leaf]], [.ref [.lst 0 [], .int .i64 0, .int .u64 0]]⟩⟩, ⟨.val, ⟨false, [.leaf], [.int .i64 0]⟩⟩]
def f98_s_l01DrawFloats.A : RAlt (Nat × List T × Nat × List T × Int × Int) := .one ⟨[⟨false, [.sl .own [.leaf]], [.lst 0 []]⟩], [some ⟨false, [.rf .own [.sl .shr [.leaf], .leaf, .leaf]], [.ref [.lst 0 [], .int .i64 0, .int .u64 0]]⟩, none]⟩ sg_llii
def f98_s_l01DrawFloats.F (n : Nat) (v : Nat × List T × Int × Int × Int) := f98_s_l01DrawFloats n v.1 v.2.1 v.2.2.1 v.2.2.2.1 v.2.2.2.2
noncomputable def f98_s_l01DrawFloats.O (n : Nat) : Orc := orcOf (E := E) [f158_s_l00Srcone.w, f91_s_l01DrawPlain.w, f112_s_l01DrawFloat.w] [f98_s_l01DrawFloats.l0.W n] n
theorem f98_s_l01DrawFloats.l0.ok (n : Nat) : LpOk (f98_s_l01DrawFloats.O n) E (evalFn E n) n (keepAt 98) (.loop (loopAt c98 0)) :=
  lp_pure f98_s_l01DrawFloats.l0.P sg_liiilb f98_s_l01DrawFloats.l0.A (f98_s_l01DrawFloats.l0.F n) (orcOf_cf _ _ n) (lpOk_of (bs := []) (by kernel_rfl) .nil) (fun _ => rfl) (fun _ _ => by kernel_rfl) (fun _ _ _ => by kernel_rfl)
theorem f98_s_l01DrawFloats.ok : ∀ n v x, f98_s_l01DrawFloats.F n v = some x → evalFn E n 98 (flAs f98_s_l01DrawFloats.P (sg_liii.pk v)) = some (f98_s_l01DrawFloats.A.enc x) :=
  fn_pure (modes := (fdAt 98).ms) (outs := (fdAt 98).os) (results := (fdAt 98).rs) f98_s_l01DrawFloats.O (c := c98) (keep := keepAt 98) (by kernel_rfl) (fun n => orcOf_cf _ _ n) (fun n => lpOk_of (bs := [loopAt c98 0]) (by kernel_rfl) (.cons (f98_s_l01DrawFloats.l0.ok n) .nil)) (fun _ => rfl) (fun _ _ => by kernel_rfl)
noncomputable def f98_s_l01DrawFloats.w : FnW E := fnW 98 f98_s_l01DrawFloats.P sg_liii f98_s_l01DrawFloats.A f98_s_l01DrawFloats.F f98_s_l01DrawFloats.ok

def f22_s_R8Samples : Nat → Nat → List T → Int → Option (Nat × List T)
  | 0, _, _, _ => none
  | n + 1, n1, l2, i3 =>
    bd (f90_s_l00From n n1 l2) fun r4 =>
    let n5 : Nat := r4.1
    let l6 : List T := r4.2.1
    let i7 : Int := r4.2.2.1
    let i8 : Int := r4.2.2.2
    bd (f97_s_l00Srcpick n n5 l6 i7 i8 (IntKind.i64.wrap (i3 + (1 : Int)))) fun r9 =>
    let i10 : Int := r9.1
    let n11 : Nat := r9.2.1
    let l12 : List T := r9.2.2.1
    let i13 : Int := r9.2.2.2.1
    let i14 : Int := r9.2.2.2.2
    bd (f98_s_l01DrawFloats n n11 l12 i13 i14 i10) fun r15 =>
    let n16 : Nat := r15.1
    let l17 : List T := r15.2.1
    let n18 : Nat := r15.2.2.1
    let l19 : List T := r15.2.2.2.1
    let i20 : Int := r15.2.2.2.2.1
    let i21 : Int := r15.2.2.2.2.2
    some (n16, l17)
def sg_li : Sig (Nat × List T × Int) where
  pk := fun v => [.lst v.1 v.2.1, .int v.2.2]
  up := fun ls => match ls with
    | [.lst a0 a1, .int a2] => some (a0, a1, a2)
    | _ => none
  ok := by
    intro ls v h
    split at h
    · cases h; rfl
    · cases h

def f22_s_R8Samples.P : List Arg := [⟨.val, ⟨false, [.sl .shr [.leaf]], [.lst 0 []]⟩⟩, ⟨.val, ⟨false, [.leaf], [.int .i64 0]⟩⟩]
def f22_s_R8Samples.A : RAlt (Nat × List T) := .one ⟨[⟨false, [.sl .own [.leaf]], [.lst 0 []]⟩], [none, none]⟩ sg_l
def f22_s_R8Samples.F (n : Nat) (v : Nat × List T × Int) := f22_s_R8Samples n v.1 v.2.1 v.2.2
noncomputable def f22_s_R8Samples.O (n : Nat) : Orc := orcOf (E := E) [f90_s_l00From.w, f97_s_l00Srcpick.w, f98_s_l01DrawFloats.w] [] n
theorem f22_s_R8Samples.ok : ∀ n v x, f22_s_R8Samples.F n v = some x → evalFn E n 22 (flAs f22_s_R8Samples.P (sg_li.pk v)) = some (f22_s_R8Samples.A.enc x) :=
  fn_pure (modes := (fdAt 22).ms) (outs := (fdAt 22).os) (results := (fdAt 22).rs) f22_s_R8Samples.O (c := c22) (keep := keepAt 22) (by kernel_rfl) (fun n => orcOf_cf _ _ n) (fun n => lpOk_of (bs := []) (by kernel_rfl) .nil) (fun _ => rfl) (fun _ _ => by kernel_rfl)
noncomputable def f22_s_R8Samples.w : FnW E := fnW 22 f22_s_R8Samples.P sg_li f22_s_R8Samples.A f22_s_R8Samples.F f22_s_R8Samples.ok

def f93_i_within : Nat → Int → Int → Int → Option (Bool)
  | 0, _, _, _ => none
  | n + 1, i1, i2, i3 =>
    br (decide (i2 ≤ i1)) (
     some (decide (i1 ≤ i3))) (
     some false)
def sg_iii : Sig (Int × Int × Int) where
  pk := fun v => [.int v.1, .int v.2.1, .int v.2.2]
  up := fun ls => match ls with
    | [.int a0, .int a1, .int a2] => some (a0, a1, a2)
    | _ => none
  ok := by
    intro ls v h
    split at h
    · cases h; rfl
    · cases h

def f93_i_within.P : List Arg := [⟨.val, ⟨false, [.leaf], [.int .i64 0]⟩⟩, ⟨.val, ⟨false, [.leaf], [.int .i64 0]⟩⟩, ⟨.val, ⟨false, [.leaf], [.int .i64 0]⟩⟩]
def f93_i_within.A : RAlt (Bool) := .one ⟨[⟨false, [.leaf], [.bool false]⟩], [none, none, none]⟩ sg_b
def f93_i_within.F (n : Nat) (v : Int × Int × Int) := f93_i_within n v.1 v.2.1 v.2.2
noncomputable def f93_i_within.O (n : Nat) : Orc := orcOf (E := E) [] [] n
theorem f93_i_within.ok : ∀ n v x, f93_i_within.F n v = some x → evalFn E n 93 (flAs f93_i_within.P (sg_iii.pk v)) = some (f93_i_within.A.enc x) :=
  fn_pure (modes := (fdAt 93).ms) (outs := (fdAt 93).os) (results := (fdAt 93).rs) f93_i_within.O (c := c93) (keep := keepAt 93) (by kernel_rfl) (fun n => orcOf_cf _ _ n) (fun n => lpOk_of (bs := []) (by kernel_rfl) .nil) (fun _ => rfl) (fun _ _ => by kernel_rfl)
noncomputable def f93_i_within.w : FnW E := fnW 93 f93_i_within.P sg_iii f93_i_within.A f93_i_within.F f93_i_within.ok

def f99_i_isBits : Nat → Int → Option (Bool)
  | 0, _ => none
  | n + 1, i1 =>
    bd (f93_i_within n i1 (2 : Int) (16 : Int)) fun r2 =>
    let b3 : Bool := r2
    some b3
def f99_i_isBits.P : List Arg := [⟨.val, ⟨false, [.leaf], [.int .i64 0]⟩⟩]
def f99_i_isBits.A : RAlt (Bool) := .one ⟨[⟨false, [.leaf], [.bool false]⟩], [none]⟩ sg_b
def f99_i_isBits.F (n : Nat) (v : Int) := f99_i_isBits n v
noncomputable def f99_i_isBits.O (n : Nat) : Orc := orcOf (E := E) [f93_i_within.w] [] n
theorem f99_i_isBits.ok : ∀ n v x, f99_i_isBits.F n v = some x → evalFn E n 99 (flAs f99_i_isBits.P (sg_i.pk v)) = some (f99_i_isBits.A.enc x) :=
  fn_pure (modes := (fdAt 99).ms) (outs := (fdAt 99).os) (results := (fdAt 99).rs) f99_i_isBits.O (c := c99) (keep := keepAt 99) (by kernel_rfl) (fun n => orcOf_cf _ _ n) (fun n => lpOk_of (bs := []) (by kernel_rfl) .nil) (fun _ => rfl) (fun _ _ => by kernel_rfl)
noncomputable def f99_i_isBits.w : FnW E := fnW 99 f99_i_isBits.P sg_i f99_i_isBits.A f99_i_isBits.F f99_i_isBits.ok

def f92_i_areSamples : Nat → Nat → List T → Option (Bool)
  | 0, _, _ => none
  | n + 1, n1, l2 =>
    some (decide (((n1 : Nat) : Int) ≤ (256 : Int)))
def f92_i_areSamples.P : List Arg := [⟨.val, ⟨false, [.sl .shr [.leaf]], [.lst 0 []]⟩⟩]
def f92_i_areSamples.A : RAlt (Bool) := .one ⟨[⟨false, [.leaf], [.bool false]⟩], [none]⟩ sg_b
def f92_i_areSamples.F (n : Nat) (v : Nat × List T) := f92_i_areSamples n v.1 v.2
noncomputable def f92_i_areSamples.O (n : Nat) : Orc := orcOf (E := E) [] [] n
theorem f92_i_areSamples.ok : ∀ n v x, f92_i_areSamples.F n v = some x → evalFn E n 92 (flAs f92_i_areSamples.P (sg_l.pk v)) = some (f92_i_areSamples.A.enc x) :=
  fn_pure (modes := (fdAt 92).ms) (outs := (fdAt 92).os) (results := (fdAt 92).rs) f92_i_areSamples.O (c := c92) (keep := keepAt 92) (by kernel_rfl) (fun n => orcOf_cf _ _ n) (fun n => lpOk_of (bs := []) (by kernel_rfl) .nil) (fun _ => rfl) (fun _ _ => by kernel_rfl)
noncomputable def f92_i_areSamples.w : FnW E := fnW 92 f92_i_areSamples.P sg_l f92_i_areSamples.A f92_i_areSamples.F f92_i_areSamples.ok

def f101_i_raised : Nat → Int → Nat → Option (Nat)
  | 0, _, _ => none
  | n + 1, i1, x2 =>
    bd ((fltToFlt FloatKind.f32 x2 FloatKind.f64)) fun y3 =>
    gd (decide ((0 : Int) ≤ (IntKind.i64.wrap (i1 - (1 : Int))))) (
    some (fmul FloatKind.f64 y3 (FloatKind.nearest FloatKind.f64 (IntKind.i64.wrap ((1 : Int) * ((2 : Int) ^ (min (Int.toNat (IntKind.i64.wrap (i1 - (1 : Int)))) 64)))))))
def sg_if : Sig (Int × Nat) where
  pk := fun v => [.int v.1, .flt v.2]
  up := fun ls => match ls with
    | [.int a0, .flt a1] => some (a0, a1)
    | _ => none
  ok := by
    intro ls v h
    split at h
    · cases h; rfl
    · cases h

def f101_i_raised.P : List Arg := [⟨.val, ⟨false, [.leaf], [.int .i64 0]⟩⟩, ⟨.val, ⟨false, [.leaf], [.flt .f32 0]⟩⟩]
def f101_i_raised.A : RAlt (Nat) := .one ⟨[⟨false, [.leaf], [.flt .f64 0]⟩], [none, none]⟩ sg_f
def f101_i_raised.F (n : Nat) (v : Int × Nat) := f101_i_raised n v.1 v.2
noncomputable def f101_i_raised.O (n : Nat) : Orc := orcOf (E := E) [] [] n
theorem f101_i_raised.ok : ∀ n v x, f101_i_raised.F n v = some x → evalFn E n 101 (flAs f101_i_raised.P (sg_if.pk v)) = some (f101_i_raised.A.enc x) :=
  fn_pure (modes := (fdAt 101).ms) (outs := (fdAt 101).os) (results := (fdAt 101).rs) f101_i_raised.O (c := c101) (keep := keepAt 101) (by kernel_rfl) (fun n => orcOf_cf _ _ n) (fun n => lpOk_of (bs := []) (by kernel_rfl) .nil) (fun _ => rfl) (fun _ _ => by kernel_rfl)
noncomputable def f101_i_raised.w : FnW E := fnW 101 f101_i_raised.P sg_if f101_i_raised.A f101_i_raised.F f101_i_raised.ok

def f100_i_codeOf : Nat → Int → Nat → Option (Int)
  | 0, _, _ => none
  | n + 1, i1, x2 =>
    gd (decide ((0 : Int) ≤ (IntKind.i64.wrap (i1 - (1 : Int))))) (
    let x3 : Nat := (FloatKind.nearest FloatKind.f64 (IntKind.i64.wrap ((1 : Int) * ((2 : Int) ^ (min (Int.toNat (IntKind.i64.wrap (i1 - (1 : Int)))) 64)))))
    br (fne FloatKind.f64 x2 x2) (
     some (0 : Int)) (
     bd (xIntegral_even n x2) fun r4 =>
     let x5 : Nat := r4
     bd ((fltToInt FloatKind.f64 (fmx false FloatKind.f64 (fmx true FloatKind.f64 x5 (negF FloatKind.f64 x3)) (fsub FloatKind.f64 x3 4607182418800017408)) IntKind.i64)) fun y6 =>
     some y6))
def f100_i_codeOf.P : List Arg := [⟨.val, ⟨false, [.leaf], [.int .i64 0]⟩⟩, ⟨.val, ⟨false, [.leaf], [.flt .f64 0]⟩⟩]
def f100_i_codeOf.A : RAlt (Int) := .one ⟨[⟨false, [.leaf], [.int .i64 0]⟩], [none, none]⟩ sg_i
def f100_i_codeOf.F (n : Nat) (v : Int × Nat) := f100_i_codeOf n v.1 v.2
noncomputable def f100_i_codeOf.O (n : Nat) : Orc := orcOf (E := E) [x164.w] [] n
theorem f100_i_codeOf.ok : ∀ n v x, f100_i_codeOf.F n v = some x → evalFn E n 100 (flAs f100_i_codeOf.P (sg_if.pk v)) = some (f100_i_codeOf.A.enc x) :=
  fn_pure (modes := (fdAt 100).ms) (outs := (fdAt 100).os) (results := (fdAt 100).rs) f100_i_codeOf.O (c := c100) (keep := keepAt 100) (by kernel_rfl) (fun n => orcOf_cf _ _ n) (fun n => lpOk_of (bs := []) (by kernel_rfl) .nil) (fun _ => rfl) (fun _ _ => by kernel_rfl)
noncomputable def f100_i_codeOf.w : FnW E := fnW 100 f100_i_codeOf.P sg_if f100_i_codeOf.A f100_i_codeOf.F f100_i_codeOf.ok

def f23_i_CodesOf.l0 (n : Nat) : Nat → Int → Nat → List T → Nat → List T → Nat → List T → Int → Int → Option (Nat × List T)
  | 0, _, _, _, _, _, _, _, _, _ => none
  | m + 1, i1, n2, l3, n4, l5, n6, l7, i8, i9 =>
    br (decide (i9 < i8)) (
     gd ((decide (((0 : Int) ≤ i9) ∧ (i9 < ((n6 : Nat) : Int)))) && (okAt [(CK.flt FloatKind.f32)] l7 (Int.toNat i9))) (
     let x10 : Nat := (fAt l7 (Int.toNat i9))
     bd (f101_i_raised n i1 x10) fun r11 =>
     let x12 : Nat := r11
     bd (f100_i_codeOf n i1 x12) fun r13 =>
     let i14 : Int := r13
     gd (Nat.ble (n4 + 1) 2147483648) (
     let n15 : Nat := (n4 + 1)
     let l16 : List T := (l5 ++ (setN (reps 1 [(T.int IntKind.i64 (0 : Int))]) 0 [(T.int IntKind.i64 i14)]))
     f23_i_CodesOf.l0 n m i1 n2 l3 n15 l16 n6 l7 i8 (IntKind.i64.wrap (i9 + (1 : Int)))))) (
     some (n4, l5))
def f23_i_CodesOf : Nat → Int → Nat → List T → Option (Nat × List T × Bool)
  | 0, _, _, _ => none
  | n + 1, i1, n2, l3 =>
    bd (f99_i_isBits n i1) fun r4 =>
    let b5 : Bool := r4
    br (!b5) (
     some (0, [], false)) (
     bd (f92_i_areSamples n n2 l3) fun r6 =>
     let b7 : Bool := r6
     br (!b7) (
      some (0, [], false)) (
      bd (f23_i_CodesOf.l0 n n i1 n2 l3 0 [] n2 l3 ((n2 : Nat) : Int) (0 : Int)) fun r8 =>
      let n9 : Nat := r8.1
      let l10 : List T := r8.2
      some (n9, l10, true)))
def sg_il : Sig (Int × Nat × List T) where
  pk := fun v => [.int v.1, .lst v.2.1 v.2.2]
  up := fun ls => match ls with
    | [.int a0, .lst a1 a2] => some (a0, a1, a2)
    | _ => none
  ok := by
    intro ls v h
    split at h
    · cases h; rfl
    · cases h

def sg_lb : Sig (Nat × List T × Bool) where
  pk := fun v => [.lst v.1 v.2.1, .bool v.2.2]
  up := fun ls => match ls with
    | [.lst a0 a1, .bool a2] => some (a0, a1, a2)
    | _ => none
  ok := by
    intro ls v h
    split at h
    · cases h; rfl
    · cases h

def sg_illlii : Sig (Int × Nat × List T × Nat × List T × Nat × List T × Int × Int) where
  pk := fun v => [.int v.1, .lst v.2.1 v.2.2.1, .lst v.2.2.2.1 v.2.2.2.2.1, .lst v.2.2.2.2.2.1 v.2.2.2.2.2.2.1, .int v.2.2.2.2.2.2.2.1, .int v.2.2.2.2.2.2.2.2]
  up := fun ls => match ls with
    | [.int a0, .lst a1 a2, .lst a3 a4, .lst a5 a6, .int a7, .int a8] => some (a0, a1, a2, a3, a4, a5, a6, a7, a8)
    | _ => none
  ok := by
    intro ls v h
    split at h
    · cases h; rfl
    · cases h

def f23_i_CodesOf.l0.P : AS := ⟨[(0, .val false [.leaf] [.int .i64 0] [] 0), (1, .val false [.sl .shr [.leaf]] [.lst 0 []] [] 0), (6, .val false [.sl .own [.leaf]] [.lst 0 []] [] 0), (17, .val false [.sl .shr [.leaf]] [.lst 0 []] [] 0), (18, .val false [.leaf] [.int .i64 0] [] 0), (19, .val false [.leaf] [.int .i64 0] [] 0)], 0⟩
def f23_i_CodesOf.l0.A : Alt (Nat × List T) := .one (.exit 0) ⟨[(6, .val false [.sl .own [.leaf]] [.lst 0 []] [] 0)], 0⟩ sg_l
def f23_i_CodesOf.l0.F (n m : Nat) (v : Int × Nat × List T × Nat × List T × Nat × List T × Int × Int) := f23_i_CodesOf.l0 n m v.1 v.2.1 v.2.2.1 v.2.2.2.1 v.2.2.2.2.1 v.2.2.2.2.2.1 v.2.2.2.2.2.2.1 v.2.2.2.2.2.2.2.1 v.2.2.2.2.2.2.2.2
def f23_i_CodesOf.l0.W (n : Nat) : LpW := .of 80 f23_i_CodesOf.l0.P sg_illlii f23_i_CodesOf.l0.A (f23_i_CodesOf.l0.F n n)
def f23_i_CodesOf.P : List Arg := [⟨.val, ⟨false, [.leaf], [.int .i64 0]⟩⟩, ⟨.val, ⟨false, [.sl .shr [.leaf]], [.lst 0 []]⟩⟩]
def f23_i_CodesOf.A : RAlt (Nat × List T × Bool) := .one ⟨[⟨false, [.sl .own [.leaf]], [.lst 0 []]⟩, ⟨false, [.leaf], [.bool false]⟩], [none, none]⟩ sg_lb
def f23_i_CodesOf.F (n : Nat) (v : Int × Nat × List T) := f23_i_CodesOf n v.1 v.2.1 v.2.2
noncomputable def f23_i_CodesOf.O (n : Nat) : Orc := orcOf (E := E) [f99_i_isBits.w, f92_i_areSamples.w, f101_i_raised.w, f100_i_codeOf.w] [f23_i_CodesOf.l0.W n] n
theorem f23_i_CodesOf.l0.ok (n : Nat) : LpOk (f23_i_CodesOf.O n) E (evalFn E n) n (keepAt 23) (.loop (loopAt c23 0)) :=
  lp_pure f23_i_CodesOf.l0.P sg_illlii f23_i_CodesOf.l0.A (f23_i_CodesOf.l0.F n) (orcOf_cf _ _ n) (lpOk_of (bs := []) (by kernel_rfl) .nil) (fun _ => rfl) (fun _ _ => by kernel_rfl) (fun _ _ _ => by kernel_rfl)
theorem f23_i_CodesOf.ok : ∀ n v x, f23_i_CodesOf.F n v = some x → evalFn E n 23 (flAs f23_i_CodesOf.P (sg_il.pk v)) = some (f23_i_CodesOf.A.enc x) :=
  fn_pure (modes := (fdAt 23).ms) (outs := (fdAt 23).os) (results := (fdAt 23).rs) f23_i_CodesOf.O (c := c23) (keep := keepAt 23) (by kernel_rfl) (fun n => orcOf_cf _ _ n) (fun n => lpOk_of (bs := [loopAt c23 0]) (by kernel_rfl) (.cons (f23_i_CodesOf.l0.ok n) .nil)) (fun _ => rfl) (fun _ _ => by kernel_rfl)
noncomputable def f23_i_CodesOf.w : FnW E := fnW 23 f23_i_CodesOf.P sg_il f23_i_CodesOf.A f23_i_CodesOf.F f23_i_CodesOf.ok

def f116_i_allWithin.l0 (n : Nat) : Nat → Nat → List T → Int → Int → Nat → List T → Int → Int → Option ((Bool) ⊕ (Unit))
  | 0, _, _, _, _, _, _, _, _ => none
  | m + 1, n1, l2, i3, i4, n5, l6, i7, i8 =>
    br (decide (i8 < i7)) (
     gd ((decide (((0 : Int) ≤ i8) ∧ (i8 < ((n5 : Nat) : Int)))) && (okAt [(CK.int IntKind.i64)] l6 (Int.toNat i8))) (
     let i9 : Int := (iAt l6 (Int.toNat i8))
     bd (f93_i_within n i9 i3 i4) fun r10 =>
     let b11 : Bool := r10
     br (!b11) (
      some (Sum.inl false)) (
      f116_i_allWithin.l0 n m n1 l2 i3 i4 n5 l6 i7 (IntKind.i64.wrap (i8 + (1 : Int)))))) (
     some (Sum.inr ()))
def f116_i_allWithin : Nat → Nat → List T → Int → Int → Option (Bool)
  | 0, _, _, _, _ => none
  | n + 1, n1, l2, i3, i4 =>
    bd (f116_i_allWithin.l0 n n n1 l2 i3 i4 n1 l2 ((n1 : Nat) : Int) (0 : Int)) fun r5 =>
    sm r5 (fun u6 =>
     let b7 : Bool := u6
     some b7) (fun u8 =>
     some true)
def sg_liilii : Sig (Nat × List T × Int × Int × Nat × List T × Int × Int) where
  pk := fun v => [.lst v.1 v.2.1, .int v.2.2.1, .int v.2.2.2.1, .lst v.2.2.2.2.1 v.2.2.2.2.2.1, .int v.2.2.2.2.2.2.1, .int v.2.2.2.2.2.2.2]
  up := fun ls => match ls with
    | [.lst a0 a1, .int a2, .int a3, .lst a4 a5, .int a6, .int a7] => some (a0, a1, a2, a3, a4, a5, a6, a7)
    | _ => none
  ok := by
    intro ls v h
    split at h
    · cases h; rfl
    · cases h

def sg : Sig (Unit) where
  pk := fun v => []
  up := fun ls => match ls with
    | [] => some ()
    | _ => none
  ok := by
    intro ls v h
    split at h
    · cases h; rfl
    · cases h

def f116_i_allWithin.l0.P : AS := ⟨[(0, .val false [.sl .shr [.leaf]] [.lst 0 []] [] 0), (1, .val false [.leaf] [.int .i64 0] [] 0), (2, .val false [.leaf] [.int .i64 0] [] 0), (9, .val false [.sl .shr [.leaf]] [.lst 0 []] [] 0), (10, .val false [.leaf] [.int .i64 0] [] 0), (11, .val false [.leaf] [.int .i64 0] [] 0)], 0⟩
def f116_i_allWithin.l0.A : Alt ((Bool) ⊕ (Unit)) := .or (.one .ret ⟨[(6, .val false [.leaf] [.bool false] [] 0)], 0⟩ sg_b) (.one (.exit 0) ⟨[(6, .dead)], 0⟩ sg)
def f116_i_allWithin.l0.F (n m : Nat) (v : Nat × List T × Int × Int × Nat × List T × Int × Int) := f116_i_allWithin.l0 n m v.1 v.2.1 v.2.2.1 v.2.2.2.1 v.2.2.2.2.1 v.2.2.2.2.2.1 v.2.2.2.2.2.2.1 v.2.2.2.2.2.2.2
def f116_i_allWithin.l0.W (n : Nat) : LpW := .of 32 f116_i_allWithin.l0.P sg_liilii f116_i_allWithin.l0.A (f116_i_allWithin.l0.F n n)
def f116_i_allWithin.P : List Arg := [⟨.val, ⟨false, [.sl .shr [.leaf]], [.lst 0 []]⟩⟩, ⟨.val, ⟨false, [.leaf], [.int .i64 0]⟩⟩, ⟨.val, ⟨false, [.leaf], [.int .i64 0]⟩⟩]
def f116_i_allWithin.A : RAlt (Bool) := .one ⟨[⟨false, [.leaf], [.bool false]⟩], [none, none, none]⟩ sg_b
def f116_i_allWithin.F (n : Nat) (v : Nat × List T × Int × Int) := f116_i_allWithin n v.1 v.2.1 v.2.2.1 v.2.2.2
noncomputable def f116_i_allWithin.O (n : Nat) : Orc := orcOf (E := E) [f93_i_within.w] [f116_i_allWithin.l0.W n] n
theorem f116_i_allWithin.l0.ok (n : Nat) : LpOk (f116_i_allWithin.O n) E (evalFn E n) n (keepAt 116) (.loop (loopAt c116 0)) :=
  lp_pure f116_i_allWithin.l0.P sg_liilii f116_i_allWithin.l0.A (f116_i_allWithin.l0.F n) (orcOf_cf _ _ n) (lpOk_of (bs := []) (by kernel_rfl) .nil) (fun _ => rfl) (fun _ _ => by kernel_rfl) (fun _ _ _ => by kernel_rfl)
theorem f116_i_allWithin.ok : ∀ n v x, f116_i_allWithin.F n v = some x → evalFn E n 116 (flAs f116_i_allWithin.P (sg_lii.pk v)) = some (f116_i_allWithin.A.enc x) :=
  fn_pure (modes := (fdAt 116).ms) (outs := (fdAt 116).os) (results := (fdAt 116).rs) f116_i_allWithin.O (c := c116) (keep := keepAt 116) (by kernel_rfl) (fun n => orcOf_cf _ _ n) (fun n => lpOk_of (bs := [loopAt c116 0]) (by kernel_rfl) (.cons (f116_i_allWithin.l0.ok n) .nil)) (fun _ => rfl) (fun _ _ => by kernel_rfl)
noncomputable def f116_i_allWithin.w : FnW E := fnW 116 f116_i_allWithin.P sg_lii f116_i_allWithin.A f116_i_allWithin.F f116_i_allWithin.ok

def f102_i_areCodes : Nat → Int → Nat → List T → Option (Bool)
  | 0, _, _, _ => none
  | n + 1, i1, n2, l3 =>
    bd (f99_i_isBits n i1) fun r4 =>
    let b5 : Bool := r4
    br (!b5) (
     some false) (
     br (decide (((n2 : Nat) : Int) > (256 : Int))) (
      some false) (
      gd (decide ((0 : Int) ≤ (IntKind.i64.wrap (i1 - (1 : Int))))) (
      let i6 : Int := (IntKind.i64.wrap ((1 : Int) * ((2 : Int) ^ (min (Int.toNat (IntKind.i64.wrap (i1 - (1 : Int)))) 64))))
      bd (f116_i_allWithin n n2 l3 (IntKind.i64.wrap ((0 : Int) - i6)) (IntKind.i64.wrap (i6 - (1 : Int)))) fun r7 =>
      let b8 : Bool := r7
      some b8)))
def f102_i_areCodes.P : List Arg := [⟨.val, ⟨false, [.leaf], [.int .i64 0]⟩⟩, ⟨.val, ⟨false, [.sl .shr [.leaf]], [.lst 0 []]⟩⟩]
def f102_i_areCodes.A : RAlt (Bool) := .one ⟨[⟨false, [.leaf], [.bool false]⟩], [none, none]⟩ sg_b
def f102_i_areCodes.F (n : Nat) (v : Int × Nat × List T) := f102_i_areCodes n v.1 v.2.1 v.2.2
noncomputable def f102_i_areCodes.O (n : Nat) : Orc := orcOf (E := E) [f99_i_isBits.w, f116_i_allWithin.w] [] n
theorem f102_i_areCodes.ok : ∀ n v x, f102_i_areCodes.F n v = some x → evalFn E n 102 (flAs f102_i_areCodes.P (sg_il.pk v)) = some (f102_i_areCodes.A.enc x) :=
  fn_pure (modes := (fdAt 102).ms) (outs := (fdAt 102).os) (results := (fdAt 102).rs) f102_i_areCodes.O (c := c102) (keep := keepAt 102) (by kernel_rfl) (fun n => orcOf_cf _ _ n) (fun n => lpOk_of (bs := []) (by kernel_rfl) .nil) (fun _ => rfl) (fun _ _ => by kernel_rfl)
noncomputable def f102_i_areCodes.w : FnW E := fnW 102 f102_i_areCodes.P sg_il f102_i_areCodes.A f102_i_areCodes.F f102_i_areCodes.ok

def f103_i_share : Nat → Int → Int → Option (Nat)
  | 0, _, _ => none
  | n + 1, i1, i2 =>
    some (fdiv FloatKind.f32 (FloatKind.nearest FloatKind.f32 i1) (FloatKind.nearest FloatKind.f32 i2))
def sg_ii : Sig (Int × Int) where
  pk := fun v => [.int v.1, .int v.2]
  up := fun ls => match ls with
    | [.int a0, .int a1] => some (a0, a1)
    | _ => none
  ok := by
    intro ls v h
    split at h
    · cases h; rfl
    · cases h

def f103_i_share.P : List Arg := [⟨.val, ⟨false, [.leaf], [.int .i64 0]⟩⟩, ⟨.val, ⟨false, [.leaf], [.int .i64 0]⟩⟩]
def f103_i_share.A : RAlt (Nat) := .one ⟨[⟨false, [.leaf], [.flt .f32 0]⟩], [none, none]⟩ sg_f
def f103_i_share.F (n : Nat) (v : Int × Int) := f103_i_share n v.1 v.2
noncomputable def f103_i_share.O (n : Nat) : Orc := orcOf (E := E) [] [] n
theorem f103_i_share.ok : ∀ n v x, f103_i_share.F n v = some x → evalFn E n 103 (flAs f103_i_share.P (sg_ii.pk v)) = some (f103_i_share.A.enc x) :=
  fn_pure (modes := (fdAt 103).ms) (outs := (fdAt 103).os) (results := (fdAt 103).rs) f103_i_share.O (c := c103) (keep := keepAt 103) (by kernel_rfl) (fun n => orcOf_cf _ _ n) (fun n => lpOk_of (bs := []) (by kernel_rfl) .nil) (fun _ => rfl) (fun _ _ => by kernel_rfl)
noncomputable def f103_i_share.w : FnW E := fnW 103 f103_i_share.P sg_ii f103_i_share.A f103_i_share.F f103_i_share.ok

def f24_i_SamplesOf.l0 (n : Nat) : Nat → Int → Nat → List T → Nat → List T → Nat → List T → Int → Int → Option (Nat × List T)
  | 0, _, _, _, _, _, _, _, _, _ => none
  | m + 1, i1, n2, l3, n4, l5, n6, l7, i8, i9 =>
    br (decide (i9 < i8)) (
     gd ((decide (((0 : Int) ≤ i9) ∧ (i9 < ((n6 : Nat) : Int)))) && (okAt [(CK.int IntKind.i64)] l7 (Int.toNat i9))) (
     let i10 : Int := (iAt l7 (Int.toNat i9))
     gd (decide ((0 : Int) ≤ (IntKind.i64.wrap (i1 - (1 : Int))))) (
     bd (f103_i_share n i10 (IntKind.i64.wrap ((1 : Int) * ((2 : Int) ^ (min (Int.toNat (IntKind.i64.wrap (i1 - (1 : Int)))) 64))))) fun r11 =>
     let x12 : Nat := r11
     gd (Nat.ble (n4 + 1) 2147483648) (
     let n13 : Nat := (n4 + 1)
     let l14 : List T := (l5 ++ (setN (reps 1 [(T.flt FloatKind.f32 0)]) 0 [(T.flt FloatKind.f32 x12)]))
     f24_i_SamplesOf.l0 n m i1 n2 l3 n13 l14 n6 l7 i8 (IntKind.i64.wrap (i9 + (1 : Int))))))) (
     some (n4, l5))
def f24_i_SamplesOf : Nat → Int → Nat → List T → Option (Nat × List T × Bool)
  | 0, _, _, _ => none
  | n + 1, i1, n2, l3 =>
    bd (f102_i_areCodes n i1 n2 l3) fun r4 =>
    let b5 : Bool := r4
    br (!b5) (
     some (0, [], false)) (
     bd (f24_i_SamplesOf.l0 n n i1 n2 l3 0 [] n2 l3 ((n2 : Nat) : Int) (0 : Int)) fun r6 =>
     let n7 : Nat := r6.1
     let l8 : List T := r6.2
     some (n7, l8, true))
def f24_i_SamplesOf.l0.P : AS := ⟨[(0, .val false [.leaf] [.int .i64 0] [] 0), (1, .val false [.sl .shr [.leaf]] [.lst 0 []] [] 0), (6, .val false [.sl .own [.leaf]] [.lst 0 []] [] 0), (13, .val false [.sl .shr [.leaf]] [.lst 0 []] [] 0), (14, .val false [.leaf] [.int .i64 0] [] 0), (15, .val false [.leaf] [.int .i64 0] [] 0)], 0⟩
def f24_i_SamplesOf.l0.A : Alt (Nat × List T) := .one (.exit 0) ⟨[(6, .val false [.sl .own [.leaf]] [.lst 0 []] [] 0)], 0⟩ sg_l
def f24_i_SamplesOf.l0.F (n m : Nat) (v : Int × Nat × List T × Nat × List T × Nat × List T × Int × Int) := f24_i_SamplesOf.l0 n m v.1 v.2.1 v.2.2.1 v.2.2.2.1 v.2.2.2.2.1 v.2.2.2.2.2.1 v.2.2.2.2.2.2.1 v.2.2.2.2.2.2.2.1 v.2.2.2.2.2.2.2.2
def f24_i_SamplesOf.l0.W (n : Nat) : LpW := .of 80 f24_i_SamplesOf.l0.P sg_illlii f24_i_SamplesOf.l0.A (f24_i_SamplesOf.l0.F n n)
def f24_i_SamplesOf.P : List Arg := [⟨.val, ⟨false, [.leaf], [.int .i64 0]⟩⟩, ⟨.val, ⟨false, [.sl .shr [.leaf]], [.lst 0 []]⟩⟩]
def f24_i_SamplesOf.A : RAlt (Nat × List T × Bool) := .one ⟨[⟨false, [.sl .own [.leaf]], [.lst 0 []]⟩, ⟨false, [.leaf], [.bool false]⟩], [none, none]⟩ sg_lb
def f24_i_SamplesOf.F (n : Nat) (v : Int × Nat × List T) := f24_i_SamplesOf n v.1 v.2.1 v.2.2
noncomputable def f24_i_SamplesOf.O (n : Nat) : Orc := orcOf (E := E) [f102_i_areCodes.w, f103_i_share.w] [f24_i_SamplesOf.l0.W n] n
theorem f24_i_SamplesOf.l0.ok (n : Nat) : LpOk (f24_i_SamplesOf.O n) E (evalFn E n) n (keepAt 24) (.loop (loopAt c24 0)) :=
  lp_pure f24_i_SamplesOf.l0.P sg_illlii f24_i_SamplesOf.l0.A (f24_i_SamplesOf.l0.F n) (orcOf_cf _ _ n) (lpOk_of (bs := []) (by kernel_rfl) .nil) (fun _ => rfl) (fun _ _ => by kernel_rfl) (fun _ _ _ => by kernel_rfl)
theorem f24_i_SamplesOf.ok : ∀ n v x, f24_i_SamplesOf.F n v = some x → evalFn E n 24 (flAs f24_i_SamplesOf.P (sg_il.pk v)) = some (f24_i_SamplesOf.A.enc x) :=
  fn_pure (modes := (fdAt 24).ms) (outs := (fdAt 24).os) (results := (fdAt 24).rs) f24_i_SamplesOf.O (c := c24) (keep := keepAt 24) (by kernel_rfl) (fun n => orcOf_cf _ _ n) (fun n => lpOk_of (bs := [loopAt c24 0]) (by kernel_rfl) (.cons (f24_i_SamplesOf.l0.ok n) .nil)) (fun _ => rfl) (fun _ _ => by kernel_rfl)
noncomputable def f24_i_SamplesOf.w : FnW E := fnW 24 f24_i_SamplesOf.P sg_il f24_i_SamplesOf.A f24_i_SamplesOf.F f24_i_SamplesOf.ok

def f25_i_CountClipped.l0 (n : Nat) : Nat → Nat → List T → Int → Int → Nat → List T → Int → Int → Option (Int)
  | 0, _, _, _, _, _, _, _, _ => none
  | m + 1, n1, l2, i3, i4, n5, l6, i7, i8 =>
    br (decide (i8 < i7)) (
     gd ((decide (((0 : Int) ≤ i8) ∧ (i8 < ((n5 : Nat) : Int)))) && (okAt [(CK.int IntKind.i64)] l6 (Int.toNat i8))) (
     let i9 : Int := (iAt l6 (Int.toNat i8))
     br (i9 == (IntKind.i64.wrap ((0 : Int) - i3))) (
      let i10 : Int := (IntKind.i64.wrap (i4 + (1 : Int)))
      f25_i_CountClipped.l0 n m n1 l2 i3 i10 n5 l6 i7 (IntKind.i64.wrap (i8 + (1 : Int)))) (
      br (i9 == (IntKind.i64.wrap (i3 - (1 : Int)))) (
       let i11 : Int := (IntKind.i64.wrap (i4 + (1 : Int)))
       f25_i_CountClipped.l0 n m n1 l2 i3 i11 n5 l6 i7 (IntKind.i64.wrap (i8 + (1 : Int)))) (
       f25_i_CountClipped.l0 n m n1 l2 i3 i4 n5 l6 i7 (IntKind.i64.wrap (i8 + (1 : Int))))))) (
     some i4)
def f25_i_CountClipped : Nat → Int → Nat → List T → Option (Int × Bool)
  | 0, _, _, _ => none
  | n + 1, i1, n2, l3 =>
    bd (f102_i_areCodes n i1 n2 l3) fun r4 =>
    let b5 : Bool := r4
    br (!b5) (
     some ((0 : Int), false)) (
     gd (decide ((0 : Int) ≤ (IntKind.i64.wrap (i1 - (1 : Int))))) (
     let i6 : Int := (IntKind.i64.wrap ((1 : Int) * ((2 : Int) ^ (min (Int.toNat (IntKind.i64.wrap (i1 - (1 : Int)))) 64))))
     bd (f25_i_CountClipped.l0 n n n2 l3 i6 (0 : Int) n2 l3 ((n2 : Nat) : Int) (0 : Int)) fun r7 =>
     let i8 : Int := r7
     some (i8, true)))
def sg_ib : Sig (Int × Bool) where
  pk := fun v => [.int v.1, .bool v.2]
  up := fun ls => match ls with
    | [.int a0, .bool a1] => some (a0, a1)
    | _ => none
  ok := by
    intro ls v h
    split at h
    · cases h; rfl
    · cases h

def f25_i_CountClipped.l0.P : AS := ⟨[(1, .val false [.sl .shr [.leaf]] [.lst 0 []] [] 0), (6, .val false [.leaf] [.int .i64 0] [] 0), (7, .val false [.leaf] [.int .i64 0] [] 0), (17, .val false [.sl .shr [.leaf]] [.lst 0 []] [] 0), (18, .val false [.leaf] [.int .i64 0] [] 0), (19, .val false [.leaf] [.int .i64 0] [] 0)], 0⟩
def f25_i_CountClipped.l0.A : Alt (Int) := .one (.exit 0) ⟨[(7, .val false [.leaf] [.int .i64 0] [] 0)], 0⟩ sg_i
def f25_i_CountClipped.l0.F (n m : Nat) (v : Nat × List T × Int × Int × Nat × List T × Int × Int) := f25_i_CountClipped.l0 n m v.1 v.2.1 v.2.2.1 v.2.2.2.1 v.2.2.2.2.1 v.2.2.2.2.2.1 v.2.2.2.2.2.2.1 v.2.2.2.2.2.2.2
def f25_i_CountClipped.l0.W (n : Nat) : LpW := .of 96 f25_i_CountClipped.l0.P sg_liilii f25_i_CountClipped.l0.A (f25_i_CountClipped.l0.F n n)
def f25_i_CountClipped.P : List Arg := [⟨.val, ⟨false, [.leaf], [.int .i64 0]⟩⟩, ⟨.val, ⟨false, [.sl .shr [.leaf]], [.lst 0 []]⟩⟩]
def f25_i_CountClipped.A : RAlt (Int × Bool) := .one ⟨[⟨false, [.leaf], [.int .i64 0]⟩, ⟨false, [.leaf], [.bool false]⟩], [none, none]⟩ sg_ib
def f25_i_CountClipped.F (n : Nat) (v : Int × Nat × List T) := f25_i_CountClipped n v.1 v.2.1 v.2.2
noncomputable def f25_i_CountClipped.O (n : Nat) : Orc := orcOf (E := E) [f102_i_areCodes.w] [f25_i_CountClipped.l0.W n] n
theorem f25_i_CountClipped.l0.ok (n : Nat) : LpOk (f25_i_CountClipped.O n) E (evalFn E n) n (keepAt 25) (.loop (loopAt c25 0)) :=
  lp_pure f25_i_CountClipped.l0.P sg_liilii f25_i_CountClipped.l0.A (f25_i_CountClipped.l0.F n) (orcOf_cf _ _ n) (lpOk_of (bs := []) (by kernel_rfl) .nil) (fun _ => rfl) (fun _ _ => by kernel_rfl) (fun _ _ _ => by kernel_rfl)
theorem f25_i_CountClipped.ok : ∀ n v x, f25_i_CountClipped.F n v = some x → evalFn E n 25 (flAs f25_i_CountClipped.P (sg_il.pk v)) = some (f25_i_CountClipped.A.enc x) :=
  fn_pure (modes := (fdAt 25).ms) (outs := (fdAt 25).os) (results := (fdAt 25).rs) f25_i_CountClipped.O (c := c25) (keep := keepAt 25) (by kernel_rfl) (fun n => orcOf_cf _ _ n) (fun n => lpOk_of (bs := [loopAt c25 0]) (by kernel_rfl) (.cons (f25_i_CountClipped.l0.ok n) .nil)) (fun _ => rfl) (fun _ _ => by kernel_rfl)
noncomputable def f25_i_CountClipped.w : FnW E := fnW 25 f25_i_CountClipped.P sg_il f25_i_CountClipped.A f25_i_CountClipped.F f25_i_CountClipped.ok

def f4_l_FnSteps.l1 (n : Nat) : Nat → Int → Nat → List T → Nat → List T → Nat → List T → Int → Int → Int → Int → Option ((Bool) ⊕ (Int × Nat × List T × Nat × List T × Nat × List T × Int × Int × Int))
  | 0, _, _, _, _, _, _, _, _, _, _, _ => none
  | m + 1, i1, n2, l3, n4, l5, n6, l7, i8, i9, i10, i11 =>
    br (decide (i11 < i10)) (
     gd (decide (((0 : Int) ≤ i11) ∧ (i11 < ((n2 : Nat) : Int)))) (
     gd (okAt [(CK.flt FloatKind.f32)] l3 (Int.toNat i11)) (
     gd (decide (((0 : Int) ≤ i10) ∧ (i10 < ((n2 : Nat) : Int)))) (
     gd (okAt [(CK.flt FloatKind.f32)] l3 (Int.toNat i10)) (
     br (flt FloatKind.f32 (fAt l3 (Int.toNat i11)) (fAt l3 (Int.toNat i10))) (
      gd (decide (((0 : Int) ≤ i11) ∧ (i11 < ((n4 : Nat) : Int)))) (
      gd (okAt [(CK.int IntKind.i64)] l5 (Int.toNat i11)) (
      gd (decide (((0 : Int) ≤ i10) ∧ (i10 < ((n4 : Nat) : Int)))) (
      gd (okAt [(CK.int IntKind.i64)] l5 (Int.toNat i10)) (
      br (decide ((iAt l5 (Int.toNat i11)) > (iAt l5 (Int.toNat i10)))) (
       some (Sum.inl false)) (
       f4_l_FnSteps.l1 n m i1 n2 l3 n4 l5 n6 l7 i8 i9 i10 (IntKind.i64.wrap (i11 + (1 : Int))))))))) (
      f4_l_FnSteps.l1 n m i1 n2 l3 n4 l5 n6 l7 i8 i9 i10 (IntKind.i64.wrap (i11 + (1 : Int))))))))) (
     some (Sum.inr (i1, n2, l3, n4, l5, n6, l7, i8, i9, i10)))
def f4_l_FnSteps.l0 (n : Nat) : Nat → Int → Nat → List T → Nat → List T → Nat → List T → Int → Int → Int → Option ((Bool) ⊕ (Nat × List T × Int × Int))
  | 0, _, _, _, _, _, _, _, _, _, _ => none
  | m + 1, i1, n2, l3, n4, l5, n6, l7, i8, i9, i10 =>
    br (decide (i10 < ((n2 : Nat) : Int))) (
     gd (decide (((0 : Int) ≤ i10) ∧ (i10 < ((n4 : Nat) : Int)))) (
     gd (okAt [(CK.int IntKind.i64)] l5 (Int.toNat i10)) (
     br (decide ((iAt l5 (Int.toNat i10)) < (IntKind.i64.wrap ((0 : Int) - i1)))) (
      some (Sum.inl false)) (
      gd (decide (((0 : Int) ≤ i10) ∧ (i10 < ((n4 : Nat) : Int)))) (
      gd (okAt [(CK.int IntKind.i64)] l5 (Int.toNat i10)) (
      br (decide ((iAt l5 (Int.toNat i10)) ≥ i1)) (
       some (Sum.inl false)) (
       gd (decide (((0 : Int) ≤ i10) ∧ (i10 < ((n6 : Nat) : Int)))) (
       gd (okAt [(CK.int IntKind.i64)] l7 (Int.toNat i10)) (
       gd (decide (((0 : Int) ≤ i10) ∧ (i10 < ((n4 : Nat) : Int)))) (
       gd (okAt [(CK.int IntKind.i64)] l5 (Int.toNat i10)) (
       br ((iAt l7 (Int.toNat i10)) != (iAt l5 (Int.toNat i10))) (
        some (Sum.inl false)) (
        gd (decide (((0 : Int) ≤ i10) ∧ (i10 < ((n2 : Nat) : Int)))) (
        gd (okAt [(CK.flt FloatKind.f32)] l3 (Int.toNat i10)) (
        gd (decide (((0 : Int) ≤ i10) ∧ (i10 < ((n2 : Nat) : Int)))) (
        gd (okAt [(CK.flt FloatKind.f32)] l3 (Int.toNat i10)) (
        br (fne FloatKind.f32 (fAt l3 (Int.toNat i10)) (fAt l3 (Int.toNat i10))) (
         gd (decide (((0 : Int) ≤ i10) ∧ (i10 < ((n4 : Nat) : Int)))) (
         gd (okAt [(CK.int IntKind.i64)] l5 (Int.toNat i10)) (
         br ((iAt l5 (Int.toNat i10)) != (0 : Int)) (
          some (Sum.inl false)) (
          gd (decide (((0 : Int) ≤ i10) ∧ (i10 < ((n4 : Nat) : Int)))) (
          gd (okAt [(CK.int IntKind.i64)] l5 (Int.toNat i10)) (
          br ((iAt l5 (Int.toNat i10)) == (IntKind.i64.wrap ((0 : Int) - i1))) (
           let i11 : Int := (IntKind.i64.wrap (i9 + (1 : Int)))
           gd (decide (((0 : Int) ≤ i10) ∧ (i10 < ((n2 : Nat) : Int)))) (
           gd (okAt [(CK.flt FloatKind.f32)] l3 (Int.toNat i10)) (
           bd ((fltToFlt FloatKind.f32 (fAt l3 (Int.toNat i10)) FloatKind.f64)) fun y12 =>
           let x13 : Nat := (fmul FloatKind.f64 y12 (FloatKind.nearest FloatKind.f64 i1))
           gd (decide (((0 : Int) ≤ i10) ∧ (i10 < ((n4 : Nat) : Int)))) (
           gd (okAt [(CK.int IntKind.i64)] l5 (Int.toNat i10)) (
           let x14 : Nat := (fsub FloatKind.f64 x13 (FloatKind.nearest FloatKind.f64 (iAt l5 (Int.toNat i10))))
           br (fge FloatKind.f64 x13 (FloatKind.nearest FloatKind.f64 (IntKind.i64.wrap ((0 : Int) - i1)))) (
            br (fle FloatKind.f64 x13 (FloatKind.nearest FloatKind.f64 (IntKind.i64.wrap (i1 - (1 : Int))))) (
             br (fgt FloatKind.f64 x14 4602678819172646912) (
              some (Sum.inl false)) (
              br (flt FloatKind.f64 x14 13826050856027422720) (
               some (Sum.inl false)) (
               br (fgt FloatKind.f64 x13 (FloatKind.nearest FloatKind.f64 (IntKind.i64.wrap (i1 - (1 : Int))))) (
                gd (decide (((0 : Int) ≤ i10) ∧ (i10 < ((n4 : Nat) : Int)))) (
                gd (okAt [(CK.int IntKind.i64)] l5 (Int.toNat i10)) (
                br ((iAt l5 (Int.toNat i10)) != (IntKind.i64.wrap (i1 - (1 : Int)))) (
                 some (Sum.inl false)) (
                 br (flt FloatKind.f64 x13 (FloatKind.nearest FloatKind.f64 (IntKind.i64.wrap ((0 : Int) - i1)))) (
                  gd (decide (((0 : Int) ≤ i10) ∧ (i10 < ((n4 : Nat) : Int)))) (
                  gd (okAt [(CK.int IntKind.i64)] l5 (Int.toNat i10)) (
                  br ((iAt l5 (Int.toNat i10)) != (IntKind.i64.wrap ((0 : Int) - i1))) (
                   some (Sum.inl false)) (
                   bd (f4_l_FnSteps.l1 n n i1 n2 l3 n4 l5 n6 l7 i8 i11 i10 (0 : Int)) fun r15 =>
                   sm r15 (fun u16 =>
                    let b17 : Bool := u16
                    some (Sum.inl b17)) (fun u18 =>
                    let i19 : Int := u18.1
                    let n20 : Nat := u18.2.1
                    let l21 : List T := u18.2.2.1
                    let n22 : Nat := u18.2.2.2.1
                    let l23 : List T := u18.2.2.2.2.1
                    let n24 : Nat := u18.2.2.2.2.2.1
                    let l25 : List T := u18.2.2.2.2.2.2.1
                    let i26 : Int := u18.2.2.2.2.2.2.2.1
                    let i27 : Int := u18.2.2.2.2.2.2.2.2.1
                    let i28 : Int := u18.2.2.2.2.2.2.2.2.2
                    f4_l_FnSteps.l0 n m i19 n20 l21 n22 l23 n24 l25 i26 i27 (IntKind.i64.wrap (i28 + (1 : Int)))))))) (
                  bd (f4_l_FnSteps.l1 n n i1 n2 l3 n4 l5 n6 l7 i8 i11 i10 (0 : Int)) fun r29 =>
                  sm r29 (fun u30 =>
                   let b31 : Bool := u30
                   some (Sum.inl b31)) (fun u32 =>
                   let i33 : Int := u32.1
                   let n34 : Nat := u32.2.1
                   let l35 : List T := u32.2.2.1
                   let n36 : Nat := u32.2.2.2.1
                   let l37 : List T := u32.2.2.2.2.1
                   let n38 : Nat := u32.2.2.2.2.2.1
                   let l39 : List T := u32.2.2.2.2.2.2.1
                   let i40 : Int := u32.2.2.2.2.2.2.2.1
                   let i41 : Int := u32.2.2.2.2.2.2.2.2.1
                   let i42 : Int := u32.2.2.2.2.2.2.2.2.2
                   f4_l_FnSteps.l0 n m i33 n34 l35 n36 l37 n38 l39 i40 i41 (IntKind.i64.wrap (i42 + (1 : Int))))))))) (
                br (flt FloatKind.f64 x13 (FloatKind.nearest FloatKind.f64 (IntKind.i64.wrap ((0 : Int) - i1)))) (
                 gd (decide (((0 : Int) ≤ i10) ∧ (i10 < ((n4 : Nat) : Int)))) (
                 gd (okAt [(CK.int IntKind.i64)] l5 (Int.toNat i10)) (
                 br ((iAt l5 (Int.toNat i10)) != (IntKind.i64.wrap ((0 : Int) - i1))) (
                  some (Sum.inl false)) (
                  bd (f4_l_FnSteps.l1 n n i1 n2 l3 n4 l5 n6 l7 i8 i11 i10 (0 : Int)) fun r43 =>
                  sm r43 (fun u44 =>
                   let b45 : Bool := u44
                   some (Sum.inl b45)) (fun u46 =>
                   let i47 : Int := u46.1
                   let n48 : Nat := u46.2.1
                   let l49 : List T := u46.2.2.1
                   let n50 : Nat := u46.2.2.2.1
                   let l51 : List T := u46.2.2.2.2.1
                   let n52 : Nat := u46.2.2.2.2.2.1
                   let l53 : List T := u46.2.2.2.2.2.2.1
                   let i54 : Int := u46.2.2.2.2.2.2.2.1
                   let i55 : Int := u46.2.2.2.2.2.2.2.2.1
                   let i56 : Int := u46.2.2.2.2.2.2.2.2.2
                   f4_l_FnSteps.l0 n m i47 n48 l49 n50 l51 n52 l53 i54 i55 (IntKind.i64.wrap (i56 + (1 : Int)))))))) (
                 bd (f4_l_FnSteps.l1 n n i1 n2 l3 n4 l5 n6 l7 i8 i11 i10 (0 : Int)) fun r57 =>
                 sm r57 (fun u58 =>
                  let b59 : Bool := u58
                  some (Sum.inl b59)) (fun u60 =>
                  let i61 : Int := u60.1
                  let n62 : Nat := u60.2.1
                  let l63 : List T := u60.2.2.1
                  let n64 : Nat := u60.2.2.2.1
                  let l65 : List T := u60.2.2.2.2.1
                  let n66 : Nat := u60.2.2.2.2.2.1
                  let l67 : List T := u60.2.2.2.2.2.2.1
                  let i68 : Int := u60.2.2.2.2.2.2.2.1
                  let i69 : Int := u60.2.2.2.2.2.2.2.2.1
                  let i70 : Int := u60.2.2.2.2.2.2.2.2.2
                  f4_l_FnSteps.l0 n m i61 n62 l63 n64 l65 n66 l67 i68 i69 (IntKind.i64.wrap (i70 + (1 : Int))))))))) (
             br (fgt FloatKind.f64 x13 (FloatKind.nearest FloatKind.f64 (IntKind.i64.wrap (i1 - (1 : Int))))) (
              gd (decide (((0 : Int) ≤ i10) ∧ (i10 < ((n4 : Nat) : Int)))) (
              gd (okAt [(CK.int IntKind.i64)] l5 (Int.toNat i10)) (
              br ((iAt l5 (Int.toNat i10)) != (IntKind.i64.wrap (i1 - (1 : Int)))) (
               some (Sum.inl false)) (
               br (flt FloatKind.f64 x13 (FloatKind.nearest FloatKind.f64 (IntKind.i64.wrap ((0 : Int) - i1)))) (
                gd (decide (((0 : Int) ≤ i10) ∧ (i10 < ((n4 : Nat) : Int)))) (
                gd (okAt [(CK.int IntKind.i64)] l5 (Int.toNat i10)) (
                br ((iAt l5 (Int.toNat i10)) != (IntKind.i64.wrap ((0 : Int) - i1))) (
                 some (Sum.inl false)) (
                 bd (f4_l_FnSteps.l1 n n i1 n2 l3 n4 l5 n6 l7 i8 i11 i10 (0 : Int)) fun r71 =>
                 sm r71 (fun u72 =>
                  let b73 : Bool := u72
                  some (Sum.inl b73)) (fun u74 =>
                  let i75 : Int := u74.1
                  let n76 : Nat := u74.2.1
                  let l77 : List T := u74.2.2.1
                  let n78 : Nat := u74.2.2.2.1
                  let l79 : List T := u74.2.2.2.2.1
                  let n80 : Nat := u74.2.2.2.2.2.1
                  let l81 : List T := u74.2.2.2.2.2.2.1
                  let i82 : Int := u74.2.2.2.2.2.2.2.1
                  let i83 : Int := u74.2.2.2.2.2.2.2.2.1
                  let i84 : Int := u74.2.2.2.2.2.2.2.2.2
                  f4_l_FnSteps.l0 n m i75 n76 l77 n78 l79 n80 l81 i82 i83 (IntKind.i64.wrap (i84 + (1 : Int)))))))) (
                bd (f4_l_FnSteps.l1 n n i1 n2 l3 n4 l5 n6 l7 i8 i11 i10 (0 : Int)) fun r85 =>
                sm r85 (fun u86 =>
                 let b87 : Bool := u86
                 some (Sum.inl b87)) (fun u88 =>
                 let i89 : Int := u88.1
                 let n90 : Nat := u88.2.1
                 let l91 : List T := u88.2.2.1
                 let n92 : Nat := u88.2.2.2.1
                 let l93 : List T := u88.2.2.2.2.1
                 let n94 : Nat := u88.2.2.2.2.2.1
                 let l95 : List T := u88.2.2.2.2.2.2.1
                 let i96 : Int := u88.2.2.2.2.2.2.2.1
                 let i97 : Int := u88.2.2.2.2.2.2.2.2.1
                 let i98 : Int := u88.2.2.2.2.2.2.2.2.2
                 f4_l_FnSteps.l0 n m i89 n90 l91 n92 l93 n94 l95 i96 i97 (IntKind.i64.wrap (i98 + (1 : Int))))))))) (
              br (flt FloatKind.f64 x13 (FloatKind.nearest FloatKind.f64 (IntKind.i64.wrap ((0 : Int) - i1)))) (
               gd (decide (((0 : Int) ≤ i10) ∧ (i10 < ((n4 : Nat) : Int)))) (
               gd (okAt [(CK.int IntKind.i64)] l5 (Int.toNat i10)) (
               br ((iAt l5 (Int.toNat i10)) != (IntKind.i64.wrap ((0 : Int) - i1))) (
                some (Sum.inl false)) (
                bd (f4_l_FnSteps.l1 n n i1 n2 l3 n4 l5 n6 l7 i8 i11 i10 (0 : Int)) fun r99 =>
                sm r99 (fun u100 =>
                 let b101 : Bool := u100
                 some (Sum.inl b101)) (fun u102 =>
                 let i103 : Int := u102.1
                 let n104 : Nat := u102.2.1
                 let l105 : List T := u102.2.2.1
                 let n106 : Nat := u102.2.2.2.1
                 let l107 : List T := u102.2.2.2.2.1
                 let n108 : Nat := u102.2.2.2.2.2.1
                 let l109 : List T := u102.2.2.2.2.2.2.1
                 let i110 : Int := u102.2.2.2.2.2.2.2.1
                 let i111 : Int := u102.2.2.2.2.2.2.2.2.1
                 let i112 : Int := u102.2.2.2.2.2.2.2.2.2
                 f4_l_FnSteps.l0 n m i103 n104 l105 n106 l107 n108 l109 i110 i111 (IntKind.i64.wrap (i112 + (1 : Int)))))))) (
               bd (f4_l_FnSteps.l1 n n i1 n2 l3 n4 l5 n6 l7 i8 i11 i10 (0 : Int)) fun r113 =>
               sm r113 (fun u114 =>
                let b115 : Bool := u114
                some (Sum.inl b115)) (fun u116 =>
                let i117 : Int := u116.1
                let n118 : Nat := u116.2.1
                let l119 : List T := u116.2.2.1
                let n120 : Nat := u116.2.2.2.1
                let l121 : List T := u116.2.2.2.2.1
                let n122 : Nat := u116.2.2.2.2.2.1
                let l123 : List T := u116.2.2.2.2.2.2.1
                let i124 : Int := u116.2.2.2.2.2.2.2.1
                let i125 : Int := u116.2.2.2.2.2.2.2.2.1
                let i126 : Int := u116.2.2.2.2.2.2.2.2.2
                f4_l_FnSteps.l0 n m i117 n118 l119 n120 l121 n122 l123 i124 i125 (IntKind.i64.wrap (i126 + (1 : Int)))))))) (
            br (fgt FloatKind.f64 x13 (FloatKind.nearest FloatKind.f64 (IntKind.i64.wrap (i1 - (1 : Int))))) (
             gd (decide (((0 : Int) ≤ i10) ∧ (i10 < ((n4 : Nat) : Int)))) (
             gd (okAt [(CK.int IntKind.i64)] l5 (Int.toNat i10)) (
             br ((iAt l5 (Int.toNat i10)) != (IntKind.i64.wrap (i1 - (1 : Int)))) (
              some (Sum.inl false)) (
              br (flt FloatKind.f64 x13 (FloatKind.nearest FloatKind.f64 (IntKind.i64.wrap ((0 : Int) - i1)))) (
               gd (decide (((0 : Int) ≤ i10) ∧ (i10 < ((n4 : Nat) : Int)))) (
               gd (okAt [(CK.int IntKind.i64)] l5 (Int.toNat i10)) (
               br ((iAt l5 (Int.toNat i10)) != (IntKind.i64.wrap ((0 : Int) - i1))) (
                some (Sum.inl false)) (
                bd (f4_l_FnSteps.l1 n n i1 n2 l3 n4 l5 n6 l7 i8 i11 i10 (0 : Int)) fun r127 =>
                sm r127 (fun u128 =>
                 let b129 : Bool := u128
                 some (Sum.inl b129)) (fun u130 =>
                 let i131 : Int := u130.1
                 let n132 : Nat := u130.2.1
                 let l133 : List T := u130.2.2.1
                 let n134 : Nat := u130.2.2.2.1
                 let l135 : List T := u130.2.2.2.2.1
                 let n136 : Nat := u130.2.2.2.2.2.1
                 let l137 : List T := u130.2.2.2.2.2.2.1
                 let i138 : Int := u130.2.2.2.2.2.2.2.1
                 let i139 : Int := u130.2.2.2.2.2.2.2.2.1
                 let i140 : Int := u130.2.2.2.2.2.2.2.2.2
                 f4_l_FnSteps.l0 n m i131 n132 l133 n134 l135 n136 l137 i138 i139 (IntKind.i64.wrap (i140 + (1 : Int)))))))) (
               bd (f4_l_FnSteps.l1 n n i1 n2 l3 n4 l5 n6 l7 i8 i11 i10 (0 : Int)) fun r141 =>
               sm r141 (fun u142 =>
                let b143 : Bool := u142
                some (Sum.inl b143)) (fun u144 =>
                let i145 : Int := u144.1
                let n146 : Nat := u144.2.1
                let l147 : List T := u144.2.2.1
                let n148 : Nat := u144.2.2.2.1
                let l149 : List T := u144.2.2.2.2.1
                let n150 : Nat := u144.2.2.2.2.2.1
                let l151 : List T := u144.2.2.2.2.2.2.1
                let i152 : Int := u144.2.2.2.2.2.2.2.1
                let i153 : Int := u144.2.2.2.2.2.2.2.2.1
                let i154 : Int := u144.2.2.2.2.2.2.2.2.2
                f4_l_FnSteps.l0 n m i145 n146 l147 n148 l149 n150 l151 i152 i153 (IntKind.i64.wrap (i154 + (1 : Int))))))))) (
             br (flt FloatKind.f64 x13 (FloatKind.nearest FloatKind.f64 (IntKind.i64.wrap ((0 : Int) - i1)))) (
              gd (decide (((0 : Int) ≤ i10) ∧ (i10 < ((n4 : Nat) : Int)))) (
              gd (okAt [(CK.int IntKind.i64)] l5 (Int.toNat i10)) (
              br ((iAt l5 (Int.toNat i10)) != (IntKind.i64.wrap ((0 : Int) - i1))) (
               some (Sum.inl false)) (
               bd (f4_l_FnSteps.l1 n n i1 n2 l3 n4 l5 n6 l7 i8 i11 i10 (0 : Int)) fun r155 =>
               sm r155 (fun u156 =>
                let b157 : Bool := u156
                some (Sum.inl b157)) (fun u158 =>
                let i159 : Int := u158.1
                let n160 : Nat := u158.2.1
                let l161 : List T := u158.2.2.1
                let n162 : Nat := u158.2.2.2.1
                let l163 : List T := u158.2.2.2.2.1
                let n164 : Nat := u158.2.2.2.2.2.1
                let l165 : List T := u158.2.2.2.2.2.2.1
                let i166 : Int := u158.2.2.2.2.2.2.2.1
                let i167 : Int := u158.2.2.2.2.2.2.2.2.1
                let i168 : Int := u158.2.2.2.2.2.2.2.2.2
                f4_l_FnSteps.l0 n m i159 n160 l161 n162 l163 n164 l165 i166 i167 (IntKind.i64.wrap (i168 + (1 : Int)))))))) (
              bd (f4_l_FnSteps.l1 n n i1 n2 l3 n4 l5 n6 l7 i8 i11 i10 (0 : Int)) fun r169 =>
              sm r169 (fun u170 =>
               let b171 : Bool := u170
               some (Sum.inl b171)) (fun u172 =>
               let i173 : Int := u172.1
               let n174 : Nat := u172.2.1
               let l175 : List T := u172.2.2.1
               let n176 : Nat := u172.2.2.2.1
               let l177 : List T := u172.2.2.2.2.1
               let n178 : Nat := u172.2.2.2.2.2.1
               let l179 : List T := u172.2.2.2.2.2.2.1
               let i180 : Int := u172.2.2.2.2.2.2.2.1
               let i181 : Int := u172.2.2.2.2.2.2.2.2.1
               let i182 : Int := u172.2.2.2.2.2.2.2.2.2
               f4_l_FnSteps.l0 n m i173 n174 l175 n176 l177 n178 l179 i180 i181 (IntKind.i64.wrap (i182 + (1 : Int)))))))))))) (
           gd (decide (((0 : Int) ≤ i10) ∧ (i10 < ((n4 : Nat) : Int)))) (
           gd (okAt [(CK.int IntKind.i64)] l5 (Int.toNat i10)) (
           br ((iAt l5 (Int.toNat i10)) == (IntKind.i64.wrap (i1 - (1 : Int)))) (
            let i183 : Int := (IntKind.i64.wrap (i9 + (1 : Int)))
            gd (decide (((0 : Int) ≤ i10) ∧ (i10 < ((n2 : Nat) : Int)))) (
            gd (okAt [(CK.flt FloatKind.f32)] l3 (Int.toNat i10)) (
            bd ((fltToFlt FloatKind.f32 (fAt l3 (Int.toNat i10)) FloatKind.f64)) fun y184 =>
            let x185 : Nat := (fmul FloatKind.f64 y184 (FloatKind.nearest FloatKind.f64 i1))
            gd (decide (((0 : Int) ≤ i10) ∧ (i10 < ((n4 : Nat) : Int)))) (
            gd (okAt [(CK.int IntKind.i64)] l5 (Int.toNat i10)) (
            let x186 : Nat := (fsub FloatKind.f64 x185 (FloatKind.nearest FloatKind.f64 (iAt l5 (Int.toNat i10))))
            br (fge FloatKind.f64 x185 (FloatKind.nearest FloatKind.f64 (IntKind.i64.wrap ((0 : Int) - i1)))) (
             br (fle FloatKind.f64 x185 (FloatKind.nearest FloatKind.f64 (IntKind.i64.wrap (i1 - (1 : Int))))) (
              br (fgt FloatKind.f64 x186 4602678819172646912) (
               some (Sum.inl false)) (
               br (flt FloatKind.f64 x186 13826050856027422720) (
                some (Sum.inl false)) (
                br (fgt FloatKind.f64 x185 (FloatKind.nearest FloatKind.f64 (IntKind.i64.wrap (i1 - (1 : Int))))) (
                 gd (decide (((0 : Int) ≤ i10) ∧ (i10 < ((n4 : Nat) : Int)))) (
                 gd (okAt [(CK.int IntKind.i64)] l5 (Int.toNat i10)) (
                 br ((iAt l5 (Int.toNat i10)) != (IntKind.i64.wrap (i1 - (1 : Int)))) (
                  some (Sum.inl false)) (
                  br (flt FloatKind.f64 x185 (FloatKind.nearest FloatKind.f64 (IntKind.i64.wrap ((0 : Int) - i1)))) (
                   gd (decide (((0 : Int) ≤ i10) ∧ (i10 < ((n4 : Nat) : Int)))) (
                   gd (okAt [(CK.int IntKind.i64)] l5 (Int.toNat i10)) (
                   br ((iAt l5 (Int.toNat i10)) != (IntKind.i64.wrap ((0 : Int) - i1))) (
                    some (Sum.inl false)) (
                    bd (f4_l_FnSteps.l1 n n i1 n2 l3 n4 l5 n6 l7 i8 i183 i10 (0 : Int)) fun r187 =>
                    sm r187 (fun u188 =>
                     let b189 : Bool := u188
                     some (Sum.inl b189)) (fun u190 =>
                     let i191 : Int := u190.1
                     let n192 : Nat := u190.2.1
                     let l193 : List T := u190.2.2.1
                     let n194 : Nat := u190.2.2.2.1
                     let l195 : List T := u190.2.2.2.2.1
                     let n196 : Nat := u190.2.2.2.2.2.1
                     let l197 : List T := u190.2.2.2.2.2.2.1
                     let i198 : Int := u190.2.2.2.2.2.2.2.1
                     let i199 : Int := u190.2.2.2.2.2.2.2.2.1
                     let i200 : Int := u190.2.2.2.2.2.2.2.2.2
                     f4_l_FnSteps.l0 n m i191 n192 l193 n194 l195 n196 l197 i198 i199 (IntKind.i64.wrap (i200 + (1 : Int)))))))) (
                   bd (f4_l_FnSteps.l1 n n i1 n2 l3 n4 l5 n6 l7 i8 i183 i10 (0 : Int)) fun r201 =>
                   sm r201 (fun u202 =>
                    let b203 : Bool := u202
                    some (Sum.inl b203)) (fun u204 =>
                    let i205 : Int := u204.1
                    let n206 : Nat := u204.2.1
                    let l207 : List T := u204.2.2.1
                    let n208 : Nat := u204.2.2.2.1
                    let l209 : List T := u204.2.2.2.2.1
                    let n210 : Nat := u204.2.2.2.2.2.1
                    let l211 : List T := u204.2.2.2.2.2.2.1
                    let i212 : Int := u204.2.2.2.2.2.2.2.1
                    let i213 : Int := u204.2.2.2.2.2.2.2.2.1
                    let i214 : Int := u204.2.2.2.2.2.2.2.2.2
                    f4_l_FnSteps.l0 n m i205 n206 l207 n208 l209 n210 l211 i212 i213 (IntKind.i64.wrap (i214 + (1 : Int))))))))) (
                 br (flt FloatKind.f64 x185 (FloatKind.nearest FloatKind.f64 (IntKind.i64.wrap ((0 : Int) - i1)))) (
                  gd (decide (((0 : Int) ≤ i10) ∧ (i10 < ((n4 : Nat) : Int)))) (
                  gd (okAt [(CK.int IntKind.i64)] l5 (Int.toNat i10)) (
                  br ((iAt l5 (Int.toNat i10)) != (IntKind.i64.wrap ((0 : Int) - i1))) (
                   some (Sum.inl false)) (
                   bd (f4_l_FnSteps.l1 n n i1 n2 l3 n4 l5 n6 l7 i8 i183 i10 (0 : Int)) fun r215 =>
                   sm r215 (fun u216 =>
                    let b217 : Bool := u216
                    some (Sum.inl b217)) (fun u218 =>
                    let i219 : Int := u218.1
                    let n220 : Nat := u218.2.1
                    let l221 : List T := u218.2.2.1
                    let n222 : Nat := u218.2.2.2.1
                    let l223 : List T := u218.2.2.2.2.1
                    let n224 : Nat := u218.2.2.2.2.2.1
                    let l225 : List T := u218.2.2.2.2.2.2.1
                    let i226 : Int := u218.2.2.2.2.2.2.2.1
                    let i227 : Int := u218.2.2.2.2.2.2.2.2.1
                    let i228 : Int := u218.2.2.2.2.2.2.2.2.2
                    f4_l_FnSteps.l0 n m i219 n220 l221 n222 l223 n224 l225 i226 i227 (IntKind.i64.wrap (i228 + (1 : Int)))))))) (
                  bd (f4_l_FnSteps.l1 n n i1 n2 l3 n4 l5 n6 l7 i8 i183 i10 (0 : Int)) fun r229 =>
                  sm r229 (fun u230 =>
                   let b231 : Bool := u230
                   some (Sum.inl b231)) (fun u232 =>
                   let i233 : Int := u232.1
                   let n234 : Nat := u232.2.1
                   let l235 : List T := u232.2.2.1
                   let n236 : Nat := u232.2.2.2.1
                   let l237 : List T := u232.2.2.2.2.1
                   let n238 : Nat := u232.2.2.2.2.2.1
                   let l239 : List T := u232.2.2.2.2.2.2.1
                   let i240 : Int := u232.2.2.2.2.2.2.2.1
                   let i241 : Int := u232.2.2.2.2.2.2.2.2.1
                   let i242 : Int := u232.2.2.2.2.2.2.2.2.2
                   f4_l_FnSteps.l0 n m i233 n234 l235 n236 l237 n238 l239 i240 i241 (IntKind.i64.wrap (i242 + (1 : Int))))))))) (
              br (fgt FloatKind.f64 x185 (FloatKind.nearest FloatKind.f64 (IntKind.i64.wrap (i1 - (1 : Int))))) (
               gd (decide (((0 : Int) ≤ i10) ∧ (i10 < ((n4 : Nat) : Int)))) (
               gd (okAt [(CK.int IntKind.i64)] l5 (Int.toNat i10)) (
               br ((iAt l5 (Int.toNat i10)) != (IntKind.i64.wrap (i1 - (1 : Int)))) (
                some (Sum.inl false)) (
                br (flt FloatKind.f64 x185 (FloatKind.nearest FloatKind.f64 (IntKind.i64.wrap ((0 : Int) - i1)))) (
                 gd (decide (((0 : Int) ≤ i10) ∧ (i10 < ((n4 : Nat) : Int)))) (
                 gd (okAt [(CK.int IntKind.i64)] l5 (Int.toNat i10)) (
                 br ((iAt l5 (Int.toNat i10)) != (IntKind.i64.wrap ((0 : Int) - i1))) (
                  some (Sum.inl false)) (
                  bd (f4_l_FnSteps.l1 n n i1 n2 l3 n4 l5 n6 l7 i8 i183 i10 (0 : Int)) fun r243 =>
                  sm r243 (fun u244 =>
                   let b245 : Bool := u244
                   some (Sum.inl b245)) (fun u246 =>
                   let i247 : Int := u246.1
                   let n248 : Nat := u246.2.1
                   let l249 : List T := u246.2.2.1
                   let n250 : Nat := u246.2.2.2.1
                   let l251 : List T := u246.2.2.2.2.1
                   let n252 : Nat := u246.2.2.2.2.2.1
                   let l253 : List T := u246.2.2.2.2.2.2.1
                   let i254 : Int := u246.2.2.2.2.2.2.2.1
                   let i255 : Int := u246.2.2.2.2.2.2.2.2.1
                   let i256 : Int := u246.2.2.2.2.2.2.2.2.2
                   f4_l_FnSteps.l0 n m i247 n248 l249 n250 l251 n252 l253 i254 i255 (IntKind.i64.wrap (i256 + (1 : Int)))))))) (
                 bd (f4_l_FnSteps.l1 n n i1 n2 l3 n4 l5 n6 l7 i8 i183 i10 (0 : Int)) fun r257 =>
                 sm r257 (fun u258 =>
                  let b259 : Bool := u258
                  some (Sum.inl b259)) (fun u260 =>
                  let i261 : Int := u260.1
                  let n262 : Nat := u260.2.1
                  let l263 : List T := u260.2.2.1
                  let n264 : Nat := u260.2.2.2.1
                  let l265 : List T := u260.2.2.2.2.1
                  let n266 : Nat := u260.2.2.2.2.2.1
                  let l267 : List T := u260.2.2.2.2.2.2.1
                  let i268 : Int := u260.2.2.2.2.2.2.2.1
                  let i269 : Int := u260.2.2.2.2.2.2.2.2.1
                  let i270 : Int := u260.2.2.2.2.2.2.2.2.2
                  f4_l_FnSteps.l0 n m i261 n262 l263 n264 l265 n266 l267 i268 i269 (IntKind.i64.wrap (i270 + (1 : Int))))))))) (
               br (flt FloatKind.f64 x185 (FloatKind.nearest FloatKind.f64 (IntKind.i64.wrap ((0 : Int) - i1)))) (
                gd (decide (((0 : Int) ≤ i10) ∧ (i10 < ((n4 : Nat) : Int)))) (
                gd (okAt [(CK.int IntKind.i64)] l5 (Int.toNat i10)) (
                br ((iAt l5 (Int.toNat i10)) != (IntKind.i64.wrap ((0 : Int) - i1))) (
                 some (Sum.inl false)) (
                 bd (f4_l_FnSteps.l1 n n i1 n2 l3 n4 l5 n6 l7 i8 i183 i10 (0 : Int)) fun r271 =>
                 sm r271 (fun u272 =>
                  let b273 : Bool := u272
                  some (Sum.inl b273)) (fun u274 =>
                  let i275 : Int := u274.1
                  let n276 : Nat := u274.2.1
                  let l277 : List T := u274.2.2.1
                  let n278 : Nat := u274.2.2.2.1
                  let l279 : List T := u274.2.2.2.2.1
                  let n280 : Nat := u274.2.2.2.2.2.1
                  let l281 : List T := u274.2.2.2.2.2.2.1
                  let i282 : Int := u274.2.2.2.2.2.2.2.1
                  let i283 : Int := u274.2.2.2.2.2.2.2.2.1
                  let i284 : Int := u274.2.2.2.2.2.2.2.2.2
                  f4_l_FnSteps.l0 n m i275 n276 l277 n278 l279 n280 l281 i282 i283 (IntKind.i64.wrap (i284 + (1 : Int)))))))) (
                bd (f4_l_FnSteps.l1 n n i1 n2 l3 n4 l5 n6 l7 i8 i183 i10 (0 : Int)) fun r285 =>
                sm r285 (fun u286 =>
                 let b287 : Bool := u286
                 some (Sum.inl b287)) (fun u288 =>
                 let i289 : Int := u288.1
                 let n290 : Nat := u288.2.1
                 let l291 : List T := u288.2.2.1
                 let n292 : Nat := u288.2.2.2.1
                 let l293 : List T := u288.2.2.2.2.1
                 let n294 : Nat := u288.2.2.2.2.2.1
                 let l295 : List T := u288.2.2.2.2.2.2.1
                 let i296 : Int := u288.2.2.2.2.2.2.2.1
                 let i297 : Int := u288.2.2.2.2.2.2.2.2.1
                 let i298 : Int := u288.2.2.2.2.2.2.2.2.2
                 f4_l_FnSteps.l0 n m i289 n290 l291 n292 l293 n294 l295 i296 i297 (IntKind.i64.wrap (i298 + (1 : Int)))))))) (
             br (fgt FloatKind.f64 x185 (FloatKind.nearest FloatKind.f64 (IntKind.i64.wrap (i1 - (1 : Int))))) (
              gd (decide (((0 : Int) ≤ i10) ∧ (i10 < ((n4 : Nat) : Int)))) (
              gd (okAt [(CK.int IntKind.i64)] l5 (Int.toNat i10)) (
              br ((iAt l5 (Int.toNat i10)) != (IntKind.i64.wrap (i1 - (1 : Int)))) (
               some (Sum.inl false)) (
               br (flt FloatKind.f64 x185 (FloatKind.nearest FloatKind.f64 (IntKind.i64.wrap ((0 : Int) - i1)))) (
                gd (decide (((0 : Int) ≤ i10) ∧ (i10 < ((n4 : Nat) : Int)))) (
                gd (okAt [(CK.int IntKind.i64)] l5 (Int.toNat i10)) (
                br ((iAt l5 (Int.toNat i10)) != (IntKind.i64.wrap ((0 : Int) - i1))) (
                 some (Sum.inl false)) (
                 bd (f4_l_FnSteps.l1 n n i1 n2 l3 n4 l5 n6 l7 i8 i183 i10 (0 : Int)) fun r299 =>
                 sm r299 (fun u300 =>
                  let b301 : Bool := u300
                  some (Sum.inl b301)) (fun u302 =>
                  let i303 : Int := u302.1
                  let n304 : Nat := u302.2.1
                  let l305 : List T := u302.2.2.1
                  let n306 : Nat := u302.2.2.2.1
                  let l307 : List T := u302.2.2.2.2.1
                  let n308 : Nat := u302.2.2.2.2.2.1
                  let l309 : List T := u302.2.2.2.2.2.2.1
                  let i310 : Int := u302.2.2.2.2.2.2.2.1
                  let i311 : Int := u302.2.2.2.2.2.2.2.2.1
                  let i312 : Int := u302.2.2.2.2.2.2.2.2.2
                  f4_l_FnSteps.l0 n m i303 n304 l305 n306 l307 n308 l309 i310 i311 (IntKind.i64.wrap (i312 + (1 : Int)))))))) (
                bd (f4_l_FnSteps.l1 n n i1 n2 l3 n4 l5 n6 l7 i8 i183 i10 (0 : Int)) fun r313 =>
                sm r313 (fun u314 =>
                 let b315 : Bool := u314
                 some (Sum.inl b315)) (fun u316 =>
                 let i317 : Int := u316.1
                 let n318 : Nat := u316.2.1
                 let l319 : List T := u316.2.2.1
                 let n320 : Nat := u316.2.2.2.1
                 let l321 : List T := u316.2.2.2.2.1
                 let n322 : Nat := u316.2.2.2.2.2.1
                 let l323 : List T := u316.2.2.2.2.2.2.1
                 let i324 : Int := u316.2.2.2.2.2.2.2.1
                 let i325 : Int := u316.2.2.2.2.2.2.2.2.1
                 let i326 : Int := u316.2.2.2.2.2.2.2.2.2
                 f4_l_FnSteps.l0 n m i317 n318 l319 n320 l321 n322 l323 i324 i325 (IntKind.i64.wrap (i326 + (1 : Int))))))))) (
              br (flt FloatKind.f64 x185 (FloatKind.nearest FloatKind.f64 (IntKind.i64.wrap ((0 : Int) - i1)))) (
               gd (decide (((0 : Int) ≤ i10) ∧ (i10 < ((n4 : Nat) : Int)))) (
               gd (okAt [(CK.int IntKind.i64)] l5 (Int.toNat i10)) (
               br ((iAt l5 (Int.toNat i10)) != (IntKind.i64.wrap ((0 : Int) - i1))) (
                some (Sum.inl false)) (
                bd (f4_l_FnSteps.l1 n n i1 n2 l3 n4 l5 n6 l7 i8 i183 i10 (0 : Int)) fun r327 =>
                sm r327 (fun u328 =>
                 let b329 : Bool := u328
                 some (Sum.inl b329)) (fun u330 =>
                 let i331 : Int := u330.1
                 let n332 : Nat := u330.2.1
                 let l333 : List T := u330.2.2.1
                 let n334 : Nat := u330.2.2.2.1
                 let l335 : List T := u330.2.2.2.2.1
                 let n336 : Nat := u330.2.2.2.2.2.1
                 let l337 : List T := u330.2.2.2.2.2.2.1
                 let i338 : Int := u330.2.2.2.2.2.2.2.1
                 let i339 : Int := u330.2.2.2.2.2.2.2.2.1
                 let i340 : Int := u330.2.2.2.2.2.2.2.2.2
                 f4_l_FnSteps.l0 n m i331 n332 l333 n334 l335 n336 l337 i338 i339 (IntKind.i64.wrap (i340 + (1 : Int)))))))) (
               bd (f4_l_FnSteps.l1 n n i1 n2 l3 n4 l5 n6 l7 i8 i183 i10 (0 : Int)) fun r341 =>
               sm r341 (fun u342 =>
                let b343 : Bool := u342
                some (Sum.inl b343)) (fun u344 =>
                let i345 : Int := u344.1
                let n346 : Nat := u344.2.1
                let l347 : List T := u344.2.2.1
                let n348 : Nat := u344.2.2.2.1
                let l349 : List T := u344.2.2.2.2.1
                let n350 : Nat := u344.2.2.2.2.2.1
                let l351 : List T := u344.2.2.2.2.2.2.1
                let i352 : Int := u344.2.2.2.2.2.2.2.1
                let i353 : Int := u344.2.2.2.2.2.2.2.2.1
                let i354 : Int := u344.2.2.2.2.2.2.2.2.2
                f4_l_FnSteps.l0 n m i345 n346 l347 n348 l349 n350 l351 i352 i353 (IntKind.i64.wrap (i354 + (1 : Int)))))))))))) (
            gd (decide (((0 : Int) ≤ i10) ∧ (i10 < ((n2 : Nat) : Int)))) (
            gd (okAt [(CK.flt FloatKind.f32)] l3 (Int.toNat i10)) (
            bd ((fltToFlt FloatKind.f32 (fAt l3 (Int.toNat i10)) FloatKind.f64)) fun y355 =>
            let x356 : Nat := (fmul FloatKind.f64 y355 (FloatKind.nearest FloatKind.f64 i1))
            gd (decide (((0 : Int) ≤ i10) ∧ (i10 < ((n4 : Nat) : Int)))) (
            gd (okAt [(CK.int IntKind.i64)] l5 (Int.toNat i10)) (
            let x357 : Nat := (fsub FloatKind.f64 x356 (FloatKind.nearest FloatKind.f64 (iAt l5 (Int.toNat i10))))
            br (fge FloatKind.f64 x356 (FloatKind.nearest FloatKind.f64 (IntKind.i64.wrap ((0 : Int) - i1)))) (
             br (fle FloatKind.f64 x356 (FloatKind.nearest FloatKind.f64 (IntKind.i64.wrap (i1 - (1 : Int))))) (
              br (fgt FloatKind.f64 x357 4602678819172646912) (
               some (Sum.inl false)) (
               br (flt FloatKind.f64 x357 13826050856027422720) (
                some (Sum.inl false)) (
                br (fgt FloatKind.f64 x356 (FloatKind.nearest FloatKind.f64 (IntKind.i64.wrap (i1 - (1 : Int))))) (
                 gd (decide (((0 : Int) ≤ i10) ∧ (i10 < ((n4 : Nat) : Int)))) (
                 gd (okAt [(CK.int IntKind.i64)] l5 (Int.toNat i10)) (
                 br ((iAt l5 (Int.toNat i10)) != (IntKind.i64.wrap (i1 - (1 : Int)))) (
                  some (Sum.inl false)) (
                  br (flt FloatKind.f64 x356 (FloatKind.nearest FloatKind.f64 (IntKind.i64.wrap ((0 : Int) - i1)))) (
                   gd (decide (((0 : Int) ≤ i10) ∧ (i10 < ((n4 : Nat) : Int)))) (
                   gd (okAt [(CK.int IntKind.i64)] l5 (Int.toNat i10)) (
                   br ((iAt l5 (Int.toNat i10)) != (IntKind.i64.wrap ((0 : Int) - i1))) (
                    some (Sum.inl false)) (
                    bd (f4_l_FnSteps.l1 n n i1 n2 l3 n4 l5 n6 l7 i8 i9 i10 (0 : Int)) fun r358 =>
                    sm r358 (fun u359 =>
                     let b360 : Bool := u359
                     some (Sum.inl b360)) (fun u361 =>
                     let i362 : Int := u361.1
                     let n363 : Nat := u361.2.1
                     let l364 : List T := u361.2.2.1
                     let n365 : Nat := u361.2.2.2.1
                     let l366 : List T := u361.2.2.2.2.1
                     let n367 : Nat := u361.2.2.2.2.2.1
                     let l368 : List T := u361.2.2.2.2.2.2.1
                     let i369 : Int := u361.2.2.2.2.2.2.2.1
                     let i370 : Int := u361.2.2.2.2.2.2.2.2.1
                     let i371 : Int := u361.2.2.2.2.2.2.2.2.2
                     f4_l_FnSteps.l0 n m i362 n363 l364 n365 l366 n367 l368 i369 i370 (IntKind.i64.wrap (i371 + (1 : Int)))))))) (
                   bd (f4_l_FnSteps.l1 n n i1 n2 l3 n4 l5 n6 l7 i8 i9 i10 (0 : Int)) fun r372 =>
                   sm r372 (fun u373 =>
                    let b374 : Bool := u373
                    some (Sum.inl b374)) (fun u375 =>
                    let i376 : Int := u375.1
                    let n377 : Nat := u375.2.1
                    let l378 : List T := u375.2.2.1
                    let n379 : Nat := u375.2.2.2.1
                    let l380 : List T := u375.2.2.2.2.1
                    let n381 : Nat := u375.2.2.2.2.2.1
                    let l382 : List T := u375.2.2.2.2.2.2.1
                    let i383 : Int := u375.2.2.2.2.2.2.2.1
                    let i384 : Int := u375.2.2.2.2.2.2.2.2.1
                    let i385 : Int := u375.2.2.2.2.2.2.2.2.2
                    f4_l_FnSteps.l0 n m i376 n377 l378 n379 l380 n381 l382 i383 i384 (IntKind.i64.wrap (i385 + (1 : Int))))))))) (
                 br (flt FloatKind.f64 x356 (FloatKind.nearest FloatKind.f64 (IntKind.i64.wrap ((0 : Int) - i1)))) (
                  gd (decide (((0 : Int) ≤ i10) ∧ (i10 < ((n4 : Nat) : Int)))) (
                  gd (okAt [(CK.int IntKind.i64)] l5 (Int.toNat i10)) (
                  br ((iAt l5 (Int.toNat i10)) != (IntKind.i64.wrap ((0 : Int) - i1))) (
                   some (Sum.inl false)) (
                   bd (f4_l_FnSteps.l1 n n i1 n2 l3 n4 l5 n6 l7 i8 i9 i10 (0 : Int)) fun r386 =>
                   sm r386 (fun u387 =>
                    let b388 : Bool := u387
                    some (Sum.inl b388)) (fun u389 =>
                    let i390 : Int := u389.1
                    let n391 : Nat := u389.2.1
                    let l392 : List T := u389.2.2.1
                    let n393 : Nat := u389.2.2.2.1
                    let l394 : List T := u389.2.2.2.2.1
                    let n395 : Nat := u389.2.2.2.2.2.1
                    let l396 : List T := u389.2.2.2.2.2.2.1
                    let i397 : Int := u389.2.2.2.2.2.2.2.1
                    let i398 : Int := u389.2.2.2.2.2.2.2.2.1
                    let i399 : Int := u389.2.2.2.2.2.2.2.2.2
                    f4_l_FnSteps.l0 n m i390 n391 l392 n393 l394 n395 l396 i397 i398 (IntKind.i64.wrap (i399 + (1 : Int)))))))) (
                  bd (f4_l_FnSteps.l1 n n i1 n2 l3 n4 l5 n6 l7 i8 i9 i10 (0 : Int)) fun r400 =>
                  sm r400 (fun u401 =>
                   let b402 : Bool := u401
                   some (Sum.inl b402)) (fun u403 =>
                   let i404 : Int := u403.1
                   let n405 : Nat := u403.2.1
                   let l406 : List T := u403.2.2.1
                   let n407 : Nat := u403.2.2.2.1
                   let l408 : List T := u403.2.2.2.2.1
                   let n409 : Nat := u403.2.2.2.2.2.1
                   let l410 : List T := u403.2.2.2.2.2.2.1
                   let i411 : Int := u403.2.2.2.2.2.2.2.1
                   let i412 : Int := u403.2.2.2.2.2.2.2.2.1
                   let i413 : Int := u403.2.2.2.2.2.2.2.2.2
                   f4_l_FnSteps.l0 n m i404 n405 l406 n407 l408 n409 l410 i411 i412 (IntKind.i64.wrap (i413 + (1 : Int))))))))) (
              br (fgt FloatKind.f64 x356 (FloatKind.nearest FloatKind.f64 (IntKind.i64.wrap (i1 - (1 : Int))))) (
               gd (decide (((0 : Int) ≤ i10) ∧ (i10 < ((n4 : Nat) : Int)))) (
               gd (okAt [(CK.int IntKind.i64)] l5 (Int.toNat i10)) (
               br ((iAt l5 (Int.toNat i10)) != (IntKind.i64.wrap (i1 - (1 : Int)))) (
                some (Sum.inl false)) (
                br (flt FloatKind.f64 x356 (FloatKind.nearest FloatKind.f64 (IntKind.i64.wrap ((0 : Int) - i1)))) (
                 gd (decide (((0 : Int) ≤ i10) ∧ (i10 < ((n4 : Nat) : Int)))) (
                 gd (okAt [(CK.int IntKind.i64)] l5 (Int.toNat i10)) (
                 br ((iAt l5 (Int.toNat i10)) != (IntKind.i64.wrap ((0 : Int) - i1))) (
                  some (Sum.inl false)) (
                  bd (f4_l_FnSteps.l1 n n i1 n2 l3 n4 l5 n6 l7 i8 i9 i10 (0 : Int)) fun r414 =>
                  sm r414 (fun u415 =>
                   let b416 : Bool := u415
                   some (Sum.inl b416)) (fun u417 =>
                   let i418 : Int := u417.1
                   let n419 : Nat := u417.2.1
                   let l420 : List T := u417.2.2.1
                   let n421 : Nat := u417.2.2.2.1
                   let l422 : List T := u417.2.2.2.2.1
                   let n423 : Nat := u417.2.2.2.2.2.1
                   let l424 : List T := u417.2.2.2.2.2.2.1
                   let i425 : Int := u417.2.2.2.2.2.2.2.1
                   let i426 : Int := u417.2.2.2.2.2.2.2.2.1
                   let i427 : Int := u417.2.2.2.2.2.2.2.2.2
                   f4_l_FnSteps.l0 n m i418 n419 l420 n421 l422 n423 l424 i425 i426 (IntKind.i64.wrap (i427 + (1 : Int)))))))) (
                 bd (f4_l_FnSteps.l1 n n i1 n2 l3 n4 l5 n6 l7 i8 i9 i10 (0 : Int)) fun r428 =>
                 sm r428 (fun u429 =>
                  let b430 : Bool := u429
                  some (Sum.inl b430)) (fun u431 =>
                  let i432 : Int := u431.1
                  let n433 : Nat := u431.2.1
                  let l434 : List T := u431.2.2.1
                  let n435 : Nat := u431.2.2.2.1
                  let l436 : List T := u431.2.2.2.2.1
                  let n437 : Nat := u431.2.2.2.2.2.1
                  let l438 : List T := u431.2.2.2.2.2.2.1
                  let i439 : Int := u431.2.2.2.2.2.2.2.1
                  let i440 : Int := u431.2.2.2.2.2.2.2.2.1
                  let i441 : Int := u431.2.2.2.2.2.2.2.2.2
                  f4_l_FnSteps.l0 n m i432 n433 l434 n435 l436 n437 l438 i439 i440 (IntKind.i64.wrap (i441 + (1 : Int))))))))) (
               br (flt FloatKind.f64 x356 (FloatKind.nearest FloatKind.f64 (IntKind.i64.wrap ((0 : Int) - i1)))) (
                gd (decide (((0 : Int) ≤ i10) ∧ (i10 < ((n4 : Nat) : Int)))) (
                gd (okAt [(CK.int IntKind.i64)] l5 (Int.toNat i10)) (
                br ((iAt l5 (Int.toNat i10)) != (IntKind.i64.wrap ((0 : Int) - i1))) (
                 some (Sum.inl false)) (
                 bd (f4_l_FnSteps.l1 n n i1 n2 l3 n4 l5 n6 l7 i8 i9 i10 (0 : Int)) fun r442 =>
                 sm r442 (fun u443 =>
                  let b444 : Bool := u443
                  some (Sum.inl b444)) (fun u445 =>
                  let i446 : Int := u445.1
                  let n447 : Nat := u445.2.1
                  let l448 : List T := u445.2.2.1
                  let n449 : Nat := u445.2.2.2.1
                  let l450 : List T := u445.2.2.2.2.1
                  let n451 : Nat := u445.2.2.2.2.2.1
                  let l452 : List T := u445.2.2.2.2.2.2.1
                  let i453 : Int := u445.2.2.2.2.2.2.2.1
                  let i454 : Int := u445.2.2.2.2.2.2.2.2.1
                  let i455 : Int := u445.2.2.2.2.2.2.2.2.2
                  f4_l_FnSteps.l0 n m i446 n447 l448 n449 l450 n451 l452 i453 i454 (IntKind.i64.wrap (i455 + (1 : Int)))))))) (
                bd (f4_l_FnSteps.l1 n n i1 n2 l3 n4 l5 n6 l7 i8 i9 i10 (0 : Int)) fun r456 =>
                sm r456 (fun u457 =>
                 let b458 : Bool := u457
                 some (Sum.inl b458)) (fun u459 =>
                 let i460 : Int := u459.1
                 let n461 : Nat := u459.2.1
                 let l462 : List T := u459.2.2.1
                 let n463 : Nat := u459.2.2.2.1
                 let l464 : List T := u459.2.2.2.2.1
                 let n465 : Nat := u459.2.2.2.2.2.1
                 let l466 : List T := u459.2.2.2.2.2.2.1
                 let i467 : Int := u459.2.2.2.2.2.2.2.1
                 let i468 : Int := u459.2.2.2.2.2.2.2.2.1
                 let i469 : Int := u459.2.2.2.2.2.2.2.2.2
                 f4_l_FnSteps.l0 n m i460 n461 l462 n463 l464 n465 l466 i467 i468 (IntKind.i64.wrap (i469 + (1 : Int)))))))) (
             br (fgt FloatKind.f64 x356 (FloatKind.nearest FloatKind.f64 (IntKind.i64.wrap (i1 - (1 : Int))))) (
              gd (decide (((0 : Int) ≤ i10) ∧ (i10 < ((n4 : Nat) : Int)))) (
              gd (okAt [(CK.int IntKind.i64)] l5 (Int.toNat i10)) (
              br ((iAt l5 (Int.toNat i10)) != (IntKind.i64.wrap (i1 - (1 : Int)))) (
               some (Sum.inl false)) (
               br (flt FloatKind.f64 x356 (FloatKind.nearest FloatKind.f64 (IntKind.i64.wrap ((0 : Int) - i1)))) (
                gd (decide (((0 : Int) ≤ i10) ∧ (i10 < ((n4 : Nat) : Int)))) (
                gd (okAt [(CK.int IntKind.i64)] l5 (Int.toNat i10)) (
                br ((iAt l5 (Int.toNat i10)) != (IntKind.i64.wrap ((0 : Int) - i1))) (
                 some (Sum.inl false)) (
                 bd (f4_l_FnSteps.l1 n n i1 n2 l3 n4 l5 n6 l7 i8 i9 i10 (0 : Int)) fun r470 =>
                 sm r470 (fun u471 =>
                  let b472 : Bool := u471
                  some (Sum.inl b472)) (fun u473 =>
                  let i474 : Int := u473.1
                  let n475 : Nat := u473.2.1
                  let l476 : List T := u473.2.2.1
                  let n477 : Nat := u473.2.2.2.1
                  let l478 : List T := u473.2.2.2.2.1
                  let n479 : Nat := u473.2.2.2.2.2.1
                  let l480 : List T := u473.2.2.2.2.2.2.1
                  let i481 : Int := u473.2.2.2.2.2.2.2.1
                  let i482 : Int := u473.2.2.2.2.2.2.2.2.1
                  let i483 : Int := u473.2.2.2.2.2.2.2.2.2
                  f4_l_FnSteps.l0 n m i474 n475 l476 n477 l478 n479 l480 i481 i482 (IntKind.i64.wrap (i483 + (1 : Int)))))))) (
                bd (f4_l_FnSteps.l1 n n i1 n2 l3 n4 l5 n6 l7 i8 i9 i10 (0 : Int)) fun r484 =>
                sm r484 (fun u485 =>
                 let b486 : Bool := u485
                 some (Sum.inl b486)) (fun u487 =>
                 let i488 : Int := u487.1
                 let n489 : Nat := u487.2.1
                 let l490 : List T := u487.2.2.1
                 let n491 : Nat := u487.2.2.2.1
                 let l492 : List T := u487.2.2.2.2.1
                 let n493 : Nat := u487.2.2.2.2.2.1
                 let l494 : List T := u487.2.2.2.2.2.2.1
                 let i495 : Int := u487.2.2.2.2.2.2.2.1
                 let i496 : Int := u487.2.2.2.2.2.2.2.2.1
                 let i497 : Int := u487.2.2.2.2.2.2.2.2.2
                 f4_l_FnSteps.l0 n m i488 n489 l490 n491 l492 n493 l494 i495 i496 (IntKind.i64.wrap (i497 + (1 : Int))))))))) (
              br (flt FloatKind.f64 x356 (FloatKind.nearest FloatKind.f64 (IntKind.i64.wrap ((0 : Int) - i1)))) (
               gd (decide (((0 : Int) ≤ i10) ∧ (i10 < ((n4 : Nat) : Int)))) (
               gd (okAt [(CK.int IntKind.i64)] l5 (Int.toNat i10)) (
               br ((iAt l5 (Int.toNat i10)) != (IntKind.i64.wrap ((0 : Int) - i1))) (
                some (Sum.inl false)) (
                bd (f4_l_FnSteps.l1 n n i1 n2 l3 n4 l5 n6 l7 i8 i9 i10 (0 : Int)) fun r498 =>
                sm r498 (fun u499 =>
                 let b500 : Bool := u499
                 some (Sum.inl b500)) (fun u501 =>
                 let i502 : Int := u501.1
                 let n503 : Nat := u501.2.1
                 let l504 : List T := u501.2.2.1
                 let n505 : Nat := u501.2.2.2.1
                 let l506 : List T := u501.2.2.2.2.1
                 let n507 : Nat := u501.2.2.2.2.2.1
                 let l508 : List T := u501.2.2.2.2.2.2.1
                 let i509 : Int := u501.2.2.2.2.2.2.2.1
                 let i510 : Int := u501.2.2.2.2.2.2.2.2.1
                 let i511 : Int := u501.2.2.2.2.2.2.2.2.2
                 f4_l_FnSteps.l0 n m i502 n503 l504 n505 l506 n507 l508 i509 i510 (IntKind.i64.wrap (i511 + (1 : Int)))))))) (
               bd (f4_l_FnSteps.l1 n n i1 n2 l3 n4 l5 n6 l7 i8 i9 i10 (0 : Int)) fun r512 =>
               sm r512 (fun u513 =>
                let b514 : Bool := u513
                some (Sum.inl b514)) (fun u515 =>
                let i516 : Int := u515.1
                let n517 : Nat := u515.2.1
                let l518 : List T := u515.2.2.1
                let n519 : Nat := u515.2.2.2.1
                let l520 : List T := u515.2.2.2.2.1
                let n521 : Nat := u515.2.2.2.2.2.1
                let l522 : List T := u515.2.2.2.2.2.2.1
                let i523 : Int := u515.2.2.2.2.2.2.2.1
                let i524 : Int := u515.2.2.2.2.2.2.2.2.1
                let i525 : Int := u515.2.2.2.2.2.2.2.2.2
                f4_l_FnSteps.l0 n m i516 n517 l518 n519 l520 n521 l522 i523 i524 (IntKind.i64.wrap (i525 + (1 : Int))))))))))))))))))))) (
         gd (decide (((0 : Int) ≤ i10) ∧ (i10 < ((n4 : Nat) : Int)))) (
         gd (okAt [(CK.int IntKind.i64)] l5 (Int.toNat i10)) (
         br ((iAt l5 (Int.toNat i10)) == (IntKind.i64.wrap ((0 : Int) - i1))) (
          let i526 : Int := (IntKind.i64.wrap (i9 + (1 : Int)))
          gd (decide (((0 : Int) ≤ i10) ∧ (i10 < ((n2 : Nat) : Int)))) (
          gd (okAt [(CK.flt FloatKind.f32)] l3 (Int.toNat i10)) (
          bd ((fltToFlt FloatKind.f32 (fAt l3 (Int.toNat i10)) FloatKind.f64)) fun y527 =>
          let x528 : Nat := (fmul FloatKind.f64 y527 (FloatKind.nearest FloatKind.f64 i1))
          gd (decide (((0 : Int) ≤ i10) ∧ (i10 < ((n4 : Nat) : Int)))) (
          gd (okAt [(CK.int IntKind.i64)] l5 (Int.toNat i10)) (
          let x529 : Nat := (fsub FloatKind.f64 x528 (FloatKind.nearest FloatKind.f64 (iAt l5 (Int.toNat i10))))
          br (fge FloatKind.f64 x528 (FloatKind.nearest FloatKind.f64 (IntKind.i64.wrap ((0 : Int) - i1)))) (
           br (fle FloatKind.f64 x528 (FloatKind.nearest FloatKind.f64 (IntKind.i64.wrap (i1 - (1 : Int))))) (
            br (fgt FloatKind.f64 x529 4602678819172646912) (
             some (Sum.inl false)) (
             br (flt FloatKind.f64 x529 13826050856027422720) (
              some (Sum.inl false)) (
              br (fgt FloatKind.f64 x528 (FloatKind.nearest FloatKind.f64 (IntKind.i64.wrap (i1 - (1 : Int))))) (
               gd (decide (((0 : Int) ≤ i10) ∧ (i10 < ((n4 : Nat) : Int)))) (
               gd (okAt [(CK.int IntKind.i64)] l5 (Int.toNat i10)) (
               br ((iAt l5 (Int.toNat i10)) != (IntKind.i64.wrap (i1 - (1 : Int)))) (
                some (Sum.inl false)) (
                br (flt FloatKind.f64 x528 (FloatKind.nearest FloatKind.f64 (IntKind.i64.wrap ((0 : Int) - i1)))) (
                 gd (decide (((0 : Int) ≤ i10) ∧ (i10 < ((n4 : Nat) : Int)))) (
                 gd (okAt [(CK.int IntKind.i64)] l5 (Int.toNat i10)) (
                 br ((iAt l5 (Int.toNat i10)) != (IntKind.i64.wrap ((0 : Int) - i1))) (
                  some (Sum.inl false)) (
                  bd (f4_l_FnSteps.l1 n n i1 n2 l3 n4 l5 n6 l7 i8 i526 i10 (0 : Int)) fun r530 =>
                  sm r530 (fun u531 =>
                   let b532 : Bool := u531
                   some (Sum.inl b532)) (fun u533 =>
                   let i534 : Int := u533.1
                   let n535 : Nat := u533.2.1
                   let l536 : List T := u533.2.2.1
                   let n537 : Nat := u533.2.2.2.1
                   let l538 : List T := u533.2.2.2.2.1
                   let n539 : Nat := u533.2.2.2.2.2.1
                   let l540 : List T := u533.2.2.2.2.2.2.1
                   let i541 : Int := u533.2.2.2.2.2.2.2.1
                   let i542 : Int := u533.2.2.2.2.2.2.2.2.1
                   let i543 : Int := u533.2.2.2.2.2.2.2.2.2
                   f4_l_FnSteps.l0 n m i534 n535 l536 n537 l538 n539 l540 i541 i542 (IntKind.i64.wrap (i543 + (1 : Int)))))))) (
                 bd (f4_l_FnSteps.l1 n n i1 n2 l3 n4 l5 n6 l7 i8 i526 i10 (0 : Int)) fun r544 =>
                 sm r544 (fun u545 =>
                  let b546 : Bool := u545
                  some (Sum.inl b546)) (fun u547 =>
                  let i548 : Int := u547.1
                  let n549 : Nat := u547.2.1
                  let l550 : List T := u547.2.2.1
                  let n551 : Nat := u547.2.2.2.1
                  let l552 : List T := u547.2.2.2.2.1
                  let n553 : Nat := u547.2.2.2.2.2.1
                  let l554 : List T := u547.2.2.2.2.2.2.1
                  let i555 : Int := u547.2.2.2.2.2.2.2.1
                  let i556 : Int := u547.2.2.2.2.2.2.2.2.1
                  let i557 : Int := u547.2.2.2.2.2.2.2.2.2
                  f4_l_FnSteps.l0 n m i548 n549 l550 n551 l552 n553 l554 i555 i556 (IntKind.i64.wrap (i557 + (1 : Int))))))))) (
               br (flt FloatKind.f64 x528 (FloatKind.nearest FloatKind.f64 (IntKind.i64.wrap ((0 : Int) - i1)))) (
                gd (decide (((0 : Int) ≤ i10) ∧ (i10 < ((n4 : Nat) : Int)))) (
                gd (okAt [(CK.int IntKind.i64)] l5 (Int.toNat i10)) (
                br ((iAt l5 (Int.toNat i10)) != (IntKind.i64.wrap ((0 : Int) - i1))) (
                 some (Sum.inl false)) (
                 bd (f4_l_FnSteps.l1 n n i1 n2 l3 n4 l5 n6 l7 i8 i526 i10 (0 : Int)) fun r558 =>
                 sm r558 (fun u559 =>
                  let b560 : Bool := u559
                  some (Sum.inl b560)) (fun u561 =>
                  let i562 : Int := u561.1
                  let n563 : Nat := u561.2.1
                  let l564 : List T := u561.2.2.1
                  let n565 : Nat := u561.2.2.2.1
                  let l566 : List T := u561.2.2.2.2.1
                  let n567 : Nat := u561.2.2.2.2.2.1
                  let l568 : List T := u561.2.2.2.2.2.2.1
                  let i569 : Int := u561.2.2.2.2.2.2.2.1
                  let i570 : Int := u561.2.2.2.2.2.2.2.2.1
                  let i571 : Int := u561.2.2.2.2.2.2.2.2.2
                  f4_l_FnSteps.l0 n m i562 n563 l564 n565 l566 n567 l568 i569 i570 (IntKind.i64.wrap (i571 + (1 : Int)))))))) (
                bd (f4_l_FnSteps.l1 n n i1 n2 l3 n4 l5 n6 l7 i8 i526 i10 (0 : Int)) fun r572 =>
                sm r572 (fun u573 =>
                 let b574 : Bool := u573
                 some (Sum.inl b574)) (fun u575 =>
                 let i576 : Int := u575.1
                 let n577 : Nat := u575.2.1
                 let l578 : List T := u575.2.2.1
                 let n579 : Nat := u575.2.2.2.1
                 let l580 : List T := u575.2.2.2.2.1
                 let n581 : Nat := u575.2.2.2.2.2.1
                 let l582 : List T := u575.2.2.2.2.2.2.1
                 let i583 : Int := u575.2.2.2.2.2.2.2.1
                 let i584 : Int := u575.2.2.2.2.2.2.2.2.1
                 let i585 : Int := u575.2.2.2.2.2.2.2.2.2
                 f4_l_FnSteps.l0 n m i576 n577 l578 n579 l580 n581 l582 i583 i584 (IntKind.i64.wrap (i585 + (1 : Int))))))))) (
            br (fgt FloatKind.f64 x528 (FloatKind.nearest FloatKind.f64 (IntKind.i64.wrap (i1 - (1 : Int))))) (
             gd (decide (((0 : Int) ≤ i10) ∧ (i10 < ((n4 : Nat) : Int)))) (
             gd (okAt [(CK.int IntKind.i64)] l5 (Int.toNat i10)) (
             br ((iAt l5 (Int.toNat i10)) != (IntKind.i64.wrap (i1 - (1 : Int)))) (
              some (Sum.inl false)) (
              br (flt FloatKind.f64 x528 (FloatKind.nearest FloatKind.f64 (IntKind.i64.wrap ((0 : Int) - i1)))) (
               gd (decide (((0 : Int) ≤ i10) ∧ (i10 < ((n4 : Nat) : Int)))) (
               gd (okAt [(CK.int IntKind.i64)] l5 (Int.toNat i10)) (
               br ((iAt l5 (Int.toNat i10)) != (IntKind.i64.wrap ((0 : Int) - i1))) (
                some (Sum.inl false)) (
                bd (f4_l_FnSteps.l1 n n i1 n2 l3 n4 l5 n6 l7 i8 i526 i10 (0 : Int)) fun r586 =>
                sm r586 (fun u587 =>
                 let b588 : Bool := u587
                 some (Sum.inl b588)) (fun u589 =>
                 let i590 : Int := u589.1
                 let n591 : Nat := u589.2.1
                 let l592 : List T := u589.2.2.1
                 let n593 : Nat := u589.2.2.2.1
                 let l594 : List T := u589.2.2.2.2.1
                 let n595 : Nat := u589.2.2.2.2.2.1
                 let l596 : List T := u589.2.2.2.2.2.2.1
                 let i597 : Int := u589.2.2.2.2.2.2.2.1
                 let i598 : Int := u589.2.2.2.2.2.2.2.2.1
                 let i599 : Int := u589.2.2.2.2.2.2.2.2.2
                 f4_l_FnSteps.l0 n m i590 n591 l592 n593 l594 n595 l596 i597 i598 (IntKind.i64.wrap (i599 + (1 : Int)))))))) (
               bd (f4_l_FnSteps.l1 n n i1 n2 l3 n4 l5 n6 l7 i8 i526 i10 (0 : Int)) fun r600 =>
               sm r600 (fun u601 =>
                let b602 : Bool := u601
                some (Sum.inl b602)) (fun u603 =>
                let i604 : Int := u603.1
                let n605 : Nat := u603.2.1
                let l606 : List T := u603.2.2.1
                let n607 : Nat := u603.2.2.2.1
                let l608 : List T := u603.2.2.2.2.1
                let n609 : Nat := u603.2.2.2.2.2.1
                let l610 : List T := u603.2.2.2.2.2.2.1
                let i611 : Int := u603.2.2.2.2.2.2.2.1
                let i612 : Int := u603.2.2.2.2.2.2.2.2.1
                let i613 : Int := u603.2.2.2.2.2.2.2.2.2
                f4_l_FnSteps.l0 n m i604 n605 l606 n607 l608 n609 l610 i611 i612 (IntKind.i64.wrap (i613 + (1 : Int))))))))) (
             br (flt FloatKind.f64 x528 (FloatKind.nearest FloatKind.f64 (IntKind.i64.wrap ((0 : Int) - i1)))) (
              gd (decide (((0 : Int) ≤ i10) ∧ (i10 < ((n4 : Nat) : Int)))) (
              gd (okAt [(CK.int IntKind.i64)] l5 (Int.toNat i10)) (
              br ((iAt l5 (Int.toNat i10)) != (IntKind.i64.wrap ((0 : Int) - i1))) (
               some (Sum.inl false)) (
               bd (f4_l_FnSteps.l1 n n i1 n2 l3 n4 l5 n6 l7 i8 i526 i10 (0 : Int)) fun r614 =>
               sm r614 (fun u615 =>
                let b616 : Bool := u615
                some (Sum.inl b616)) (fun u617 =>
                let i618 : Int := u617.1
                let n619 : Nat := u617.2.1
                let l620 : List T := u617.2.2.1
                let n621 : Nat := u617.2.2.2.1
                let l622 : List T := u617.2.2.2.2.1
                let n623 : Nat := u617.2.2.2.2.2.1
                let l624 : List T := u617.2.2.2.2.2.2.1
                let i625 : Int := u617.2.2.2.2.2.2.2.1
                let i626 : Int := u617.2.2.2.2.2.2.2.2.1
                let i627 : Int := u617.2.2.2.2.2.2.2.2.2
                f4_l_FnSteps.l0 n m i618 n619 l620 n621 l622 n623 l624 i625 i626 (IntKind.i64.wrap (i627 + (1 : Int)))))))) (
              bd (f4_l_FnSteps.l1 n n i1 n2 l3 n4 l5 n6 l7 i8 i526 i10 (0 : Int)) fun r628 =>
              sm r628 (fun u629 =>
               let b630 : Bool := u629
               some (Sum.inl b630)) (fun u631 =>
               let i632 : Int := u631.1
               let n633 : Nat := u631.2.1
               let l634 : List T := u631.2.2.1
               let n635 : Nat := u631.2.2.2.1
               let l636 : List T := u631.2.2.2.2.1
               let n637 : Nat := u631.2.2.2.2.2.1
               let l638 : List T := u631.2.2.2.2.2.2.1
               let i639 : Int := u631.2.2.2.2.2.2.2.1
               let i640 : Int := u631.2.2.2.2.2.2.2.2.1
               let i641 : Int := u631.2.2.2.2.2.2.2.2.2
               f4_l_FnSteps.l0 n m i632 n633 l634 n635 l636 n637 l638 i639 i640 (IntKind.i64.wrap (i641 + (1 : Int)))))))) (
           br (fgt FloatKind.f64 x528 (FloatKind.nearest FloatKind.f64 (IntKind.i64.wrap (i1 - (1 : Int))))) (
            gd (decide (((0 : Int) ≤ i10) ∧ (i10 < ((n4 : Nat) : Int)))) (
            gd (okAt [(CK.int IntKind.i64)] l5 (Int.toNat i10)) (
            br ((iAt l5 (Int.toNat i10)) != (IntKind.i64.wrap (i1 - (1 : Int)))) (
             some (Sum.inl false)) (
             br (flt FloatKind.f64 x528 (FloatKind.nearest FloatKind.f64 (IntKind.i64.wrap ((0 : Int) - i1)))) (
              gd (decide (((0 : Int) ≤ i10) ∧ (i10 < ((n4 : Nat) : Int)))) (
              gd (okAt [(CK.int IntKind.i64)] l5 (Int.toNat i10)) (
              br ((iAt l5 (Int.toNat i10)) != (IntKind.i64.wrap ((0 : Int) - i1))) (
               some (Sum.inl false)) (
               bd (f4_l_FnSteps.l1 n n i1 n2 l3 n4 l5 n6 l7 i8 i526 i10 (0 : Int)) fun r642 =>
               sm r642 (fun u643 =>
                let b644 : Bool := u643
                some (Sum.inl b644)) (fun u645 =>
                let i646 : Int := u645.1
                let n647 : Nat := u645.2.1
                let l648 : List T := u645.2.2.1
                let n649 : Nat := u645.2.2.2.1
                let l650 : List T := u645.2.2.2.2.1
                let n651 : Nat := u645.2.2.2.2.2.1
                let l652 : List T := u645.2.2.2.2.2.2.1
                let i653 : Int := u645.2.2.2.2.2.2.2.1
                let i654 : Int := u645.2.2.2.2.2.2.2.2.1
                let i655 : Int := u645.2.2.2.2.2.2.2.2.2
                f4_l_FnSteps.l0 n m i646 n647 l648 n649 l650 n651 l652 i653 i654 (IntKind.i64.wrap (i655 + (1 : Int)))))))) (
              bd (f4_l_FnSteps.l1 n n i1 n2 l3 n4 l5 n6 l7 i8 i526 i10 (0 : Int)) fun r656 =>
              sm r656 (fun u657 =>
               let b658 : Bool := u657
               some (Sum.inl b658)) (fun u659 =>
               let i660 : Int := u659.1
               let n661 : Nat := u659.2.1
               let l662 : List T := u659.2.2.1
               let n663 : Nat := u659.2.2.2.1
               let l664 : List T := u659.2.2.2.2.1
               let n665 : Nat := u659.2.2.2.2.2.1
               let l666 : List T := u659.2.2.2.2.2.2.1
               let i667 : Int := u659.2.2.2.2.2.2.2.1
               let i668 : Int := u659.2.2.2.2.2.2.2.2.1
               let i669 : Int := u659.2.2.2.2.2.2.2.2.2
               f4_l_FnSteps.l0 n m i660 n661 l662 n663 l664 n665 l666 i667 i668 (IntKind.i64.wrap (i669 + (1 : Int))))))))) (
            br (flt FloatKind.f64 x528 (FloatKind.nearest FloatKind.f64 (IntKind.i64.wrap ((0 : Int) - i1)))) (
             gd (decide (((0 : Int) ≤ i10) ∧ (i10 < ((n4 : Nat) : Int)))) (
             gd (okAt [(CK.int IntKind.i64)] l5 (Int.toNat i10)) (
             br ((iAt l5 (Int.toNat i10)) != (IntKind.i64.wrap ((0 : Int) - i1))) (
              some (Sum.inl false)) (
              bd (f4_l_FnSteps.l1 n n i1 n2 l3 n4 l5 n6 l7 i8 i526 i10 (0 : Int)) fun r670 =>
              sm r670 (fun u671 =>
               let b672 : Bool := u671
               some (Sum.inl b672)) (fun u673 =>
               let i674 : Int := u673.1
               let n675 : Nat := u673.2.1
               let l676 : List T := u673.2.2.1
               let n677 : Nat := u673.2.2.2.1
               let l678 : List T := u673.2.2.2.2.1
               let n679 : Nat := u673.2.2.2.2.2.1
               let l680 : List T := u673.2.2.2.2.2.2.1
               let i681 : Int := u673.2.2.2.2.2.2.2.1
               let i682 : Int := u673.2.2.2.2.2.2.2.2.1
               let i683 : Int := u673.2.2.2.2.2.2.2.2.2
               f4_l_FnSteps.l0 n m i674 n675 l676 n677 l678 n679 l680 i681 i682 (IntKind.i64.wrap (i683 + (1 : Int)))))))) (
             bd (f4_l_FnSteps.l1 n n i1 n2 l3 n4 l5 n6 l7 i8 i526 i10 (0 : Int)) fun r684 =>
             sm r684 (fun u685 =>
              let b686 : Bool := u685
              some (Sum.inl b686)) (fun u687 =>
              let i688 : Int := u687.1
              let n689 : Nat := u687.2.1
              let l690 : List T := u687.2.2.1
              let n691 : Nat := u687.2.2.2.1
              let l692 : List T := u687.2.2.2.2.1
              let n693 : Nat := u687.2.2.2.2.2.1
              let l694 : List T := u687.2.2.2.2.2.2.1
              let i695 : Int := u687.2.2.2.2.2.2.2.1
              let i696 : Int := u687.2.2.2.2.2.2.2.2.1
              let i697 : Int := u687.2.2.2.2.2.2.2.2.2
              f4_l_FnSteps.l0 n m i688 n689 l690 n691 l692 n693 l694 i695 i696 (IntKind.i64.wrap (i697 + (1 : Int)))))))))))) (
          gd (decide (((0 : Int) ≤ i10) ∧ (i10 < ((n4 : Nat) : Int)))) (
          gd (okAt [(CK.int IntKind.i64)] l5 (Int.toNat i10)) (
          br ((iAt l5 (Int.toNat i10)) == (IntKind.i64.wrap (i1 - (1 : Int)))) (
           let i698 : Int := (IntKind.i64.wrap (i9 + (1 : Int)))
           gd (decide (((0 : Int) ≤ i10) ∧ (i10 < ((n2 : Nat) : Int)))) (
           gd (okAt [(CK.flt FloatKind.f32)] l3 (Int.toNat i10)) (
           bd ((fltToFlt FloatKind.f32 (fAt l3 (Int.toNat i10)) FloatKind.f64)) fun y699 =>
           let x700 : Nat := (fmul FloatKind.f64 y699 (FloatKind.nearest FloatKind.f64 i1))
           gd (decide (((0 : Int) ≤ i10) ∧ (i10 < ((n4 : Nat) : Int)))) (
           gd (okAt [(CK.int IntKind.i64)] l5 (Int.toNat i10)) (
           let x701 : Nat := (fsub FloatKind.f64 x700 (FloatKind.nearest FloatKind.f64 (iAt l5 (Int.toNat i10))))
           br (fge FloatKind.f64 x700 (FloatKind.nearest FloatKind.f64 (IntKind.i64.wrap ((0 : Int) - i1)))) (
            br (fle FloatKind.f64 x700 (FloatKind.nearest FloatKind.f64 (IntKind.i64.wrap (i1 - (1 : Int))))) (
             br (fgt FloatKind.f64 x701 4602678819172646912) (
              some (Sum.inl false)) (
              br (flt FloatKind.f64 x701 13826050856027422720) (
               some (Sum.inl false)) (
               br (fgt FloatKind.f64 x700 (FloatKind.nearest FloatKind.f64 (IntKind.i64.wrap (i1 - (1 : Int))))) (
                gd (decide (((0 : Int) ≤ i10) ∧ (i10 < ((n4 : Nat) : Int)))) (
                gd (okAt [(CK.int IntKind.i64)] l5 (Int.toNat i10)) (
                br ((iAt l5 (Int.toNat i10)) != (IntKind.i64.wrap (i1 - (1 : Int)))) (
                 some (Sum.inl false)) (
                 br (flt FloatKind.f64 x700 (FloatKind.nearest FloatKind.f64 (IntKind.i64.wrap ((0 : Int) - i1)))) (
                  gd (decide (((0 : Int) ≤ i10) ∧ (i10 < ((n4 : Nat) : Int)))) (
                  gd (okAt [(CK.int IntKind.i64)] l5 (Int.toNat i10)) (
                  br ((iAt l5 (Int.toNat i10)) != (IntKind.i64.wrap ((0 : Int) - i1))) (
                   some (Sum.inl false)) (
                   bd (f4_l_FnSteps.l1 n n i1 n2 l3 n4 l5 n6 l7 i8 i698 i10 (0 : Int)) fun r702 =>
                   sm r702 (fun u703 =>
                    let b704 : Bool := u703
                    some (Sum.inl b704)) (fun u705 =>
                    let i706 : Int := u705.1
                    let n707 : Nat := u705.2.1
                    let l708 : List T := u705.2.2.1
                    let n709 : Nat := u705.2.2.2.1
                    let l710 : List T := u705.2.2.2.2.1
                    let n711 : Nat := u705.2.2.2.2.2.1
                    let l712 : List T := u705.2.2.2.2.2.2.1
                    let i713 : Int := u705.2.2.2.2.2.2.2.1
                    let i714 : Int := u705.2.2.2.2.2.2.2.2.1
                    let i715 : Int := u705.2.2.2.2.2.2.2.2.2
                    f4_l_FnSteps.l0 n m i706 n707 l708 n709 l710 n711 l712 i713 i714 (IntKind.i64.wrap (i715 + (1 : Int)))))))) (
                  bd (f4_l_FnSteps.l1 n n i1 n2 l3 n4 l5 n6 l7 i8 i698 i10 (0 : Int)) fun r716 =>
                  sm r716 (fun u717 =>
                   let b718 : Bool := u717
                   some (Sum.inl b718)) (fun u719 =>
                   let i720 : Int := u719.1
                   let n721 : Nat := u719.2.1
                   let l722 : List T := u719.2.2.1
                   let n723 : Nat := u719.2.2.2.1
                   let l724 : List T := u719.2.2.2.2.1
                   let n725 : Nat := u719.2.2.2.2.2.1
                   let l726 : List T := u719.2.2.2.2.2.2.1
                   let i727 : Int := u719.2.2.2.2.2.2.2.1
                   let i728 : Int := u719.2.2.2.2.2.2.2.2.1
                   let i729 : Int := u719.2.2.2.2.2.2.2.2.2
                   f4_l_FnSteps.l0 n m i720 n721 l722 n723 l724 n725 l726 i727 i728 (IntKind.i64.wrap (i729 + (1 : Int))))))))) (
                br (flt FloatKind.f64 x700 (FloatKind.nearest FloatKind.f64 (IntKind.i64.wrap ((0 : Int) - i1)))) (
                 gd (decide (((0 : Int) ≤ i10) ∧ (i10 < ((n4 : Nat) : Int)))) (
                 gd (okAt [(CK.int IntKind.i64)] l5 (Int.toNat i10)) (
                 br ((iAt l5 (Int.toNat i10)) != (IntKind.i64.wrap ((0 : Int) - i1))) (
                  some (Sum.inl false)) (
                  bd (f4_l_FnSteps.l1 n n i1 n2 l3 n4 l5 n6 l7 i8 i698 i10 (0 : Int)) fun r730 =>
                  sm r730 (fun u731 =>
                   let b732 : Bool := u731
                   some (Sum.inl b732)) (fun u733 =>
                   let i734 : Int := u733.1
                   let n735 : Nat := u733.2.1
                   let l736 : List T := u733.2.2.1
                   let n737 : Nat := u733.2.2.2.1
                   let l738 : List T := u733.2.2.2.2.1
                   let n739 : Nat := u733.2.2.2.2.2.1
                   let l740 : List T := u733.2.2.2.2.2.2.1
                   let i741 : Int := u733.2.2.2.2.2.2.2.1
                   let i742 : Int := u733.2.2.2.2.2.2.2.2.1
                   let i743 : Int := u733.2.2.2.2.2.2.2.2.2
                   f4_l_FnSteps.l0 n m i734 n735 l736 n737 l738 n739 l740 i741 i742 (IntKind.i64.wrap (i743 + (1 : Int)))))))) (
                 bd (f4_l_FnSteps.l1 n n i1 n2 l3 n4 l5 n6 l7 i8 i698 i10 (0 : Int)) fun r744 =>
                 sm r744 (fun u745 =>
                  let b746 : Bool := u745
                  some (Sum.inl b746)) (fun u747 =>
                  let i748 : Int := u747.1
                  let n749 : Nat := u747.2.1
                  let l750 : List T := u747.2.2.1
                  let n751 : Nat := u747.2.2.2.1
                  let l752 : List T := u747.2.2.2.2.1
                  let n753 : Nat := u747.2.2.2.2.2.1
                  let l754 : List T := u747.2.2.2.2.2.2.1
                  let i755 : Int := u747.2.2.2.2.2.2.2.1
                  let i756 : Int := u747.2.2.2.2.2.2.2.2.1
                  let i757 : Int := u747.2.2.2.2.2.2.2.2.2
                  f4_l_FnSteps.l0 n m i748 n749 l750 n751 l752 n753 l754 i755 i756 (IntKind.i64.wrap (i757 + (1 : Int))))))))) (
             br (fgt FloatKind.f64 x700 (FloatKind.nearest FloatKind.f64 (IntKind.i64.wrap (i1 - (1 : Int))))) (
              gd (decide (((0 : Int) ≤ i10) ∧ (i10 < ((n4 : Nat) : Int)))) (
              gd (okAt [(CK.int IntKind.i64)] l5 (Int.toNat i10)) (
              br ((iAt l5 (Int.toNat i10)) != (IntKind.i64.wrap (i1 - (1 : Int)))) (
               some (Sum.inl false)) (
               br (flt FloatKind.f64 x700 (FloatKind.nearest FloatKind.f64 (IntKind.i64.wrap ((0 : Int) - i1)))) (
                gd (decide (((0 : Int) ≤ i10) ∧ (i10 < ((n4 : Nat) : Int)))) (
                gd (okAt [(CK.int IntKind.i64)] l5 (Int.toNat i10)) (
                br ((iAt l5 (Int.toNat i10)) != (IntKind.i64.wrap ((0 : Int) - i1))) (
                 some (Sum.inl false)) (
                 bd (f4_l_FnSteps.l1 n n i1 n2 l3 n4 l5 n6 l7 i8 i698 i10 (0 : Int)) fun r758 =>
                 sm r758 (fun u759 =>
                  let b760 : Bool := u759
                  some (Sum.inl b760)) (fun u761 =>
                  let i762 : Int := u761.1
                  let n763 : Nat := u761.2.1
                  let l764 : List T := u761.2.2.1
                  let n765 : Nat := u761.2.2.2.1
                  let l766 : List T := u761.2.2.2.2.1
                  let n767 : Nat := u761.2.2.2.2.2.1
                  let l768 : List T := u761.2.2.2.2.2.2.1
                  let i769 : Int := u761.2.2.2.2.2.2.2.1
                  let i770 : Int := u761.2.2.2.2.2.2.2.2.1
                  let i771 : Int := u761.2.2.2.2.2.2.2.2.2
                  f4_l_FnSteps.l0 n m i762 n763 l764 n765 l766 n767 l768 i769 i770 (IntKind.i64.wrap (i771 + (1 : Int)))))))) (
                bd (f4_l_FnSteps.l1 n n i1 n2 l3 n4 l5 n6 l7 i8 i698 i10 (0 : Int)) fun r772 =>
                sm r772 (fun u773 =>
                 let b774 : Bool := u773
                 some (Sum.inl b774)) (fun u775 =>
                 let i776 : Int := u775.1
                 let n777 : Nat := u775.2.1
                 let l778 : List T := u775.2.2.1
                 let n779 : Nat := u775.2.2.2.1
                 let l780 : List T := u775.2.2.2.2.1
                 let n781 : Nat := u775.2.2.2.2.2.1
                 let l782 : List T := u775.2.2.2.2.2.2.1
                 let i783 : Int := u775.2.2.2.2.2.2.2.1
                 let i784 : Int := u775.2.2.2.2.2.2.2.2.1
                 let i785 : Int := u775.2.2.2.2.2.2.2.2.2
                 f4_l_FnSteps.l0 n m i776 n777 l778 n779 l780 n781 l782 i783 i784 (IntKind.i64.wrap (i785 + (1 : Int))))))))) (
              br (flt FloatKind.f64 x700 (FloatKind.nearest FloatKind.f64 (IntKind.i64.wrap ((0 : Int) - i1)))) (
               gd (decide (((0 : Int) ≤ i10) ∧ (i10 < ((n4 : Nat) : Int)))) (
               gd (okAt [(CK.int IntKind.i64)] l5 (Int.toNat i10)) (
               br ((iAt l5 (Int.toNat i10)) != (IntKind.i64.wrap ((0 : Int) - i1))) (
                some (Sum.inl false)) (
                bd (f4_l_FnSteps.l1 n n i1 n2 l3 n4 l5 n6 l7 i8 i698 i10 (0 : Int)) fun r786 =>
                sm r786 (fun u787 =>
                 let b788 : Bool := u787
                 some (Sum.inl b788)) (fun u789 =>
                 let i790 : Int := u789.1
                 let n791 : Nat := u789.2.1
                 let l792 : List T := u789.2.2.1
                 let n793 : Nat := u789.2.2.2.1
                 let l794 : List T := u789.2.2.2.2.1
                 let n795 : Nat := u789.2.2.2.2.2.1
                 let l796 : List T := u789.2.2.2.2.2.2.1
                 let i797 : Int := u789.2.2.2.2.2.2.2.1
                 let i798 : Int := u789.2.2.2.2.2.2.2.2.1
                 let i799 : Int := u789.2.2.2.2.2.2.2.2.2
                 f4_l_FnSteps.l0 n m i790 n791 l792 n793 l794 n795 l796 i797 i798 (IntKind.i64.wrap (i799 + (1 : Int)))))))) (
               bd (f4_l_FnSteps.l1 n n i1 n2 l3 n4 l5 n6 l7 i8 i698 i10 (0 : Int)) fun r800 =>
               sm r800 (fun u801 =>
                let b802 : Bool := u801
                some (Sum.inl b802)) (fun u803 =>
                let i804 : Int := u803.1
                let n805 : Nat := u803.2.1
                let l806 : List T := u803.2.2.1
                let n807 : Nat := u803.2.2.2.1
                let l808 : List T := u803.2.2.2.2.1
                let n809 : Nat := u803.2.2.2.2.2.1
                let l810 : List T := u803.2.2.2.2.2.2.1
                let i811 : Int := u803.2.2.2.2.2.2.2.1
                let i812 : Int := u803.2.2.2.2.2.2.2.2.1
                let i813 : Int := u803.2.2.2.2.2.2.2.2.2
                f4_l_FnSteps.l0 n m i804 n805 l806 n807 l808 n809 l810 i811 i812 (IntKind.i64.wrap (i813 + (1 : Int)))))))) (
            br (fgt FloatKind.f64 x700 (FloatKind.nearest FloatKind.f64 (IntKind.i64.wrap (i1 - (1 : Int))))) (
             gd (decide (((0 : Int) ≤ i10) ∧ (i10 < ((n4 : Nat) : Int)))) (
             gd (okAt [(CK.int IntKind.i64)] l5 (Int.toNat i10)) (
             br ((iAt l5 (Int.toNat i10)) != (IntKind.i64.wrap (i1 - (1 : Int)))) (
              some (Sum.inl false)) (
              br (flt FloatKind.f64 x700 (FloatKind.nearest FloatKind.f64 (IntKind.i64.wrap ((0 : Int) - i1)))) (
               gd (decide (((0 : Int) ≤ i10) ∧ (i10 < ((n4 : Nat) : Int)))) (
               gd (okAt [(CK.int IntKind.i64)] l5 (Int.toNat i10)) (
               br ((iAt l5 (Int.toNat i10)) != (IntKind.i64.wrap ((0 : Int) - i1))) (
                some (Sum.inl false)) (
                bd (f4_l_FnSteps.l1 n n i1 n2 l3 n4 l5 n6 l7 i8 i698 i10 (0 : Int)) fun r814 =>
                sm r814 (fun u815 =>
                 let b816 : Bool := u815
                 some (Sum.inl b816)) (fun u817 =>
                 let i818 : Int := u817.1
                 let n819 : Nat := u817.2.1
                 let l820 : List T := u817.2.2.1
                 let n821 : Nat := u817.2.2.2.1
                 let l822 : List T := u817.2.2.2.2.1
                 let n823 : Nat := u817.2.2.2.2.2.1
                 let l824 : List T := u817.2.2.2.2.2.2.1
                 let i825 : Int := u817.2.2.2.2.2.2.2.1
                 let i826 : Int := u817.2.2.2.2.2.2.2.2.1
                 let i827 : Int := u817.2.2.2.2.2.2.2.2.2
                 f4_l_FnSteps.l0 n m i818 n819 l820 n821 l822 n823 l824 i825 i826 (IntKind.i64.wrap (i827 + (1 : Int)))))))) (
               bd (f4_l_FnSteps.l1 n n i1 n2 l3 n4 l5 n6 l7 i8 i698 i10 (0 : Int)) fun r828 =>
               sm r828 (fun u829 =>
                let b830 : Bool := u829
                some (Sum.inl b830)) (fun u831 =>
                let i832 : Int := u831.1
                let n833 : Nat := u831.2.1
                let l834 : List T := u831.2.2.1
                let n835 : Nat := u831.2.2.2.1
                let l836 : List T := u831.2.2.2.2.1
                let n837 : Nat := u831.2.2.2.2.2.1
                let l838 : List T := u831.2.2.2.2.2.2.1
                let i839 : Int := u831.2.2.2.2.2.2.2.1
                let i840 : Int := u831.2.2.2.2.2.2.2.2.1
                let i841 : Int := u831.2.2.2.2.2.2.2.2.2
                f4_l_FnSteps.l0 n m i832 n833 l834 n835 l836 n837 l838 i839 i840 (IntKind.i64.wrap (i841 + (1 : Int))))))))) (
             br (flt FloatKind.f64 x700 (FloatKind.nearest FloatKind.f64 (IntKind.i64.wrap ((0 : Int) - i1)))) (
              gd (decide (((0 : Int) ≤ i10) ∧ (i10 < ((n4 : Nat) : Int)))) (
              gd (okAt [(CK.int IntKind.i64)] l5 (Int.toNat i10)) (
              br ((iAt l5 (Int.toNat i10)) != (IntKind.i64.wrap ((0 : Int) - i1))) (
               some (Sum.inl false)) (
               bd (f4_l_FnSteps.l1 n n i1 n2 l3 n4 l5 n6 l7 i8 i698 i10 (0 : Int)) fun r842 =>
               sm r842 (fun u843 =>
                let b844 : Bool := u843
                some (Sum.inl b844)) (fun u845 =>
                let i846 : Int := u845.1
                let n847 : Nat := u845.2.1
                let l848 : List T := u845.2.2.1
                let n849 : Nat := u845.2.2.2.1
                let l850 : List T := u845.2.2.2.2.1
                let n851 : Nat := u845.2.2.2.2.2.1
                let l852 : List T := u845.2.2.2.2.2.2.1
                let i853 : Int := u845.2.2.2.2.2.2.2.1
                let i854 : Int := u845.2.2.2.2.2.2.2.2.1
                let i855 : Int := u845.2.2.2.2.2.2.2.2.2
                f4_l_FnSteps.l0 n m i846 n847 l848 n849 l850 n851 l852 i853 i854 (IntKind.i64.wrap (i855 + (1 : Int)))))))) (
              bd (f4_l_FnSteps.l1 n n i1 n2 l3 n4 l5 n6 l7 i8 i698 i10 (0 : Int)) fun r856 =>
              sm r856 (fun u857 =>
               let b858 : Bool := u857
               some (Sum.inl b858)) (fun u859 =>
               let i860 : Int := u859.1
               let n861 : Nat := u859.2.1
               let l862 : List T := u859.2.2.1
               let n863 : Nat := u859.2.2.2.1
               let l864 : List T := u859.2.2.2.2.1
               let n865 : Nat := u859.2.2.2.2.2.1
               let l866 : List T := u859.2.2.2.2.2.2.1
               let i867 : Int := u859.2.2.2.2.2.2.2.1
               let i868 : Int := u859.2.2.2.2.2.2.2.2.1
               let i869 : Int := u859.2.2.2.2.2.2.2.2.2
               f4_l_FnSteps.l0 n m i860 n861 l862 n863 l864 n865 l866 i867 i868 (IntKind.i64.wrap (i869 + (1 : Int)))))))))))) (
           gd (decide (((0 : Int) ≤ i10) ∧ (i10 < ((n2 : Nat) : Int)))) (
           gd (okAt [(CK.flt FloatKind.f32)] l3 (Int.toNat i10)) (
           bd ((fltToFlt FloatKind.f32 (fAt l3 (Int.toNat i10)) FloatKind.f64)) fun y870 =>
           let x871 : Nat := (fmul FloatKind.f64 y870 (FloatKind.nearest FloatKind.f64 i1))
           gd (decide (((0 : Int) ≤ i10) ∧ (i10 < ((n4 : Nat) : Int)))) (
           gd (okAt [(CK.int IntKind.i64)] l5 (Int.toNat i10)) (
           let x872 : Nat := (fsub FloatKind.f64 x871 (FloatKind.nearest FloatKind.f64 (iAt l5 (Int.toNat i10))))
           br (fge FloatKind.f64 x871 (FloatKind.nearest FloatKind.f64 (IntKind.i64.wrap ((0 : Int) - i1)))) (
            br (fle FloatKind.f64 x871 (FloatKind.nearest FloatKind.f64 (IntKind.i64.wrap (i1 - (1 : Int))))) (
             br (fgt FloatKind.f64 x872 4602678819172646912) (
              some (Sum.inl false)) (
              br (flt FloatKind.f64 x872 13826050856027422720) (
               some (Sum.inl false)) (
               br (fgt FloatKind.f64 x871 (FloatKind.nearest FloatKind.f64 (IntKind.i64.wrap (i1 - (1 : Int))))) (
                gd (decide (((0 : Int) ≤ i10) ∧ (i10 < ((n4 : Nat) : Int)))) (
                gd (okAt [(CK.int IntKind.i64)] l5 (Int.toNat i10)) (
                br ((iAt l5 (Int.toNat i10)) != (IntKind.i64.wrap (i1 - (1 : Int)))) (
                 some (Sum.inl false)) (
                 br (flt FloatKind.f64 x871 (FloatKind.nearest FloatKind.f64 (IntKind.i64.wrap ((0 : Int) - i1)))) (
                  gd (decide (((0 : Int) ≤ i10) ∧ (i10 < ((n4 : Nat) : Int)))) (
                  gd (okAt [(CK.int IntKind.i64)] l5 (Int.toNat i10)) (
                  br ((iAt l5 (Int.toNat i10)) != (IntKind.i64.wrap ((0 : Int) - i1))) (
                   some (Sum.inl false)) (
                   bd (f4_l_FnSteps.l1 n n i1 n2 l3 n4 l5 n6 l7 i8 i9 i10 (0 : Int)) fun r873 =>
                   sm r873 (fun u874 =>
                    let b875 : Bool := u874
                    some (Sum.inl b875)) (fun u876 =>
                    let i877 : Int := u876.1
                    let n878 : Nat := u876.2.1
                    let l879 : List T := u876.2.2.1
                    let n880 : Nat := u876.2.2.2.1
                    let l881 : List T := u876.2.2.2.2.1
                    let n882 : Nat := u876.2.2.2.2.2.1
                    let l883 : List T := u876.2.2.2.2.2.2.1
                    let i884 : Int := u876.2.2.2.2.2.2.2.1
                    let i885 : Int := u876.2.2.2.2.2.2.2.2.1
                    let i886 : Int := u876.2.2.2.2.2.2.2.2.2
                    f4_l_FnSteps.l0 n m i877 n878 l879 n880 l881 n882 l883 i884 i885 (IntKind.i64.wrap (i886 + (1 : Int)))))))) (
                  bd (f4_l_FnSteps.l1 n n i1 n2 l3 n4 l5 n6 l7 i8 i9 i10 (0 : Int)) fun r887 =>
                  sm r887 (fun u888 =>
                   let b889 : Bool := u888
                   some (Sum.inl b889)) (fun u890 =>
                   let i891 : Int := u890.1
                   let n892 : Nat := u890.2.1
                   let l893 : List T := u890.2.2.1
                   let n894 : Nat := u890.2.2.2.1
                   let l895 : List T := u890.2.2.2.2.1
                   let n896 : Nat := u890.2.2.2.2.2.1
                   let l897 : List T := u890.2.2.2.2.2.2.1
                   let i898 : Int := u890.2.2.2.2.2.2.2.1
                   let i899 : Int := u890.2.2.2.2.2.2.2.2.1
                   let i900 : Int := u890.2.2.2.2.2.2.2.2.2
                   f4_l_FnSteps.l0 n m i891 n892 l893 n894 l895 n896 l897 i898 i899 (IntKind.i64.wrap (i900 + (1 : Int))))))))) (
                br (flt FloatKind.f64 x871 (FloatKind.nearest FloatKind.f64 (IntKind.i64.wrap ((0 : Int) - i1)))) (
                 gd (decide (((0 : Int) ≤ i10) ∧ (i10 < ((n4 : Nat) : Int)))) (
                 gd (okAt [(CK.int IntKind.i64)] l5 (Int.toNat i10)) (
                 br ((iAt l5 (Int.toNat i10)) != (IntKind.i64.wrap ((0 : Int) - i1))) (
                  some (Sum.inl false)) (
                  bd (f4_l_FnSteps.l1 n n i1 n2 l3 n4 l5 n6 l7 i8 i9 i10 (0 : Int)) fun r901 =>
                  sm r901 (fun u902 =>
                   let b903 : Bool := u902
                   some (Sum.inl b903)) (fun u904 =>
                   let i905 : Int := u904.1
                   let n906 : Nat := u904.2.1
                   let l907 : List T := u904.2.2.1
                   let n908 : Nat := u904.2.2.2.1
                   let l909 : List T := u904.2.2.2.2.1
                   let n910 : Nat := u904.2.2.2.2.2.1
                   let l911 : List T := u904.2.2.2.2.2.2.1
                   let i912 : Int := u904.2.2.2.2.2.2.2.1
                   let i913 : Int := u904.2.2.2.2.2.2.2.2.1
                   let i914 : Int := u904.2.2.2.2.2.2.2.2.2
                   f4_l_FnSteps.l0 n m i905 n906 l907 n908 l909 n910 l911 i912 i913 (IntKind.i64.wrap (i914 + (1 : Int)))))))) (
                 bd (f4_l_FnSteps.l1 n n i1 n2 l3 n4 l5 n6 l7 i8 i9 i10 (0 : Int)) fun r915 =>
                 sm r915 (fun u916 =>
                  let b917 : Bool := u916
                  some (Sum.inl b917)) (fun u918 =>
                  let i919 : Int := u918.1
                  let n920 : Nat := u918.2.1
                  let l921 : List T := u918.2.2.1
                  let n922 : Nat := u918.2.2.2.1
                  let l923 : List T := u918.2.2.2.2.1
                  let n924 : Nat := u918.2.2.2.2.2.1
                  let l925 : List T := u918.2.2.2.2.2.2.1
                  let i926 : Int := u918.2.2.2.2.2.2.2.1
                  let i927 : Int := u918.2.2.2.2.2.2.2.2.1
                  let i928 : Int := u918.2.2.2.2.2.2.2.2.2
                  f4_l_FnSteps.l0 n m i919 n920 l921 n922 l923 n924 l925 i926 i927 (IntKind.i64.wrap (i928 + (1 : Int))))))))) (
             br (fgt FloatKind.f64 x871 (FloatKind.nearest FloatKind.f64 (IntKind.i64.wrap (i1 - (1 : Int))))) (
              gd (decide (((0 : Int) ≤ i10) ∧ (i10 < ((n4 : Nat) : Int)))) (
              gd (okAt [(CK.int IntKind.i64)] l5 (Int.toNat i10)) (
              br ((iAt l5 (Int.toNat i10)) != (IntKind.i64.wrap (i1 - (1 : Int)))) (
               some (Sum.inl false)) (
               br (flt FloatKind.f64 x871 (FloatKind.nearest FloatKind.f64 (IntKind.i64.wrap ((0 : Int) - i1)))) (
                gd (decide (((0 : Int) ≤ i10) ∧ (i10 < ((n4 : Nat) : Int)))) (
                gd (okAt [(CK.int IntKind.i64)] l5 (Int.toNat i10)) (
                br ((iAt l5 (Int.toNat i10)) != (IntKind.i64.wrap ((0 : Int) - i1))) (
                 some (Sum.inl false)) (
                 bd (f4_l_FnSteps.l1 n n i1 n2 l3 n4 l5 n6 l7 i8 i9 i10 (0 : Int)) fun r929 =>
                 sm r929 (fun u930 =>
                  let b931 : Bool := u930
                  some (Sum.inl b931)) (fun u932 =>
                  let i933 : Int := u932.1
                  let n934 : Nat := u932.2.1
                  let l935 : List T := u932.2.2.1
                  let n936 : Nat := u932.2.2.2.1
                  let l937 : List T := u932.2.2.2.2.1
                  let n938 : Nat := u932.2.2.2.2.2.1
                  let l939 : List T := u932.2.2.2.2.2.2.1
                  let i940 : Int := u932.2.2.2.2.2.2.2.1
                  let i941 : Int := u932.2.2.2.2.2.2.2.2.1
                  let i942 : Int := u932.2.2.2.2.2.2.2.2.2
                  f4_l_FnSteps.l0 n m i933 n934 l935 n936 l937 n938 l939 i940 i941 (IntKind.i64.wrap (i942 + (1 : Int)))))))) (
                bd (f4_l_FnSteps.l1 n n i1 n2 l3 n4 l5 n6 l7 i8 i9 i10 (0 : Int)) fun r943 =>
                sm r943 (fun u944 =>
                 let b945 : Bool := u944
                 some (Sum.inl b945)) (fun u946 =>
                 let i947 : Int := u946.1
                 let n948 : Nat := u946.2.1
                 let l949 : List T := u946.2.2.1
                 let n950 : Nat := u946.2.2.2.1
                 let l951 : List T := u946.2.2.2.2.1
                 let n952 : Nat := u946.2.2.2.2.2.1
                 let l953 : List T := u946.2.2.2.2.2.2.1
                 let i954 : Int := u946.2.2.2.2.2.2.2.1
                 let i955 : Int := u946.2.2.2.2.2.2.2.2.1
                 let i956 : Int := u946.2.2.2.2.2.2.2.2.2
                 f4_l_FnSteps.l0 n m i947 n948 l949 n950 l951 n952 l953 i954 i955 (IntKind.i64.wrap (i956 + (1 : Int))))))))) (
              br (flt FloatKind.f64 x871 (FloatKind.nearest FloatKind.f64 (IntKind.i64.wrap ((0 : Int) - i1)))) (
               gd (decide (((0 : Int) ≤ i10) ∧ (i10 < ((n4 : Nat) : Int)))) (
               gd (okAt [(CK.int IntKind.i64)] l5 (Int.toNat i10)) (
               br ((iAt l5 (Int.toNat i10)) != (IntKind.i64.wrap ((0 : Int) - i1))) (
                some (Sum.inl false)) (
                bd (f4_l_FnSteps.l1 n n i1 n2 l3 n4 l5 n6 l7 i8 i9 i10 (0 : Int)) fun r957 =>
                sm r957 (fun u958 =>
                 let b959 : Bool := u958
                 some (Sum.inl b959)) (fun u960 =>
                 let i961 : Int := u960.1
                 let n962 : Nat := u960.2.1
                 let l963 : List T := u960.2.2.1
                 let n964 : Nat := u960.2.2.2.1
                 let l965 : List T := u960.2.2.2.2.1
                 let n966 : Nat := u960.2.2.2.2.2.1
                 let l967 : List T := u960.2.2.2.2.2.2.1
                 let i968 : Int := u960.2.2.2.2.2.2.2.1
                 let i969 : Int := u960.2.2.2.2.2.2.2.2.1
                 let i970 : Int := u960.2.2.2.2.2.2.2.2.2
                 f4_l_FnSteps.l0 n m i961 n962 l963 n964 l965 n966 l967 i968 i969 (IntKind.i64.wrap (i970 + (1 : Int)))))))) (
               bd (f4_l_FnSteps.l1 n n i1 n2 l3 n4 l5 n6 l7 i8 i9 i10 (0 : Int)) fun r971 =>
               sm r971 (fun u972 =>
                let b973 : Bool := u972
                some (Sum.inl b973)) (fun u974 =>
                let i975 : Int := u974.1
                let n976 : Nat := u974.2.1
                let l977 : List T := u974.2.2.1
                let n978 : Nat := u974.2.2.2.1
                let l979 : List T := u974.2.2.2.2.1
                let n980 : Nat := u974.2.2.2.2.2.1
                let l981 : List T := u974.2.2.2.2.2.2.1
                let i982 : Int := u974.2.2.2.2.2.2.2.1
                let i983 : Int := u974.2.2.2.2.2.2.2.2.1
                let i984 : Int := u974.2.2.2.2.2.2.2.2.2
                f4_l_FnSteps.l0 n m i975 n976 l977 n978 l979 n980 l981 i982 i983 (IntKind.i64.wrap (i984 + (1 : Int)))))))) (
            br (fgt FloatKind.f64 x871 (FloatKind.nearest FloatKind.f64 (IntKind.i64.wrap (i1 - (1 : Int))))) (
             gd (decide (((0 : Int) ≤ i10) ∧ (i10 < ((n4 : Nat) : Int)))) (
             gd (okAt [(CK.int IntKind.i64)] l5 (Int.toNat i10)) (
             br ((iAt l5 (Int.toNat i10)) != (IntKind.i64.wrap (i1 - (1 : Int)))) (
              some (Sum.inl false)) (
              br (flt FloatKind.f64 x871 (FloatKind.nearest FloatKind.f64 (IntKind.i64.wrap ((0 : Int) - i1)))) (
               gd (decide (((0 : Int) ≤ i10) ∧ (i10 < ((n4 : Nat) : Int)))) (
               gd (okAt [(CK.int IntKind.i64)] l5 (Int.toNat i10)) (
               br ((iAt l5 (Int.toNat i10)) != (IntKind.i64.wrap ((0 : Int) - i1))) (
                some (Sum.inl false)) (
                bd (f4_l_FnSteps.l1 n n i1 n2 l3 n4 l5 n6 l7 i8 i9 i10 (0 : Int)) fun r985 =>
                sm r985 (fun u986 =>
                 let b987 : Bool := u986
                 some (Sum.inl b987)) (fun u988 =>
                 let i989 : Int := u988.1
                 let n990 : Nat := u988.2.1
                 let l991 : List T := u988.2.2.1
                 let n992 : Nat := u988.2.2.2.1
                 let l993 : List T := u988.2.2.2.2.1
                 let n994 : Nat := u988.2.2.2.2.2.1
                 let l995 : List T := u988.2.2.2.2.2.2.1
                 let i996 : Int := u988.2.2.2.2.2.2.2.1
                 let i997 : Int := u988.2.2.2.2.2.2.2.2.1
                 let i998 : Int := u988.2.2.2.2.2.2.2.2.2
                 f4_l_FnSteps.l0 n m i989 n990 l991 n992 l993 n994 l995 i996 i997 (IntKind.i64.wrap (i998 + (1 : Int)))))))) (
               bd (f4_l_FnSteps.l1 n n i1 n2 l3 n4 l5 n6 l7 i8 i9 i10 (0 : Int)) fun r999 =>
               sm r999 (fun u1000 =>
                let b1001 : Bool := u1000
                some (Sum.inl b1001)) (fun u1002 =>
                let i1003 : Int := u1002.1
                let n1004 : Nat := u1002.2.1
                let l1005 : List T := u1002.2.2.1
                let n1006 : Nat := u1002.2.2.2.1
                let l1007 : List T := u1002.2.2.2.2.1
                let n1008 : Nat := u1002.2.2.2.2.2.1
                let l1009 : List T := u1002.2.2.2.2.2.2.1
                let i1010 : Int := u1002.2.2.2.2.2.2.2.1
                let i1011 : Int := u1002.2.2.2.2.2.2.2.2.1
                let i1012 : Int := u1002.2.2.2.2.2.2.2.2.2
                f4_l_FnSteps.l0 n m i1003 n1004 l1005 n1006 l1007 n1008 l1009 i1010 i1011 (IntKind.i64.wrap (i1012 + (1 : Int))))))))) (
             br (flt FloatKind.f64 x871 (FloatKind.nearest FloatKind.f64 (IntKind.i64.wrap ((0 : Int) - i1)))) (
              gd (decide (((0 : Int) ≤ i10) ∧ (i10 < ((n4 : Nat) : Int)))) (
              gd (okAt [(CK.int IntKind.i64)] l5 (Int.toNat i10)) (
              br ((iAt l5 (Int.toNat i10)) != (IntKind.i64.wrap ((0 : Int) - i1))) (
               some (Sum.inl false)) (
               bd (f4_l_FnSteps.l1 n n i1 n2 l3 n4 l5 n6 l7 i8 i9 i10 (0 : Int)) fun r1013 =>
               sm r1013 (fun u1014 =>
                let b1015 : Bool := u1014
                some (Sum.inl b1015)) (fun u1016 =>
                let i1017 : Int := u1016.1
                let n1018 : Nat := u1016.2.1
                let l1019 : List T := u1016.2.2.1
                let n1020 : Nat := u1016.2.2.2.1
                let l1021 : List T := u1016.2.2.2.2.1
                let n1022 : Nat := u1016.2.2.2.2.2.1
                let l1023 : List T := u1016.2.2.2.2.2.2.1
                let i1024 : Int := u1016.2.2.2.2.2.2.2.1
                let i1025 : Int := u1016.2.2.2.2.2.2.2.2.1
                let i1026 : Int := u1016.2.2.2.2.2.2.2.2.2
                f4_l_FnSteps.l0 n m i1017 n1018 l1019 n1020 l1021 n1022 l1023 i1024 i1025 (IntKind.i64.wrap (i1026 + (1 : Int)))))))) (
              bd (f4_l_FnSteps.l1 n n i1 n2 l3 n4 l5 n6 l7 i8 i9 i10 (0 : Int)) fun r1027 =>
              sm r1027 (fun u1028 =>
               let b1029 : Bool := u1028
               some (Sum.inl b1029)) (fun u1030 =>
               let i1031 : Int := u1030.1
               let n1032 : Nat := u1030.2.1
               let l1033 : List T := u1030.2.2.1
               let n1034 : Nat := u1030.2.2.2.1
               let l1035 : List T := u1030.2.2.2.2.1
               let n1036 : Nat := u1030.2.2.2.2.2.1
               let l1037 : List T := u1030.2.2.2.2.2.2.1
               let i1038 : Int := u1030.2.2.2.2.2.2.2.1
               let i1039 : Int := u1030.2.2.2.2.2.2.2.2.1
               let i1040 : Int := u1030.2.2.2.2.2.2.2.2.2
               f4_l_FnSteps.l0 n m i1031 n1032 l1033 n1034 l1035 n1036 l1037 i1038 i1039 (IntKind.i64.wrap (i1040 + (1 : Int)))))))))))))))))))))))))))))))))) (
     some (Sum.inr (n2, l3, i8, i9)))
def f26_i_BytesOfCodes.l0 (n : Nat) : Nat → Nat → List T → Nat → List T → Nat → List T → Int → Int → Option (Nat × List T)
  | 0, _, _, _, _, _, _, _, _ => none
  | m + 1, n1, l2, n3, l4, n5, l6, i7, i8 =>
    br (decide (i8 < i7)) (
     gd ((decide (((0 : Int) ≤ i8) ∧ (i8 < ((n5 : Nat) : Int)))) && (okAt [(CK.int IntKind.i64)] l6 (Int.toNat i8))) (
     let i9 : Int := (iAt l6 (Int.toNat i8))
     gd (Nat.ble (n3 + 2) 2147483648) (
     let n10 : Nat := (n3 + 2)
     let l11 : List T := (l4 ++ (setN (setN (reps 2 [(T.int IntKind.u8 (0 : Int))]) 0 [(T.int IntKind.u8 (IntKind.u8.wrap i9))]) 1 [(T.int IntKind.u8 (IntKind.u8.wrap (Int.fdiv i9 (256 : Int))))]))
     f26_i_BytesOfCodes.l0 n m n1 l2 n10 l11 n5 l6 i7 (IntKind.i64.wrap (i8 + (1 : Int)))))) (
     some (n3, l4))
def f26_i_BytesOfCodes : Nat → Nat → List T → Option (List UInt8 × Bool)
  | 0, _, _ => none
  | n + 1, n1, l2 =>
    bd (f102_i_areCodes n (16 : Int) n1 l2) fun r3 =>
    let b4 : Bool := r3
    br (!b4) (
     some ([], false)) (
     bd (f26_i_BytesOfCodes.l0 n n n1 l2 0 [] n1 l2 ((n1 : Nat) : Int) (0 : Int)) fun r5 =>
     let n6 : Nat := r5.1
     let l7 : List T := r5.2
     bd ((bytesT l7)) fun y8 =>
     some (y8, true))
def sg_sb : Sig (List UInt8 × Bool) where
  pk := fun v => [.str v.1, .bool v.2]
  up := fun ls => match ls with
    | [.str a0, .bool a1] => some (a0, a1)
    | _ => none
  ok := by
    intro ls v h
    split at h
    · cases h; rfl
    · cases h

def sg_lllii : Sig (Nat × List T × Nat × List T × Nat × List T × Int × Int) where
  pk := fun v => [.lst v.1 v.2.1, .lst v.2.2.1 v.2.2.2.1, .lst v.2.2.2.2.1 v.2.2.2.2.2.1, .int v.2.2.2.2.2.2.1, .int v.2.2.2.2.2.2.2]
  up := fun ls => match ls with
    | [.lst a0 a1, .lst a2 a3, .lst a4 a5, .int a6, .int a7] => some (a0, a1, a2, a3, a4, a5, a6, a7)
    | _ => none
  ok := by
    intro ls v h
    split at h
    · cases h; rfl
    · cases h

def f26_i_BytesOfCodes.l0.P : AS := ⟨[(0, .val false [.sl .shr [.leaf]] [.lst 0 []] [] 0), (4, .val false [.sl .own [.leaf]] [.lst 0 []] [] 0), (10, .val false [.sl .shr [.leaf]] [.lst 0 []] [] 0), (11, .val false [.leaf] [.int .i64 0] [] 0), (12, .val false [.leaf] [.int .i64 0] [] 0)], 0⟩
def f26_i_BytesOfCodes.l0.A : Alt (Nat × List T) := .one (.exit 0) ⟨[(4, .val false [.sl .own [.leaf]] [.lst 0 []] [] 0)], 0⟩ sg_l
def f26_i_BytesOfCodes.l0.F (n m : Nat) (v : Nat × List T × Nat × List T × Nat × List T × Int × Int) := f26_i_BytesOfCodes.l0 n m v.1 v.2.1 v.2.2.1 v.2.2.2.1 v.2.2.2.2.1 v.2.2.2.2.2.1 v.2.2.2.2.2.2.1 v.2.2.2.2.2.2.2
def f26_i_BytesOfCodes.l0.W (n : Nat) : LpW := .of 80 f26_i_BytesOfCodes.l0.P sg_lllii f26_i_BytesOfCodes.l0.A (f26_i_BytesOfCodes.l0.F n n)
def f26_i_BytesOfCodes.P : List Arg := [⟨.val, ⟨false, [.sl .shr [.leaf]], [.lst 0 []]⟩⟩]
def f26_i_BytesOfCodes.A : RAlt (List UInt8 × Bool) := .one ⟨[⟨false, [.leaf], [.str []]⟩, ⟨false, [.leaf], [.bool false]⟩], [none]⟩ sg_sb
def f26_i_BytesOfCodes.F (n : Nat) (v : Nat × List T) := f26_i_BytesOfCodes n v.1 v.2
noncomputable def f26_i_BytesOfCodes.O (n : Nat) : Orc := orcOf (E := E) [f102_i_areCodes.w] [f26_i_BytesOfCodes.l0.W n] n
theorem f26_i_BytesOfCodes.l0.ok (n : Nat) : LpOk (f26_i_BytesOfCodes.O n) E (evalFn E n) n (keepAt 26) (.loop (loopAt c26 0)) :=
  lp_pure f26_i_BytesOfCodes.l0.P sg_lllii f26_i_BytesOfCodes.l0.A (f26_i_BytesOfCodes.l0.F n) (orcOf_cf _ _ n) (lpOk_of (bs := []) (by kernel_rfl) .nil) (fun _ => rfl) (fun _ _ => by kernel_rfl) (fun _ _ _ => by kernel_rfl)
theorem f26_i_BytesOfCodes.ok : ∀ n v x, f26_i_BytesOfCodes.F n v = some x → evalFn E n 26 (flAs f26_i_BytesOfCodes.P (sg_l.pk v)) = some (f26_i_BytesOfCodes.A.enc x) :=
  fn_pure (modes := (fdAt 26).ms) (outs := (fdAt 26).os) (results := (fdAt 26).rs) f26_i_BytesOfCodes.O (c := c26) (keep := keepAt 26) (by kernel_rfl) (fun n => orcOf_cf _ _ n) (fun n => lpOk_of (bs := [loopAt c26 0]) (by kernel_rfl) (.cons (f26_i_BytesOfCodes.l0.ok n) .nil)) (fun _ => rfl) (fun _ _ => by kernel_rfl)
noncomputable def f26_i_BytesOfCodes.w : FnW E := fnW 26 f26_i_BytesOfCodes.P sg_l f26_i_BytesOfCodes.A f26_i_BytesOfCodes.F f26_i_BytesOfCodes.ok

def f27_i_CodesOfBytes.l0 (n : Nat) : Nat → List UInt8 → Nat → List T → Int → Option (Nat × List T)
  | 0, _, _, _, _ => none
  | m + 1, s1, n2, l3, i4 =>
    br (decide (i4 < (((List.length s1) : Nat) : Int))) (
     gd (decide (((0 : Int) ≤ i4) ∧ (i4 < (((List.length s1) : Nat) : Int)))) (
     gd (decide (((0 : Int) ≤ (IntKind.i64.wrap (i4 + (1 : Int)))) ∧ ((IntKind.i64.wrap (i4 + (1 : Int))) < (((List.length s1) : Nat) : Int)))) (
     gd (Nat.ble (n2 + 1) 2147483648) (
     let n5 : Nat := (n2 + 1)
     let l6 : List T := (l3 ++ (setN (reps 1 [(T.int IntKind.i64 (0 : Int))]) 0 [(T.int IntKind.i64 (IntKind.i64.wrap (IntKind.i16.wrap (intBits BinOp.or IntKind.u16 (IntKind.u16.wrap (byteAt s1 (Int.toNat i4))) (IntKind.u16.wrap ((IntKind.u16.wrap (byteAt s1 (Int.toNat (IntKind.i64.wrap (i4 + (1 : Int)))))) * (256 : Int)))))))]))
     f27_i_CodesOfBytes.l0 n m s1 n5 l6 (IntKind.i64.wrap (i4 + (2 : Int))))))) (
     some (n2, l3))
def f27_i_CodesOfBytes : Nat → List UInt8 → Option (Nat × List T × Bool)
  | 0, _ => none
  | n + 1, s1 =>
    br ((Int.tmod (((List.length s1) : Nat) : Int) (2 : Int)) != (0 : Int)) (
     some (0, [], false)) (
     br (decide ((((List.length s1) : Nat) : Int) > (512 : Int))) (
      some (0, [], false)) (
      bd (f27_i_CodesOfBytes.l0 n n s1 0 [] (0 : Int)) fun r2 =>
      let n3 : Nat := r2.1
      let l4 : List T := r2.2
      some (n3, l4, true)))
def sg_s : Sig (List UInt8) where
  pk := fun v => [.str v]
  up := fun ls => match ls with
    | [.str a0] => some a0
    | _ => none
  ok := by
    intro ls v h
    split at h
    · cases h; rfl
    · cases h

def sg_sli : Sig (List UInt8 × Nat × List T × Int) where
  pk := fun v => [.str v.1, .lst v.2.1 v.2.2.1, .int v.2.2.2]
  up := fun ls => match ls with
    | [.str a0, .lst a1 a2, .int a3] => some (a0, a1, a2, a3)
    | _ => none
  ok := by
    intro ls v h
    split at h
    · cases h; rfl
    · cases h

def f27_i_CodesOfBytes.l0.P : AS := ⟨[(0, .val false [.leaf] [.str []] [] 0), (4, .val false [.sl .own [.leaf]] [.lst 0 []] [] 0), (5, .val false [.leaf] [.int .i64 0] [] 0)], 0⟩
def f27_i_CodesOfBytes.l0.A : Alt (Nat × List T) := .one (.exit 0) ⟨[(4, .val false [.sl .own [.leaf]] [.lst 0 []] [] 0)], 0⟩ sg_l
def f27_i_CodesOfBytes.l0.F (n m : Nat) (v : List UInt8 × Nat × List T × Int) := f27_i_CodesOfBytes.l0 n m v.1 v.2.1 v.2.2.1 v.2.2.2
def f27_i_CodesOfBytes.l0.W (n : Nat) : LpW := .of 80 f27_i_CodesOfBytes.l0.P sg_sli f27_i_CodesOfBytes.l0.A (f27_i_CodesOfBytes.l0.F n n)
def f27_i_CodesOfBytes.P : List Arg := [⟨.val, ⟨false, [.leaf], [.str []]⟩⟩]
def f27_i_CodesOfBytes.A : RAlt (Nat × List T × Bool) := .one ⟨[⟨false, [.sl .own [.leaf]], [.lst 0 []]⟩, ⟨false, [.leaf], [.bool false]⟩], [none]⟩ sg_lb
def f27_i_CodesOfBytes.F (n : Nat) (v : List UInt8) := f27_i_CodesOfBytes n v
noncomputable def f27_i_CodesOfBytes.O (n : Nat) : Orc := orcOf (E := E) [] [f27_i_CodesOfBytes.l0.W n] n
theorem f27_i_CodesOfBytes.l0.ok (n : Nat) : LpOk (f27_i_CodesOfBytes.O n) E (evalFn E n) n (keepAt 27) (.loop (loopAt c27 0)) :=
  lp_pure f27_i_CodesOfBytes.l0.P sg_sli f27_i_CodesOfBytes.l0.A (f27_i_CodesOfBytes.l0.F n) (orcOf_cf _ _ n) (lpOk_of (bs := []) (by kernel_rfl) .nil) (fun _ => rfl) (fun _ _ => by kernel_rfl) (fun _ _ _ => by kernel_rfl)
theorem f27_i_CodesOfBytes.ok : ∀ n v x, f27_i_CodesOfBytes.F n v = some x → evalFn E n 27 (flAs f27_i_CodesOfBytes.P (sg_s.pk v)) = some (f27_i_CodesOfBytes.A.enc x) :=
  fn_pure (modes := (fdAt 27).ms) (outs := (fdAt 27).os) (results := (fdAt 27).rs) f27_i_CodesOfBytes.O (c := c27) (keep := keepAt 27) (by kernel_rfl) (fun n => orcOf_cf _ _ n) (fun n => lpOk_of (bs := [loopAt c27 0]) (by kernel_rfl) (.cons (f27_i_CodesOfBytes.l0.ok n) .nil)) (fun _ => rfl) (fun _ _ => by kernel_rfl)
noncomputable def f27_i_CodesOfBytes.w : FnW E := fnW 27 f27_i_CodesOfBytes.P sg_s f27_i_CodesOfBytes.A f27_i_CodesOfBytes.F f27_i_CodesOfBytes.ok

def f4_l_FnSteps.l2 (n : Nat) : Nat → Nat → List T → Nat → List T → Int → Option ((Bool) ⊕ (Unit))
  | 0, _, _, _, _, _ => none
  | m + 1, n1, l2, n3, l4, i5 =>
    br (decide (i5 < ((n3 : Nat) : Int))) (
     gd (decide (((0 : Int) ≤ i5) ∧ (i5 < ((n3 : Nat) : Int)))) (
     gd (okAt [(CK.int IntKind.i64)] l4 (Int.toNat i5)) (
     gd (decide (((0 : Int) ≤ i5) ∧ (i5 < ((n1 : Nat) : Int)))) (
     gd (okAt [(CK.int IntKind.i64)] l2 (Int.toNat i5)) (
     br ((iAt l4 (Int.toNat i5)) != (iAt l2 (Int.toNat i5))) (
      some (Sum.inl false)) (
      f4_l_FnSteps.l2 n m n1 l2 n3 l4 (IntKind.i64.wrap (i5 + (1 : Int))))))))) (
     some (Sum.inr ()))
def f4_l_FnSteps : Nat → Nat → List T → Nat → List T → Option (Bool)
  | 0, _, _, _, _ => none
  | n + 1, n1, l2, n3, l4 =>
    bd (f15_l_r8Long n n1 l2 n3 l4) fun r5 =>
    let b6 : Bool := r5
    br b6 (
     some true) (
     bd (f17_l_r8At n n1 l2 (40 : Int) (15 : Int)) fun r7 =>
     let i8 : Int := r7
     let i9 : Int := (IntKind.i64.wrap ((2 : Int) + i8))
     gd (decide ((0 : Int) ≤ (IntKind.u64.wrap (IntKind.i64.wrap (i9 - (1 : Int)))))) (
     let i10 : Int := (IntKind.i64.wrap ((1 : Int) * ((2 : Int) ^ (min (Int.toNat (IntKind.u64.wrap (IntKind.i64.wrap (i9 - (1 : Int))))) 64))))
     bd (f22_s_R8Samples n n3 l4 (12 : Int)) fun r11 =>
     let n12 : Nat := r11.1
     let l13 : List T := r11.2
     bd (f23_i_CodesOf n i9 n12 l13) fun r14 =>
     let n15 : Nat := r14.1
     let l16 : List T := r14.2.1
     let b17 : Bool := r14.2.2
     bd (f24_i_SamplesOf n i9 n15 l16) fun r18 =>
     let n19 : Nat := r18.1
     let l20 : List T := r18.2.1
     let b21 : Bool := r18.2.2
     bd (f23_i_CodesOf n i9 n19 l20) fun r22 =>
     let n23 : Nat := r22.1
     let l24 : List T := r22.2.1
     let b25 : Bool := r22.2.2
     bd (f25_i_CountClipped n i9 n15 l16) fun r26 =>
     let i27 : Int := r26.1
     let b28 : Bool := r26.2
     br (!b17) (
      some false) (
      br (!b21) (
       some false) (
       br (!b25) (
        some false) (
        br (!b28) (
         some false) (
         br (((n15 : Nat) : Int) != ((n12 : Nat) : Int)) (
          some false) (
          br (((n19 : Nat) : Int) != ((n12 : Nat) : Int)) (
           some false) (
           br (((n23 : Nat) : Int) != ((n12 : Nat) : Int)) (
            some false) (
            bd (f4_l_FnSteps.l0 n n i10 n12 l13 n15 l16 n23 l24 i27 (0 : Int) (0 : Int)) fun r29 =>
            sm r29 (fun u30 =>
             let b31 : Bool := u30
             some b31) (fun u32 =>
             let n33 : Nat := u32.1
             let l34 : List T := u32.2.1
             let i35 : Int := u32.2.2.1
             let i36 : Int := u32.2.2.2
             bd (f23_i_CodesOf n (16 : Int) n33 l34) fun r37 =>
             let n38 : Nat := r37.1
             let l39 : List T := r37.2.1
             let b40 : Bool := r37.2.2
             bd (f26_i_BytesOfCodes n n38 l39) fun r41 =>
             let s42 : List UInt8 := r41.1
             let b43 : Bool := r41.2
             bd (f27_i_CodesOfBytes n s42) fun r44 =>
             let n45 : Nat := r44.1
             let l46 : List T := r44.2.1
             let b47 : Bool := r44.2.2
             br (i36 != i35) (
              some false) (
              br (!b40) (
               some false) (
               br (!b43) (
                some false) (
                br (!b47) (
                 some false) (
                 br ((((List.length s42) : Nat) : Int) != (IntKind.i64.wrap ((2 : Int) * ((n33 : Nat) : Int)))) (
                  some false) (
                  br (((n45 : Nat) : Int) != ((n38 : Nat) : Int)) (
                   some false) (
                   bd (f4_l_FnSteps.l2 n n n38 l39 n45 l46 (0 : Int)) fun r48 =>
                   sm r48 (fun u49 =>
                    let b50 : Bool := u49
                    some b50) (fun u51 =>
                    some true)))))))))))))))))
def sg_illliiii : Sig (Int × Nat × List T × Nat × List T × Nat × List T × Int × Int × Int × Int) where
  pk := fun v => [.int v.1, .lst v.2.1 v.2.2.1, .lst v.2.2.2.1 v.2.2.2.2.1, .lst v.2.2.2.2.2.1 v.2.2.2.2.2.2.1, .int v.2.2.2.2.2.2.2.1, .int v.2.2.2.2.2.2.2.2.1, .int v.2.2.2.2.2.2.2.2.2.1, .int v.2.2.2.2.2.2.2.2.2.2]
  up := fun ls => match ls with
    | [.int a0, .lst a1 a2, .lst a3 a4, .lst a5 a6, .int a7, .int a8, .int a9, .int a10] => some (a0, a1, a2, a3, a4, a5, a6, a7, a8, a9, a10)
    | _ => none
  ok := by
    intro ls v h
    split at h
    · cases h; rfl
    · cases h

def sg_illliii : Sig (Int × Nat × List T × Nat × List T × Nat × List T × Int × Int × Int) where
  pk := fun v => [.int v.1, .lst v.2.1 v.2.2.1, .lst v.2.2.2.1 v.2.2.2.2.1, .lst v.2.2.2.2.2.1 v.2.2.2.2.2.2.1, .int v.2.2.2.2.2.2.2.1, .int v.2.2.2.2.2.2.2.2.1, .int v.2.2.2.2.2.2.2.2.2]
  up := fun ls => match ls with
    | [.int a0, .lst a1 a2, .lst a3 a4, .lst a5 a6, .int a7, .int a8, .int a9] => some (a0, a1, a2, a3, a4, a5, a6, a7, a8, a9)
    | _ => none
  ok := by
    intro ls v h
    split at h
    · cases h; rfl
    · cases h

def sg_lli : Sig (Nat × List T × Nat × List T × Int) where
  pk := fun v => [.lst v.1 v.2.1, .lst v.2.2.1 v.2.2.2.1, .int v.2.2.2.2]
  up := fun ls => match ls with
    | [.lst a0 a1, .lst a2 a3, .int a4] => some (a0, a1, a2, a3, a4)
    | _ => none
  ok := by
    intro ls v h
    split at h
    · cases h; rfl
    · cases h

def f4_l_FnSteps.l1.P : AS := ⟨[(6, .val false [.leaf] [.int .i64 0] [] 0), (7, .val false [.sl .own [.leaf]] [.lst 0 []] [] 0), (8, .val false [.sl .own [.leaf]] [.lst 0 []] [] 0), (12, .val false [.sl .own [.leaf]] [.lst 0 []] [] 0), (14, .val false [.leaf] [.int .i64 0] [] 0), (16, .val false [.leaf] [.int .i64 0] [] 0), (17, .val false [.leaf] [.int .i64 0] [] 0), (20, .val false [.leaf] [.int .i64 0] [] 0)], 0⟩
def f4_l_FnSteps.l1.A : Alt ((Bool) ⊕ (Int × Nat × List T × Nat × List T × Nat × List T × Int × Int × Int)) := .or (.one .ret ⟨[(4, .val false [.leaf] [.bool false] [] 0), (6, .dead), (7, .dead), (8, .dead), (12, .dead), (14, .dead), (16, .dead), (17, .dead)], 0⟩ sg_b) (.one (.exit 2) ⟨[(4, .dead), (6, .val false [.leaf] [.int .i64 0] [] 0), (7, .val false [.sl .own [.leaf]] [.lst 0 []] [] 0), (8, .val false [.sl .own [.leaf]] [.lst 0 []] [] 0), (12, .val false [.sl .own [.leaf]] [.lst 0 []] [] 0), (14, .val false [.leaf] [.int .i64 0] [] 0), (16, .val false [.leaf] [.int .i64 0] [] 0), (17, .val false [.leaf] [.int .i64 0] [] 0)], 0⟩ sg_illliii)
def f4_l_FnSteps.l1.F (n m : Nat) (v : Int × Nat × List T × Nat × List T × Nat × List T × Int × Int × Int × Int) := f4_l_FnSteps.l1 n m v.1 v.2.1 v.2.2.1 v.2.2.2.1 v.2.2.2.2.1 v.2.2.2.2.2.1 v.2.2.2.2.2.2.1 v.2.2.2.2.2.2.2.1 v.2.2.2.2.2.2.2.2.1 v.2.2.2.2.2.2.2.2.2.1 v.2.2.2.2.2.2.2.2.2.2
def f4_l_FnSteps.l1.W (n : Nat) : LpW := .of 400 f4_l_FnSteps.l1.P sg_illliiii f4_l_FnSteps.l1.A (f4_l_FnSteps.l1.F n n)
def f4_l_FnSteps.l0.P : AS := ⟨[(6, .val false [.leaf] [.int .i64 0] [] 0), (7, .val false [.sl .own [.leaf]] [.lst 0 []] [] 0), (8, .val false [.sl .own [.leaf]] [.lst 0 []] [] 0), (12, .val false [.sl .own [.leaf]] [.lst 0 []] [] 0), (14, .val false [.leaf] [.int .i64 0] [] 0), (16, .val false [.leaf] [.int .i64 0] [] 0), (17, .val false [.leaf] [.int .i64 0] [] 0)], 0⟩
def f4_l_FnSteps.l0.A : Alt ((Bool) ⊕ (Nat × List T × Int × Int)) := .or (.one .ret ⟨[(4, .val false [.leaf] [.bool false] [] 0), (7, .dead), (14, .dead), (16, .dead)], 0⟩ sg_b) (.one (.exit 0) ⟨[(4, .dead), (7, .val false [.sl .own [.leaf]] [.lst 0 []] [] 0), (14, .val false [.leaf] [.int .i64 0] [] 0), (16, .val false [.leaf] [.int .i64 0] [] 0)], 0⟩ sg_lii)
def f4_l_FnSteps.l0.F (n m : Nat) (v : Int × Nat × List T × Nat × List T × Nat × List T × Int × Int × Int) := f4_l_FnSteps.l0 n m v.1 v.2.1 v.2.2.1 v.2.2.2.1 v.2.2.2.2.1 v.2.2.2.2.2.1 v.2.2.2.2.2.2.1 v.2.2.2.2.2.2.2.1 v.2.2.2.2.2.2.2.2.1 v.2.2.2.2.2.2.2.2.2
def f4_l_FnSteps.l0.W (n : Nat) : LpW := .of 224 f4_l_FnSteps.l0.P sg_illliii f4_l_FnSteps.l0.A (f4_l_FnSteps.l0.F n n)
def f4_l_FnSteps.l2.P : AS := ⟨[(21, .val false [.sl .own [.leaf]] [.lst 0 []] [] 0), (25, .val false [.sl .own [.leaf]] [.lst 0 []] [] 0), (27, .val false [.leaf] [.int .i64 0] [] 0)], 0⟩
def f4_l_FnSteps.l2.A : Alt ((Bool) ⊕ (Unit)) := .or (.one .ret ⟨[(4, .val false [.leaf] [.bool false] [] 0)], 0⟩ sg_b) (.one (.exit 4) ⟨[(4, .dead)], 0⟩ sg)
def f4_l_FnSteps.l2.F (n m : Nat) (v : Nat × List T × Nat × List T × Int) := f4_l_FnSteps.l2 n m v.1 v.2.1 v.2.2.1 v.2.2.2.1 v.2.2.2.2
def f4_l_FnSteps.l2.W (n : Nat) : LpW := .of 560 f4_l_FnSteps.l2.P sg_lli f4_l_FnSteps.l2.A (f4_l_FnSteps.l2.F n n)
def f4_l_FnSteps.P : List Arg := [⟨.val, ⟨false, [.sl .shr [.leaf]], [.lst 0 []]⟩⟩, ⟨.val, ⟨false, [.sl .shr [.leaf]], [.lst 0 []]⟩⟩]
def f4_l_FnSteps.A : RAlt (Bool) := .one ⟨[⟨false, [.leaf], [.bool false]⟩], [none, none]⟩ sg_b
def f4_l_FnSteps.F (n : Nat) (v : Nat × List T × Nat × List T) := f4_l_FnSteps n v.1 v.2.1 v.2.2.1 v.2.2.2
noncomputable def f4_l_FnSteps.O (n : Nat) : Orc := orcOf (E := E) [f15_l_r8Long.w, f17_l_r8At.w, f22_s_R8Samples.w, f23_i_CodesOf.w, f24_i_SamplesOf.w, f25_i_CountClipped.w, f26_i_BytesOfCodes.w, f27_i_CodesOfBytes.w] [f4_l_FnSteps.l1.W n, f4_l_FnSteps.l0.W n, f4_l_FnSteps.l2.W n] n
theorem f4_l_FnSteps.l1.ok (n : Nat) : LpOk (f4_l_FnSteps.O n) E (evalFn E n) n (keepAt 4) (.loop (loopAt c4 1)) :=
  lp_pure f4_l_FnSteps.l1.P sg_illliiii f4_l_FnSteps.l1.A (f4_l_FnSteps.l1.F n) (orcOf_cf _ _ n) (lpOk_of (bs := []) (by kernel_rfl) .nil) (fun _ => rfl) (fun _ _ => by kernel_rfl) (fun _ _ _ => by kernel_rfl)
theorem f4_l_FnSteps.l0.ok (n : Nat) : LpOk (f4_l_FnSteps.O n) E (evalFn E n) n (keepAt 4) (.loop (loopAt c4 0)) :=
  lp_pure f4_l_FnSteps.l0.P sg_illliii f4_l_FnSteps.l0.A (f4_l_FnSteps.l0.F n) (orcOf_cf _ _ n) (lpOk_of (bs := [loopAt c4 1]) (by kernel_rfl) (.cons (f4_l_FnSteps.l1.ok n) .nil)) (fun _ => rfl) (fun _ _ => by kernel_rfl) (fun _ _ _ => by kernel_rfl)
theorem f4_l_FnSteps.l2.ok (n : Nat) : LpOk (f4_l_FnSteps.O n) E (evalFn E n) n (keepAt 4) (.loop (loopAt c4 2)) :=
  lp_pure f4_l_FnSteps.l2.P sg_lli f4_l_FnSteps.l2.A (f4_l_FnSteps.l2.F n) (orcOf_cf _ _ n) (lpOk_of (bs := []) (by kernel_rfl) .nil) (fun _ => rfl) (fun _ _ => by kernel_rfl) (fun _ _ _ => by kernel_rfl)
theorem f4_l_FnSteps.ok : ∀ n v x, f4_l_FnSteps.F n v = some x → evalFn E n 4 (flAs f4_l_FnSteps.P (sg_ll.pk v)) = some (f4_l_FnSteps.A.enc x) :=
  fn_pure (modes := (fdAt 4).ms) (outs := (fdAt 4).os) (results := (fdAt 4).rs) f4_l_FnSteps.O (c := c4) (keep := keepAt 4) (by kernel_rfl) (fun n => orcOf_cf _ _ n) (fun n => lpOk_of (bs := [loopAt c4 0, loopAt c4 2]) (by kernel_rfl) (.cons (f4_l_FnSteps.l0.ok n) (.cons (f4_l_FnSteps.l2.ok n) .nil))) (fun _ => rfl) (fun _ _ => by kernel_rfl)
noncomputable def f4_l_FnSteps.w : FnW E := fnW 4 f4_l_FnSteps.P sg_ll f4_l_FnSteps.A f4_l_FnSteps.F f4_l_FnSteps.ok
end Go.Proofs.Ytjkhhalnlodinaa.D
end
section
/- FnSteps, in plain Lean. -/
namespace Go.Proofs.Ytjkhhalnlodinaa.D
open Go Go.Desk
set_option linter.unusedVariables false
theorem s_from (n l : Nat) (c : List T) : f90_s_l00From (n + 1) l c = some (l, c, 0, 0) := by rw [f90_s_l00From]
theorem s_next (n : Nat) {bs : List Int} (hb : Bytes bs) {a : Int} (h0 : 0 ≤ a) (h1 : a ≤ 1125899906842624) (sd : Int) :
    ∃ r sd', (0 ≤ r ∧ r ≤ 255) ∧ f163_s_l00Srcnext (n + 1) bs.length (its .u8 bs) a sd = some (r, bs.length, its .u8 bs, a + 1, sd') := by
  rw [f163_s_l00Srcnext]
  rw [show IntKind.i64.wrap (a + 1) = a + 1 by rw [wrap64] <;> omega]
  cases h : decide (a < (bs.length : Int))
  · simp only [br_f]
    cases decide (a + 1 ≤ (bs.length : Int))
    · exact ⟨_, _, and255 _, rfl⟩
    · exact ⟨0, _, by omega, rfl⟩
  · simp only [decide_eq_true_eq] at h
    obtain ⟨i, rfl⟩ := Int.eq_ofNat_of_zero_le h0
    have hi : i < bs.length := by omega
    have hr := hb (bs[i]) (List.getElem_mem _)
    simp only [br_t, in_dec hi, Int.toNat_natCast, okAt_its hi, Bool.and_self, gd_t, iAt_its]
    rw [show bs.getD i 0 = bs[i] by simp [List.getD, hi], show IntKind.i64.wrap bs[i] = bs[i] by rw [wrap64] <;> omega]
    cases decide ((i : Int) + 1 ≤ (bs.length : Int))
    · exact ⟨_, _, and255 _, rfl⟩
    · exact ⟨_, _, hr, rfl⟩
theorem s_pick (n : Nat) {bs : List Int} (hb : Bytes bs) {a : Int} (h0 : 0 ≤ a) (h1 : a ≤ 1125899906842622) (sd k : Int) :
    ∃ r a' sd', (0 ≤ r ∧ (1 < k → r < k) ∧ (k ≤ 1 → r = 0)) ∧ (a ≤ a' ∧ a' ≤ a + 2) ∧ f97_s_l00Srcpick (n + 2) bs.length (its .u8 bs) a sd k = some (r, bs.length, its .u8 bs, a', sd') := by
  rw [f97_s_l00Srcpick]
  by_cases hk : k ≤ 1
  · rw [decide_eq_true hk]; exact ⟨0, a, sd, by omega, by omega, rfl⟩
  rw [decide_eq_false hk]
  obtain ⟨r, s1, hr, e1⟩ := s_next n hb h0 (by omega) sd
  simp only [br_f, e1, bd_s]
  have hk0 : (!decide (k = 0)) = true := by simp; omega
  by_cases hk2 : k > 200
  · rw [decide_eq_true hk2]
    obtain ⟨r', s2, hr', e2⟩ := s_next n hb (a := a + 1) (by omega) (by omega) s1
    simp only [br_t, e2, bd_s, hk0, gd_t]
    rw [show IntKind.i64.wrap (r * 256) = r * 256 by rw [wrap64] <;> omega, show IntKind.i64.wrap (r * 256 + r') = r * 256 + r' by rw [wrap64] <;> omega]
    refine ⟨_, _, _, ?_, ?_, rfl⟩
    · rw [Int.tmod_eq_emod_of_nonneg (by omega)]
      have := Int.emod_nonneg (r * 256 + r') (show k ≠ 0 by omega)
      have := Int.emod_lt_of_pos (r * 256 + r') (show 0 < k by omega)
      omega
    · omega
  · rw [decide_eq_false hk2]
    simp only [br_f, hk0, gd_t]
    refine ⟨_, _, _, ?_, ?_, rfl⟩
    · rw [Int.tmod_eq_emod_of_nonneg (by omega)]
      have := Int.emod_nonneg r (show k ≠ 0 by omega)
      have := Int.emod_lt_of_pos r (show 0 < k by omega)
      omega
    · omega
theorem s_one (n : Nat) {bs : List Int} (hb : Bytes bs) {a : Int} (h0 : 0 ≤ a) (h1 : a ≤ 1125899906842622) (sd k : Int) :
    ∃ r a' sd', (a ≤ a' ∧ a' ≤ a + 2) ∧ f158_s_l00Srcone (n + 3) bs.length (its .u8 bs) a sd k = some (r, bs.length, its .u8 bs, a', sd') := by
  obtain ⟨r, a', s', -, ha, e⟩ := s_pick n hb h0 h1 sd k
  rw [f158_s_l00Srcone, e]
  exact ⟨_, _, _, ha, rfl⟩
theorem s_plain (n : Nat) {bs : List Int} (hb : Bytes bs) {a : Int} (h0 : 0 ≤ a) (h1 : a ≤ 1125899906842620) (sd : Int) :
    ∃ x a' sd', Plain x ∧ (a ≤ a' ∧ a' ≤ a + 4) ∧ f91_s_l01DrawPlain (n + 4) bs.length (its .u8 bs) a sd = some (x, bs.length, its .u8 bs, a', sd') := by
  obtain ⟨r, a1, s1, hr, ha, e⟩ := s_pick (n + 1) hb h0 (by omega) sd 129
  obtain ⟨b, a2, s2, ha2, e2⟩ := s_one n hb (a := a1) (by omega) (by omega) s1 4
  rw [f91_s_l01DrawPlain, e]
  simp only [bd_s, e2]
  rw [show IntKind.i64.wrap (r - 64) = r - 64 by rw [wrap64] <;> omega]
  cases b
  · exact ⟨_, a2, s2, ⟨r - 64, by omega, .inr rfl⟩, by omega, rfl⟩
  · exact ⟨_, a2, s2, ⟨r - 64, by omega, .inl rfl⟩, by omega, rfl⟩
theorem s_among (n : Nat) {bs : List Int} (hb : Bytes bs) {a : Int} (h0 : 0 ≤ a) (h1 : a ≤ 1125899906842622) (sd : Int) (L : List Int) (hL : 0 < L.length) :
    ∃ r a' sd', r ∈ L ∧ (a ≤ a' ∧ a' ≤ a + 2) ∧ f168_s_l00Srcamong (n + 3) bs.length (its .u8 bs) a sd L.length (its .i64 L) = some (r, bs.length, its .u8 bs, a', sd', L.length, its .i64 L) := by
  obtain ⟨r, a1, s1, hr, ha, e⟩ := s_pick n hb h0 h1 sd (L.length : Int)
  rw [f168_s_l00Srcamong, e]
  obtain ⟨i, rfl⟩ := Int.eq_ofNat_of_zero_le hr.1
  have hi : i < L.length := by
    by_cases h : (L.length : Int) ≤ 1
    · have := hr.2.2 h; omega
    · have := hr.2.1 (by omega); omega
  simp only [bd_s, in_dec hi, Int.toNat_natCast, okAt_its hi, Bool.and_self, gd_t, iAt_its]
  refine ⟨_, _, _, ?_, ha, rfl⟩
  rw [show L.getD i 0 = L[i] by simp [List.getD, hi]]
  exact List.getElem_mem _
theorem s_from32 (n : Nat) {i : Int} (h0 : 0 ≤ i) (h1 : i < 4294967296) : ∃ x, W32 x ∧ f167_s_l01From (n + 2) i = some x := by
  rw [f167_s_l01From]
  refine ⟨canon .f32 i.toNat, w32_canon (by omega), ?_⟩
  rw [u32_wrap h0 h1]
  show bd (if 0 ≤ i then some (canon .f32 i.toNat) else none) _ = _
  rw [if_pos h0]; rfl
theorem s_float (n : Nat) {bs : List Int} (hb : Bytes bs) {a : Int} (h0 : 0 ≤ a) (h1 : a ≤ 1125899906842600) (sd : Int) :
    ∃ x a' sd', W32 x ∧ (a ≤ a' ∧ a' ≤ a + 16) ∧ f112_s_l01DrawFloat (n + 5) bs.length (its .u8 bs) a sd = some (x, bs.length, its .u8 bs, a', sd') := by
  obtain ⟨b, a1, s1, ha1, e1⟩ := s_one (n + 1) hb h0 (by omega) sd 12
  rw [f112_s_l01DrawFloat, e1]
  simp only [bd_s, br_not]
  cases b
  · obtain ⟨x, a2, s2, hx, ha2, e2⟩ := s_plain n hb (a := a1) (by omega) (by omega) s1
    simp only [br_f, e2, bd_s]
    exact ⟨_, _, _, hx.w32, by omega, rfl⟩
  obtain ⟨q, a2, s2, -, ha2, e2⟩ := s_pick (n + 2) hb (a := a1) (by omega) (by omega) s1 4
  simp only [br_t, e2, bd_s]
  cases q == 0
  case true =>
    obtain ⟨r, a3, s3, hr, ha3, e3⟩ := s_among (n + 1) hb (a := a2) (by omega) (by omega) s2 [0, 2147483648, 2139095040, 4286578688, 2143289344, 1, 2139095039, 8388608, 8388607, 2147483649] (by decide)
    have hr' : 0 ≤ r ∧ r < 4294967296 := by simp only [List.mem_cons, List.not_mem_nil, or_false] at hr; omega
    obtain ⟨x, hx, e4⟩ := s_from32 (n + 2) hr'.1 hr'.2
    rw [br_t]
    refine ⟨x, a3, s3, hx, by omega, ?_⟩
    refine Eq.trans (congrArg (fun o => bd o _) e3) ?_
    simp only [bd_s, e4]
  cases q == 1
  case true =>
    obtain ⟨r, a3, s3, hr, ha3, e3⟩ := s_pick (n + 2) hb (a := a2) (by omega) (by omega) s2 65536
    obtain ⟨r', a4, s4, hr', ha4, e4⟩ := s_pick (n + 2) hb (a := a3) (by omega) (by omega) s3 65536
    obtain ⟨x, hx, e5⟩ := s_from32 (n + 2) (i := r * 65536 + r') (by omega) (by omega)
    simp only [br_f, br_t, e3, e4, bd_s]
    rw [show IntKind.i64.wrap (r * 65536) = r * 65536 by rw [wrap64] <;> omega, show IntKind.i64.wrap (r * 65536 + r') = r * 65536 + r' by rw [wrap64] <;> omega, e5]
    exact ⟨x, _, _, hx, by omega, rfl⟩
  cases q == 2
  case true =>
    obtain ⟨r, a3, s3, hr, ha3, e3⟩ := s_pick (n + 2) hb (a := a2) (by omega) (by omega) s2 65536
    obtain ⟨x, hx, e5⟩ := s_from32 (n + 2) (i := r * 65536) (by omega) (by omega)
    simp only [br_f, br_t, e3, bd_s]
    rw [show IntKind.i64.wrap (r * 65536) = r * 65536 by rw [wrap64] <;> omega, e5]
    exact ⟨x, _, _, hx, by omega, rfl⟩
  obtain ⟨x, a3, s3, hx, ha3, e3⟩ := s_plain n hb (a := a2) (by omega) (by omega) s2
  obtain ⟨r, a4, s4, hr, ha4, e4⟩ := s_among (n + 1) hb (a := a3) (by omega) (by omega) s3 [8388608, 2130706432, 1610612736, 536870912] (by decide)
  have hr' : 0 ≤ r ∧ r < 4294967296 := by simp only [List.mem_cons, List.not_mem_nil, or_false] at hr; omega
  obtain ⟨y, hy, e5⟩ := s_from32 (n + 2) hr'.1 hr'.2
  simp only [br_f, e3, bd_s]
  refine ⟨_, a4, s4, w32_fmul x y, by omega, ?_⟩
  refine Eq.trans (congrArg (fun o => bd o _) e4) ?_
  simp only [bd_s, e5]
theorem s_floats_loop (n : Nat) {bs : List Int} (hb : Bytes bs) (str : Bool) : ∀ (j m : Nat) (a sd : Int) (acc : List Nat), 0 ≤ a → a + 16 * (j : Int) ≤ 1125899906842000 → acc.length + j ≤ 2147483647 → j < m → (∀ x ∈ acc, W32 x) →
    ∃ ys a' sd', ys.length = acc.length + j ∧ (∀ x ∈ ys, W32 x) ∧ (a ≤ a' ∧ a' ≤ a + 16 * (j : Int)) ∧
      f98_s_l01DrawFloats.l0 (n + 5) m bs.length (its .u8 bs) a sd (j : Int) acc.length (fls .f32 acc) str = some (bs.length, its .u8 bs, a', sd', ys.length, fls .f32 ys) := by
  intro j
  induction j with
  | zero =>
    intro m a sd acc h0 h1 hl hm hw
    obtain ⟨m, rfl⟩ : ∃ k, m = k + 1 := ⟨m - 1, by omega⟩
    rw [f98_s_l01DrawFloats.l0]
    exact ⟨acc, a, sd, by omega, hw, by omega, rfl⟩
  | succ j ih =>
    intro m a sd acc h0 h1 hl hm hw
    obtain ⟨m, rfl⟩ : ∃ k, m = k + 1 := ⟨m - 1, by omega⟩
    rw [f98_s_l01DrawFloats.l0, decide_eq_true (show (((j + 1 : Nat) : Int) > 0) by omega), show IntKind.i64.wrap (((j + 1 : Nat) : Int) - 1) = (j : Int) by rw [wrap64] <;> omega]
    have key : ∀ x a1 s1, W32 x → a ≤ a1 → a1 ≤ a + 16 → ∃ ys a' sd', ys.length = acc.length + (j + 1) ∧ (∀ x ∈ ys, W32 x) ∧ (a ≤ a' ∧ a' ≤ a + 16 * ((j + 1 : Nat) : Int)) ∧
        f98_s_l01DrawFloats.l0 (n + 5) m bs.length (its .u8 bs) a1 s1 (j : Int) (acc ++ [x]).length (fls .f32 (acc ++ [x])) str = some (bs.length, its .u8 bs, a', sd', ys.length, fls .f32 ys) := by
      intro x a1 s1 hx h2 h3
      obtain ⟨ys, a', sd', hy, hyw, ha, e⟩ := ih m a1 s1 (acc ++ [x]) (by omega) (by omega) (by simp; omega) (by omega) (by
        intro y hy; simp only [List.mem_append, List.mem_singleton] at hy; rcases hy with hy | rfl
        · exact hw y hy
        · exact hx)
      exact ⟨ys, a', sd', by simp at hy; omega, hyw, by omega, e⟩
    simp only [br_t]
    cases str
    · obtain ⟨x, a1, s1, hx, ha, e⟩ := s_plain (n + 1) hb h0 (by omega) sd
      simp only [br_f, e, bd_s, push_ok (show acc.length < 2147483648 by omega), gd_t, push_fls]
      rw [show acc.length + 1 = (acc ++ [x]).length by simp]
      exact key x a1 s1 hx.w32 (by omega) (by omega)
    · obtain ⟨x, a1, s1, hx, ha, e⟩ := s_float n hb h0 (by omega) sd
      simp only [br_t, e, bd_s, push_ok (show acc.length < 2147483648 by omega), gd_t, push_fls]
      rw [show acc.length + 1 = (acc ++ [x]).length by simp]
      exact key x a1 s1 hx (by omega) (by omega)
theorem s_floats (n : Nat) {bs : List Int} (hb : Bytes bs) {a : Int} (h0 : 0 ≤ a) (j : Nat) (h1 : a + 16 * (j : Int) ≤ 1125899906841000) (hj : j ≤ 2147483647) (hn : j < n) (sd : Int) :
    ∃ ys a' sd', ys.length = j ∧ (∀ x ∈ ys, W32 x) ∧ (a ≤ a' ∧ a' ≤ a + 2 + 16 * (j : Int)) ∧ f98_s_l01DrawFloats (n + 6) bs.length (its .u8 bs) a sd (j : Int) = some (ys.length, fls .f32 ys, bs.length, its .u8 bs, a', sd') := by
  obtain ⟨b, a1, s1, ha1, e1⟩ := s_one (n + 2) hb h0 (by omega) sd 4
  obtain ⟨ys, a2, s2, hy, hw, ha2, e2⟩ := s_floats_loop n hb b j (n + 5) a1 s1 [] (by omega) (by omega) (by simp; omega) (by omega) (by simp)
  rw [f98_s_l01DrawFloats, e1]
  refine ⟨ys, a2, s2, by simpa using hy, hw, by omega, ?_⟩
  have e2 : f98_s_l01DrawFloats.l0 (n + 5) (n + 5) bs.length (its .u8 bs) a1 s1 (j : Int) 0 (reps 0 [(T.flt FloatKind.f32 0)]) b = some (bs.length, its .u8 bs, a2, s2, ys.length, fls .f32 ys) := e2
  simp only [bd_s, e2]
theorem s_r8samples (n : Nat) {bs : List Int} (hb : Bytes bs) (k : Nat) (hk : k ≤ 1000) (hn : k < n) : ∃ xs, xs.length ≤ k ∧ (∀ x ∈ xs, W32 x) ∧ f22_s_R8Samples (n + 7) bs.length (its .u8 bs) (k : Int) = some (xs.length, fls .f32 xs) := by
  obtain ⟨r, a1, s1, hr, ha1, e1⟩ := s_pick (n + 4) hb (a := 0) (by omega) (by omega) 0 ((k : Int) + 1)
  obtain ⟨j, rfl⟩ := Int.eq_ofNat_of_zero_le hr.1
  have hj : j ≤ k := by omega
  obtain ⟨ys, a2, s2, hy, hw, ha2, e2⟩ := s_floats n hb (a := a1) (by omega) j (by omega) (by omega) (by omega) s1
  rw [f22_s_R8Samples, s_from, show IntKind.i64.wrap ((k : Int) + 1) = (k : Int) + 1 by rw [wrap64] <;> omega]
  simp only [bd_s, e1, e2]
  exact ⟨ys, by omega, hw, rfl⟩

theorem l_long (n : Nat) (bs cs : List Int) : f15_l_r8Long (n + 1) bs.length (its .u8 bs) cs.length (its .u8 cs) = some (decide (48 < bs.length ∨ 48 < cs.length)) := by
  rw [f15_l_r8Long]
  by_cases h : 48 < bs.length
  · rw [decide_eq_true (show (bs.length : Int) > 48 by omega), decide_eq_true (Or.inl h)]; rfl
  · rw [decide_eq_false (show ¬ (bs.length : Int) > 48 by omega), br_f]
    congr 1
    simp [h]; omega
theorem l_at (n : Nat) {bs : List Int} (hb : Bytes bs) {i k : Int} (hi : 0 ≤ i) (hk : 1 ≤ k) : ∃ r, (0 ≤ r ∧ r < k) ∧ f17_l_r8At (n + 1) bs.length (its .u8 bs) i k = some r := by
  rw [f17_l_r8At]
  by_cases h : k ≤ 1
  · rw [decide_eq_true h]; exact ⟨0, by omega, rfl⟩
  rw [decide_eq_false h]
  by_cases h2 : i ≥ (bs.length : Int)
  · rw [decide_eq_true h2]; exact ⟨0, by omega, rfl⟩
  rw [decide_eq_false h2]
  obtain ⟨i, rfl⟩ := Int.eq_ofNat_of_zero_le hi
  have hi : i < bs.length := by omega
  have hr := hb (bs[i]) (List.getElem_mem _)
  have hk0 : (!decide (k = 0)) = true := by simp; omega
  simp only [br_f, in_dec hi, Int.toNat_natCast, okAt_its hi, Bool.and_self, gd_t, iAt_its, hk0]
  rw [show bs.getD i 0 = bs[i] by simp [List.getD, hi], show IntKind.i64.wrap bs[i] = bs[i] by rw [wrap64] <;> omega]
  refine ⟨_, ?_, rfl⟩
  rw [Int.tmod_eq_emod_of_nonneg (by omega)]
  have := Int.emod_nonneg bs[i] (show k ≠ 0 by omega)
  have := Int.emod_lt_of_pos bs[i] (show 0 < k by omega)
  omega

theorem i_few (n k : Nat) (l : List T) : f92_i_areSamples (n + 1) k l = some (decide ((k : Int) ≤ 256)) := by rw [f92_i_areSamples]

theorem i_in (n : Nat) (a b c : Int) : f93_i_within (n + 1) a b c = some (decide (b ≤ a ∧ a ≤ c)) := by
  rw [f93_i_within]
  by_cases h : b ≤ a <;> simp [br, h]



/-! codes of numbers -/
theorem cut_half (s : Bool) (n d : Nat) : 2 * n ≤ (2 * Ieee.Toward.cut .even s n d + 1) * 2 ^ d ∧ 2 * Ieee.Toward.cut .even s n d * 2 ^ d ≤ 2 * n + 2 ^ d := by
  unfold Ieee.Toward.cut
  simp only
  obtain ⟨g, hg⟩ : ∃ g, g = min d (n.log2 + 2) := ⟨_, rfl⟩
  rw [← hg, Nat.shiftLeft_eq, Nat.one_mul]
  have hpos : 0 < 2 ^ g := Nat.two_pow_pos g
  have hdm := Nat.div_add_mod n (2 ^ g)
  have hlt := Nat.mod_lt n hpos
  generalize hlow : n / 2 ^ g = low at *
  generalize hrest : n % 2 ^ g = rest at *
  have hm : ∃ b : Nat, b = (decide (2 ^ g < 2 * rest) || 2 ^ g == 2 * rest && low % 2 == 1).toNat ∧ ((b = 0 ∧ 2 * rest ≤ 2 ^ g) ∨ (b = 1 ∧ 2 ^ g ≤ 2 * rest)) := by
    refine ⟨_, rfl, ?_⟩
    by_cases h1 : 2 ^ g < 2 * rest
    · right; rw [decide_eq_true h1]; exact ⟨rfl, by omega⟩
    · rw [decide_eq_false h1]
      by_cases h2 : 2 ^ g = 2 * rest
      · by_cases h3 : low % 2 = 1
        · right; rw [h3, show (2 ^ g == 2 * rest) = true by simpa using h2]; exact ⟨rfl, by omega⟩
        · left; rw [show (low % 2 == 1) = false by simpa using h3]; simp; omega
      · left; rw [show (2 ^ g == 2 * rest) = false by simpa using h2]; exact ⟨rfl, by omega⟩
  obtain ⟨b, hb, hc⟩ := hm
  rw [← hb]
  by_cases hgd : g = d
  · rw [hgd] at hdm hlt hc
    rw [Nat.mul_comm] at hdm
    have e1 : (2 * (low + b) + 1) * 2 ^ d = 2 * (low * 2 ^ d) + 2 * (b * 2 ^ d) + 2 ^ d := by
      rw [Nat.add_mul, Nat.one_mul, Nat.mul_assoc, Nat.add_mul, Nat.mul_add]
    have e2 : 2 * (low + b) * 2 ^ d = 2 * (low * 2 ^ d) + 2 * (b * 2 ^ d) := by
      rw [Nat.mul_assoc, Nat.add_mul, Nat.mul_add]
    rw [e1, e2]
    generalize low * 2 ^ d = L at *
    rcases hc with ⟨rfl, h⟩ | ⟨rfl, h⟩ <;> omega
  · have hgl : g = n.log2 + 2 := by omega
    have hn : n < 2 ^ (n.log2 + 1) := Nat.lt_log2_self
    have h2 : 2 ^ g = 2 * 2 ^ (n.log2 + 1) := by rw [hgl, Nat.pow_succ]; omega
    have hle : 2 ^ g ≤ 2 ^ d := Nat.pow_le_pow_right (by decide) (by omega)
    have hl0 : low = 0 := by rw [← hlow]; exact Nat.div_eq_of_lt (by omega)
    have hr : rest = n := by rw [← hrest]; exact Nat.mod_eq_of_lt (by omega)
    subst hr
    rw [hl0, Nat.zero_add]
    rcases hc with ⟨rfl, h⟩ | ⟨rfl, h⟩
    · simp; omega
    · omega
theorem mv_cast (c : Nat) : mv c 0 = (c : Rat) := by unfold mv; rw [p2_zero, Rat.mul_one]
/-- the whole number next to a number -/
theorem even_val {x : Nat} {v : Rat} (hx : Val .f64 x v) (h1 : v ≤ p2 200) (h2 : -p2 200 ≤ v) : ∃ k : Int, Val .f64 (integralF .even x) (k : Rat) ∧ (k : Rat) - 1 / 2 ≤ v ∧ v ≤ (k : Rat) + 1 / 2 := by
  obtain ⟨s, m, i, e1, rfl, hm, hi⟩ := hx
  have hmn := mv_nonneg m i
  have hm200 : mv m i ≤ p2 200 := by cases s <;> simp only [sg_true, sg_false] at h1 h2 <;> grind
  obtain ⟨c, hc⟩ : ∃ c, c = Ieee.Toward.cut .even s (m <<< i.toNat) (-i).toNat := ⟨_, rfl⟩
  have e2 : integralF .even x = FloatKind.f64.encode (.number s c 0) := by
    unfold integralF; rw [e1, hc]; rfl
  obtain ⟨g1, g2⟩ := cut_half s (m <<< i.toNat) (-i).toNat
  rw [← hc, Nat.shiftLeft_eq] at g1 g2
  have hb : 2 * FloatKind.f64.format.binade = 9007199254740992 := by decide
  have hl : FloatKind.f64.format.leastPlace = -1074 := by decide
  rw [hb] at hm
  rw [hl] at hi
  -- the same over numbers
  have key : 2 * mv m i ≤ 2 * (c : Rat) + 1 ∧ 2 * (c : Rat) ≤ 2 * mv m i + 1 := by
    have e3 : mv m i = mv (m * 2 ^ i.toNat) (-((-i).toNat : Int)) := by
      rw [mv_shift, show -((-i).toNat : Int) + (i.toNat : Int) = i by omega]
    have e4 : ∀ N : Nat, mv (N * 2 ^ (-i).toNat) (-((-i).toNat : Int)) = (N : Rat) := by
      intro N; rw [mv_shift, show -((-i).toNat : Int) + ((-i).toNat : Int) = 0 by omega, mv_cast]
    have two : ∀ (N : Nat) (e : Int), mv (2 * N) e = 2 * mv N e := by
      intro N e; rw [Nat.two_mul, mv_add]; grind
    have f1 := (mv_le (e := -((-i).toNat : Int))).2 g1
    have f2 := (mv_le (e := -((-i).toNat : Int))).2 g2
    rw [two, e4, ← e3] at f1
    rw [mv_add, two, ← e3, e4, show 2 ^ (-i).toNat = 1 * 2 ^ (-i).toNat by rw [Nat.one_mul], e4] at f2
    have c1 : ((2 * c + 1 : Nat) : Rat) = 2 * (c : Rat) + 1 := by exact_mod_cast rfl
    have c2 : ((2 * c : Nat) : Rat) = 2 * (c : Rat) := by exact_mod_cast rfl
    have c3 : ((1 : Nat) : Rat) = 1 := rfl
    rw [c1] at f1
    rw [c2, c3] at f2
    exact ⟨f1, f2⟩
  have hrep : Rep0 .f64 (mv c 0) ∧ mv c 0 < p2 (topE .f64) := by
    rcases Int.lt_or_le i 0 with h | h
    · have hz : i.toNat = 0 := by omega
      rw [hz, Nat.pow_zero, Nat.mul_one] at g2
      have hp : 2 ≤ 2 ^ (-i).toNat := by
        have := Nat.pow_le_pow_right (show 0 < 2 by decide) (show 1 ≤ (-i).toNat by omega)
        simpa using this
      have hcm : c ≤ m := by
        rcases Nat.lt_or_ge m c with h5 | h5
        · exfalso
          have h6 : 2 * (m + 1) * 2 ^ (-i).toNat ≤ 2 * c * 2 ^ (-i).toNat := Nat.mul_le_mul_right _ (by omega)
          have h7 : 2 * (m + 1) * 2 ^ (-i).toNat = 2 * m * 2 ^ (-i).toNat + 2 * 2 ^ (-i).toNat := by rw [Nat.mul_add, Nat.add_mul]
          have h8 : 2 * m * 2 ≤ 2 * m * 2 ^ (-i).toNat := Nat.mul_le_mul_left _ hp
          omega
        · exact h5
      rw [mv_cast]
      exact ⟨rep_nat .f64 (by omega), nat_top .f64 (by omega)⟩
    · have hd : (-i).toNat = 0 := by omega
      rw [hd, Nat.pow_zero, Nat.mul_one] at g1 g2
      have hcc : c = m * 2 ^ i.toNat := by omega
      have : mv c 0 = mv m i := by rw [hcc, mv_shift, show (0 : Int) + (i.toNat : Int) = i by omega]
      rw [this]
      exact ⟨⟨m, i, by omega, by rw [hl]; omega, rfl⟩, rlt hm200 (p2_lt (by decide))⟩
  obtain ⟨m', e', q1, q2⟩ := exact_write .f64 s hrep.1 hrep.2
  rw [mv_cast] at q2
  refine ⟨if s then -(c : Int) else (c : Int), ?_, ?_, ?_⟩
  · have := read_val q1
    rw [e2]
    rw [q2] at this
    cases s
    · simp only [sg_false] at this
      rw [if_neg (by decide), Rat.intCast_natCast]; exact this
    · simp only [sg_true] at this
      rw [if_pos rfl, Rat.intCast_neg, Rat.intCast_natCast]; exact this
  · cases s
    · rw [if_neg (by decide), Rat.intCast_natCast, sg_false]; grind
    · rw [if_pos rfl, Rat.intCast_neg, Rat.intCast_natCast, sg_true]; grind
  · cases s
    · rw [if_neg (by decide), Rat.intCast_natCast, sg_false]; grind
    · rw [if_pos rfl, Rat.intCast_neg, Rat.intCast_natCast, sg_true]; grind
/-- a whole number's integer -/
theorem toInt_int {x : Nat} {q : Int} (hx : Val .f64 x (q : Rat)) (hq : q.natAbs ≤ 4611686018427387904) : fltToInt .f64 x .i64 = some q := by
  obtain ⟨s, m, i, e1, hv, -⟩ := hx
  have hmn := mv_nonneg m i
  have habs : mv m i = (q.natAbs : Rat) := by
    rcases Int.natAbs_eq q with h | h
    · have h0 : (0 : Rat) ≤ ((q.natAbs : Nat) : Rat) := by exact_mod_cast Nat.zero_le _
      have h1 : (q : Rat) = ((q.natAbs : Nat) : Rat) := by rw [← Rat.intCast_natCast, ← h]
      rw [h1] at hv
      cases s <;> simp only [sg_true, sg_false] at hv <;> grind
    · have h0 : (0 : Rat) ≤ ((q.natAbs : Nat) : Rat) := by exact_mod_cast Nat.zero_le _
      have h1 : (q : Rat) = -((q.natAbs : Nat) : Rat) := by rw [← Rat.intCast_natCast, ← Rat.intCast_neg, ← h]
      rw [h1] at hv
      cases s <;> simp only [sg_true, sg_false] at hv <;> grind
  have hc : (m <<< i.toNat) / 2 ^ (-i).toNat = q.natAbs := by
    have h4 : mv (m * 2 ^ i.toNat) (-((-i).toNat : Int)) = mv (q.natAbs * 2 ^ (-i).toNat) (-((-i).toNat : Int)) := by
      rw [mv_shift, mv_shift, show -((-i).toNat : Int) + (i.toNat : Int) = i by omega, show -((-i).toNat : Int) + ((-i).toNat : Int) = 0 by omega, mv_cast]
      exact habs
    have h5 := mv_le.1 (h4 ▸ Rat.le_refl : mv (m * 2 ^ i.toNat) (-((-i).toNat : Int)) ≤ mv (q.natAbs * 2 ^ (-i).toNat) (-((-i).toNat : Int)))
    have h6 := mv_le.1 (h4 ▸ Rat.le_refl : mv (q.natAbs * 2 ^ (-i).toNat) (-((-i).toNat : Int)) ≤ mv (m * 2 ^ i.toNat) (-((-i).toNat : Int)))
    rw [Nat.shiftLeft_eq, Nat.le_antisymm h5 h6, Nat.mul_div_cancel _ (Nat.two_pow_pos _)]
  have hs : Ieee.signed s q.natAbs 0 = q := by
    unfold Ieee.signed
    simp only [Nat.shiftLeft_zero]
    rcases Nat.eq_zero_or_pos q.natAbs with h0 | h0
    · have : q = 0 := by omega
      subst this; cases s <;> rfl
    · have hp : (0 : Rat) < ((q.natAbs : Nat) : Rat) := by exact_mod_cast h0
      have hsq : s = decide (q < 0) := by
        rcases Int.lt_or_le q 0 with h | h
        · have h1 : (q : Rat) < 0 := by exact_mod_cast h
          rw [decide_eq_true h]
          cases s <;> simp only [sg_true, sg_false] at hv <;> first | rfl | (exfalso; grind)
        · have h1 : (0 : Rat) ≤ (q : Rat) := by exact_mod_cast h
          rw [decide_eq_false (by omega)]
          cases s <;> simp only [sg_true, sg_false] at hv <;> first | rfl | (exfalso; grind)
      rw [hsq]
      by_cases h : q < 0
      · rw [decide_eq_true h, if_pos rfl]; omega
      · rw [decide_eq_false h, if_neg (by decide)]; omega
  unfold fltToInt
  rw [e1]
  simp only [Ieee.Datum.toInt, Ieee.Datum.integral, cut_zero, hc, hs]
  have e1 : IntKind.i64.min = -9223372036854775808 := by decide
  have e2 : IntKind.i64.max = 9223372036854775807 := by decide
  rw [e1, e2, if_pos (by omega)]
theorem fmx_min64 {x y : Nat} {a b : Int} (hx : Val .f64 x (a : Rat)) (hy : Val .f64 y (b : Rat)) : Val .f64 (fmx false .f64 x y) ((min a b : Int) : Rat) := by
  obtain ⟨o1, o2, o3⟩ := order_val hx hy
  unfold fmx
  rcases Int.lt_trichotomy a b with h | h | h
  · rw [o1.2 (by exact_mod_cast h), show min a b = a by omega]; exact hx
  · rw [o2.2 (by rw [h])]
    simp only
    split
    · rw [show min a b = b by omega]; exact hy
    · rw [show min a b = a by omega]; exact hx
  · rw [o3.2 (by exact_mod_cast h), show min a b = b by omega]; exact hy
theorem fmx_max64 {x y : Nat} {a b : Int} (hx : Val .f64 x (a : Rat)) (hy : Val .f64 y (b : Rat)) : Val .f64 (fmx true .f64 x y) ((max a b : Int) : Rat) := by
  obtain ⟨o1, o2, o3⟩ := order_val hx hy
  unfold fmx
  rcases Int.lt_trichotomy a b with h | h | h
  · rw [o1.2 (by exact_mod_cast h), show max a b = b by omega]; exact hy
  · rw [o2.2 (by rw [h])]
    simp only
    split
    · rw [show max a b = b by omega]; exact hy
    · rw [show max a b = a by omega]; exact hx
  · rw [o3.2 (by exact_mod_cast h), show max a b = a by omega]; exact hx
/-- the code of a number with b + 1 bits -/
def codeO (b w : Nat) : Option Int := if isNaN .f64 w then some 0 else
  fltToInt .f64 (fmx false .f64 (fmx true .f64 (integralF .even w) (negF .f64 (FloatKind.f64.nearest ((2 ^ b : Nat) : Int)))) (fsub .f64 (FloatKind.f64.nearest ((2 ^ b : Nat) : Int)) 4607182418800017408)) .i64
theorem ends_tab : ∀ b : Nat, b < 16 → negF .f64 (FloatKind.f64.nearest ((2 ^ b : Nat) : Int)) = FloatKind.f64.nearest (-((2 ^ b : Nat) : Int)) ∧ fsub .f64 (FloatKind.f64.nearest ((2 ^ b : Nat) : Int)) 4607182418800017408 = FloatKind.f64.nearest (((2 ^ b : Nat) : Int) - 1) := by decide +kernel
theorem code_val {b w : Nat} {v : Rat} (hb : b < 16) (hw : Val .f64 w v) (h1 : v ≤ p2 200) (h2 : -p2 200 ≤ v) : ∃ k : Int, (k : Rat) - 1 / 2 ≤ v ∧ v ≤ (k : Rat) + 1 / 2 ∧ codeO b w = some (min (max k (-((2 ^ b : Nat) : Int))) (((2 ^ b : Nat) : Int) - 1)) := by
  obtain ⟨k, k1, k2, k3⟩ := even_val hw h1 h2
  refine ⟨k, k2, k3, ?_⟩
  obtain ⟨t1, t2⟩ := ends_tab b hb
  have hp : 2 ^ b ≤ 2 ^ 15 := Nat.pow_le_pow_right (by decide) (by omega)
  have hp0 : 0 < 2 ^ b := Nat.two_pow_pos b
  have hbb : 2 * FloatKind.f64.format.binade = 9007199254740992 := by decide
  have i1 := int_val (k := .f64) (n := -((2 ^ b : Nat) : Int)) (by rw [hbb]; omega)
  have i2 := int_val (k := .f64) (n := ((2 ^ b : Nat) : Int) - 1) (by rw [hbb]; omega)
  have hn := hw.num
  unfold codeO
  rw [hn, if_neg (by decide), t1, t2]
  exact toInt_int (fmx_min64 (fmx_max64 k1 i1) i2) (by omega)
theorem pow_tab : ∀ b : Nat, b < 16 → IntKind.i64.wrap ((1 : Int) * ((2 : Int) ^ (min (Int.toNat (IntKind.i64.wrap (((b + 1 : Nat) : Int) - 1))) 64))) = ((2 ^ b : Nat) : Int) ∧ IntKind.i64.wrap (((b + 1 : Nat) : Int) - 1) = (b : Int) := by decide +kernel
/-- a number times the steps of b + 1 bits -/
def raisedM (b x : Nat) : Nat := fmul .f64 (wide x) (FloatKind.f64.nearest ((2 ^ b : Nat) : Int))
theorem i_raise (n : Nat) {b : Nat} (hb : b < 16) (x : Nat) : f101_i_raised (n + 1) ((b + 1 : Nat) : Int) x = some (raisedM b x) := by
  obtain ⟨t1, t2⟩ := pow_tab b hb
  rw [f101_i_raised, fltToFlt_wide, bd_s, t1, t2, decide_eq_true (show (0 : Int) ≤ (b : Int) by omega), gd_t]
  rfl
theorem i_code (n : Nat) {b : Nat} (hb : b < 16) (w : Nat) : f100_i_codeOf (n + 2) ((b + 1 : Nat) : Int) w = codeO b w := by
  obtain ⟨t1, t2⟩ := pow_tab b hb
  rw [f100_i_codeOf, t1, t2, decide_eq_true (show (0 : Int) ≤ (b : Int) by omega), gd_t, fne_nan]
  simp only [xIntegral_even, bd_s]
  unfold codeO
  cases isNaN .f64 w
  · rw [br_f, if_neg (by decide)]
    cases fltToInt .f64 (fmx false .f64 (fmx true .f64 (integralF .even w) (negF .f64 (FloatKind.f64.nearest ((2 ^ b : Nat) : Int)))) (fsub .f64 (FloatKind.f64.nearest ((2 ^ b : Nat) : Int)) 4607182418800017408)) .i64 <;> rfl
  · rw [br_t, if_pos rfl]
theorem i_bitsok (n : Nat) {b : Nat} (hb1 : 1 ≤ b) (hb : b < 16) : f99_i_isBits (n + 2) ((b + 1 : Nat) : Int) = some true := by
  rw [f99_i_isBits, i_in, decide_eq_true (show (2 : Int) ≤ ((b + 1 : Nat) : Int) ∧ ((b + 1 : Nat) : Int) ≤ 16 by omega)]; rfl
def codesL (b : Nat) (xs : List Nat) : List Int := xs.map fun x => (codeO b (raisedM b x)).getD 0
theorem i_codes_loop (n : Nat) {b : Nat} (hb : b < 16) (N : Nat) (cs : List T) : ∀ (zs p : List Nat) (acc : List Int) (m : Nat), (∀ x ∈ zs, ∃ c, codeO b (raisedM b x) = some c) → acc.length + zs.length < 1048576 → p.length + zs.length < 1048576 → zs.length < m →
    f23_i_CodesOf.l0 (n + 2) m ((b + 1 : Nat) : Int) N cs acc.length (its .i64 acc) (p ++ zs).length (fls .f32 (p ++ zs)) ((p ++ zs).length : Int) (p.length : Int) = some ((acc ++ codesL b zs).length, its .i64 (acc ++ codesL b zs)) := by
  intro zs
  induction zs with
  | nil =>
    intro p acc m _ _ _ hm
    obtain ⟨m, rfl⟩ : ∃ k, m = k + 1 := ⟨m - 1, by omega⟩
    rw [f23_i_CodesOf.l0, lt_end]; simp [br_f, codesL]
  | cons z zs ih =>
    intro p acc m hz ha hp hm
    obtain ⟨m, rfl⟩ : ∃ k, m = k + 1 := ⟨m - 1, by omega⟩
    obtain ⟨c, hc⟩ := hz z (by simp)
    have ha' : acc.length < 1048576 := by simp at ha; omega
    have hw := wrap_len (p := p) (z := z) (by simp at hp; omega)
    rw [f23_i_CodesOf.l0, lt_mid, in_mid, toNat_len, okAt_mid, fAt_mid]
    simp only [br_t, gd_t, Bool.and_self, i_raise (n + 1) hb, bd_s, i_code n hb, hc, push_ok (show acc.length < 2147483648 by omega), push_its, hw]
    have := ih (p ++ [z]) (acc ++ [c]) m (fun x hx => hz x (by simp [hx])) (by simp at ha ⊢; omega) (by simp at hp ⊢; omega) (by simp at hm; omega)
    simp only [codesL, List.map_cons, hc, Option.getD_some]
    simpa [codesL] using this
theorem i_codesof (n : Nat) {b : Nat} (hb1 : 1 ≤ b) (hb : b < 16) (xs : List Nat) (hx : ∀ x ∈ xs, ∃ c, codeO b (raisedM b x) = some c) (hl : xs.length ≤ 256) (hn : xs.length < n) : f23_i_CodesOf (n + 3) ((b + 1 : Nat) : Int) xs.length (fls .f32 xs) = some (xs.length, its .i64 (codesL b xs), true) := by
  have e := i_codes_loop n hb xs.length (fls .f32 xs) xs [] [] (n + 2) hx (by simp; omega) (by simp; omega) (by omega)
  have hcl : (codesL b xs).length = xs.length := by simp [codesL]
  simp only [List.nil_append, hcl] at e
  have e : f23_i_CodesOf.l0 (n + 2) (n + 2) ((b + 1 : Nat) : Int) xs.length (fls .f32 xs) 0 [] xs.length (fls .f32 xs) (xs.length : Int) 0 = _ := e
  rw [f23_i_CodesOf, i_bitsok n hb1 hb]
  simp only [bd_s, br_not, br_t, i_few, decide_eq_true (show (xs.length : Int) ≤ 256 by omega), e]



theorem i_all_loop (n : Nat) (N : Nat) (cs : List T) (lo hi : Int) : ∀ (zs p : List Int) (m : Nat), (∀ z ∈ zs, lo ≤ z ∧ z ≤ hi) → p.length + zs.length < 1048576 → zs.length < m →
    f116_i_allWithin.l0 (n + 1) m N cs lo hi (p ++ zs).length (its .i64 (p ++ zs)) ((p ++ zs).length : Int) (p.length : Int) = some (.inr ()) := by
  intro zs
  induction zs with
  | nil =>
    intro p m _ _ hm
    obtain ⟨m, rfl⟩ : ∃ k, m = k + 1 := ⟨m - 1, by omega⟩
    rw [f116_i_allWithin.l0, lt_end]; rfl
  | cons z zs ih =>
    intro p m hz hp hm
    obtain ⟨m, rfl⟩ : ∃ k, m = k + 1 := ⟨m - 1, by omega⟩
    rw [f116_i_allWithin.l0, lt_mid, in_mid, toNat_len, okAt_midI, iAt_mid]
    have := ih (p ++ [z]) m (fun x hx => hz x (by simp [hx])) (by simp at hp ⊢; omega) (by simp at hm; omega)
    simp only [br_t, gd_t, Bool.and_self, i_in, decide_eq_true (hz z (by simp)), bd_s, br_not, wrap_len (z := z) (show p.length < 4611686018427387904 by simp at hp; omega)]
    simpa using this
theorem i_allin (n : Nat) (xs : List Int) (lo hi : Int) (h : ∀ z ∈ xs, lo ≤ z ∧ z ≤ hi) (hl : xs.length < 1048576) (hn : xs.length < n) : f116_i_allWithin (n + 2) xs.length (its .i64 xs) lo hi = some true := by
  rw [f116_i_allWithin]
  have e := i_all_loop n xs.length (its .i64 xs) lo hi xs [] (n + 1) h (by simpa using hl) (by omega)
  have e : f116_i_allWithin.l0 (n + 1) (n + 1) xs.length (its .i64 xs) lo hi xs.length (its .i64 xs) (xs.length : Int) 0 = some (.inr ()) := e
  rw [e]; rfl

theorem binade64 : 2 * FloatKind.f64.format.binade = 9007199254740992 := by decide
/-- what a law asks of a sample and its code -/
def Told (b x : Nat) (c : Int) : Prop :=
  (isNaN .f32 x = true → c = 0) ∧
  (fge .f64 (raisedM b x) (FloatKind.f64.nearest (-((2 ^ b : Nat) : Int))) = true → fle .f64 (raisedM b x) (FloatKind.f64.nearest (((2 ^ b : Nat) : Int) - 1)) = true → fgt .f64 (fsub .f64 (raisedM b x) (FloatKind.f64.nearest c)) 4602678819172646912 = false ∧ flt .f64 (fsub .f64 (raisedM b x) (FloatKind.f64.nearest c)) 13826050856027422720 = false) ∧
  (fgt .f64 (raisedM b x) (FloatKind.f64.nearest (((2 ^ b : Nat) : Int) - 1)) = true → c = ((2 ^ b : Nat) : Int) - 1) ∧
  (flt .f64 (raisedM b x) (FloatKind.f64.nearest (-((2 ^ b : Nat) : Int))) = true → c = -((2 ^ b : Nat) : Int))
theorem raise_exact {b x : Nat} (hb : b < 16) {u : Rat} (hx : Val .f32 x u) : Val .f64 (raisedM b x) (u * ((2 ^ b : Nat) : Rat)) ∧ -p2 200 ≤ u * ((2 ^ b : Nat) : Rat) ∧ u * ((2 ^ b : Nat) : Rat) ≤ p2 200 := by
  have hp : 2 ^ b ≤ 2 ^ 15 := Nat.pow_le_pow_right (by decide) (by omega)
  have hm := int_val (k := .f64) (n := ((2 ^ b : Nat) : Int)) (by rw [binade64, Int.natAbs_natCast]; omega)
  rw [Rat.intCast_natCast] at hm
  have wx := wide_val hx
  obtain ⟨s, m, e, h1, h2, h3, h4⟩ := hx
  obtain ⟨s1, s2, s3⟩ := single_finite (x := x) h1
  have hn := mv_nonneg m (e + (b : Int))
  have hlt : mv m (e + (b : Int)) ≤ p2 150 := by
    have h5 : mv m (e + (b : Int)) ≤ mv (2 ^ 24) (e + (b : Int)) := mv_le.2 (by omega)
    rw [mv_pow] at h5
    exact Rat.le_trans h5 (p2_le (by omega))
  have he : u * ((2 ^ b : Nat) : Rat) = Go.Desk.sg s (mv m (e + (b : Int))) := by
    have : mv m (e + (b : Int)) = mv m e * ((2 ^ b : Nat) : Rat) := by
      unfold mv; rw [p2_add, p2_nat]; grind
    rw [this, h2]
    cases s
    · rfl
    · show -mv m e * _ = -(mv m e * _)
      grind
  have habs : u * ((2 ^ b : Nat) : Rat) ≤ mv m (e + (b : Int)) ∧ -mv m (e + (b : Int)) ≤ u * ((2 ^ b : Nat) : Rat) := by
    rw [he]; cases s <;> simp only [sg_true, sg_false] <;> grind
  have hR : Rep0 .f64 (mv m (e + (b : Int))) := ⟨m, e + (b : Int), by rw [binade64]; omega, by
    have : FloatKind.f64.format.leastPlace = -1074 := by decide
    rw [this]; omega, rfl⟩
  have hT : mv m (e + (b : Int)) < p2 (topE .f64) := by
    have : p2 150 < p2 1024 := p2_lt (by decide)
    show _ < p2 1024
    grind
  obtain ⟨R, r1, r2⟩ := mul_val wx hm hR hT habs.1 habs.2
  have hrep : Rep .f64 (u * ((2 ^ b : Nat) : Rat)) := by
    rw [he]
    exact ⟨s, _, hR, rfl⟩
  have h200 : p2 150 ≤ p2 200 := p2_le (by decide)
  exact ⟨r1.near_eq r2 hrep, by grind, by grind⟩
def oddOk (b : Nat) : Bool := (codeO b (raisedM b (qnan .f32)) == some 0) && (codeO b (raisedM b 2139095040) == some (((2 ^ b : Nat) : Int) - 1)) && (codeO b (raisedM b 4286578688) == some (-((2 ^ b : Nat) : Int))) &&
  isNaN .f64 (raisedM b (qnan .f32)) && !fle .f64 (raisedM b 2139095040) (FloatKind.f64.nearest (((2 ^ b : Nat) : Int) - 1)) && !flt .f64 (raisedM b 2139095040) (FloatKind.f64.nearest (-((2 ^ b : Nat) : Int))) &&
  !fge .f64 (raisedM b 4286578688) (FloatKind.f64.nearest (-((2 ^ b : Nat) : Int))) && !fgt .f64 (raisedM b 4286578688) (FloatKind.f64.nearest (((2 ^ b : Nat) : Int) - 1))
theorem odd_tab : ∀ b : Nat, b < 16 → oddOk b = true := by decide +kernel
theorem odd_at {b : Nat} (hb : b < 16) : codeO b (raisedM b (qnan .f32)) = some 0 ∧ codeO b (raisedM b 2139095040) = some (((2 ^ b : Nat) : Int) - 1) ∧ codeO b (raisedM b 4286578688) = some (-((2 ^ b : Nat) : Int)) ∧
    isNaN .f64 (raisedM b (qnan .f32)) = true ∧ fle .f64 (raisedM b 2139095040) (FloatKind.f64.nearest (((2 ^ b : Nat) : Int) - 1)) = false ∧ flt .f64 (raisedM b 2139095040) (FloatKind.f64.nearest (-((2 ^ b : Nat) : Int))) = false ∧
    fge .f64 (raisedM b 4286578688) (FloatKind.f64.nearest (-((2 ^ b : Nat) : Int))) = false ∧ fgt .f64 (raisedM b 4286578688) (FloatKind.f64.nearest (((2 ^ b : Nat) : Int) - 1)) = false := by
  have := odd_tab b hb
  unfold oddOk at this
  simp only [Bool.and_eq_true, beq_iff_eq, Bool.not_eq_true'] at this
  obtain ⟨⟨⟨⟨⟨⟨⟨h1, h2⟩, h3⟩, h4⟩, h5⟩, h6⟩, h7⟩, h8⟩ := this
  exact ⟨h1, h2, h3, h4, h5, h6, h7, h8⟩
theorem half64 : Val .f64 4602678819172646912 (1 / 2) := by
  have h := read_val (k := .f64) (x := 4602678819172646912) (s := false) (m := 4503599627370496) (e := -53) (by decide)
  rw [sg_false] at h
  have e : mv 4503599627370496 (-53) = 1 / 2 := by
    have h1 := mv_pow 52 (-53)
    rw [show (2 ^ 52 : Nat) = 4503599627370496 by decide, show (-53 : Int) + ((52 : Nat) : Int) = -1 by decide] at h1
    rw [h1]
    have h := p2_add 1 (-1)
    rw [show (1 : Int) + -1 = 0 from rfl, p2_zero, p2_one] at h
    grind
  rwa [e] at h
theorem nhalf64 : Val .f64 13826050856027422720 (-(1 / 2)) := by
  have h := read_val (k := .f64) (x := 13826050856027422720) (s := true) (m := 4503599627370496) (e := -53) (by decide)
  rw [sg_true] at h
  have e : mv 4503599627370496 (-53) = 1 / 2 := by
    have h1 := mv_pow 52 (-53)
    rw [show (2 ^ 52 : Nat) = 4503599627370496 by decide, show (-53 : Int) + ((52 : Nat) : Int) = -1 by decide] at h1
    rw [h1]
    have h := p2_add 1 (-1)
    rw [show (1 : Int) + -1 = 0 from rfl, p2_zero, p2_one] at h
    grind
  rwa [e] at h
theorem int_of_half {k j : Int} (h : (k : Rat) - 1 / 2 ≤ (j : Rat) + 1 / 2) : k ≤ j + 1 := by
  have h2 : (k : Rat) ≤ ((j + 1 : Int) : Rat) := by rw [Rat.intCast_add]; show _ ≤ (j : Rat) + 1; grind
  exact Rat.intCast_le_intCast.1 h2
theorem int_of_lt {k j : Int} (h : (k : Rat) < (j : Rat) + 1) : k ≤ j := by
  have h2 : (k : Rat) < ((j + 1 : Int) : Rat) := by rw [Rat.intCast_add]; exact h
  have := Rat.intCast_lt_intCast.1 h2
  omega
theorem code_fin {b x : Nat} (hb : b < 16) {u : Rat} (hx : Val .f32 x u) : ∃ k : Int, (k : Rat) - 1 / 2 ≤ u * ((2 ^ b : Nat) : Rat) ∧ u * ((2 ^ b : Nat) : Rat) ≤ (k : Rat) + 1 / 2 ∧ codeO b (raisedM b x) = some (min (max k (-((2 ^ b : Nat) : Int))) (((2 ^ b : Nat) : Int) - 1)) ∧ Told b x (min (max k (-((2 ^ b : Nat) : Int))) (((2 ^ b : Nat) : Int) - 1)) := by
  obtain ⟨w1, w2, w3⟩ := raise_exact hb hx
  obtain ⟨k, k1, k2, k3⟩ := code_val hb w1 w3 w2
  refine ⟨k, k1, k2, k3, ?_⟩
  have hp : 2 ^ b ≤ 2 ^ 15 := Nat.pow_le_pow_right (by decide) (by omega)
  have hp0 : 0 < 2 ^ b := Nat.two_pow_pos b
  have b64 := binade64
  have i1 := int_val (k := .f64) (n := -((2 ^ b : Nat) : Int)) (by omega)
  have i2 := int_val (k := .f64) (n := ((2 ^ b : Nat) : Int) - 1) (by omega)
  have hM : ((2 ^ b : Nat) : Int) ≤ 32768 ∧ 0 < ((2 ^ b : Nat) : Int) := ⟨by omega, by omega⟩
  unfold Told
  generalize ((2 ^ b : Nat) : Int) = M at i1 i2 hM
  rw [Rat.intCast_neg] at i1
  rw [Rat.intCast_sub, show ((1 : Int) : Rat) = 1 from rfl] at i2
  generalize hv : u * ((2 ^ b : Nat) : Rat) = v at w1 w2 w3 k1 k2
  refine ⟨(fun h => by rw [hx.num] at h; cases h), fun hA hB => ?_, fun hC => ?_, fun hC => ?_⟩
  · have a1 := (fge_val w1 i1).1 hA
    have a2 := (fle_val w1 i2).1 hB
    have l1 : -M ≤ k := int_of_lt (by rw [Rat.intCast_neg]; grind)
    have l2 : k ≤ M - 1 := int_of_lt (by rw [Rat.intCast_sub, show ((1 : Int) : Rat) = 1 from rfl]; grind)
    have hc : min (max k (-M)) (M - 1) = k := by omega
    rw [hc]
    have ck := int_val (k := .f64) (n := k) (by omega)
    have B1 := rep_nat .f64 (B := 1) (by decide)
    have T1 := nat_top .f64 (B := 1) (by decide)
    rw [show ((1 : Nat) : Rat) = 1 from rfl] at B1 T1
    obtain ⟨R, r1, r2⟩ := sub_val w1 ck B1 T1 (by grind) (by grind)
    have r3 := (r2 _ half64.rep).1 (by grind)
    have r4 := (r2 _ nhalf64.rep).2 (by grind)
    constructor
    · cases hf : fgt .f64 (fsub .f64 (raisedM b x) (FloatKind.f64.nearest k)) 4602678819172646912
      · rfl
      · have := (fgt_val r1 half64).1 hf
        grind
    · cases hf : flt .f64 (fsub .f64 (raisedM b x) (FloatKind.f64.nearest k)) 13826050856027422720
      · rfl
      · have := (flt_val r1 nhalf64).1 hf
        grind
  · have a2 := (fgt_val w1 i2).1 hC
    have l2 : M - 1 ≤ k := int_of_lt (by rw [Rat.intCast_sub, show ((1 : Int) : Rat) = 1 from rfl]; grind)
    omega
  · have a2 := (flt_val w1 i1).1 hC
    have l2 : k ≤ -M := int_of_lt (by rw [Rat.intCast_neg]; grind)
    omega
theorem told_all {b x : Nat} (hb : b < 16) (hx : W32 x) : ∃ c : Int, codeO b (raisedM b x) = some c ∧ -((2 ^ b : Nat) : Int) ≤ c ∧ c ≤ ((2 ^ b : Nat) : Int) - 1 ∧ Told b x c := by
  have hp0 : 0 < 2 ^ b := Nat.two_pow_pos b
  cases hf : fin32 x
  · obtain ⟨o1, o2, o3, o4, o5, o6, o7, o8⟩ := odd_at hb
    cases hn : isNaN .f32 x
    · have h1 := num_mag hn
      have h2 := hx.1
      unfold fin32 at hf
      simp only [decide_eq_false_iff_not] at hf
      have : x = 2139095040 ∨ x = 4286578688 := by omega
      rcases this with rfl | rfl
      · refine ⟨_, o2, by omega, by omega, ⟨(fun h => by rw [hn] at h; cases h), (fun _ h => by rw [o5] at h; cases h), fun _ => rfl, (fun h => by rw [o6] at h; cases h)⟩⟩
      · refine ⟨_, o3, by omega, by omega, ⟨(fun h => by rw [hn] at h; cases h), (fun h _ => by rw [o7] at h; cases h), (fun h => by rw [o8] at h; cases h), fun _ => rfl⟩⟩
    · have hq : x = qnan .f32 := by rw [← hx.2]; exact canon_nan hn
      rw [hq]
      refine ⟨0, o1, by omega, by omega, ⟨fun _ => rfl, fun h _ => ?_, fun h => ?_, fun h => ?_⟩⟩
      · rw [fge_key] at h; unfold num2 at h; rw [o4] at h; simp at h
      · rw [fgt_nan _ o4] at h; cases h
      · rw [flt_nan _ o4] at h; cases h
  · obtain ⟨k, -, -, k3, k4⟩ := code_fin hb (fin_val hf)
    exact ⟨_, k3, by omega, by omega, k4⟩
/-- greater samples do not have lesser codes -/
theorem code_mono {b x y : Nat} (hb : b < 16) (hx : W32 x) (hy : W32 y) {c d : Int} (hc : codeO b (raisedM b x) = some c) (hd : codeO b (raisedM b y) = some d) (h : flt .f32 x y = true) : c ≤ d := by
  have hp0 : 0 < 2 ^ b := Nat.two_pow_pos b
  obtain ⟨c', e1, c1, c2, -⟩ := told_all hb hx
  obtain ⟨d', e2, d1, d2, -⟩ := told_all hb hy
  rw [hc] at e1; cases e1
  rw [hd] at e2; cases e2
  obtain ⟨o1, o2, o3, -⟩ := odd_at hb
  have hnx : isNaN .f32 x = false := by
    cases hn : isNaN .f32 x
    · rfl
    · rw [flt_nan _ hn] at h; cases h
  have hny : isNaN .f32 y = false := by
    rw [flt_key] at h
    unfold num2 at h
    cases hn : isNaN .f32 y
    · rfl
    · rw [hn] at h; simp at h
  rw [flt_key] at h
  unfold num2 at h
  rw [hnx, hny, key32 hx.1, key32 hy.1] at h
  have h : (if x < 2147483648 then (x : Int) else -((x : Int) - 2147483648)) < (if y < 2147483648 then (y : Int) else -((y : Int) - 2147483648)) := by simpa using h
  have hmx := num_mag hnx
  have hmy := num_mag hny
  have hx1 := hx.1
  have hy1 := hy.1
  cases hfx : fin32 x
  · unfold fin32 at hfx
    simp only [decide_eq_false_iff_not] at hfx
    have : x = 2139095040 ∨ x = 4286578688 := by omega
    rcases this with rfl | rfl
    · exfalso
      split at h <;> split at h <;> omega
    · rw [o3] at hc
      cases hc
      exact d1
  · cases hfy : fin32 y
    · unfold fin32 at hfy
      simp only [decide_eq_false_iff_not] at hfy
      have : y = 2139095040 ∨ y = 4286578688 := by omega
      rcases this with rfl | rfl
      · rw [o2] at hd
        cases hd
        exact c2
      · exfalso
        split at h <;> split at h <;> omega
    · have vx := fin_val hfx
      have vy := fin_val hfy
      have hlt := (flt_val vx vy).1 (by
        rw [flt_key]
        unfold num2
        rw [hnx, hny, key32 hx.1, key32 hy.1]
        simpa using h)
      obtain ⟨k, k1, k2, k3, -⟩ := code_fin hb vx
      obtain ⟨j, j1, j2, j3, -⟩ := code_fin hb vy
      rw [hc] at k3; cases k3
      rw [hd] at j3; cases j3
      have hpos : (0 : Rat) < ((2 ^ b : Nat) : Rat) := by exact_mod_cast hp0
      have hm := (Rat.mul_lt_mul_right hpos).2 hlt
      have : k ≤ j := int_of_lt (by grind)
      omega
/-! ### samples of codes -/
def backM (b : Nat) (c : Int) : Nat := fdiv .f32 (FloatKind.f32.nearest c) (FloatKind.f32.nearest ((2 ^ b : Nat) : Int))
theorem back_code {b : Nat} (hb : b < 16) {c : Int} (h1 : -((2 ^ b : Nat) : Int) ≤ c) (h2 : c ≤ ((2 ^ b : Nat) : Int) - 1) : codeO b (raisedM b (backM b c)) = some c := by
  have hp : 2 ^ b ≤ 2 ^ 15 := Nat.pow_le_pow_right (by decide) (by omega)
  have hp0 : 0 < 2 ^ b := Nat.two_pow_pos b
  have b32 := binade32
  have vc := int_val (k := .f32) (n := c) (by omega)
  have vm := int_val (k := .f32) (n := ((2 ^ b : Nat) : Int)) (by omega)
  rw [Rat.intCast_natCast] at vm
  have hpos : (0 : Rat) < ((2 ^ b : Nat) : Rat) := by exact_mod_cast hp0
  have c1 : -((2 ^ b : Nat) : Rat) ≤ (c : Rat) := by
    have := Rat.intCast_le_intCast.2 h1
    rwa [Rat.intCast_neg, Rat.intCast_natCast] at this
  have c2 : (c : Rat) ≤ ((2 ^ b : Nat) : Rat) := by
    have := Rat.intCast_le_intCast.2 (show c ≤ ((2 ^ b : Nat) : Int) by omega)
    rwa [Rat.intCast_natCast] at this
  have hcan : (c : Rat) / ((2 ^ b : Nat) : Rat) * ((2 ^ b : Nat) : Rat) = (c : Rat) := Rat.div_mul_cancel (by grind)
  have hpp : ((2 ^ b : Nat) : Rat) * p2 (-(b : Int)) = 1 := by rw [← p2_nat, ← p2_add, show (b : Int) + -(b : Int) = 0 by omega, p2_zero]
  have hrep : Rep .f32 ((c : Rat) / ((2 ^ b : Nat) : Rat)) := by
    have := rep_int (k := .f32) (M := c) (e := -(b : Int)) (by omega) (by rw [least32]; omega)
    have e : (c : Rat) / ((2 ^ b : Nat) : Rat) = (c : Rat) * p2 (-(b : Int)) := by
      generalize (c : Rat) / ((2 ^ b : Nat) : Rat) = q at hcan
      rw [← hcan, Rat.mul_assoc, hpp, Rat.mul_one]
    rwa [e]
  have B1 := rep_nat .f32 (B := 1) (by omega)
  have T1 := nat_top .f32 (B := 1) (by omega)
  rw [show ((1 : Nat) : Rat) = 1 from rfl] at B1 T1
  have q1 : (c : Rat) / ((2 ^ b : Nat) : Rat) ≤ 1 := by
    refine Rat.not_lt.1 fun h => ?_
    have := (Rat.mul_lt_mul_right hpos).2 h
    grind
  have q2 : -1 ≤ (c : Rat) / ((2 ^ b : Nat) : Rat) := by
    refine Rat.not_lt.1 fun h => ?_
    have := (Rat.mul_lt_mul_right hpos).2 h
    grind
  obtain ⟨R, r1, r2⟩ := div_val vc vm (by grind) B1 T1 q1 q2
  obtain ⟨k, k1, k2, k3, -⟩ := code_fin hb (r1.near_eq r2 hrep)
  rw [hcan] at k1 k2
  have l1 : k ≤ c := int_of_lt (by grind)
  have l2 : c ≤ k := int_of_lt (by grind)
  have e : backM b c = fdiv .f32 (FloatKind.f32.nearest c) (FloatKind.f32.nearest ((2 ^ b : Nat) : Int)) := rfl
  rw [e, k3]
  congr 1
  omega
theorem wraps {b : Nat} (hb : b < 16) : IntKind.i64.wrap ((0 : Int) - ((2 ^ b : Nat) : Int)) = -((2 ^ b : Nat) : Int) ∧ IntKind.i64.wrap (((2 ^ b : Nat) : Int) - 1) = ((2 ^ b : Nat) : Int) - 1 := by
  have hp : 2 ^ b ≤ 2 ^ 15 := Nat.pow_le_pow_right (by decide) (by omega)
  have hp0 : 0 < 2 ^ b := Nat.two_pow_pos b
  constructor <;> rw [wrap64] <;> omega
theorem i_arecodes (n : Nat) {b : Nat} (hb1 : 1 ≤ b) (hb : b < 16) (cs : List Int) (hc : ∀ c ∈ cs, -((2 ^ b : Nat) : Int) ≤ c ∧ c ≤ ((2 ^ b : Nat) : Int) - 1) (hl : cs.length ≤ 256) (hn : cs.length < n) : f102_i_areCodes (n + 3) ((b + 1 : Nat) : Int) cs.length (its .i64 cs) = some true := by
  obtain ⟨t1, t2⟩ := pow_tab b hb
  obtain ⟨w1, w2⟩ := wraps hb
  rw [f102_i_areCodes, i_bitsok n hb1 hb, t1, t2]
  simp only [bd_s, Bool.not_true, br_f, gd_t, w1, w2, decide_eq_true (show (0 : Int) ≤ (b : Int) by omega), decide_eq_false (show ¬ ((cs.length : Int) > 256) by omega), i_allin n cs _ _ hc (by omega) hn]
theorem i_share_ (n : Nat) (a c : Int) : f103_i_share (n + 1) a c = some (fdiv .f32 (FloatKind.f32.nearest a) (FloatKind.f32.nearest c)) := by rw [f103_i_share]
theorem i_samples_loop (n : Nat) {b : Nat} (hb : b < 16) (N : Nat) (l3 : List T) (cs : List Int) (hl : cs.length ≤ 1000) : ∀ (j i m : Nat) (P : List Nat), i + j = cs.length → P.length ≤ i → j < m →
    f24_i_SamplesOf.l0 (n + 1) m ((b + 1 : Nat) : Int) N l3 P.length (fls .f32 P) cs.length (its .i64 cs) (cs.length : Int) (i : Int) = some ((P ++ (cs.drop i).map (backM b)).length, fls .f32 (P ++ (cs.drop i).map (backM b))) := by
  obtain ⟨t1, t2⟩ := pow_tab b hb
  intro j
  induction j with
  | zero =>
    intro i m P hi hP hm
    obtain ⟨m, rfl⟩ : ∃ k, m = k + 1 := ⟨m - 1, by omega⟩
    rw [f24_i_SamplesOf.l0, nlt_dec (by omega), List.drop_eq_nil_of_le (by omega)]
    simp [br]
  | succ j ih =>
    intro i m P hi hP hm
    obtain ⟨m, rfl⟩ : ∃ k, m = k + 1 := ⟨m - 1, by omega⟩
    have h : i < cs.length := by omega
    have hd : cs.drop i = cs.getD i 0 :: cs.drop (i + 1) := by
      rw [List.drop_eq_getElem_cons h]; simp [List.getD, h]
    rw [f24_i_SamplesOf.l0, lt_dec h, in_dec h, Int.toNat_natCast, okAt_its h, iAt_its, t1, t2, decide_eq_true (show (0 : Int) ≤ (b : Int) by omega)]
    simp only [br_t, Bool.and_self, gd_t, i_share_ n, bd_s, push_ok (show P.length < 2147483648 by omega), push_fls, wrap_succ (show i < 9223372036854775807 by omega)]
    have := ih (i + 1) m (P ++ [backM b (cs.getD i 0)]) (by omega) (by simp; omega) (by omega)
    rw [hd, List.map_cons]
    rw [List.append_assoc, List.singleton_append] at this
    rw [push_len (z := backM b (cs.getD i 0))]
    exact this
theorem i_samplesof (n : Nat) {b : Nat} (hb1 : 1 ≤ b) (hb : b < 16) (cs : List Int) (hc : ∀ c ∈ cs, -((2 ^ b : Nat) : Int) ≤ c ∧ c ≤ ((2 ^ b : Nat) : Int) - 1) (hl : cs.length ≤ 256) (hn : cs.length < n) : f24_i_SamplesOf (n + 4) ((b + 1 : Nat) : Int) cs.length (its .i64 cs) = some ((cs.map (backM b)).length, fls .f32 (cs.map (backM b)), true) := by
  have e := i_samples_loop (n + 2) hb cs.length (its .i64 cs) cs (by omega) cs.length 0 (n + 3) [] (by omega) (by simp) (by omega)
  simp only [List.drop_zero, List.nil_append] at e
  have e : f24_i_SamplesOf.l0 (n + 3) (n + 3) ((b + 1 : Nat) : Int) cs.length (its .i64 cs) 0 [] cs.length (its .i64 cs) (cs.length : Int) 0 = _ := e
  rw [f24_i_SamplesOf, i_arecodes n hb1 hb cs hc hl hn]
  simp only [bd_s, Bool.not_true, br_f, e]
/-! ### clipped codes -/
def clip1 (M : Int) (a c : Int) : Int := if c = -M then a + 1 else if c = M - 1 then a + 1 else a
theorem clip1_le {M a c : Int} : a ≤ clip1 M a c ∧ clip1 M a c ≤ a + 1 := by unfold clip1; split <;> (try split) <;> omega
theorem i_count_loop (n : Nat) {b : Nat} (hb : b < 16) (N : Nat) (l2 : List T) (cs : List Int) (hl : cs.length ≤ 1000) : ∀ (j i m : Nat) (a : Int), i + j = cs.length → 0 ≤ a → a ≤ (i : Int) → j < m →
    f25_i_CountClipped.l0 n m N l2 ((2 ^ b : Nat) : Int) a cs.length (its .i64 cs) (cs.length : Int) (i : Int) = some ((cs.drop i).foldl (clip1 ((2 ^ b : Nat) : Int)) a) := by
  obtain ⟨w1, w2⟩ := wraps hb
  intro j
  induction j with
  | zero =>
    intro i m a hi h0 h1 hm
    obtain ⟨m, rfl⟩ : ∃ k, m = k + 1 := ⟨m - 1, by omega⟩
    rw [f25_i_CountClipped.l0, nlt_dec (by omega), List.drop_eq_nil_of_le (by omega)]; rfl
  | succ j ih =>
    intro i m a hi h0 h1 hm
    obtain ⟨m, rfl⟩ : ∃ k, m = k + 1 := ⟨m - 1, by omega⟩
    have h : i < cs.length := by omega
    have hd : cs.drop i = cs.getD i 0 :: cs.drop (i + 1) := by
      rw [List.drop_eq_getElem_cons h]; simp [List.getD, h]
    obtain ⟨q1, q2⟩ := clip1_le (M := ((2 ^ b : Nat) : Int)) (a := a) (c := cs.getD i 0)
    have step := ih (i + 1) m (clip1 ((2 ^ b : Nat) : Int) a (cs.getD i 0)) (by omega) (by omega) (by omega) (by omega)
    have wa : IntKind.i64.wrap (a + 1) = a + 1 := by rw [wrap64] <;> omega
    rw [f25_i_CountClipped.l0, lt_dec h, in_dec h, Int.toNat_natCast, okAt_its h, iAt_its, w1, w2, hd, List.foldl_cons, wa, wrap_succ (show i < 9223372036854775807 by omega)]
    generalize cs.getD i 0 = c at step
    by_cases e1 : c = -((2 ^ b : Nat) : Int)
    · have hcl : clip1 ((2 ^ b : Nat) : Int) a c = a + 1 := by unfold clip1; rw [if_pos e1]
      rw [hcl] at step ⊢
      have q : (c == -((2 ^ b : Nat) : Int)) = true := beq_iff_eq.2 e1
      simp only [br_t, Bool.and_self, gd_t, q]
      exact step
    · have q : (c == -((2 ^ b : Nat) : Int)) = false := beq_eq_false_iff_ne.2 e1
      by_cases e2 : c = ((2 ^ b : Nat) : Int) - 1
      · have hcl : clip1 ((2 ^ b : Nat) : Int) a c = a + 1 := by unfold clip1; rw [if_neg e1, if_pos e2]
        rw [hcl] at step ⊢
        have q2 : (c == ((2 ^ b : Nat) : Int) - 1) = true := beq_iff_eq.2 e2
        simp only [br_t, br_f, Bool.and_self, gd_t, q, q2]
        exact step
      · have hcl : clip1 ((2 ^ b : Nat) : Int) a c = a := by unfold clip1; rw [if_neg e1, if_neg e2]
        rw [hcl] at step ⊢
        have q2 : (c == ((2 ^ b : Nat) : Int) - 1) = false := beq_eq_false_iff_ne.2 e2
        simp only [br_t, br_f, Bool.and_self, gd_t, q, q2]
        exact step
theorem i_count (n : Nat) {b : Nat} (hb1 : 1 ≤ b) (hb : b < 16) (cs : List Int) (hc : ∀ c ∈ cs, -((2 ^ b : Nat) : Int) ≤ c ∧ c ≤ ((2 ^ b : Nat) : Int) - 1) (hl : cs.length ≤ 256) (hn : cs.length < n) : f25_i_CountClipped (n + 4) ((b + 1 : Nat) : Int) cs.length (its .i64 cs) = some (cs.foldl (clip1 ((2 ^ b : Nat) : Int)) 0, true) := by
  obtain ⟨t1, t2⟩ := pow_tab b hb
  have e := i_count_loop (n + 3) hb cs.length (its .i64 cs) cs (by omega) cs.length 0 (n + 3) 0 (by omega) (by omega) (by omega) (by omega)
  rw [List.drop_zero] at e
  have e : f25_i_CountClipped.l0 (n + 3) (n + 3) cs.length (its .i64 cs) ((2 ^ b : Nat) : Int) 0 cs.length (its .i64 cs) (cs.length : Int) 0 = _ := e
  rw [f25_i_CountClipped, i_arecodes n hb1 hb cs hc hl hn, t1, t2, decide_eq_true (show (0 : Int) ≤ (b : Int) by omega)]
  simp only [bd_s, Bool.not_true, br_f, gd_t, e]
/-! ### the law's loop -/
theorem mono_loop (n : Nat) {b : Nat} (hb : b < 16) (xs : List Nat) (cs : List Int) (hl : cs.length = xs.length) (hx : ∀ x ∈ xs, W32 x) (hc : ∀ i, i < xs.length → codeO b (raisedM b (xs.getD i 0)) = some (cs.getD i 0)) (i1 : Int) (n6 : Nat) (l7 : List T) (i8 i9 : Int) (i : Nat) (hi : i < xs.length) (hi2 : i ≤ 1000) : ∀ (j k m : Nat), k + j = i → j < m →
    f4_l_FnSteps.l1 n m i1 xs.length (fls .f32 xs) xs.length (its .i64 cs) n6 l7 i8 i9 (i : Int) (k : Int) = some (Sum.inr (i1, xs.length, fls .f32 xs, xs.length, its .i64 cs, n6, l7, i8, i9, (i : Int))) := by
  intro j
  induction j with
  | zero =>
    intro k m hk hm
    obtain ⟨m, rfl⟩ : ∃ q, m = q + 1 := ⟨m - 1, by omega⟩
    rw [f4_l_FnSteps.l1, nlt_dec (by omega)]; rfl
  | succ j ih =>
    intro k m hk hm
    obtain ⟨m, rfl⟩ : ∃ q, m = q + 1 := ⟨m - 1, by omega⟩
    have hki : k < i := by omega
    have hkx : k < xs.length := by omega
    have hmem : ∀ i, i < xs.length → W32 (xs.getD i 0) := fun i h => by
      have : xs.getD i 0 = xs[i] := by simp [List.getD, h]
      rw [this]; exact hx _ (List.getElem_mem h)
    have step := ih (k + 1) m (by omega) (by omega)
    rw [f4_l_FnSteps.l1, lt_dec hki, in_dec hkx, in_dec hi, Int.toNat_natCast, Int.toNat_natCast, okAt_fls hkx, okAt_fls hi, okAt_its (show k < cs.length by omega), okAt_its (show i < cs.length by omega), fAt_fls, fAt_fls, iAt_its, iAt_its, wrap_succ (show k < 9223372036854775807 by omega)]
    cases hf : flt .f32 (xs.getD k 0) (xs.getD i 0)
    · exact step
    · have := code_mono hb (hmem k hkx) (hmem i hi) (hc k hkx) (hc i hi) hf
      have q : decide (cs.getD k 0 > cs.getD i 0) = false := decide_eq_false (by omega)
      simp only [br_t, gd_t, q, br_f]
      exact step
theorem steps_loop (n : Nat) {b : Nat} (hb : b < 16) (xs : List Nat) (cs : List Int) (hl : cs.length = xs.length) (hx : ∀ x ∈ xs, W32 x) (hc : ∀ i, i < xs.length → codeO b (raisedM b (xs.getD i 0)) = some (cs.getD i 0)) (i8 : Int) (hxl : xs.length ≤ 100) (hn : 200 < n) : ∀ (j i m : Nat) (own : Int), i + j = xs.length → 0 ≤ own → own ≤ (i : Int) → j < m →
    f4_l_FnSteps.l0 n m ((2 ^ b : Nat) : Int) xs.length (fls .f32 xs) xs.length (its .i64 cs) xs.length (its .i64 cs) i8 own (i : Int) = some (Sum.inr (xs.length, fls .f32 xs, i8, (cs.drop i).foldl (clip1 ((2 ^ b : Nat) : Int)) own)) := by
  obtain ⟨w1, w2⟩ := wraps hb
  intro j
  induction j with
  | zero =>
    intro i m own hi h0 h1 hm
    obtain ⟨m, rfl⟩ : ∃ q, m = q + 1 := ⟨m - 1, by omega⟩
    rw [f4_l_FnSteps.l0, nlt_dec (by omega), List.drop_eq_nil_of_le (by omega)]; rfl
  | succ j ih =>
    intro i m own hi h0 h1 hm
    obtain ⟨m, rfl⟩ : ∃ q, m = q + 1 := ⟨m - 1, by omega⟩
    have h : i < xs.length := by omega
    have hcl : i < cs.length := by omega
    have hd : cs.drop i = cs.getD i 0 :: cs.drop (i + 1) := by
      rw [List.drop_eq_getElem_cons hcl]; simp [List.getD, hcl]
    have hw : W32 (xs.getD i 0) := by
      have : xs.getD i 0 = xs[i] := by simp [List.getD, h]
      rw [this]; exact hx _ (List.getElem_mem h)
    obtain ⟨c', e, c1, c2, t1, t2, t3, t4⟩ := told_all hb hw
    rw [hc i h] at e
    cases e
    have el : ∀ o : Int, f4_l_FnSteps.l1 n n ((2 ^ b : Nat) : Int) xs.length (fls .f32 xs) xs.length (its .i64 cs) xs.length (its .i64 cs) i8 o (i : Int) 0 = some (Sum.inr (((2 ^ b : Nat) : Int), xs.length, fls .f32 xs, xs.length, its .i64 cs, xs.length, its .i64 cs, i8, o, (i : Int))) := fun o =>
      mono_loop n hb xs cs hl hx hc _ _ _ _ _ i h (by omega) i 0 n (by omega) (by omega)
    have wo : IntKind.i64.wrap (own + 1) = own + 1 := by rw [wrap64] <;> omega
    have step0 := ih (i + 1) m own (by omega) (by omega) (by omega) (by omega)
    have step1 := ih (i + 1) m (own + 1) (by omega) (by omega) (by omega) (by omega)
    have hg1 : decide ((0 : Int) ≤ (i : Int) ∧ (i : Int) < (xs.length : Int)) = true := in_dec h
    have o1 : okAt [.int .i64] (its .i64 cs) i = true := okAt_its hcl
    have o2 : okAt [.flt .f32] (fls .f32 xs) i = true := okAt_fls h
    have f1 : iAt (its .i64 cs) i = cs.getD i 0 := iAt_its ..
    have f2 : fAt (fls .f32 xs) i = xs.getD i 0 := fAt_fls ..
    rw [f4_l_FnSteps.l0, hd, List.foldl_cons]
    simp only [lt_dec h, hg1, Int.toNat_natCast, o1, o2, f1, f2, w1, w2, br_t, gd_t, fltToFlt_wide, bd_s, el, sm_r, wo, wrap_succ (show i < 9223372036854775807 by omega)]
    unfold raisedM at t2 t3 t4
    generalize cs.getD i 0 = c at c1 c2 t1 t2 t3 t4
    generalize xs.getD i 0 = x at t1 t2 t3 t4
    have q1 : decide (c < -((2 ^ b : Nat) : Int)) = false := decide_eq_false (by omega)
    have q2 : decide (c ≥ ((2 ^ b : Nat) : Int)) = false := decide_eq_false (by omega)
    have q3 : (c != c) = false := by simp
    have t1' : fne .f32 x x = true → (c != 0) = false := fun h => by
      rw [fne_nan] at h
      rw [t1 h]; rfl
    have t3' := fun h => (show (c != ((2 ^ b : Nat) : Int) - 1) = false by rw [t3 h]; simp)
    have t4' := fun h => (show (c != -((2 ^ b : Nat) : Int)) = false by rw [t4 h]; simp)
    simp only [q1, q2, q3, br_f]
    generalize fne .f32 x x = nb at t1'
    generalize (c != 0) = z at t1'
    generalize fge .f64 (fmul .f64 (wide x) (FloatKind.f64.nearest ((2 ^ b : Nat) : Int))) (FloatKind.f64.nearest (-((2 ^ b : Nat) : Int))) = A at t2
    generalize fle .f64 (fmul .f64 (wide x) (FloatKind.f64.nearest ((2 ^ b : Nat) : Int))) (FloatKind.f64.nearest (((2 ^ b : Nat) : Int) - 1)) = B at t2
    generalize fgt .f64 (fsub .f64 (fmul .f64 (wide x) (FloatKind.f64.nearest ((2 ^ b : Nat) : Int))) (FloatKind.f64.nearest c)) 4602678819172646912 = D1 at t2
    generalize flt .f64 (fsub .f64 (fmul .f64 (wide x) (FloatKind.f64.nearest ((2 ^ b : Nat) : Int))) (FloatKind.f64.nearest c)) 13826050856027422720 = D2 at t2
    generalize fgt .f64 (fmul .f64 (wide x) (FloatKind.f64.nearest ((2 ^ b : Nat) : Int))) (FloatKind.f64.nearest (((2 ^ b : Nat) : Int) - 1)) = C1 at t3 t3'
    generalize flt .f64 (fmul .f64 (wide x) (FloatKind.f64.nearest ((2 ^ b : Nat) : Int))) (FloatKind.f64.nearest (-((2 ^ b : Nat) : Int))) = C2 at t4 t4'
    clear t3 t4 t1
    generalize (c != ((2 ^ b : Nat) : Int) - 1) = X1 at t3'
    generalize (c != -((2 ^ b : Nat) : Int)) = X2 at t4'
    have s1 : nb = false ∨ (nb = true ∧ z = false) := by cases nb; exact .inl rfl; exact .inr ⟨rfl, t1' rfl⟩
    have s2 : A = false ∨ (A = true ∧ B = false) ∨ (A = true ∧ B = true ∧ D1 = false ∧ D2 = false) := by
      cases A
      · exact .inl rfl
      · cases B
        · exact .inr (.inl ⟨rfl, rfl⟩)
        · obtain ⟨h1, h2⟩ := t2 rfl rfl
          exact .inr (.inr ⟨rfl, rfl, h1, h2⟩)
    have s3 : C1 = false ∨ (C1 = true ∧ X1 = false) := by cases C1; exact .inl rfl; exact .inr ⟨rfl, t3' rfl⟩
    have s4 : C2 = false ∨ (C2 = true ∧ X2 = false) := by cases C2; exact .inl rfl; exact .inr ⟨rfl, t4' rfl⟩
    clear t1' t2 t3' t4'
    by_cases e1 : c = -((2 ^ b : Nat) : Int)
    · have hcl' : clip1 ((2 ^ b : Nat) : Int) own c = own + 1 := by unfold clip1; rw [if_pos e1]
      rw [hcl']
      have q : (c == -((2 ^ b : Nat) : Int)) = true := beq_iff_eq.2 e1
      simp only [q, br_t]
      rcases s1 with rfl | ⟨rfl, rfl⟩ <;> rcases s2 with rfl | ⟨rfl, rfl⟩ | ⟨rfl, rfl, rfl, rfl⟩ <;> rcases s3 with rfl | ⟨rfl, rfl⟩ <;> rcases s4 with rfl | ⟨rfl, rfl⟩ <;> exact step1
    · have q : (c == -((2 ^ b : Nat) : Int)) = false := beq_eq_false_iff_ne.2 e1
      by_cases e2 : c = ((2 ^ b : Nat) : Int) - 1
      · have hcl' : clip1 ((2 ^ b : Nat) : Int) own c = own + 1 := by unfold clip1; rw [if_neg e1, if_pos e2]
        rw [hcl']
        have q' : (c == ((2 ^ b : Nat) : Int) - 1) = true := beq_iff_eq.2 e2
        simp only [q, q', br_t, br_f]
        rcases s1 with rfl | ⟨rfl, rfl⟩ <;> rcases s2 with rfl | ⟨rfl, rfl⟩ | ⟨rfl, rfl, rfl, rfl⟩ <;> rcases s3 with rfl | ⟨rfl, rfl⟩ <;> rcases s4 with rfl | ⟨rfl, rfl⟩ <;> exact step1
      · have hcl' : clip1 ((2 ^ b : Nat) : Int) own c = own := by unfold clip1; rw [if_neg e1, if_neg e2]
        rw [hcl']
        have q' : (c == ((2 ^ b : Nat) : Int) - 1) = false := beq_eq_false_iff_ne.2 e2
        simp only [q, q', br_t, br_f]
        rcases s1 with rfl | ⟨rfl, rfl⟩ <;> rcases s2 with rfl | ⟨rfl, rfl⟩ | ⟨rfl, rfl, rfl, rfl⟩ <;> rcases s3 with rfl | ⟨rfl, rfl⟩ <;> rcases s4 with rfl | ⟨rfl, rfl⟩ <;> exact step0
/-! ### bytes -/
def loB (c : Int) : Nat := (c % 256).toNat
def hiB (c : Int) : Nat := (c / 256 % 256).toNat
def byts (cs : List Int) : List UInt8 := cs.flatMap fun c => [UInt8.ofNat (loB c), UInt8.ofNat (hiB c)]
theorem u8_wrap (x : Int) : IntKind.u8.wrap x = x % 256 := by simp [IntKind.wrap, IntKind.bits, IntKind.signed]
theorem u16_wrap (x : Int) : IntKind.u16.wrap x = x % 65536 := by simp [IntKind.wrap, IntKind.bits, IntKind.signed]
def byI (cs : List Int) : List Int := cs.flatMap fun c => [((loB c : Nat) : Int), ((hiB c : Nat) : Int)]
theorem bytes_T : ∀ cs : List Int, bytesT (its .u8 (byI cs)) = some (byts cs)
  | [] => rfl
  | c :: cs => by
    show bytesT (T.int .u8 ((loB c : Nat) : Int) :: T.int .u8 ((hiB c : Nat) : Int) :: its .u8 (byI cs)) = _
    unfold bytesT
    unfold bytesT
    rw [bytes_T cs]
    rfl
theorem bytes_loop (n : Nat) (N : Nat) (l2 : List T) (cs : List Int) (hl : cs.length ≤ 1000) : ∀ (j i m : Nat) (P : List Int), i + j = cs.length → P.length ≤ 2 * i → j < m →
    f26_i_BytesOfCodes.l0 n m N l2 P.length (its .u8 P) cs.length (its .i64 cs) (cs.length : Int) (i : Int) = some ((P ++ byI (cs.drop i)).length, its .u8 (P ++ byI (cs.drop i))) := by
  intro j
  induction j with
  | zero =>
    intro i m P hi hP hm
    obtain ⟨m, rfl⟩ : ∃ k, m = k + 1 := ⟨m - 1, by omega⟩
    rw [f26_i_BytesOfCodes.l0, nlt_dec (by omega), List.drop_eq_nil_of_le (by omega)]
    simp [br, byI]
  | succ j ih =>
    intro i m P hi hP hm
    obtain ⟨m, rfl⟩ : ∃ k, m = k + 1 := ⟨m - 1, by omega⟩
    have h : i < cs.length := by omega
    have hd : cs.drop i = cs.getD i 0 :: cs.drop (i + 1) := by
      rw [List.drop_eq_getElem_cons h]; simp [List.getD, h]
    rw [f26_i_BytesOfCodes.l0, lt_dec h, in_dec h, Int.toNat_natCast, okAt_its h, iAt_its, hd, wrap_succ (show i < 9223372036854775807 by omega)]
    generalize cs.getD i 0 = c
    have hpush : its .u8 P ++ setN (setN (reps 2 [(T.int .u8 (0 : Int))]) 0 [(T.int .u8 (IntKind.u8.wrap c))]) 1 [(T.int .u8 (IntKind.u8.wrap (Int.fdiv c (256 : Int))))] = its .u8 (P ++ [((loB c : Nat) : Int), ((hiB c : Nat) : Int)]) := by
      have e1 : IntKind.u8.wrap c = ((loB c : Nat) : Int) := by rw [u8_wrap]; unfold loB; omega
      have e2 : IntKind.u8.wrap (Int.fdiv c (256 : Int)) = ((hiB c : Nat) : Int) := by
        rw [u8_wrap, Int.fdiv_eq_ediv_of_nonneg _ (by decide)]; unfold hiB; omega
      rw [e1, e2]
      simp [its, setN, reps]
    have hb : Nat.ble (P.length + 2) 2147483648 = true := by rw [Nat.ble_eq]; omega
    have hlen : P.length + 2 = (P ++ [((loB c : Nat) : Int), ((hiB c : Nat) : Int)]).length := by simp
    simp only [br_t, Bool.and_self, gd_t, hb, hpush]
    rw [hlen, ih (i + 1) m _ (by omega) (by simp; omega) (by omega)]
    simp [byI]
theorem i_bytes (n : Nat) (cs : List Int) (hc : ∀ c ∈ cs, -(32768 : Int) ≤ c ∧ c ≤ 32767) (hl : cs.length ≤ 256) (hn : 300 < n) : f26_i_BytesOfCodes (n + 4) cs.length (its .i64 cs) = some (byts cs, true) := by
  have e := bytes_loop (n + 3) cs.length (its .i64 cs) cs (by omega) cs.length 0 (n + 3) [] (by omega) (by simp) (by omega)
  simp only [List.drop_zero, List.nil_append] at e
  have e : f26_i_BytesOfCodes.l0 (n + 3) (n + 3) cs.length (its .i64 cs) 0 [] cs.length (its .i64 cs) (cs.length : Int) 0 = _ := e
  have ha := i_arecodes n (b := 15) (by decide) (by decide) cs (fun c h => by have := hc c h; exact ⟨by show -((32768 : Nat) : Int) ≤ c; omega, by show c ≤ ((32768 : Nat) : Int) - 1; omega⟩) hl (by omega)
  have ha : f102_i_areCodes (n + 3) (16 : Int) cs.length (its .i64 cs) = some true := ha
  rw [f26_i_BytesOfCodes, ha]
  simp only [bd_s, Bool.not_true, br_f, e, bytes_T]
theorem byts_length : ∀ cs : List Int, (byts cs).length = 2 * cs.length
  | [] => rfl
  | c :: cs => by
    show (UInt8.ofNat (loB c) :: UInt8.ofNat (hiB c) :: byts cs).length = _
    simp only [List.length_cons, byts_length cs]; omega
theorem byts_get : ∀ (cs : List Int) (i : Nat), i < cs.length → (byts cs)[2 * i]? = some (UInt8.ofNat (loB (cs.getD i 0))) ∧ (byts cs)[2 * i + 1]? = some (UInt8.ofNat (hiB (cs.getD i 0)))
  | [], i, h => by simp at h
  | c :: cs, 0, _ => ⟨rfl, rfl⟩
  | c :: cs, i + 1, h => by
    have := byts_get cs i (by simpa using h)
    show (UInt8.ofNat (loB c) :: UInt8.ofNat (hiB c) :: byts cs)[2 * (i + 1)]? = _ ∧ (UInt8.ofNat (loB c) :: UInt8.ofNat (hiB c) :: byts cs)[2 * (i + 1) + 1]? = _
    rw [show 2 * (i + 1) = 2 * i + 1 + 1 by omega, List.getElem?_cons_succ, List.getElem?_cons_succ, List.getElem?_cons_succ, List.getElem?_cons_succ]
    exact this
theorem byte_lo {cs : List Int} {i : Nat} (h : i < cs.length) : byteAt (byts cs) (2 * i) = ((loB (cs.getD i 0) : Nat) : Int) ∧ byteAt (byts cs) (2 * i + 1) = ((hiB (cs.getD i 0) : Nat) : Int) := by
  obtain ⟨h1, h2⟩ := byts_get cs i h
  have l1 : loB (cs.getD i 0) < 256 := by unfold loB; omega
  have l2 : hiB (cs.getD i 0) < 256 := by unfold hiB; omega
  unfold byteAt
  rw [h1, h2]
  show ((UInt8.ofNat (loB (cs.getD i 0))).toNat : Int) = _ ∧ ((UInt8.ofNat (hiB (cs.getD i 0))).toNat : Int) = _
  rw [UInt8.toNat_ofNat', UInt8.toNat_ofNat', Nat.mod_eq_of_lt l1, Nat.mod_eq_of_lt l2]
  exact ⟨rfl, rfl⟩
theorem or_nat {x m : Nat} (hx : x < 65536) (hm : m < 65536) : intBits BinOp.or .u16 (x : Int) (m : Int) = ((x ||| m : Nat) : Int) := by
  have e1 : ∀ y : Nat, BitVec.ofInt 16 (y : Int) = BitVec.ofNat 16 y := fun y => by
    apply BitVec.eq_of_toNat_eq
    simp
  have h2 : (BitVec.ofInt 16 (x : Int) ||| BitVec.ofInt 16 (m : Int)).toNat = x ||| m := by
    rw [e1, e1, BitVec.toNat_or, BitVec.toNat_ofNat, BitVec.toNat_ofNat, Nat.mod_eq_of_lt (show x < 2 ^ 16 by omega), Nat.mod_eq_of_lt (show m < 2 ^ 16 by omega)]
  have h3 : x ||| m < 2 ^ 16 := Nat.or_lt_two_pow (by omega) (by omega)
  show IntKind.u16.wrap (((BitVec.ofInt 16 (x : Int) ||| BitVec.ofInt 16 (m : Int)).toNat : Nat) : Int) = _
  rw [h2, u16_wrap]
  omega
theorem i16_wrap (v : Nat) (h : v < 65536) : IntKind.i16.wrap (v : Int) = if v < 32768 then (v : Int) else (v : Int) - 65536 := by
  have p16 : (2 : Int) ^ 16 = 65536 := by decide
  have p15 : (2 : Int) ^ (16 - 1) = 32768 := by decide
  simp only [IntKind.wrap, IntKind.bits, IntKind.signed, p16, p15, Bool.true_and]
  by_cases c : v < 32768
  · rw [if_pos c, decide_eq_false (by omega), if_neg (by decide)]; omega
  · rw [if_neg c, decide_eq_true (by omega), if_pos rfl]; omega
theorem joined {c : Int} (h1 : -32768 ≤ c) (h2 : c ≤ 32767) : IntKind.i64.wrap (IntKind.i16.wrap (intBits BinOp.or .u16 (IntKind.u16.wrap ((loB c : Nat) : Int)) (IntKind.u16.wrap (IntKind.u16.wrap ((hiB c : Nat) : Int) * 256)))) = c := by
  have l1 : loB c < 256 := by unfold loB; omega
  have l2 : hiB c < 256 := by unfold hiB; omega
  have e1 : IntKind.u16.wrap ((loB c : Nat) : Int) = ((loB c : Nat) : Int) := by rw [u16_wrap]; omega
  have e2 : IntKind.u16.wrap (IntKind.u16.wrap ((hiB c : Nat) : Int) * 256) = ((hiB c * 256 : Nat) : Int) := by rw [u16_wrap, u16_wrap]; omega
  have e3 : loB c ||| hiB c * 256 = hiB c * 256 + loB c := by
    have := Nat.two_pow_add_eq_or_of_lt (i := 8) (b := loB c) (by omega) (hiB c)
    rw [Nat.or_comm, Nat.mul_comm]
    exact this.symm
  rw [e1, e2, or_nat (by omega) (by omega), e3, i16_wrap _ (by omega)]
  have hv : ((hiB c * 256 + loB c : Nat) : Int) = c % 65536 := by unfold hiB loB; omega
  split <;> rw [wrap64] <;> omega
theorem read_loop (n : Nat) (cs : List Int) (hc : ∀ c ∈ cs, -(32768 : Int) ≤ c ∧ c ≤ 32767) (hl : cs.length ≤ 1000) : ∀ (j i m : Nat) (P : List Int), i + j = cs.length → P.length ≤ i → j < m →
    f27_i_CodesOfBytes.l0 n m (byts cs) P.length (its .i64 P) ((2 * i : Nat) : Int) = some ((P ++ cs.drop i).length, its .i64 (P ++ cs.drop i)) := by
  have hbl := byts_length cs
  intro j
  induction j with
  | zero =>
    intro i m P hi hP hm
    obtain ⟨m, rfl⟩ : ∃ k, m = k + 1 := ⟨m - 1, by omega⟩
    rw [f27_i_CodesOfBytes.l0, nlt_dec (by omega), List.drop_eq_nil_of_le (by omega)]
    simp [br]
  | succ j ih =>
    intro i m P hi hP hm
    obtain ⟨m, rfl⟩ : ∃ k, m = k + 1 := ⟨m - 1, by omega⟩
    have h : i < cs.length := by omega
    have hd : cs.drop i = cs.getD i 0 :: cs.drop (i + 1) := by
      rw [List.drop_eq_getElem_cons h]; simp [List.getD, h]
    have hmem : cs.getD i 0 ∈ cs := by
      have : cs.getD i 0 = cs[i] := by simp [List.getD, h]
      rw [this]; exact List.getElem_mem h
    obtain ⟨b1, b2⟩ := byte_lo h
    have w1 : IntKind.i64.wrap (((2 * i : Nat) : Int) + 1) = ((2 * i + 1 : Nat) : Int) := by rw [wrap64] <;> omega
    have w2 : IntKind.i64.wrap (((2 * i : Nat) : Int) + 2) = ((2 * (i + 1) : Nat) : Int) := by rw [wrap64] <;> omega
    rw [f27_i_CodesOfBytes.l0, lt_dec (show 2 * i < (byts cs).length by omega), in_dec (show 2 * i < (byts cs).length by omega), w1, in_dec (show 2 * i + 1 < (byts cs).length by omega), w2, Int.toNat_natCast, Int.toNat_natCast, b1, b2, joined (hc _ hmem).1 (hc _ hmem).2]
    simp only [br_t, gd_t, push_ok (show P.length < 2147483648 by omega), push_its]
    rw [push_len (z := cs.getD i 0), ih (i + 1) m _ (by omega) (by simp; omega) (by omega), hd]
    simp
theorem i_read (n : Nat) (cs : List Int) (hc : ∀ c ∈ cs, -(32768 : Int) ≤ c ∧ c ≤ 32767) (hl : cs.length ≤ 256) (hn : 300 < n) : f27_i_CodesOfBytes (n + 1) (byts cs) = some (cs.length, its .i64 cs, true) := by
  have e := read_loop n cs hc (by omega) cs.length 0 n [] (by omega) (by simp) (by omega)
  simp only [List.drop_zero, List.nil_append] at e
  have e : f27_i_CodesOfBytes.l0 n n (byts cs) 0 [] 0 = _ := e
  have hbl := byts_length cs
  have q1 : (Int.tmod (((byts cs).length : Nat) : Int) 2 != 0) = false := by
    rw [hbl, Int.tmod_eq_emod_of_nonneg (by omega)]
    have : ((2 * cs.length : Nat) : Int) % 2 = 0 := by omega
    rw [this]; rfl
  rw [f27_i_CodesOfBytes, q1, decide_eq_false (show ¬ ((((byts cs).length : Nat) : Int) > 512) by omega)]
  simp only [br_f, bd_s, e]
theorem same_loop (n : Nat) (cs : List Int) (hl : cs.length ≤ 1000) : ∀ (j i m : Nat), i + j = cs.length → j < m →
    f4_l_FnSteps.l2 n m cs.length (its .i64 cs) cs.length (its .i64 cs) (i : Int) = some (Sum.inr ()) := by
  intro j
  induction j with
  | zero =>
    intro i m hi hm
    obtain ⟨m, rfl⟩ : ∃ k, m = k + 1 := ⟨m - 1, by omega⟩
    rw [f4_l_FnSteps.l2, nlt_dec (by omega)]; rfl
  | succ j ih =>
    intro i m hi hm
    obtain ⟨m, rfl⟩ : ∃ k, m = k + 1 := ⟨m - 1, by omega⟩
    have h : i < cs.length := by omega
    have q : ∀ c : Int, (c != c) = false := fun c => by simp
    rw [f4_l_FnSteps.l2, lt_dec h, in_dec h, Int.toNat_natCast, okAt_its h, iAt_its, q, wrap_succ (show i < 9223372036854775807 by omega)]
    exact ih (i + 1) m (by omega) (by omega)
theorem pow64_tab : ∀ b : Nat, b < 16 → IntKind.i64.wrap ((1 : Int) * ((2 : Int) ^ (min (Int.toNat (IntKind.u64.wrap (IntKind.i64.wrap (((b + 1 : Nat) : Int) - 1)))) 64))) = ((2 ^ b : Nat) : Int) ∧ decide ((0 : Int) ≤ IntKind.u64.wrap (IntKind.i64.wrap (((b + 1 : Nat) : Int) - 1))) = true := by decide +kernel
theorem codes_facts {b : Nat} (hb : b < 16) {xs : List Nat} (hx : ∀ x ∈ xs, W32 x) : (codesL b xs).length = xs.length ∧ (∀ c ∈ codesL b xs, -((2 ^ b : Nat) : Int) ≤ c ∧ c ≤ ((2 ^ b : Nat) : Int) - 1) ∧ (∀ i, i < xs.length → codeO b (raisedM b (xs.getD i 0)) = some ((codesL b xs).getD i 0)) ∧ (∀ x ∈ xs, ∃ c, codeO b (raisedM b x) = some c) := by
  have hex : ∀ x ∈ xs, ∃ c, codeO b (raisedM b x) = some c := fun x h => by
    obtain ⟨c, e, -⟩ := told_all hb (hx x h)
    exact ⟨c, e⟩
  refine ⟨by simp [codesL], fun c hc => ?_, fun i hi => ?_, hex⟩
  · obtain ⟨x, hx', rfl⟩ := List.mem_map.1 hc
    obtain ⟨c, e, c1, c2, -⟩ := told_all hb (hx x hx')
    rw [e]; exact ⟨c1, c2⟩
  · have hm : xs.getD i 0 ∈ xs := by
      have : xs.getD i 0 = xs[i] := by simp [List.getD, hi]
      rw [this]; exact List.getElem_mem hi
    obtain ⟨c, e⟩ := hex _ hm
    have : (codesL b xs).getD i 0 = (codeO b (raisedM b (xs.getD i 0))).getD 0 := by simp [codesL, List.getD, hi]
    rw [this, e]; rfl
theorem exact_ (cs : List Int) (hc : ∀ b ∈ cs, GoodI .u8 b) (lc : cs.length ≤ maxLen) (ms : List Int) (hm : ∀ b ∈ ms, GoodI .u8 b) (lm : ms.length ≤ maxLen) : ∃ n, f4_l_FnSteps n cs.length (its .u8 cs) ms.length (its .u8 ms) = some true := by
  refine ⟨1000, ?_⟩
  suffices h : ∀ n, f4_l_FnSteps (n + 500) cs.length (its .u8 cs) ms.length (its .u8 ms) = some true from h 500
  intro n
  rw [f4_l_FnSteps, l_long]
  cases hlong : decide (48 < cs.length ∨ 48 < ms.length)
  case true => rfl
  obtain ⟨t, ht, e1⟩ := l_at (n + 498) (bytes_of hc) (i := 40) (k := 15) (by omega) (by omega)
  obtain ⟨t, rfl⟩ := Int.eq_ofNat_of_zero_le ht.1
  obtain ⟨b, hb1, hb, w1⟩ : ∃ b : Nat, 1 ≤ b ∧ b < 16 ∧ IntKind.i64.wrap (2 + (t : Int)) = ((b + 1 : Nat) : Int) := ⟨t + 1, by omega, by omega, by rw [wrap64] <;> omega⟩
  obtain ⟨p1, p2_⟩ := pow64_tab b hb
  obtain ⟨xs, hxl, hxw, e2⟩ := s_r8samples (n + 492) (bytes_of hm) 12 (by omega) (by omega)
  have e2 : f22_s_R8Samples (n + 499) ms.length (its .u8 ms) 12 = some (xs.length, fls .f32 xs) := e2
  obtain ⟨f1, f2, f3, f4⟩ := codes_facts hb hxw
  have e3 := i_codesof (n + 496) hb1 hb xs f4 (by omega) (by omega)
  have e4 := i_samplesof (n + 495) hb1 hb (codesL b xs) f2 (by omega) (by omega)
  rw [List.length_map, f1] at e4
  have hbw : ∀ x ∈ (codesL b xs).map (backM b), ∃ c, codeO b (raisedM b x) = some c := fun x h => by
    obtain ⟨c, hc', rfl⟩ := List.mem_map.1 h
    exact ⟨c, back_code hb (f2 c hc').1 (f2 c hc').2⟩
  have e5 := i_codesof (n + 496) hb1 hb ((codesL b xs).map (backM b)) hbw (by rw [List.length_map]; omega) (by rw [List.length_map]; omega)
  have hback : codesL b ((codesL b xs).map (backM b)) = codesL b xs := by
    have key : ∀ ds : List Int, (∀ c ∈ ds, -((2 ^ b : Nat) : Int) ≤ c ∧ c ≤ ((2 ^ b : Nat) : Int) - 1) → codesL b (ds.map (backM b)) = ds := by
      intro ds
      induction ds with
      | nil => intro _; rfl
      | cons d ds ih =>
        intro h
        have h1 := back_code hb (h d (by simp)).1 (h d (by simp)).2
        have h2 := ih (fun c hc' => h c (by simp [hc']))
        unfold codesL at h2 ⊢
        rw [List.map_cons, List.map_cons, h1, h2]; rfl
    exact key _ f2
  rw [hback, List.length_map, f1] at e5
  have e6 := i_count (n + 495) hb1 hb (codesL b xs) f2 (by omega) (by omega)
  rw [f1] at e6
  have e7 := steps_loop (n + 499) hb xs (codesL b xs) f1 hxw f3 ((codesL b xs).foldl (clip1 ((2 ^ b : Nat) : Int)) 0) (by omega) (by omega) xs.length 0 (n + 499) 0 (by omega) (by omega) (by omega) (by omega)
  rw [List.drop_zero] at e7
  have e7 : f4_l_FnSteps.l0 (n + 499) (n + 499) ((2 ^ b : Nat) : Int) xs.length (fls .f32 xs) xs.length (its .i64 (codesL b xs)) xs.length (its .i64 (codesL b xs)) ((codesL b xs).foldl (clip1 ((2 ^ b : Nat) : Int)) 0) 0 0 = _ := e7
  obtain ⟨g1, g2, -, g4⟩ := codes_facts (b := 15) (by decide) hxw
  have g2 : ∀ c ∈ codesL 15 xs, -(32768 : Int) ≤ c ∧ c ≤ 32767 := fun c h => by
    have := g2 c h
    rw [show ((2 ^ 15 : Nat) : Int) = 32768 by decide] at this
    omega
  have e8 := i_codesof (n + 496) (b := 15) (by decide) (by decide) xs g4 (by omega) (by omega)
  have e8 : f23_i_CodesOf (n + 499) (16 : Int) xs.length (fls .f32 xs) = some (xs.length, its .i64 (codesL 15 xs), true) := e8
  have e9 := i_bytes (n + 495) (codesL 15 xs) g2 (by omega) (by omega)
  rw [g1] at e9
  have eA := i_read (n + 498) (codesL 15 xs) g2 (by omega) (by omega)
  rw [g1] at eA
  have eB := same_loop (n + 499) (codesL 15 xs) (by omega) xs.length 0 (n + 499) (by omega) (by omega)
  rw [g1] at eB
  have eB : f4_l_FnSteps.l2 (n + 499) (n + 499) xs.length (its .i64 (codesL 15 xs)) xs.length (its .i64 (codesL 15 xs)) 0 = _ := eB
  have hbl := byts_length (codesL 15 xs)
  rw [g1] at hbl
  have w3 : IntKind.i64.wrap ((2 : Int) * (xs.length : Int)) = ((2 * xs.length : Nat) : Int) := by rw [wrap64] <;> omega
  have hne : ∀ c : Int, (c != c) = false := fun c => by simp
  simp only [br_f, bd_s, e1, w1, p1, p2_, gd_t, e2, e3, e4, e5, e6, Bool.not_true, hne, e7, sm_r, e8, e9, eA, hbl, w3, eB]
theorem law4 : ∀ args, LawArgs E Try.f4.params.toList args → ∃ N os, evalFn E N 4 args = some ⟨[⟨false, [.leaf], [.bool true]⟩], os⟩ := by
  intro args h0
  have hp : Try.f4.params.toList = [22, 22] := by kernel_rfl
  rw [hp] at h0
  obtain ⟨ts0, r0, rfl, hw0, h1⟩ := h0.cons_inv (d := ⟨false, 1, 24, [.sl .own [.leaf]], [.lst 0 []], .slc 5⟩) (by kernel_rfl)
  obtain ⟨n0, cs0, rfl, gl0, hs0⟩ := hw0.slc_inv (e := 5) (d := ⟨false, 1, 24, [.sl .own [.leaf]], [.lst 0 []], .slc 5⟩) (by kernel_rfl) rfl
  obtain ⟨a0, rfl, rfl, g0⟩ := hs0.ints (k := .u8) (d := ⟨false, 1, 1, [.leaf], [.int .u8 0], .int .u8⟩) (by kernel_rfl) rfl
  obtain ⟨ts1, r1, rfl, hw1, h2⟩ := h1.cons_inv (d := ⟨false, 1, 24, [.sl .own [.leaf]], [.lst 0 []], .slc 5⟩) (by kernel_rfl)
  obtain ⟨n1, cs1, rfl, gl1, hs1⟩ := hw1.slc_inv (e := 5) (d := ⟨false, 1, 24, [.sl .own [.leaf]], [.lst 0 []], .slc 5⟩) (by kernel_rfl) rfl
  obtain ⟨a1, rfl, rfl, g1⟩ := hs1.ints (k := .u8) (d := ⟨false, 1, 1, [.leaf], [.int .u8 0], .int .u8⟩) (by kernel_rfl) rfl
  obtain rfl := h2.nil_inv
  obtain ⟨N, hN⟩ := exact_ a0 g0 gl0 a1 g1 gl1
  exact ⟨N, _, f4_l_FnSteps.ok N (a0.length, its .u8 a0, a1.length, its .u8 a1) true hN⟩


end Go.Proofs.Ytjkhhalnlodinaa.D
end
section
/- FnSteps holds: for every input the law returns true, and its arguments read as before. -/
namespace Go.Proofs.Ytjkhhalnlodinaa.fnSteps
open Go Go.ChangeShapes Go.WideShapes Go.ChangeAt Go.RowKit Go.Desk
set_option linter.unusedVariables false
theorem own : ownKnob Try.prog.godebug = none := by kernel_rfl
theorem laidOut : laidOutB Try.prog = true := by kernel_rfl
set_option maxRecDepth 100000 in
theorem lifted (os : Os) (started : os.Started) (H : Type) (enc : TypeId × Value → H) :
    ReturnsInHanded {} Try.checked os 4 .any (Rows.fnStepsSpec.pre6 enc Try.prog Try.f4 Rows.fnStepsRow.domain false) (Rows.fnStepsSpec.post enc Try.prog Try.f4 false true false false) := by
  refine returnsInHanded_of_change (C := Try.checked) own started (by kernel_rfl) Try.func4
    (ChangeSpec.witness6 (enc := enc) (C := Try.checked) false ⟨#[], #[.slice none 0 0, .slice none 0 0], []⟩ 8 (by kernel_rfl) (by kernel_rfl) (by kernel_rfl) (by kernel_rfl)) ?_
  intro W base args ds gs before hval hW hcnd _
  exact law_contract (c := D.c4) Try.checked.mixed D.tysOk D.fnOk Try.func4 (by kernel_rfl) (by kernel_rfl) (by kernel_rfl) Try.underlying4 rfl
    (fun ds h => by
      rw [show Try.f4.params.toList.length = 2 by kernel_rfl] at h
      match ds, h with
      | [_, _], _ => rfl)
    laidOut (N := 8) (by kernel_rfl) (by kernel_rfl) D.law4 hval hW
theorem over : Rows.fnStepsRow.holds Try.pinned (OpenSpec.ofChange Rows.fnStepsSpec) :=
  OpenClaim.holds_of_wide 4 Try.f4 rfl rfl rfl rfl rfl rfl rfl ⟨rfl, rfl, rfl, rfl, rfl⟩ rfl rfl rfl rfl rfl (by kernel_rfl) Try.func4 (by kernel_rfl)
    (of_decide_eq_true (by kernel_rfl)) (by unfold Func.isWrapper; first | (rw [if_pos (by decide +kernel)]; kernel_rfl) | (rw [if_neg (by decide +kernel)]; exact ⟨rfl, rfl⟩))
    (fun os started H enc _ => lifted os started H enc)
theorem proved : Rows.FnStepsSaid := over
#print axioms proved
end Go.Proofs.Ytjkhhalnlodinaa.fnSteps
namespace Go.Proofs.Ytjkhhalnlodinaa
/-- The row, under a short name, for the claim. -/
theorem fnSteps_holds : Rows.FnStepsSaid := fnSteps.proved
end Go.Proofs.Ytjkhhalnlodinaa
end
