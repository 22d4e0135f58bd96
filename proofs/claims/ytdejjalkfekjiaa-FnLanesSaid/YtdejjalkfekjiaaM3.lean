/- FnLanes holds: for every input the law returns true, and its arguments read as before. -/
import Derived.Test.YtdejjalkfekjiaaChecked
import Derived.Test.YtdejjalkfekjiaaDeskE
import Derived.KernelRfl
import Derived.Test.YtdejjalkfekjiaaRows
import Derived.WalkKit
import Derived.ProofKit
import Derived.OpenShut
import Derived.ShutString
import Derived.ChangeOld
import Derived.Below
import Derived.SizedLaws
set_option linter.all false
section
/- The tables of the reading: types and functions of the translation, with what is kept at each region's beginning (written by a program of this workplace). -/
namespace Go.Proofs.Ytdejjalkfekjiaa.D
open Go Go.Desk
def bodyOf (f : Func) : Code := match f.body with
  | some c => c
  | none => .skip
def tyTab : List (Nat × TD) := [
  (2, ⟨false, 1, 8, [.leaf], [.int .i64 0], .int .i64⟩),
  (3, ⟨false, 1, 8, [.leaf], [.int .i64 0], .int .i64⟩),
  (4, ⟨false, 1, 1, [.leaf], [.bool false], .bool⟩),
  (5, ⟨false, 1, 1, [.leaf], [.int .u8 0], .int .u8⟩),
  (22, ⟨false, 1, 24, [.sl .own [.leaf]], [.lst 0 []], .slc 5⟩),
  (24, ⟨false, 1, 24, [.sl .own [.leaf, .leaf]], [.lst 0 []], .slc 35⟩),
  (27, ⟨false, 1, 24, [.sl .own [.leaf]], [.lst 0 []], .slc 33⟩),
  (33, ⟨false, 1, 4, [.leaf], [.flt .f32 0], .flt .f32⟩),
  (35, ⟨true, 2, 16, [.leaf, .leaf], [.int .i64 0, .flt .f32 0], .st [(0, 2), (1, 33)]⟩),
  (39, ⟨false, 1, 8, [.leaf], [.flt .f64 0], .flt .f64⟩),
  (58, ⟨false, 1, 24, [.sl .own [.leaf]], [.lst 0 []], .slc 2⟩),
  (63, ⟨false, 1, 8, [.leaf], [.int .u64 0], .int .u64⟩),
  (108, ⟨false, 1, 8, [.leaf], [.nil], .ptr 153⟩),
  (127, ⟨false, 1, 4, [.leaf], [.int .u32 0], .int .u32⟩),
  (151, ⟨false, 1, 8, [.leaf], [.int .u64 0], .int .u64⟩),
  (153, ⟨true, 3, 40, [.sl .own [.leaf], .leaf, .leaf], [.lst 0 [], .int .i64 0, .int .u64 0], .st [(0, 22), (1, 3), (2, 151)]⟩)]
noncomputable def c3 : Code := bodyOf Try.f3
noncomputable def c15 : Code := bodyOf Try.f15
noncomputable def c16 : Code := bodyOf Try.f16
noncomputable def c17 : Code := bodyOf Try.f17
noncomputable def c18 : Code := bodyOf Try.f18
noncomputable def c19 : Code := bodyOf Try.f19
noncomputable def c20 : Code := bodyOf Try.f20
noncomputable def c21 : Code := bodyOf Try.f21
noncomputable def c22 : Code := bodyOf Try.f22
noncomputable def c23 : Code := bodyOf Try.f23
noncomputable def c75 : Code := bodyOf Try.f75
noncomputable def c76 : Code := bodyOf Try.f76
noncomputable def c77 : Code := bodyOf Try.f77
noncomputable def c78 : Code := bodyOf Try.f78
noncomputable def c79 : Code := bodyOf Try.f79
noncomputable def c80 : Code := bodyOf Try.f80
noncomputable def c81 : Code := bodyOf Try.f81
noncomputable def c82 : Code := bodyOf Try.f82
noncomputable def c83 : Code := bodyOf Try.f83
noncomputable def c84 : Code := bodyOf Try.f84
noncomputable def c99 : Code := bodyOf Try.f99
noncomputable def c118 : Code := bodyOf Try.f118
noncomputable def c128 : Code := bodyOf Try.f128
noncomputable def c129 : Code := bodyOf Try.f129
noncomputable def c130 : Code := bodyOf Try.f130
noncomputable def c131 : Code := bodyOf Try.f131
noncomputable def c132 : Code := bodyOf Try.f132
noncomputable def fnTab : List (Nat × FD) := [
  (3, .code c3 [.val, .val] [] [(4, none)] [(0, [0, 1]), (1, [0, 1]), (2, []), (3, [0, 1]), (4, [1, 5]), (5, [1, 5, 6]), (6, [1, 5, 6, 7]), (7, [1, 5, 6, 7, 8, 9]), (8, [5, 6, 7, 8, 9, 10]), (9, [5, 6, 7, 8, 9, 10, 11, 12]), (10, []), (11, [5, 6, 7, 8, 10, 11]), (12, [5, 6, 7, 8, 10, 11, 13]), (13, [5, 6, 7, 8, 10, 11, 13, 14]), (14, [5, 6, 7, 8, 10, 11, 13, 14, 83, 84]), (15, [5, 6, 7, 8, 10, 11, 13, 14, 83, 84]), (16, [5, 6, 7, 8, 10, 11, 13, 14, 15, 83, 84]), (17, [5, 6, 7, 8, 10, 11, 13, 14, 15, 16, 17, 83, 84]), (18, []), (19, [5, 6, 7, 8, 10, 11, 13, 14, 16, 83, 84]), (20, [5, 6, 7, 8, 10, 11, 13, 14, 16, 83, 84]), (21, [5, 6, 7, 8, 10, 11, 13, 14, 83, 84]), (22, [5, 6, 7, 8, 10, 11, 13, 14]), (23, [5, 6, 7, 8, 10, 11, 13, 14, 18]), (24, [5, 6, 7, 8, 10, 11, 13, 14, 18]), (25, [5, 6, 7, 8, 10, 11, 13, 14, 18]), (26, [5, 6, 7, 8, 10, 11, 13, 14, 18, 19, 20]), (27, []), (28, [5]), (29, [5, 21, 22]), (30, [5, 21, 22, 23, 24]), (1000014, [4, 5, 6, 7, 8, 10, 11, 13, 14]), (1000023, [4, 5])]),
  (15, .code c15 [.val, .val] [] [(4, none)] [(0, [0, 1]), (1, [0, 1])]),
  (16, .code c16 [.val] [] [(2, none)] [(0, [0]), (1, [0]), (2, [3]), (3, [3, 4]), (4, [3, 4, 5]), (5, [3, 4, 5, 6]), (6, [3, 4, 5, 6]), (7, [3, 4, 5, 6]), (8, [3, 4, 5, 6, 7]), (9, [3, 4, 5, 6, 7]), (10, [3, 4, 5, 6]), (11, [4]), (1000005, [4])]),
  (17, .code c17 [.val, .val, .val] [] [(6, none)] [(0, [0, 1, 2]), (1, [0, 1, 2]), (2, []), (3, [0, 1, 2]), (4, [0, 1, 2]), (5, [1, 2])]),
  (18, .code c18 [.val, .val, .val] [] [(6, none), (7, none)] [(0, [0, 1, 2]), (1, [0, 1, 2]), (2, []), (3, [0, 1, 2]), (4, [0, 1, 2, 8]), (5, [0, 1, 2, 8, 9]), (6, [0, 1, 2, 8, 9]), (7, [0, 1, 2, 8, 9]), (8, [8]), (1000005, [8])]),
  (19, .code c19 [.val, .val] [] [(4, none)] [(0, [0, 1]), (1, [0, 1]), (2, [1, 5])]),
  (20, .code c20 [.val, .val, .val] [] [(6, none), (7, none)] [(0, [0, 1, 2]), (1, [0, 1, 2]), (2, [2, 8, 9]), (3, []), (4, [2, 8]), (5, [2, 8, 23, 24]), (6, [2, 8, 23, 24]), (7, [2, 8, 10, 23, 24]), (8, [2, 8, 23, 24]), (9, [8]), (1000005, [8])]),
  (21, .code c21 [.val] [] [(2, none)] [(0, [0]), (1, [0]), (2, []), (3, [0]), (4, [0, 10, 11, 12]), (5, [0, 10, 11, 12]), (6, [0, 3, 4, 10, 11, 12]), (7, []), (8, [0, 10, 11, 12]), (9, []), (1000004, [2])]),
  (22, .code c22 [.val, .val] [] [(4, none), (5, none)] [(0, [0, 1]), (1, [0, 1]), (2, []), (3, [0, 1])]),
  (23, .code c23 [.val, .val] [] [(4, none)] [(0, [0, 1]), (1, [0, 1])]),
  (75, .code c75 [.val] [] [(2, none)] [(0, [0]), (1, [0])]),
  (76, .code c76 [.iop, .val] [0] [(4, none)] [(0, [0, 1]), (1, [0, 1]), (2, [0]), (3, [0, 1]), (4, [0, 1, 5]), (5, [0, 1, 5]), (6, [0, 1, 5])]),
  (77, .code c77 [.iop] [0] [(2, none)] [(0, [0]), (1, [0]), (2, [0, 3]), (3, [0, 3]), (4, [0, 3])]),
  (78, .code c78 [.val] [] [(2, none)] [(0, [0]), (1, [0])]),
  (79, .code c79 [.val] [] [(2, none)] [(0, [0]), (1, [0])]),
  (80, .code c80 [.val, .val] [] [(4, none)] [(0, [0, 1]), (1, [0, 1]), (2, [0]), (3, [0, 1]), (4, [0, 1, 5]), (5, [0, 1, 5]), (6, [0, 1, 5]), (7, [0, 1, 5, 6, 7]), (8, [7]), (9, [0, 1, 5, 6, 7]), (10, [1, 6, 7]), (11, [0]), (1000004, [0, 4])]),
  (81, .code c81 [.iop, .val] [0] [(4, none)] [(0, [0, 1]), (1, [0, 1]), (2, [0, 1, 5]), (3, [0, 1, 5, 6]), (4, [0, 1, 5, 6]), (5, [0, 1, 5, 6]), (6, [0, 1, 5, 6]), (7, [0, 1, 5, 6]), (8, [0, 5]), (1000003, [0, 5])]),
  (82, .code c82 [.val] [] [(2, none)] [(0, [0]), (1, [0])]),
  (83, .code c83 [.val, .val, .val] [] [(6, none)] [(0, [0, 1, 2]), (1, [0, 1, 2])]),
  (84, .code c84 [.val, .val] [] [(4, none)] [(0, [0, 1]), (1, [0, 1])]),
  (98, .ext (pF32bits)),
  (99, .code c99 [.iop] [0] [(2, none)] [(0, [0]), (1, [0]), (2, [0]), (3, [0]), (4, [0, 10]), (5, [0]), (6, [0, 10]), (7, [0]), (8, [0, 3]), (9, [0, 10]), (10, [0]), (11, [0])]),
  (118, .code c118 [.val, .val] [] [(4, none)] [(0, [0, 1]), (1, [0, 1])]),
  (128, .code c128 [.iop] [0] [(2, none)] [(0, [0]), (1, [0]), (2, [0, 3]), (3, [0]), (4, [0, 3]), (5, [0, 3]), (6, [0, 3]), (7, [0, 3]), (8, [0])]),
  (129, .code c129 [.iop, .val] [0] [(4, none)] [(0, [0, 1]), (1, [0, 1])]),
  (130, .code c130 [.val] [] [(2, none)] [(0, [0]), (1, [0]), (2, []), (3, [0])]),
  (131, .code c131 [.val] [] [(2, none)] [(0, [0]), (1, [0])]),
  (132, .code c132 [.iop, .io] [0, 1] [(4, none)] [(0, [0, 1]), (1, [0, 1])]),
  (140, .ext (pF32frombits))]
noncomputable def E : Env := ⟨fun t => lookT tyTab t, lookF fnTab⟩
noncomputable def fdAt (n : Nat) : FD := match lookF fnTab n with
  | some d => d
  | none => .ext fun _ => none
noncomputable def keepAt (n : Nat) : List (Nat × List Nat) := match lookF fnTab n with
  | some d => d.keep
  | none => []
theorem tysOk : TysOk Try.prog E := tysOk_of (l := tyTab) (fun _ => rfl) (by kernel_rfl)
theorem ft3 : FnTab Try.prog E 3 (fdAt 3) := fnTab_code (c := c3) (modes := (fdAt 3).ms) (outs := (fdAt 3).os) (results := (fdAt 3).rs) (keep := (fdAt 3).keep) Try.func3 (by kernel_rfl) (by kernel_rfl) (by kernel_rfl)
theorem ft15 : FnTab Try.prog E 15 (fdAt 15) := fnTab_code (c := c15) (modes := (fdAt 15).ms) (outs := (fdAt 15).os) (results := (fdAt 15).rs) (keep := (fdAt 15).keep) Try.func15 (by kernel_rfl) (by kernel_rfl) (by kernel_rfl)
theorem ft16 : FnTab Try.prog E 16 (fdAt 16) := fnTab_code (c := c16) (modes := (fdAt 16).ms) (outs := (fdAt 16).os) (results := (fdAt 16).rs) (keep := (fdAt 16).keep) Try.func16 (by kernel_rfl) (by kernel_rfl) (by kernel_rfl)
theorem ft17 : FnTab Try.prog E 17 (fdAt 17) := fnTab_code (c := c17) (modes := (fdAt 17).ms) (outs := (fdAt 17).os) (results := (fdAt 17).rs) (keep := (fdAt 17).keep) Try.func17 (by kernel_rfl) (by kernel_rfl) (by kernel_rfl)
theorem ft18 : FnTab Try.prog E 18 (fdAt 18) := fnTab_code (c := c18) (modes := (fdAt 18).ms) (outs := (fdAt 18).os) (results := (fdAt 18).rs) (keep := (fdAt 18).keep) Try.func18 (by kernel_rfl) (by kernel_rfl) (by kernel_rfl)
theorem ft19 : FnTab Try.prog E 19 (fdAt 19) := fnTab_code (c := c19) (modes := (fdAt 19).ms) (outs := (fdAt 19).os) (results := (fdAt 19).rs) (keep := (fdAt 19).keep) Try.func19 (by kernel_rfl) (by kernel_rfl) (by kernel_rfl)
theorem ft20 : FnTab Try.prog E 20 (fdAt 20) := fnTab_code (c := c20) (modes := (fdAt 20).ms) (outs := (fdAt 20).os) (results := (fdAt 20).rs) (keep := (fdAt 20).keep) Try.func20 (by kernel_rfl) (by kernel_rfl) (by kernel_rfl)
theorem ft21 : FnTab Try.prog E 21 (fdAt 21) := fnTab_code (c := c21) (modes := (fdAt 21).ms) (outs := (fdAt 21).os) (results := (fdAt 21).rs) (keep := (fdAt 21).keep) Try.func21 (by kernel_rfl) (by kernel_rfl) (by kernel_rfl)
theorem ft22 : FnTab Try.prog E 22 (fdAt 22) := fnTab_code (c := c22) (modes := (fdAt 22).ms) (outs := (fdAt 22).os) (results := (fdAt 22).rs) (keep := (fdAt 22).keep) Try.func22 (by kernel_rfl) (by kernel_rfl) (by kernel_rfl)
theorem ft23 : FnTab Try.prog E 23 (fdAt 23) := fnTab_code (c := c23) (modes := (fdAt 23).ms) (outs := (fdAt 23).os) (results := (fdAt 23).rs) (keep := (fdAt 23).keep) Try.func23 (by kernel_rfl) (by kernel_rfl) (by kernel_rfl)
theorem ft75 : FnTab Try.prog E 75 (fdAt 75) := fnTab_code (c := c75) (modes := (fdAt 75).ms) (outs := (fdAt 75).os) (results := (fdAt 75).rs) (keep := (fdAt 75).keep) Try.func75 (by kernel_rfl) (by kernel_rfl) (by kernel_rfl)
theorem ft76 : FnTab Try.prog E 76 (fdAt 76) := fnTab_code (c := c76) (modes := (fdAt 76).ms) (outs := (fdAt 76).os) (results := (fdAt 76).rs) (keep := (fdAt 76).keep) Try.func76 (by kernel_rfl) (by kernel_rfl) (by kernel_rfl)
theorem ft77 : FnTab Try.prog E 77 (fdAt 77) := fnTab_code (c := c77) (modes := (fdAt 77).ms) (outs := (fdAt 77).os) (results := (fdAt 77).rs) (keep := (fdAt 77).keep) Try.func77 (by kernel_rfl) (by kernel_rfl) (by kernel_rfl)
theorem ft78 : FnTab Try.prog E 78 (fdAt 78) := fnTab_code (c := c78) (modes := (fdAt 78).ms) (outs := (fdAt 78).os) (results := (fdAt 78).rs) (keep := (fdAt 78).keep) Try.func78 (by kernel_rfl) (by kernel_rfl) (by kernel_rfl)
theorem ft79 : FnTab Try.prog E 79 (fdAt 79) := fnTab_code (c := c79) (modes := (fdAt 79).ms) (outs := (fdAt 79).os) (results := (fdAt 79).rs) (keep := (fdAt 79).keep) Try.func79 (by kernel_rfl) (by kernel_rfl) (by kernel_rfl)
theorem ft80 : FnTab Try.prog E 80 (fdAt 80) := fnTab_code (c := c80) (modes := (fdAt 80).ms) (outs := (fdAt 80).os) (results := (fdAt 80).rs) (keep := (fdAt 80).keep) Try.func80 (by kernel_rfl) (by kernel_rfl) (by kernel_rfl)
theorem ft81 : FnTab Try.prog E 81 (fdAt 81) := fnTab_code (c := c81) (modes := (fdAt 81).ms) (outs := (fdAt 81).os) (results := (fdAt 81).rs) (keep := (fdAt 81).keep) Try.func81 (by kernel_rfl) (by kernel_rfl) (by kernel_rfl)
theorem ft82 : FnTab Try.prog E 82 (fdAt 82) := fnTab_code (c := c82) (modes := (fdAt 82).ms) (outs := (fdAt 82).os) (results := (fdAt 82).rs) (keep := (fdAt 82).keep) Try.func82 (by kernel_rfl) (by kernel_rfl) (by kernel_rfl)
theorem ft83 : FnTab Try.prog E 83 (fdAt 83) := fnTab_code (c := c83) (modes := (fdAt 83).ms) (outs := (fdAt 83).os) (results := (fdAt 83).rs) (keep := (fdAt 83).keep) Try.func83 (by kernel_rfl) (by kernel_rfl) (by kernel_rfl)
theorem ft84 : FnTab Try.prog E 84 (fdAt 84) := fnTab_code (c := c84) (modes := (fdAt 84).ms) (outs := (fdAt 84).os) (results := (fdAt 84).rs) (keep := (fdAt 84).keep) Try.func84 (by kernel_rfl) (by kernel_rfl) (by kernel_rfl)
theorem ft98 : FnTab Try.prog E 98 (.ext (pF32bits)) := ext_pF32bits Try.func98 (by kernel_rfl) (by kernel_rfl) (by kernel_rfl) (by kernel_rfl)
theorem ft99 : FnTab Try.prog E 99 (fdAt 99) := fnTab_code (c := c99) (modes := (fdAt 99).ms) (outs := (fdAt 99).os) (results := (fdAt 99).rs) (keep := (fdAt 99).keep) Try.func99 (by kernel_rfl) (by kernel_rfl) (by kernel_rfl)
theorem ft118 : FnTab Try.prog E 118 (fdAt 118) := fnTab_code (c := c118) (modes := (fdAt 118).ms) (outs := (fdAt 118).os) (results := (fdAt 118).rs) (keep := (fdAt 118).keep) Try.func118 (by kernel_rfl) (by kernel_rfl) (by kernel_rfl)
theorem ft128 : FnTab Try.prog E 128 (fdAt 128) := fnTab_code (c := c128) (modes := (fdAt 128).ms) (outs := (fdAt 128).os) (results := (fdAt 128).rs) (keep := (fdAt 128).keep) Try.func128 (by kernel_rfl) (by kernel_rfl) (by kernel_rfl)
theorem ft129 : FnTab Try.prog E 129 (fdAt 129) := fnTab_code (c := c129) (modes := (fdAt 129).ms) (outs := (fdAt 129).os) (results := (fdAt 129).rs) (keep := (fdAt 129).keep) Try.func129 (by kernel_rfl) (by kernel_rfl) (by kernel_rfl)
theorem ft130 : FnTab Try.prog E 130 (fdAt 130) := fnTab_code (c := c130) (modes := (fdAt 130).ms) (outs := (fdAt 130).os) (results := (fdAt 130).rs) (keep := (fdAt 130).keep) Try.func130 (by kernel_rfl) (by kernel_rfl) (by kernel_rfl)
theorem ft131 : FnTab Try.prog E 131 (fdAt 131) := fnTab_code (c := c131) (modes := (fdAt 131).ms) (outs := (fdAt 131).os) (results := (fdAt 131).rs) (keep := (fdAt 131).keep) Try.func131 (by kernel_rfl) (by kernel_rfl) (by kernel_rfl)
theorem ft132 : FnTab Try.prog E 132 (fdAt 132) := fnTab_code (c := c132) (modes := (fdAt 132).ms) (outs := (fdAt 132).os) (results := (fdAt 132).rs) (keep := (fdAt 132).keep) Try.func132 (by kernel_rfl) (by kernel_rfl) (by kernel_rfl)
theorem ft140 : FnTab Try.prog E 140 (.ext (pF32frombits)) := ext_pF32frombits Try.func140 (by kernel_rfl) (by kernel_rfl) (by kernel_rfl) (by kernel_rfl)
theorem allFns : AllFns Try.prog E fnTab := .cons ft3 (.cons ft15 (.cons ft16 (.cons ft17 (.cons ft18 (.cons ft19 (.cons ft20 (.cons ft21 (.cons ft22 (.cons ft23 (.cons ft75 (.cons ft76 (.cons ft77 (.cons ft78 (.cons ft79 (.cons ft80 (.cons ft81 (.cons ft82 (.cons ft83 (.cons ft84 (.cons ft98 (.cons ft99 (.cons ft118 (.cons ft128 (.cons ft129 (.cons ft130 (.cons ft131 (.cons ft132 (.cons ft140 (.nil)))))))))))))))))))))))))))))
theorem fnOk : ∀ f fd, E.fn f = some fd → FnTab Try.prog E f fd := fnTab_of (l := fnTab) (fun _ => rfl) allFns
end Go.Proofs.Ytdejjalkfekjiaa.D
end
section
/- Plain functions for the law's Go functions, each tied to the reading by the kernel (printed by a program of this workplace). -/
namespace Go.Proofs.Ytdejjalkfekjiaa.D
open Go Go.Desk
set_option linter.unusedVariables false
noncomputable def x140.w : FnW E := xF32frombits.w 140 (by kernel_rfl)

noncomputable def x98.w : FnW E := xF32bits.w 98 (by kernel_rfl)

def f15_l_b10Long : Nat → Nat → List T → Nat → List T → Option (Bool)
  | 0, _, _, _, _ => none
  | n + 1, n1, l2, n3, l4 =>
    br (decide (((n1 : Nat) : Int) > (1048576 : Int))) (
     some true) (
     some (decide (((n3 : Nat) : Int) > (1048576 : Int))))
def sg_ll : Sig (Nat × List T × Nat × List T) where
  pk := fun v => [.lst v.1 v.2.1, .lst v.2.2.1 v.2.2.2]
  up := fun ls => match ls with
    | [.lst a0 a1, .lst a2 a3] => some (a0, a1, a2, a3)
    | _ => none
  ok := by
    intro ls v h
    split at h
    · cases h; rfl
    · cases h

def sg_b : Sig (Bool) where
  pk := fun v => [.bool v]
  up := fun ls => match ls with
    | [.bool a0] => some a0
    | _ => none
  ok := by
    intro ls v h
    split at h
    · cases h; rfl
    · cases h

def f15_l_b10Long.P : List Arg := [⟨.val, ⟨false, [.sl .shr [.leaf]], [.lst 0 []]⟩⟩, ⟨.val, ⟨false, [.sl .shr [.leaf]], [.lst 0 []]⟩⟩]
def f15_l_b10Long.A : RAlt (Bool) := .one ⟨[⟨false, [.leaf], [.bool false]⟩], [none, none]⟩ sg_b
def f15_l_b10Long.F (n : Nat) (v : Nat × List T × Nat × List T) := f15_l_b10Long n v.1 v.2.1 v.2.2.1 v.2.2.2
noncomputable def f15_l_b10Long.O (n : Nat) : Orc := orcOf (E := E) [] [] n
theorem f15_l_b10Long.ok : ∀ n v x, f15_l_b10Long.F n v = some x → evalFn E n 15 (flAs f15_l_b10Long.P (sg_ll.pk v)) = some (f15_l_b10Long.A.enc x) :=
  fn_pure (modes := (fdAt 15).ms) (outs := (fdAt 15).os) (results := (fdAt 15).rs) f15_l_b10Long.O (c := c15) (keep := keepAt 15) (by kernel_rfl) (fun n => orcOf_cf _ _ n) (fun n => lpOk_of (bs := []) (by kernel_rfl) .nil) (fun _ => rfl) (fun _ _ => by kernel_rfl)
noncomputable def f15_l_b10Long.w : FnW E := fnW 15 f15_l_b10Long.P sg_ll f15_l_b10Long.A f15_l_b10Long.F f15_l_b10Long.ok

def f75_s_l00From : Nat → Nat → List T → Option (Nat × List T × Int × Int)
  | 0, _, _ => none
  | n + 1, n1, l2 =>
    some (n1, l2, (0 : Int), (0 : Int))
def sg_l : Sig (Nat × List T) where
  pk := fun v => [.lst v.1 v.2]
  up := fun ls => match ls with
    | [.lst a0 a1] => some (a0, a1)
    | _ => none
  ok := by
    intro ls v h
    split at h
    · cases h; rfl
    · cases h

def sg_lii : Sig (Nat × List T × Int × Int) where
  pk := fun v => [.lst v.1 v.2.1, .int v.2.2.1, .int v.2.2.2]
  up := fun ls => match ls with
    | [.lst a0 a1, .int a2, .int a3] => some (a0, a1, a2, a3)
    | _ => none
  ok := by
    intro ls v h
    split at h
    · cases h; rfl
    · cases h

def f75_s_l00From.P : List Arg := [⟨.val, ⟨false, [.sl .shr [.leaf]], [.lst 0 []]⟩⟩]
def f75_s_l00From.A : RAlt (Nat × List T × Int × Int) := .one ⟨[⟨false, [.rf .own [.sl .shr [.leaf], .leaf, .leaf]], [.ref [.lst 0 [], .int .i64 0, .int .u64 0]]⟩], [none]⟩ sg_lii
def f75_s_l00From.F (n : Nat) (v : Nat × List T) := f75_s_l00From n v.1 v.2
noncomputable def f75_s_l00From.O (n : Nat) : Orc := orcOf (E := E) [] [] n
theorem f75_s_l00From.ok : ∀ n v x, f75_s_l00From.F n v = some x → evalFn E n 75 (flAs f75_s_l00From.P (sg_l.pk v)) = some (f75_s_l00From.A.enc x) :=
  fn_pure (modes := (fdAt 75).ms) (outs := (fdAt 75).os) (results := (fdAt 75).rs) f75_s_l00From.O (c := c75) (keep := keepAt 75) (by kernel_rfl) (fun n => orcOf_cf _ _ n) (fun n => lpOk_of (bs := []) (by kernel_rfl) .nil) (fun _ => rfl) (fun _ _ => by kernel_rfl)
noncomputable def f75_s_l00From.w : FnW E := fnW 75 f75_s_l00From.P sg_l f75_s_l00From.A f75_s_l00From.F f75_s_l00From.ok

def f128_s_l00Srcnext : Nat → Nat → List T → Int → Int → Option (Int × Nat × List T × Int × Int)
  | 0, _, _, _, _ => none
  | n + 1, n1, l2, i3, i4 =>
    br (decide (i3 < ((n1 : Nat) : Int))) (
     gd ((decide (((0 : Int) ≤ i3) ∧ (i3 < ((n1 : Nat) : Int)))) && (okAt [(CK.int IntKind.u8)] l2 (Int.toNat i3))) (
     let i5 : Int := (IntKind.i64.wrap (iAt l2 (Int.toNat i3)))
     let i6 : Int := (IntKind.i64.wrap (i3 + (1 : Int)))
     let i7 : Int := (IntKind.u64.wrap ((IntKind.u64.wrap ((IntKind.u64.wrap (i4 * (6364136223846793005 : Int))) + (IntKind.u64.wrap i5))) + (1442695040888963407 : Int)))
     br (decide (i6 ≤ ((n1 : Nat) : Int))) (
      some (i5, n1, l2, i6, i7)) (
      some ((IntKind.i64.wrap (intBits BinOp.and IntKind.u64 (Int.fdiv i7 (1099511627776 : Int)) (255 : Int))), n1, l2, i6, i7)))) (
     let i8 : Int := (IntKind.i64.wrap (i3 + (1 : Int)))
     let i9 : Int := (IntKind.u64.wrap ((IntKind.u64.wrap ((IntKind.u64.wrap (i4 * (6364136223846793005 : Int))) + (0 : Int))) + (1442695040888963407 : Int)))
     br (decide (i8 ≤ ((n1 : Nat) : Int))) (
      some ((0 : Int), n1, l2, i8, i9)) (
      some ((IntKind.i64.wrap (intBits BinOp.and IntKind.u64 (Int.fdiv i9 (1099511627776 : Int)) (255 : Int))), n1, l2, i8, i9)))
def sg_ilii : Sig (Int × Nat × List T × Int × Int) where
  pk := fun v => [.int v.1, .lst v.2.1 v.2.2.1, .int v.2.2.2.1, .int v.2.2.2.2]
  up := fun ls => match ls with
    | [.int a0, .lst a1 a2, .int a3, .int a4] => some (a0, a1, a2, a3, a4)
    | _ => none
  ok := by
    intro ls v h
    split at h
    · cases h; rfl
    · cases h

def f128_s_l00Srcnext.P : List Arg := [⟨.iop, ⟨false, [.rf .own [.sl .shr [.leaf], .leaf, .leaf]], [.ref [.lst 0 [], .int .i64 0, .int .u64 0]]⟩⟩]
def f128_s_l00Srcnext.A : RAlt (Int × Nat × List T × Int × Int) := .one ⟨[⟨false, [.leaf], [.int .i64 0]⟩], [some ⟨false, [.rf .own [.sl .shr [.leaf], .leaf, .leaf]], [.ref [.lst 0 [], .int .i64 0, .int .u64 0]]⟩]⟩ sg_ilii
def f128_s_l00Srcnext.F (n : Nat) (v : Nat × List T × Int × Int) := f128_s_l00Srcnext n v.1 v.2.1 v.2.2.1 v.2.2.2
noncomputable def f128_s_l00Srcnext.O (n : Nat) : Orc := orcOf (E := E) [] [] n
theorem f128_s_l00Srcnext.ok : ∀ n v x, f128_s_l00Srcnext.F n v = some x → evalFn E n 128 (flAs f128_s_l00Srcnext.P (sg_lii.pk v)) = some (f128_s_l00Srcnext.A.enc x) :=
  fn_pure (modes := (fdAt 128).ms) (outs := (fdAt 128).os) (results := (fdAt 128).rs) f128_s_l00Srcnext.O (c := c128) (keep := keepAt 128) (by kernel_rfl) (fun n => orcOf_cf _ _ n) (fun n => lpOk_of (bs := []) (by kernel_rfl) .nil) (fun _ => rfl) (fun _ _ => by kernel_rfl)
noncomputable def f128_s_l00Srcnext.w : FnW E := fnW 128 f128_s_l00Srcnext.P sg_lii f128_s_l00Srcnext.A f128_s_l00Srcnext.F f128_s_l00Srcnext.ok

def f76_s_l00Srcpick : Nat → Nat → List T → Int → Int → Int → Option (Int × Nat × List T × Int × Int)
  | 0, _, _, _, _, _ => none
  | n + 1, n1, l2, i3, i4, i5 =>
    br (decide (i5 ≤ (1 : Int))) (
     some ((0 : Int), n1, l2, i3, i4)) (
     bd (f128_s_l00Srcnext n n1 l2 i3 i4) fun r6 =>
     let i7 : Int := r6.1
     let n8 : Nat := r6.2.1
     let l9 : List T := r6.2.2.1
     let i10 : Int := r6.2.2.2.1
     let i11 : Int := r6.2.2.2.2
     br (decide (i5 > (200 : Int))) (
      bd (f128_s_l00Srcnext n n8 l9 i10 i11) fun r12 =>
      let i13 : Int := r12.1
      let n14 : Nat := r12.2.1
      let l15 : List T := r12.2.2.1
      let i16 : Int := r12.2.2.2.1
      let i17 : Int := r12.2.2.2.2
      let i18 : Int := (IntKind.i64.wrap ((IntKind.i64.wrap (i7 * (256 : Int))) + i13))
      gd (!(decide (i5 = (0 : Int)))) (
      some ((Int.tmod i18 i5), n14, l15, i16, i17))) (
      gd (!(decide (i5 = (0 : Int)))) (
      some ((Int.tmod i7 i5), n8, l9, i10, i11))))
def sg_liii : Sig (Nat × List T × Int × Int × Int) where
  pk := fun v => [.lst v.1 v.2.1, .int v.2.2.1, .int v.2.2.2.1, .int v.2.2.2.2]
  up := fun ls => match ls with
    | [.lst a0 a1, .int a2, .int a3, .int a4] => some (a0, a1, a2, a3, a4)
    | _ => none
  ok := by
    intro ls v h
    split at h
    · cases h; rfl
    · cases h

def f76_s_l00Srcpick.P : List Arg := [⟨.iop, ⟨false, [.rf .own [.sl .shr [.leaf], .leaf, .leaf]], [.ref [.lst 0 [], .int .i64 0, .int .u64 0]]⟩⟩, ⟨.val, ⟨false, [.leaf], [.int .i64 0]⟩⟩]
def f76_s_l00Srcpick.A : RAlt (Int × Nat × List T × Int × Int) := .one ⟨[⟨false, [.leaf], [.int .i64 0]⟩], [some ⟨false, [.rf .own [.sl .shr [.leaf], .leaf, .leaf]], [.ref [.lst 0 [], .int .i64 0, .int .u64 0]]⟩, none]⟩ sg_ilii
def f76_s_l00Srcpick.F (n : Nat) (v : Nat × List T × Int × Int × Int) := f76_s_l00Srcpick n v.1 v.2.1 v.2.2.1 v.2.2.2.1 v.2.2.2.2
noncomputable def f76_s_l00Srcpick.O (n : Nat) : Orc := orcOf (E := E) [f128_s_l00Srcnext.w] [] n
theorem f76_s_l00Srcpick.ok : ∀ n v x, f76_s_l00Srcpick.F n v = some x → evalFn E n 76 (flAs f76_s_l00Srcpick.P (sg_liii.pk v)) = some (f76_s_l00Srcpick.A.enc x) :=
  fn_pure (modes := (fdAt 76).ms) (outs := (fdAt 76).os) (results := (fdAt 76).rs) f76_s_l00Srcpick.O (c := c76) (keep := keepAt 76) (by kernel_rfl) (fun n => orcOf_cf _ _ n) (fun n => lpOk_of (bs := []) (by kernel_rfl) .nil) (fun _ => rfl) (fun _ _ => by kernel_rfl)
noncomputable def f76_s_l00Srcpick.w : FnW E := fnW 76 f76_s_l00Srcpick.P sg_liii f76_s_l00Srcpick.A f76_s_l00Srcpick.F f76_s_l00Srcpick.ok

def f129_s_l00Srcone : Nat → Nat → List T → Int → Int → Int → Option (Bool × Nat × List T × Int × Int)
  | 0, _, _, _, _, _ => none
  | n + 1, n1, l2, i3, i4, i5 =>
    bd (f76_s_l00Srcpick n n1 l2 i3 i4 i5) fun r6 =>
    let i7 : Int := r6.1
    let n8 : Nat := r6.2.1
    let l9 : List T := r6.2.2.1
    let i10 : Int := r6.2.2.2.1
    let i11 : Int := r6.2.2.2.2
    some ((i7 == (0 : Int)), n8, l9, i10, i11)
def sg_blii : Sig (Bool × Nat × List T × Int × Int) where
  pk := fun v => [.bool v.1, .lst v.2.1 v.2.2.1, .int v.2.2.2.1, .int v.2.2.2.2]
  up := fun ls => match ls with
    | [.bool a0, .lst a1 a2, .int a3, .int a4] => some (a0, a1, a2, a3, a4)
    | _ => none
  ok := by
    intro ls v h
    split at h
    · cases h; rfl
    · cases h

def f129_s_l00Srcone.P : List Arg := [⟨.iop, ⟨false, [.rf .own [.sl .shr [.leaf], .leaf, .leaf]], [.ref [.lst 0 [], .int .i64 0, .int .u64 0]]⟩⟩, ⟨.val, ⟨false, [.leaf], [.int .i64 0]⟩⟩]
def f129_s_l00Srcone.A : RAlt (Bool × Nat × List T × Int × Int) := .one ⟨[⟨false, [.leaf], [.bool false]⟩], [some ⟨false, [.rf .own [.sl .shr [.leaf], .leaf, .leaf]], [.ref [.lst 0 [], .int .i64 0, .int .u64 0]]⟩, none]⟩ sg_blii
def f129_s_l00Srcone.F (n : Nat) (v : Nat × List T × Int × Int × Int) := f129_s_l00Srcone n v.1 v.2.1 v.2.2.1 v.2.2.2.1 v.2.2.2.2
noncomputable def f129_s_l00Srcone.O (n : Nat) : Orc := orcOf (E := E) [f76_s_l00Srcpick.w] [] n
theorem f129_s_l00Srcone.ok : ∀ n v x, f129_s_l00Srcone.F n v = some x → evalFn E n 129 (flAs f129_s_l00Srcone.P (sg_liii.pk v)) = some (f129_s_l00Srcone.A.enc x) :=
  fn_pure (modes := (fdAt 129).ms) (outs := (fdAt 129).os) (results := (fdAt 129).rs) f129_s_l00Srcone.O (c := c129) (keep := keepAt 129) (by kernel_rfl) (fun n => orcOf_cf _ _ n) (fun n => lpOk_of (bs := []) (by kernel_rfl) .nil) (fun _ => rfl) (fun _ _ => by kernel_rfl)
noncomputable def f129_s_l00Srcone.w : FnW E := fnW 129 f129_s_l00Srcone.P sg_liii f129_s_l00Srcone.A f129_s_l00Srcone.F f129_s_l00Srcone.ok

def f77_s_l01DrawPlain : Nat → Nat → List T → Int → Int → Option (Nat × Nat × List T × Int × Int)
  | 0, _, _, _, _ => none
  | n + 1, n1, l2, i3, i4 =>
    bd (f76_s_l00Srcpick n n1 l2 i3 i4 (129 : Int)) fun r5 =>
    let i6 : Int := r5.1
    let n7 : Nat := r5.2.1
    let l8 : List T := r5.2.2.1
    let i9 : Int := r5.2.2.2.1
    let i10 : Int := r5.2.2.2.2
    let i11 : Int := (IntKind.i64.wrap (i6 - (64 : Int)))
    bd (f129_s_l00Srcone n n7 l8 i9 i10 (4 : Int)) fun r12 =>
    let b13 : Bool := r12.1
    let n14 : Nat := r12.2.1
    let l15 : List T := r12.2.2.1
    let i16 : Int := r12.2.2.2.1
    let i17 : Int := r12.2.2.2.2
    br b13 (
     some ((fdiv FloatKind.f32 (FloatKind.nearest FloatKind.f32 i11) 1088421888), n14, l15, i16, i17)) (
     some ((fdiv FloatKind.f32 (FloatKind.nearest FloatKind.f32 i11) 1098907648), n14, l15, i16, i17))
def sg_flii : Sig (Nat × Nat × List T × Int × Int) where
  pk := fun v => [.flt v.1, .lst v.2.1 v.2.2.1, .int v.2.2.2.1, .int v.2.2.2.2]
  up := fun ls => match ls with
    | [.flt a0, .lst a1 a2, .int a3, .int a4] => some (a0, a1, a2, a3, a4)
    | _ => none
  ok := by
    intro ls v h
    split at h
    · cases h; rfl
    · cases h

def f77_s_l01DrawPlain.P : List Arg := [⟨.iop, ⟨false, [.rf .own [.sl .shr [.leaf], .leaf, .leaf]], [.ref [.lst 0 [], .int .i64 0, .int .u64 0]]⟩⟩]
def f77_s_l01DrawPlain.A : RAlt (Nat × Nat × List T × Int × Int) := .one ⟨[⟨false, [.leaf], [.flt .f32 0]⟩], [some ⟨false, [.rf .own [.sl .shr [.leaf], .leaf, .leaf]], [.ref [.lst 0 [], .int .i64 0, .int .u64 0]]⟩]⟩ sg_flii
def f77_s_l01DrawPlain.F (n : Nat) (v : Nat × List T × Int × Int) := f77_s_l01DrawPlain n v.1 v.2.1 v.2.2.1 v.2.2.2
noncomputable def f77_s_l01DrawPlain.O (n : Nat) : Orc := orcOf (E := E) [f76_s_l00Srcpick.w, f129_s_l00Srcone.w] [] n
theorem f77_s_l01DrawPlain.ok : ∀ n v x, f77_s_l01DrawPlain.F n v = some x → evalFn E n 77 (flAs f77_s_l01DrawPlain.P (sg_lii.pk v)) = some (f77_s_l01DrawPlain.A.enc x) :=
  fn_pure (modes := (fdAt 77).ms) (outs := (fdAt 77).os) (results := (fdAt 77).rs) f77_s_l01DrawPlain.O (c := c77) (keep := keepAt 77) (by kernel_rfl) (fun n => orcOf_cf _ _ n) (fun n => lpOk_of (bs := []) (by kernel_rfl) .nil) (fun _ => rfl) (fun _ _ => by kernel_rfl)
noncomputable def f77_s_l01DrawPlain.w : FnW E := fnW 77 f77_s_l01DrawPlain.P sg_lii f77_s_l01DrawPlain.A f77_s_l01DrawPlain.F f77_s_l01DrawPlain.ok

def f16_s_B10Lane.l0 (n : Nat) : Nat → Nat → List T → Int → Int → Nat → List T → Int → Int → Option (Nat × List T)
  | 0, _, _, _, _, _, _, _, _ => none
  | m + 1, n1, l2, i3, i4, n5, l6, i7, i8 =>
    br (decide (i8 > (0 : Int))) (
     bd (f77_s_l01DrawPlain n n1 l2 i3 i4) fun r9 =>
     let x10 : Nat := r9.1
     let n11 : Nat := r9.2.1
     let l12 : List T := r9.2.2.1
     let i13 : Int := r9.2.2.2.1
     let i14 : Int := r9.2.2.2.2
     gd (Nat.ble (n5 + 1) 2147483648) (
     let n15 : Nat := (n5 + 1)
     let l16 : List T := (l6 ++ (setN (reps 1 [(T.int IntKind.i64 (0 : Int)), (T.flt FloatKind.f32 0)]) 0 [(T.int IntKind.i64 i7), (T.flt FloatKind.f32 x10)]))
     bd (f76_s_l00Srcpick n n11 l12 i13 i14 (8 : Int)) fun r17 =>
     let i18 : Int := r17.1
     let n19 : Nat := r17.2.1
     let l20 : List T := r17.2.2.1
     let i21 : Int := r17.2.2.2.1
     let i22 : Int := r17.2.2.2.2
     let i23 : Int := (IntKind.i64.wrap (i7 + (IntKind.i64.wrap ((1 : Int) + i18))))
     f16_s_B10Lane.l0 n m n19 l20 i21 i22 n15 l16 i23 (IntKind.i64.wrap (i8 - (1 : Int))))) (
     some (n5, l6))
def f16_s_B10Lane : Nat → Nat → List T → Option (Nat × List T)
  | 0, _, _ => none
  | n + 1, n1, l2 =>
    bd (f75_s_l00From n n1 l2) fun r3 =>
    let n4 : Nat := r3.1
    let l5 : List T := r3.2.1
    let i6 : Int := r3.2.2.1
    let i7 : Int := r3.2.2.2
    bd (f76_s_l00Srcpick n n4 l5 i6 i7 (4 : Int)) fun r8 =>
    let i9 : Int := r8.1
    let n10 : Nat := r8.2.1
    let l11 : List T := r8.2.2.1
    let i12 : Int := r8.2.2.2.1
    let i13 : Int := r8.2.2.2.2
    bd (f76_s_l00Srcpick n n10 l11 i12 i13 (5 : Int)) fun r14 =>
    let i15 : Int := r14.1
    let n16 : Nat := r14.2.1
    let l17 : List T := r14.2.2.1
    let i18 : Int := r14.2.2.2.1
    let i19 : Int := r14.2.2.2.2
    bd (f16_s_B10Lane.l0 n n n16 l17 i18 i19 0 (reps 0 [(T.int IntKind.i64 (0 : Int)), (T.flt FloatKind.f32 0)]) i9 (IntKind.i64.wrap ((1 : Int) + i15))) fun r20 =>
    let n21 : Nat := r20.1
    let l22 : List T := r20.2
    some (n21, l22)
def sg_liilii : Sig (Nat × List T × Int × Int × Nat × List T × Int × Int) where
  pk := fun v => [.lst v.1 v.2.1, .int v.2.2.1, .int v.2.2.2.1, .lst v.2.2.2.2.1 v.2.2.2.2.2.1, .int v.2.2.2.2.2.2.1, .int v.2.2.2.2.2.2.2]
  up := fun ls => match ls with
    | [.lst a0 a1, .int a2, .int a3, .lst a4 a5, .int a6, .int a7] => some (a0, a1, a2, a3, a4, a5, a6, a7)
    | _ => none
  ok := by
    intro ls v h
    split at h
    · cases h; rfl
    · cases h

def f16_s_B10Lane.l0.P : AS := ⟨[(3, .box [.sl .shr [.leaf], .leaf, .leaf] [.lst 0 [], .int .i64 0, .int .u64 0] [] 0), (4, .val false [.sl .own [.leaf, .leaf]] [.lst 0 []] [] 0), (5, .val false [.leaf] [.int .i64 0] [] 0), (6, .val false [.leaf] [.int .i64 0] [] 0)], 0⟩
def f16_s_B10Lane.l0.A : Alt (Nat × List T) := .one (.exit 0) ⟨[(4, .val false [.sl .own [.leaf, .leaf]] [.lst 0 []] [] 0)], 0⟩ sg_l
def f16_s_B10Lane.l0.F (n m : Nat) (v : Nat × List T × Int × Int × Nat × List T × Int × Int) := f16_s_B10Lane.l0 n m v.1 v.2.1 v.2.2.1 v.2.2.2.1 v.2.2.2.2.1 v.2.2.2.2.2.1 v.2.2.2.2.2.2.1 v.2.2.2.2.2.2.2
def f16_s_B10Lane.l0.W (n : Nat) : LpW := .of 80 f16_s_B10Lane.l0.P sg_liilii f16_s_B10Lane.l0.A (f16_s_B10Lane.l0.F n n)
def f16_s_B10Lane.P : List Arg := [⟨.val, ⟨false, [.sl .shr [.leaf]], [.lst 0 []]⟩⟩]
def f16_s_B10Lane.A : RAlt (Nat × List T) := .one ⟨[⟨false, [.sl .own [.leaf, .leaf]], [.lst 0 []]⟩], [none]⟩ sg_l
def f16_s_B10Lane.F (n : Nat) (v : Nat × List T) := f16_s_B10Lane n v.1 v.2
noncomputable def f16_s_B10Lane.O (n : Nat) : Orc := orcOf (E := E) [f75_s_l00From.w, f76_s_l00Srcpick.w, f77_s_l01DrawPlain.w] [f16_s_B10Lane.l0.W n] n
theorem f16_s_B10Lane.l0.ok (n : Nat) : LpOk (f16_s_B10Lane.O n) E (evalFn E n) n (keepAt 16) (.loop (loopAt c16 0)) :=
  lp_pure f16_s_B10Lane.l0.P sg_liilii f16_s_B10Lane.l0.A (f16_s_B10Lane.l0.F n) (orcOf_cf _ _ n) (lpOk_of (bs := []) (by kernel_rfl) .nil) (fun _ => rfl) (fun _ _ => by kernel_rfl) (fun _ _ _ => by kernel_rfl)
theorem f16_s_B10Lane.ok : ∀ n v x, f16_s_B10Lane.F n v = some x → evalFn E n 16 (flAs f16_s_B10Lane.P (sg_l.pk v)) = some (f16_s_B10Lane.A.enc x) :=
  fn_pure (modes := (fdAt 16).ms) (outs := (fdAt 16).os) (results := (fdAt 16).rs) f16_s_B10Lane.O (c := c16) (keep := keepAt 16) (by kernel_rfl) (fun n => orcOf_cf _ _ n) (fun n => lpOk_of (bs := [loopAt c16 0]) (by kernel_rfl) (.cons (f16_s_B10Lane.l0.ok n) .nil)) (fun _ => rfl) (fun _ _ => by kernel_rfl)
noncomputable def f16_s_B10Lane.w : FnW E := fnW 16 f16_s_B10Lane.P sg_l f16_s_B10Lane.A f16_s_B10Lane.F f16_s_B10Lane.ok

def f17_l_b10At : Nat → Nat → List T → Int → Int → Option (Int)
  | 0, _, _, _, _ => none
  | n + 1, n1, l2, i3, i4 =>
    br (decide (i4 ≤ (1 : Int))) (
     some (0 : Int)) (
     br (decide (i3 < ((n1 : Nat) : Int))) (
      gd ((decide (((0 : Int) ≤ i3) ∧ (i3 < ((n1 : Nat) : Int)))) && (okAt [(CK.int IntKind.u8)] l2 (Int.toNat i3))) (
      gd (!(decide (i4 = (0 : Int)))) (
      some (Int.tmod (IntKind.i64.wrap (iAt l2 (Int.toNat i3))) i4)))) (
      gd (!(decide (i4 = (0 : Int)))) (
      some (Int.tmod (IntKind.i64.wrap ((IntKind.i64.wrap (i3 * (37 : Int))) + (11 : Int))) i4))))
def sg_i : Sig (Int) where
  pk := fun v => [.int v]
  up := fun ls => match ls with
    | [.int a0] => some a0
    | _ => none
  ok := by
    intro ls v h
    split at h
    · cases h; rfl
    · cases h

def f17_l_b10At.P : List Arg := [⟨.val, ⟨false, [.sl .shr [.leaf]], [.lst 0 []]⟩⟩, ⟨.val, ⟨false, [.leaf], [.int .i64 0]⟩⟩, ⟨.val, ⟨false, [.leaf], [.int .i64 0]⟩⟩]
def f17_l_b10At.A : RAlt (Int) := .one ⟨[⟨false, [.leaf], [.int .i64 0]⟩], [none, none, none]⟩ sg_i
def f17_l_b10At.F (n : Nat) (v : Nat × List T × Int × Int) := f17_l_b10At n v.1 v.2.1 v.2.2.1 v.2.2.2
noncomputable def f17_l_b10At.O (n : Nat) : Orc := orcOf (E := E) [] [] n
theorem f17_l_b10At.ok : ∀ n v x, f17_l_b10At.F n v = some x → evalFn E n 17 (flAs f17_l_b10At.P (sg_lii.pk v)) = some (f17_l_b10At.A.enc x) :=
  fn_pure (modes := (fdAt 17).ms) (outs := (fdAt 17).os) (results := (fdAt 17).rs) f17_l_b10At.O (c := c17) (keep := keepAt 17) (by kernel_rfl) (fun n => orcOf_cf _ _ n) (fun n => lpOk_of (bs := []) (by kernel_rfl) .nil) (fun _ => rfl) (fun _ _ => by kernel_rfl)
noncomputable def f17_l_b10At.w : FnW E := fnW 17 f17_l_b10At.P sg_lii f17_l_b10At.A f17_l_b10At.F f17_l_b10At.ok

def f82_i_size : Nat → Int → Option (Int)
  | 0, _ => none
  | n + 1, i1 =>
    some i1
def f82_i_size.P : List Arg := [⟨.val, ⟨false, [.leaf], [.int .i64 0]⟩⟩]
def f82_i_size.A : RAlt (Int) := .one ⟨[⟨false, [.leaf], [.int .i64 0]⟩], [none]⟩ sg_i
def f82_i_size.F (n : Nat) (v : Int) := f82_i_size n v
noncomputable def f82_i_size.O (n : Nat) : Orc := orcOf (E := E) [] [] n
theorem f82_i_size.ok : ∀ n v x, f82_i_size.F n v = some x → evalFn E n 82 (flAs f82_i_size.P (sg_i.pk v)) = some (f82_i_size.A.enc x) :=
  fn_pure (modes := (fdAt 82).ms) (outs := (fdAt 82).os) (results := (fdAt 82).rs) f82_i_size.O (c := c82) (keep := keepAt 82) (by kernel_rfl) (fun n => orcOf_cf _ _ n) (fun n => lpOk_of (bs := []) (by kernel_rfl) .nil) (fun _ => rfl) (fun _ _ => by kernel_rfl)
noncomputable def f82_i_size.w : FnW E := fnW 82 f82_i_size.P sg_i f82_i_size.A f82_i_size.F f82_i_size.ok

def f83_i_within : Nat → Int → Int → Int → Option (Bool)
  | 0, _, _, _ => none
  | n + 1, i1, i2, i3 =>
    br (decide (i2 ≤ i1)) (
     some (decide (i1 ≤ i3))) (
     some false)
def sg_iii : Sig (Int × Int × Int) where
  pk := fun v => [.int v.1, .int v.2.1, .int v.2.2]
  up := fun ls => match ls with
    | [.int a0, .int a1, .int a2] => some (a0, a1, a2)
    | _ => none
  ok := by
    intro ls v h
    split at h
    · cases h; rfl
    · cases h

def f83_i_within.P : List Arg := [⟨.val, ⟨false, [.leaf], [.int .i64 0]⟩⟩, ⟨.val, ⟨false, [.leaf], [.int .i64 0]⟩⟩, ⟨.val, ⟨false, [.leaf], [.int .i64 0]⟩⟩]
def f83_i_within.A : RAlt (Bool) := .one ⟨[⟨false, [.leaf], [.bool false]⟩], [none, none, none]⟩ sg_b
def f83_i_within.F (n : Nat) (v : Int × Int × Int) := f83_i_within n v.1 v.2.1 v.2.2
noncomputable def f83_i_within.O (n : Nat) : Orc := orcOf (E := E) [] [] n
theorem f83_i_within.ok : ∀ n v x, f83_i_within.F n v = some x → evalFn E n 83 (flAs f83_i_within.P (sg_iii.pk v)) = some (f83_i_within.A.enc x) :=
  fn_pure (modes := (fdAt 83).ms) (outs := (fdAt 83).os) (results := (fdAt 83).rs) f83_i_within.O (c := c83) (keep := keepAt 83) (by kernel_rfl) (fun n => orcOf_cf _ _ n) (fun n => lpOk_of (bs := []) (by kernel_rfl) .nil) (fun _ => rfl) (fun _ _ => by kernel_rfl)
noncomputable def f83_i_within.w : FnW E := fnW 83 f83_i_within.P sg_iii f83_i_within.A f83_i_within.F f83_i_within.ok

def f78_i_isPlace : Nat → Int → Option (Bool)
  | 0, _ => none
  | n + 1, i1 =>
    bd (f83_i_within n i1 (0 : Int) (100000 : Int)) fun r2 =>
    let b3 : Bool := r2
    some b3
def f78_i_isPlace.P : List Arg := [⟨.val, ⟨false, [.leaf], [.int .i64 0]⟩⟩]
def f78_i_isPlace.A : RAlt (Bool) := .one ⟨[⟨false, [.leaf], [.bool false]⟩], [none]⟩ sg_b
def f78_i_isPlace.F (n : Nat) (v : Int) := f78_i_isPlace n v
noncomputable def f78_i_isPlace.O (n : Nat) : Orc := orcOf (E := E) [f83_i_within.w] [] n
theorem f78_i_isPlace.ok : ∀ n v x, f78_i_isPlace.F n v = some x → evalFn E n 78 (flAs f78_i_isPlace.P (sg_i.pk v)) = some (f78_i_isPlace.A.enc x) :=
  fn_pure (modes := (fdAt 78).ms) (outs := (fdAt 78).os) (results := (fdAt 78).rs) f78_i_isPlace.O (c := c78) (keep := keepAt 78) (by kernel_rfl) (fun n => orcOf_cf _ _ n) (fun n => lpOk_of (bs := []) (by kernel_rfl) .nil) (fun _ => rfl) (fun _ _ => by kernel_rfl)
noncomputable def f78_i_isPlace.w : FnW E := fnW 78 f78_i_isPlace.P sg_i f78_i_isPlace.A f78_i_isPlace.F f78_i_isPlace.ok

def f21_i_IsLane.l0 (n : Nat) : Nat → Nat → List T → Nat → List T → Int → Int → Option ((Bool) ⊕ (Unit))
  | 0, _, _, _, _, _, _ => none
  | m + 1, n1, l2, n3, l4, i5, i6 =>
    br (decide (i6 < i5)) (
     gd ((decide (((0 : Int) ≤ i6) ∧ (i6 < ((n3 : Nat) : Int)))) && (okAt [(CK.int IntKind.i64), (CK.flt FloatKind.f32)] l4 (((Int.toNat i6) * 2) + 0))) (
     let i7 : Int := (iAt l4 (((Int.toNat i6) * 2) + 0))
     let x8 : Nat := (fAt l4 ((((Int.toNat i6) * 2) + 0) + 1))
     bd (f78_i_isPlace n i7) fun r9 =>
     let b10 : Bool := r9
     br (!b10) (
      some (Sum.inl false)) (
      br (decide (i6 > (0 : Int))) (
       gd ((decide (((0 : Int) ≤ (IntKind.i64.wrap (i6 - (1 : Int)))) ∧ ((IntKind.i64.wrap (i6 - (1 : Int))) < ((n1 : Nat) : Int)))) && (okAt [(CK.int IntKind.i64), (CK.flt FloatKind.f32)] l2 (((Int.toNat (IntKind.i64.wrap (i6 - (1 : Int)))) * 2) + 0))) (
       br (decide ((iAt l2 (ix 2 (Int.toNat (IntKind.i64.wrap (i6 - (1 : Int)))) 0)) ≥ i7)) (
        some (Sum.inl false)) (
        f21_i_IsLane.l0 n m n1 l2 n3 l4 i5 (IntKind.i64.wrap (i6 + (1 : Int)))))) (
       f21_i_IsLane.l0 n m n1 l2 n3 l4 i5 (IntKind.i64.wrap (i6 + (1 : Int))))))) (
     some (Sum.inr ()))
def f21_i_IsLane : Nat → Nat → List T → Option (Bool)
  | 0, _, _ => none
  | n + 1, n1, l2 =>
    bd (f82_i_size n ((n1 : Nat) : Int)) fun r3 =>
    let i4 : Int := r3
    bd (f83_i_within n i4 (1 : Int) (12 : Int)) fun r5 =>
    let b6 : Bool := r5
    br (!b6) (
     some false) (
     bd (f21_i_IsLane.l0 n n n1 l2 n1 l2 ((n1 : Nat) : Int) (0 : Int)) fun r7 =>
     sm r7 (fun u8 =>
      let b9 : Bool := u8
      some b9) (fun u10 =>
      some true))
def sg_llii : Sig (Nat × List T × Nat × List T × Int × Int) where
  pk := fun v => [.lst v.1 v.2.1, .lst v.2.2.1 v.2.2.2.1, .int v.2.2.2.2.1, .int v.2.2.2.2.2]
  up := fun ls => match ls with
    | [.lst a0 a1, .lst a2 a3, .int a4, .int a5] => some (a0, a1, a2, a3, a4, a5)
    | _ => none
  ok := by
    intro ls v h
    split at h
    · cases h; rfl
    · cases h

def sg : Sig (Unit) where
  pk := fun v => []
  up := fun ls => match ls with
    | [] => some ()
    | _ => none
  ok := by
    intro ls v h
    split at h
    · cases h; rfl
    · cases h

def f21_i_IsLane.l0.P : AS := ⟨[(0, .val false [.sl .shr [.leaf, .leaf]] [.lst 0 []] [] 0), (10, .val false [.sl .shr [.leaf, .leaf]] [.lst 0 []] [] 0), (11, .val false [.leaf] [.int .i64 0] [] 0), (12, .val false [.leaf] [.int .i64 0] [] 0)], 0⟩
def f21_i_IsLane.l0.A : Alt ((Bool) ⊕ (Unit)) := .or (.one .ret ⟨[(2, .val false [.leaf] [.bool false] [] 0)], 0⟩ sg_b) (.one (.exit 0) ⟨[(2, .dead)], 0⟩ sg)
def f21_i_IsLane.l0.F (n m : Nat) (v : Nat × List T × Nat × List T × Int × Int) := f21_i_IsLane.l0 n m v.1 v.2.1 v.2.2.1 v.2.2.2.1 v.2.2.2.2.1 v.2.2.2.2.2
def f21_i_IsLane.l0.W (n : Nat) : LpW := .of 64 f21_i_IsLane.l0.P sg_llii f21_i_IsLane.l0.A (f21_i_IsLane.l0.F n n)
def f21_i_IsLane.P : List Arg := [⟨.val, ⟨false, [.sl .shr [.leaf, .leaf]], [.lst 0 []]⟩⟩]
def f21_i_IsLane.A : RAlt (Bool) := .one ⟨[⟨false, [.leaf], [.bool false]⟩], [none]⟩ sg_b
def f21_i_IsLane.F (n : Nat) (v : Nat × List T) := f21_i_IsLane n v.1 v.2
noncomputable def f21_i_IsLane.O (n : Nat) : Orc := orcOf (E := E) [f82_i_size.w, f83_i_within.w, f78_i_isPlace.w] [f21_i_IsLane.l0.W n] n
theorem f21_i_IsLane.l0.ok (n : Nat) : LpOk (f21_i_IsLane.O n) E (evalFn E n) n (keepAt 21) (.loop (loopAt c21 0)) :=
  lp_pure f21_i_IsLane.l0.P sg_llii f21_i_IsLane.l0.A (f21_i_IsLane.l0.F n) (orcOf_cf _ _ n) (lpOk_of (bs := []) (by kernel_rfl) .nil) (fun _ => rfl) (fun _ _ => by kernel_rfl) (fun _ _ _ => by kernel_rfl)
theorem f21_i_IsLane.ok : ∀ n v x, f21_i_IsLane.F n v = some x → evalFn E n 21 (flAs f21_i_IsLane.P (sg_l.pk v)) = some (f21_i_IsLane.A.enc x) :=
  fn_pure (modes := (fdAt 21).ms) (outs := (fdAt 21).os) (results := (fdAt 21).rs) f21_i_IsLane.O (c := c21) (keep := keepAt 21) (by kernel_rfl) (fun n => orcOf_cf _ _ n) (fun n => lpOk_of (bs := [loopAt c21 0]) (by kernel_rfl) (.cons (f21_i_IsLane.l0.ok n) .nil)) (fun _ => rfl) (fun _ _ => by kernel_rfl)
noncomputable def f21_i_IsLane.w : FnW E := fnW 21 f21_i_IsLane.P sg_l f21_i_IsLane.A f21_i_IsLane.F f21_i_IsLane.ok

def f79_i_isCount : Nat → Int → Option (Bool)
  | 0, _ => none
  | n + 1, i1 =>
    bd (f83_i_within n i1 (0 : Int) (256 : Int)) fun r2 =>
    let b3 : Bool := r2
    some b3
def f79_i_isCount.P : List Arg := [⟨.val, ⟨false, [.leaf], [.int .i64 0]⟩⟩]
def f79_i_isCount.A : RAlt (Bool) := .one ⟨[⟨false, [.leaf], [.bool false]⟩], [none]⟩ sg_b
def f79_i_isCount.F (n : Nat) (v : Int) := f79_i_isCount n v
noncomputable def f79_i_isCount.O (n : Nat) : Orc := orcOf (E := E) [f83_i_within.w] [] n
theorem f79_i_isCount.ok : ∀ n v x, f79_i_isCount.F n v = some x → evalFn E n 79 (flAs f79_i_isCount.P (sg_i.pk v)) = some (f79_i_isCount.A.enc x) :=
  fn_pure (modes := (fdAt 79).ms) (outs := (fdAt 79).os) (results := (fdAt 79).rs) f79_i_isCount.O (c := c79) (keep := keepAt 79) (by kernel_rfl) (fun n => orcOf_cf _ _ n) (fun n => lpOk_of (bs := []) (by kernel_rfl) .nil) (fun _ => rfl) (fun _ _ => by kernel_rfl)
noncomputable def f79_i_isCount.w : FnW E := fnW 79 f79_i_isCount.P sg_i f79_i_isCount.A f79_i_isCount.F f79_i_isCount.ok

def f118_i_share : Nat → Int → Int → Option (Nat)
  | 0, _, _ => none
  | n + 1, i1, i2 =>
    some (fdiv FloatKind.f32 (FloatKind.nearest FloatKind.f32 i1) (FloatKind.nearest FloatKind.f32 i2))
def sg_ii : Sig (Int × Int) where
  pk := fun v => [.int v.1, .int v.2]
  up := fun ls => match ls with
    | [.int a0, .int a1] => some (a0, a1)
    | _ => none
  ok := by
    intro ls v h
    split at h
    · cases h; rfl
    · cases h

def sg_f : Sig (Nat) where
  pk := fun v => [.flt v]
  up := fun ls => match ls with
    | [.flt a0] => some a0
    | _ => none
  ok := by
    intro ls v h
    split at h
    · cases h; rfl
    · cases h

def f118_i_share.P : List Arg := [⟨.val, ⟨false, [.leaf], [.int .i64 0]⟩⟩, ⟨.val, ⟨false, [.leaf], [.int .i64 0]⟩⟩]
def f118_i_share.A : RAlt (Nat) := .one ⟨[⟨false, [.leaf], [.flt .f32 0]⟩], [none, none]⟩ sg_f
def f118_i_share.F (n : Nat) (v : Int × Int) := f118_i_share n v.1 v.2
noncomputable def f118_i_share.O (n : Nat) : Orc := orcOf (E := E) [] [] n
theorem f118_i_share.ok : ∀ n v x, f118_i_share.F n v = some x → evalFn E n 118 (flAs f118_i_share.P (sg_ii.pk v)) = some (f118_i_share.A.enc x) :=
  fn_pure (modes := (fdAt 118).ms) (outs := (fdAt 118).os) (results := (fdAt 118).rs) f118_i_share.O (c := c118) (keep := keepAt 118) (by kernel_rfl) (fun n => orcOf_cf _ _ n) (fun n => lpOk_of (bs := []) (by kernel_rfl) .nil) (fun _ => rfl) (fun _ _ => by kernel_rfl)
noncomputable def f118_i_share.w : FnW E := fnW 118 f118_i_share.P sg_ii f118_i_share.A f118_i_share.F f118_i_share.ok

def f80_i_laneAt.l0 (n : Nat) : Nat → Nat → List T → Int → Int → Option ((Nat) ⊕ (Nat × List T))
  | 0, _, _, _, _ => none
  | m + 1, n1, l2, i3, i4 =>
    br (decide (i4 < ((n1 : Nat) : Int))) (
     gd ((decide (((0 : Int) ≤ (IntKind.i64.wrap (i4 - (1 : Int)))) ∧ ((IntKind.i64.wrap (i4 - (1 : Int))) < ((n1 : Nat) : Int)))) && (okAt [(CK.int IntKind.i64), (CK.flt FloatKind.f32)] l2 (((Int.toNat (IntKind.i64.wrap (i4 - (1 : Int)))) * 2) + 0))) (
     gd ((decide (((0 : Int) ≤ i4) ∧ (i4 < ((n1 : Nat) : Int)))) && (okAt [(CK.int IntKind.i64), (CK.flt FloatKind.f32)] l2 (((Int.toNat i4) * 2) + 0))) (
     let i5 : Int := (iAt l2 (((Int.toNat (IntKind.i64.wrap (i4 - (1 : Int)))) * 2) + 0))
     let x6 : Nat := (fAt l2 ((((Int.toNat (IntKind.i64.wrap (i4 - (1 : Int)))) * 2) + 0) + 1))
     let i7 : Int := (iAt l2 (((Int.toNat i4) * 2) + 0))
     let x8 : Nat := (fAt l2 ((((Int.toNat i4) * 2) + 0) + 1))
     br (i3 == i7) (
      some (Sum.inl x8)) (
      br (decide (i3 < i7)) (
       bd (f118_i_share n (IntKind.i64.wrap (i3 - i5)) (IntKind.i64.wrap (i7 - i5))) fun r9 =>
       let x10 : Nat := r9
       some (Sum.inl (fadd FloatKind.f32 x6 (fmul FloatKind.f32 (fsub FloatKind.f32 x8 x6) x10)))) (
       f80_i_laneAt.l0 n m n1 l2 i3 (IntKind.i64.wrap (i4 + (1 : Int)))))))) (
     some (Sum.inr (n1, l2)))
def f80_i_laneAt : Nat → Nat → List T → Int → Option (Nat)
  | 0, _, _, _ => none
  | n + 1, n1, l2, i3 =>
    gd ((decide (((0 : Int) ≤ (0 : Int)) ∧ ((0 : Int) < ((n1 : Nat) : Int)))) && (okAt [(CK.int IntKind.i64), (CK.flt FloatKind.f32)] l2 0)) (
    br (decide (i3 ≤ (iAt l2 0))) (
     gd ((decide (((0 : Int) ≤ (0 : Int)) ∧ ((0 : Int) < ((n1 : Nat) : Int)))) && (okAt [(CK.int IntKind.i64), (CK.flt FloatKind.f32)] l2 0)) (
     some (fAt l2 1))) (
     bd (f80_i_laneAt.l0 n n n1 l2 i3 (1 : Int)) fun r4 =>
     sm r4 (fun u5 =>
      let x6 : Nat := u5
      some x6) (fun u7 =>
      let n8 : Nat := u7.1
      let l9 : List T := u7.2
      gd ((decide (((0 : Int) ≤ (IntKind.i64.wrap (((n8 : Nat) : Int) - (1 : Int)))) ∧ ((IntKind.i64.wrap (((n8 : Nat) : Int) - (1 : Int))) < ((n8 : Nat) : Int)))) && (okAt [(CK.int IntKind.i64), (CK.flt FloatKind.f32)] l9 (((Int.toNat (IntKind.i64.wrap (((n8 : Nat) : Int) - (1 : Int)))) * 2) + 0))) (
      some (fAt l9 ((((Int.toNat (IntKind.i64.wrap (((n8 : Nat) : Int) - (1 : Int)))) * 2) + 0) + 1))))))
def sg_li : Sig (Nat × List T × Int) where
  pk := fun v => [.lst v.1 v.2.1, .int v.2.2]
  up := fun ls => match ls with
    | [.lst a0 a1, .int a2] => some (a0, a1, a2)
    | _ => none
  ok := by
    intro ls v h
    split at h
    · cases h; rfl
    · cases h

def f80_i_laneAt.l0.P : AS := ⟨[(0, .val false [.sl .shr [.leaf, .leaf]] [.lst 0 []] [] 0), (1, .val false [.leaf] [.int .i64 0] [] 0), (5, .val false [.leaf] [.int .i64 0] [] 0)], 0⟩
def f80_i_laneAt.l0.A : Alt ((Nat) ⊕ (Nat × List T)) := .or (.one .ret ⟨[(0, .dead), (4, .val false [.leaf] [.flt .f32 0] [] 0)], 0⟩ sg_f) (.one (.exit 0) ⟨[(0, .val false [.sl .shr [.leaf, .leaf]] [.lst 0 []] [] 0), (4, .dead)], 0⟩ sg_l)
def f80_i_laneAt.l0.F (n m : Nat) (v : Nat × List T × Int × Int) := f80_i_laneAt.l0 n m v.1 v.2.1 v.2.2.1 v.2.2.2
def f80_i_laneAt.l0.W (n : Nat) : LpW := .of 64 f80_i_laneAt.l0.P sg_lii f80_i_laneAt.l0.A (f80_i_laneAt.l0.F n n)
def f80_i_laneAt.P : List Arg := [⟨.val, ⟨false, [.sl .shr [.leaf, .leaf]], [.lst 0 []]⟩⟩, ⟨.val, ⟨false, [.leaf], [.int .i64 0]⟩⟩]
def f80_i_laneAt.A : RAlt (Nat) := .one ⟨[⟨false, [.leaf], [.flt .f32 0]⟩], [none, none]⟩ sg_f
def f80_i_laneAt.F (n : Nat) (v : Nat × List T × Int) := f80_i_laneAt n v.1 v.2.1 v.2.2
noncomputable def f80_i_laneAt.O (n : Nat) : Orc := orcOf (E := E) [f118_i_share.w] [f80_i_laneAt.l0.W n] n
theorem f80_i_laneAt.l0.ok (n : Nat) : LpOk (f80_i_laneAt.O n) E (evalFn E n) n (keepAt 80) (.loop (loopAt c80 0)) :=
  lp_pure f80_i_laneAt.l0.P sg_lii f80_i_laneAt.l0.A (f80_i_laneAt.l0.F n) (orcOf_cf _ _ n) (lpOk_of (bs := []) (by kernel_rfl) .nil) (fun _ => rfl) (fun _ _ => by kernel_rfl) (fun _ _ _ => by kernel_rfl)
theorem f80_i_laneAt.ok : ∀ n v x, f80_i_laneAt.F n v = some x → evalFn E n 80 (flAs f80_i_laneAt.P (sg_li.pk v)) = some (f80_i_laneAt.A.enc x) :=
  fn_pure (modes := (fdAt 80).ms) (outs := (fdAt 80).os) (results := (fdAt 80).rs) f80_i_laneAt.O (c := c80) (keep := keepAt 80) (by kernel_rfl) (fun n => orcOf_cf _ _ n) (fun n => lpOk_of (bs := [loopAt c80 0]) (by kernel_rfl) (.cons (f80_i_laneAt.l0.ok n) .nil)) (fun _ => rfl) (fun _ _ => by kernel_rfl)
noncomputable def f80_i_laneAt.w : FnW E := fnW 80 f80_i_laneAt.P sg_li f80_i_laneAt.A f80_i_laneAt.F f80_i_laneAt.ok

def f18_i_RunLane.l0 (n : Nat) : Nat → Nat → List T → Int → Int → Nat → List T → Int → Option (Nat × List T)
  | 0, _, _, _, _, _, _, _ => none
  | m + 1, n1, l2, i3, i4, n5, l6, i7 =>
    br (decide (i7 < i4)) (
     bd (f80_i_laneAt n n1 l2 (IntKind.i64.wrap (i3 + i7))) fun r8 =>
     let x9 : Nat := r8
     gd (Nat.ble (n5 + 1) 2147483648) (
     let n10 : Nat := (n5 + 1)
     let l11 : List T := (l6 ++ (setN (reps 1 [(T.flt FloatKind.f32 0)]) 0 [(T.flt FloatKind.f32 x9)]))
     f18_i_RunLane.l0 n m n1 l2 i3 i4 n10 l11 (IntKind.i64.wrap (i7 + (1 : Int))))) (
     some (n5, l6))
def f18_i_RunLane : Nat → Nat → List T → Int → Int → Option (Nat × List T × Bool)
  | 0, _, _, _, _ => none
  | n + 1, n1, l2, i3, i4 =>
    bd (f21_i_IsLane n n1 l2) fun r5 =>
    let b6 : Bool := r5
    br (!b6) (
     some (0, [], false)) (
     bd (f78_i_isPlace n i3) fun r7 =>
     let b8 : Bool := r7
     br (!b8) (
      some (0, [], false)) (
      bd (f79_i_isCount n i4) fun r9 =>
      let b10 : Bool := r9
      br (!b10) (
       some (0, [], false)) (
       br (decide ((IntKind.i64.wrap ((IntKind.i64.wrap (i3 + i4)) - (1 : Int))) > (100000 : Int))) (
        some (0, [], false)) (
        bd (f18_i_RunLane.l0 n n n1 l2 i3 i4 0 [] (0 : Int)) fun r11 =>
        let n12 : Nat := r11.1
        let l13 : List T := r11.2
        some (n12, l13, true)))))
def sg_lb : Sig (Nat × List T × Bool) where
  pk := fun v => [.lst v.1 v.2.1, .bool v.2.2]
  up := fun ls => match ls with
    | [.lst a0 a1, .bool a2] => some (a0, a1, a2)
    | _ => none
  ok := by
    intro ls v h
    split at h
    · cases h; rfl
    · cases h

def sg_liili : Sig (Nat × List T × Int × Int × Nat × List T × Int) where
  pk := fun v => [.lst v.1 v.2.1, .int v.2.2.1, .int v.2.2.2.1, .lst v.2.2.2.2.1 v.2.2.2.2.2.1, .int v.2.2.2.2.2.2]
  up := fun ls => match ls with
    | [.lst a0 a1, .int a2, .int a3, .lst a4 a5, .int a6] => some (a0, a1, a2, a3, a4, a5, a6)
    | _ => none
  ok := by
    intro ls v h
    split at h
    · cases h; rfl
    · cases h

def f18_i_RunLane.l0.P : AS := ⟨[(0, .val false [.sl .shr [.leaf, .leaf]] [.lst 0 []] [] 0), (1, .val false [.leaf] [.int .i64 0] [] 0), (2, .val false [.leaf] [.int .i64 0] [] 0), (8, .val false [.sl .own [.leaf]] [.lst 0 []] [] 0), (9, .val false [.leaf] [.int .i64 0] [] 0)], 0⟩
def f18_i_RunLane.l0.A : Alt (Nat × List T) := .one (.exit 0) ⟨[(8, .val false [.sl .own [.leaf]] [.lst 0 []] [] 0)], 0⟩ sg_l
def f18_i_RunLane.l0.F (n m : Nat) (v : Nat × List T × Int × Int × Nat × List T × Int) := f18_i_RunLane.l0 n m v.1 v.2.1 v.2.2.1 v.2.2.2.1 v.2.2.2.2.1 v.2.2.2.2.2.1 v.2.2.2.2.2.2
def f18_i_RunLane.l0.W (n : Nat) : LpW := .of 80 f18_i_RunLane.l0.P sg_liili f18_i_RunLane.l0.A (f18_i_RunLane.l0.F n n)
def f18_i_RunLane.P : List Arg := [⟨.val, ⟨false, [.sl .shr [.leaf, .leaf]], [.lst 0 []]⟩⟩, ⟨.val, ⟨false, [.leaf], [.int .i64 0]⟩⟩, ⟨.val, ⟨false, [.leaf], [.int .i64 0]⟩⟩]
def f18_i_RunLane.A : RAlt (Nat × List T × Bool) := .one ⟨[⟨false, [.sl .own [.leaf]], [.lst 0 []]⟩, ⟨false, [.leaf], [.bool false]⟩], [none, none, none]⟩ sg_lb
def f18_i_RunLane.F (n : Nat) (v : Nat × List T × Int × Int) := f18_i_RunLane n v.1 v.2.1 v.2.2.1 v.2.2.2
noncomputable def f18_i_RunLane.O (n : Nat) : Orc := orcOf (E := E) [f78_i_isPlace.w, f21_i_IsLane.w, f79_i_isCount.w, f80_i_laneAt.w] [f18_i_RunLane.l0.W n] n
theorem f18_i_RunLane.l0.ok (n : Nat) : LpOk (f18_i_RunLane.O n) E (evalFn E n) n (keepAt 18) (.loop (loopAt c18 0)) :=
  lp_pure f18_i_RunLane.l0.P sg_liili f18_i_RunLane.l0.A (f18_i_RunLane.l0.F n) (orcOf_cf _ _ n) (lpOk_of (bs := []) (by kernel_rfl) .nil) (fun _ => rfl) (fun _ _ => by kernel_rfl) (fun _ _ _ => by kernel_rfl)
theorem f18_i_RunLane.ok : ∀ n v x, f18_i_RunLane.F n v = some x → evalFn E n 18 (flAs f18_i_RunLane.P (sg_lii.pk v)) = some (f18_i_RunLane.A.enc x) :=
  fn_pure (modes := (fdAt 18).ms) (outs := (fdAt 18).os) (results := (fdAt 18).rs) f18_i_RunLane.O (c := c18) (keep := keepAt 18) (by kernel_rfl) (fun n => orcOf_cf _ _ n) (fun n => lpOk_of (bs := [loopAt c18 0]) (by kernel_rfl) (.cons (f18_i_RunLane.l0.ok n) .nil)) (fun _ => rfl) (fun _ _ => by kernel_rfl)
noncomputable def f18_i_RunLane.w : FnW E := fnW 18 f18_i_RunLane.P sg_lii f18_i_RunLane.A f18_i_RunLane.F f18_i_RunLane.ok

def f132_s_l00Srcamong : Nat → Nat → List T → Int → Int → Nat → List T → Option (Int × Nat × List T × Int × Int × Nat × List T)
  | 0, _, _, _, _, _, _ => none
  | n + 1, n1, l2, i3, i4, n5, l6 =>
    bd (f76_s_l00Srcpick n n1 l2 i3 i4 ((n5 : Nat) : Int)) fun r7 =>
    let i8 : Int := r7.1
    let n9 : Nat := r7.2.1
    let l10 : List T := r7.2.2.1
    let i11 : Int := r7.2.2.2.1
    let i12 : Int := r7.2.2.2.2
    gd (decide (((0 : Int) ≤ i8) ∧ (i8 < ((n5 : Nat) : Int)))) (
    gd (okAt [(CK.int IntKind.i64)] l6 (Int.toNat i8)) (
    some ((iAt l6 (Int.toNat i8)), n9, l10, i11, i12, n5, l6)))
def sg_liil : Sig (Nat × List T × Int × Int × Nat × List T) where
  pk := fun v => [.lst v.1 v.2.1, .int v.2.2.1, .int v.2.2.2.1, .lst v.2.2.2.2.1 v.2.2.2.2.2]
  up := fun ls => match ls with
    | [.lst a0 a1, .int a2, .int a3, .lst a4 a5] => some (a0, a1, a2, a3, a4, a5)
    | _ => none
  ok := by
    intro ls v h
    split at h
    · cases h; rfl
    · cases h

def sg_iliil : Sig (Int × Nat × List T × Int × Int × Nat × List T) where
  pk := fun v => [.int v.1, .lst v.2.1 v.2.2.1, .int v.2.2.2.1, .int v.2.2.2.2.1, .lst v.2.2.2.2.2.1 v.2.2.2.2.2.2]
  up := fun ls => match ls with
    | [.int a0, .lst a1 a2, .int a3, .int a4, .lst a5 a6] => some (a0, a1, a2, a3, a4, a5, a6)
    | _ => none
  ok := by
    intro ls v h
    split at h
    · cases h; rfl
    · cases h

def f132_s_l00Srcamong.P : List Arg := [⟨.iop, ⟨false, [.rf .own [.sl .shr [.leaf], .leaf, .leaf]], [.ref [.lst 0 [], .int .i64 0, .int .u64 0]]⟩⟩, ⟨.io, ⟨false, [.sl .own [.leaf]], [.lst 0 []]⟩⟩]
def f132_s_l00Srcamong.A : RAlt (Int × Nat × List T × Int × Int × Nat × List T) := .one ⟨[⟨false, [.leaf], [.int .i64 0]⟩], [some ⟨false, [.rf .own [.sl .shr [.leaf], .leaf, .leaf]], [.ref [.lst 0 [], .int .i64 0, .int .u64 0]]⟩, some ⟨false, [.sl .own [.leaf]], [.lst 0 []]⟩]⟩ sg_iliil
def f132_s_l00Srcamong.F (n : Nat) (v : Nat × List T × Int × Int × Nat × List T) := f132_s_l00Srcamong n v.1 v.2.1 v.2.2.1 v.2.2.2.1 v.2.2.2.2.1 v.2.2.2.2.2
noncomputable def f132_s_l00Srcamong.O (n : Nat) : Orc := orcOf (E := E) [f76_s_l00Srcpick.w] [] n
theorem f132_s_l00Srcamong.ok : ∀ n v x, f132_s_l00Srcamong.F n v = some x → evalFn E n 132 (flAs f132_s_l00Srcamong.P (sg_liil.pk v)) = some (f132_s_l00Srcamong.A.enc x) :=
  fn_pure (modes := (fdAt 132).ms) (outs := (fdAt 132).os) (results := (fdAt 132).rs) f132_s_l00Srcamong.O (c := c132) (keep := keepAt 132) (by kernel_rfl) (fun n => orcOf_cf _ _ n) (fun n => lpOk_of (bs := []) (by kernel_rfl) .nil) (fun _ => rfl) (fun _ _ => by kernel_rfl)
noncomputable def f132_s_l00Srcamong.w : FnW E := fnW 132 f132_s_l00Srcamong.P sg_liil f132_s_l00Srcamong.A f132_s_l00Srcamong.F f132_s_l00Srcamong.ok

def f131_s_l01From : Nat → Int → Option (Nat)
  | 0, _ => none
  | n + 1, i1 =>
    bd (xF32frombits n (IntKind.u32.wrap i1)) fun r2 =>
    let x3 : Nat := r2
    some x3
def f131_s_l01From.P : List Arg := [⟨.val, ⟨false, [.leaf], [.int .i64 0]⟩⟩]
def f131_s_l01From.A : RAlt (Nat) := .one ⟨[⟨false, [.leaf], [.flt .f32 0]⟩], [none]⟩ sg_f
def f131_s_l01From.F (n : Nat) (v : Int) := f131_s_l01From n v
noncomputable def f131_s_l01From.O (n : Nat) : Orc := orcOf (E := E) [x140.w] [] n
theorem f131_s_l01From.ok : ∀ n v x, f131_s_l01From.F n v = some x → evalFn E n 131 (flAs f131_s_l01From.P (sg_i.pk v)) = some (f131_s_l01From.A.enc x) :=
  fn_pure (modes := (fdAt 131).ms) (outs := (fdAt 131).os) (results := (fdAt 131).rs) f131_s_l01From.O (c := c131) (keep := keepAt 131) (by kernel_rfl) (fun n => orcOf_cf _ _ n) (fun n => lpOk_of (bs := []) (by kernel_rfl) .nil) (fun _ => rfl) (fun _ _ => by kernel_rfl)
noncomputable def f131_s_l01From.w : FnW E := fnW 131 f131_s_l01From.P sg_i f131_s_l01From.A f131_s_l01From.F f131_s_l01From.ok

def f99_s_l01DrawFloat : Nat → Nat → List T → Int → Int → Option (Nat × Nat × List T × Int × Int)
  | 0, _, _, _, _ => none
  | n + 1, n1, l2, i3, i4 =>
    bd (f129_s_l00Srcone n n1 l2 i3 i4 (12 : Int)) fun r5 =>
    let b6 : Bool := r5.1
    let n7 : Nat := r5.2.1
    let l8 : List T := r5.2.2.1
    let i9 : Int := r5.2.2.2.1
    let i10 : Int := r5.2.2.2.2
    br (!b6) (
     bd (f77_s_l01DrawPlain n n7 l8 i9 i10) fun r11 =>
     let x12 : Nat := r11.1
     let n13 : Nat := r11.2.1
     let l14 : List T := r11.2.2.1
     let i15 : Int := r11.2.2.2.1
     let i16 : Int := r11.2.2.2.2
     some (x12, n13, l14, i15, i16)) (
     bd (f76_s_l00Srcpick n n7 l8 i9 i10 (4 : Int)) fun r17 =>
     let i18 : Int := r17.1
     let n19 : Nat := r17.2.1
     let l20 : List T := r17.2.2.1
     let i21 : Int := r17.2.2.2.1
     let i22 : Int := r17.2.2.2.2
     br (i18 == (0 : Int)) (
      bd (f132_s_l00Srcamong n n19 l20 i21 i22 10 (setN (setN (setN (setN (setN (setN (setN (setN (setN (setN (reps 10 [(T.int IntKind.i64 (0 : Int))]) 0 [(T.int IntKind.i64 (0 : Int))]) 1 [(T.int IntKind.i64 (2147483648 : Int))]) 2 [(T.int IntKind.i64 (2139095040 : Int))]) 3 [(T.int IntKind.i64 (4286578688 : Int))]) 4 [(T.int IntKind.i64 (2143289344 : Int))]) 5 [(T.int IntKind.i64 (1 : Int))]) 6 [(T.int IntKind.i64 (2139095039 : Int))]) 7 [(T.int IntKind.i64 (8388608 : Int))]) 8 [(T.int IntKind.i64 (8388607 : Int))]) 9 [(T.int IntKind.i64 (2147483649 : Int))])) fun r23 =>
      let i24 : Int := r23.1
      let n25 : Nat := r23.2.1
      let l26 : List T := r23.2.2.1
      let i27 : Int := r23.2.2.2.1
      let i28 : Int := r23.2.2.2.2.1
      let n29 : Nat := r23.2.2.2.2.2.1
      let l30 : List T := r23.2.2.2.2.2.2
      bd (f131_s_l01From n i24) fun r31 =>
      let x32 : Nat := r31
      some (x32, n25, l26, i27, i28)) (
      br (i18 == (1 : Int)) (
       bd (f76_s_l00Srcpick n n19 l20 i21 i22 (65536 : Int)) fun r33 =>
       let i34 : Int := r33.1
       let n35 : Nat := r33.2.1
       let l36 : List T := r33.2.2.1
       let i37 : Int := r33.2.2.2.1
       let i38 : Int := r33.2.2.2.2
       let i39 : Int := (IntKind.i64.wrap (i34 * (65536 : Int)))
       bd (f76_s_l00Srcpick n n35 l36 i37 i38 (65536 : Int)) fun r40 =>
       let i41 : Int := r40.1
       let n42 : Nat := r40.2.1
       let l43 : List T := r40.2.2.1
       let i44 : Int := r40.2.2.2.1
       let i45 : Int := r40.2.2.2.2
       bd (f131_s_l01From n (IntKind.i64.wrap (i39 + i41))) fun r46 =>
       let x47 : Nat := r46
       some (x47, n42, l43, i44, i45)) (
       br (i18 == (2 : Int)) (
        bd (f76_s_l00Srcpick n n19 l20 i21 i22 (65536 : Int)) fun r48 =>
        let i49 : Int := r48.1
        let n50 : Nat := r48.2.1
        let l51 : List T := r48.2.2.1
        let i52 : Int := r48.2.2.2.1
        let i53 : Int := r48.2.2.2.2
        bd (f131_s_l01From n (IntKind.i64.wrap (i49 * (65536 : Int)))) fun r54 =>
        let x55 : Nat := r54
        some (x55, n50, l51, i52, i53)) (
        bd (f77_s_l01DrawPlain n n19 l20 i21 i22) fun r56 =>
        let x57 : Nat := r56.1
        let n58 : Nat := r56.2.1
        let l59 : List T := r56.2.2.1
        let i60 : Int := r56.2.2.2.1
        let i61 : Int := r56.2.2.2.2
        bd (f132_s_l00Srcamong n n58 l59 i60 i61 4 (setN (setN (setN (setN (reps 4 [(T.int IntKind.i64 (0 : Int))]) 0 [(T.int IntKind.i64 (8388608 : Int))]) 1 [(T.int IntKind.i64 (2130706432 : Int))]) 2 [(T.int IntKind.i64 (1610612736 : Int))]) 3 [(T.int IntKind.i64 (536870912 : Int))])) fun r62 =>
        let i63 : Int := r62.1
        let n64 : Nat := r62.2.1
        let l65 : List T := r62.2.2.1
        let i66 : Int := r62.2.2.2.1
        let i67 : Int := r62.2.2.2.2.1
        let n68 : Nat := r62.2.2.2.2.2.1
        let l69 : List T := r62.2.2.2.2.2.2
        bd (f131_s_l01From n i63) fun r70 =>
        let x71 : Nat := r70
        some ((fmul FloatKind.f32 x57 x71), n64, l65, i66, i67)))))
def f99_s_l01DrawFloat.P : List Arg := [⟨.iop, ⟨false, [.rf .own [.sl .shr [.leaf], .leaf, .leaf]], [.ref [.lst 0 [], .int .i64 0, .int .u64 0]]⟩⟩]
def f99_s_l01DrawFloat.A : RAlt (Nat × Nat × List T × Int × Int) := .one ⟨[⟨false, [.leaf], [.flt .f32 0]⟩], [some ⟨false, [.rf .own [.sl .shr [.leaf], .leaf, .leaf]], [.ref [.lst 0 [], .int .i64 0, .int .u64 0]]⟩]⟩ sg_flii
def f99_s_l01DrawFloat.F (n : Nat) (v : Nat × List T × Int × Int) := f99_s_l01DrawFloat n v.1 v.2.1 v.2.2.1 v.2.2.2
noncomputable def f99_s_l01DrawFloat.O (n : Nat) : Orc := orcOf (E := E) [f76_s_l00Srcpick.w, f129_s_l00Srcone.w, f77_s_l01DrawPlain.w, f132_s_l00Srcamong.w, f131_s_l01From.w] [] n
theorem f99_s_l01DrawFloat.ok : ∀ n v x, f99_s_l01DrawFloat.F n v = some x → evalFn E n 99 (flAs f99_s_l01DrawFloat.P (sg_lii.pk v)) = some (f99_s_l01DrawFloat.A.enc x) :=
  fn_pure (modes := (fdAt 99).ms) (outs := (fdAt 99).os) (results := (fdAt 99).rs) f99_s_l01DrawFloat.O (c := c99) (keep := keepAt 99) (by kernel_rfl) (fun n => orcOf_cf _ _ n) (fun n => lpOk_of (bs := []) (by kernel_rfl) .nil) (fun _ => rfl) (fun _ _ => by kernel_rfl)
noncomputable def f99_s_l01DrawFloat.w : FnW E := fnW 99 f99_s_l01DrawFloat.P sg_lii f99_s_l01DrawFloat.A f99_s_l01DrawFloat.F f99_s_l01DrawFloat.ok

def f81_s_l01DrawFloats.l0 (n : Nat) : Nat → Nat → List T → Int → Int → Int → Nat → List T → Bool → Option (Nat × List T × Int × Int × Nat × List T)
  | 0, _, _, _, _, _, _, _, _ => none
  | m + 1, n1, l2, i3, i4, i5, n6, l7, b8 =>
    br (decide (i5 > (0 : Int))) (
     br b8 (
      bd (f99_s_l01DrawFloat n n1 l2 i3 i4) fun r9 =>
      let x10 : Nat := r9.1
      let n11 : Nat := r9.2.1
      let l12 : List T := r9.2.2.1
      let i13 : Int := r9.2.2.2.1
      let i14 : Int := r9.2.2.2.2
      gd (Nat.ble (n6 + 1) 2147483648) (
      let n15 : Nat := (n6 + 1)
      let l16 : List T := (l7 ++ (setN (reps 1 [(T.flt FloatKind.f32 0)]) 0 [(T.flt FloatKind.f32 x10)]))
      f81_s_l01DrawFloats.l0 n m n11 l12 i13 i14 (IntKind.i64.wrap (i5 - (1 : Int))) n15 l16 b8)) (
      bd (f77_s_l01DrawPlain n n1 l2 i3 i4) fun r17 =>
      let x18 : Nat := r17.1
      let n19 : Nat := r17.2.1
      let l20 : List T := r17.2.2.1
      let i21 : Int := r17.2.2.2.1
      let i22 : Int := r17.2.2.2.2
      gd (Nat.ble (n6 + 1) 2147483648) (
      let n23 : Nat := (n6 + 1)
      let l24 : List T := (l7 ++ (setN (reps 1 [(T.flt FloatKind.f32 0)]) 0 [(T.flt FloatKind.f32 x18)]))
      f81_s_l01DrawFloats.l0 n m n19 l20 i21 i22 (IntKind.i64.wrap (i5 - (1 : Int))) n23 l24 b8))) (
     some (n1, l2, i3, i4, n6, l7))
def f81_s_l01DrawFloats : Nat → Nat → List T → Int → Int → Int → Option (Nat × List T × Nat × List T × Int × Int)
  | 0, _, _, _, _, _ => none
  | n + 1, n1, l2, i3, i4, i5 =>
    bd (f129_s_l00Srcone n n1 l2 i3 i4 (4 : Int)) fun r6 =>
    let b7 : Bool := r6.1
    let n8 : Nat := r6.2.1
    let l9 : List T := r6.2.2.1
    let i10 : Int := r6.2.2.2.1
    let i11 : Int := r6.2.2.2.2
    bd (f81_s_l01DrawFloats.l0 n n n8 l9 i10 i11 i5 0 (reps 0 [(T.flt FloatKind.f32 0)]) b7) fun r12 =>
    let n13 : Nat := r12.1
    let l14 : List T := r12.2.1
    let i15 : Int := r12.2.2.1
    let i16 : Int := r12.2.2.2.1
    let n17 : Nat := r12.2.2.2.2.1
    let l18 : List T := r12.2.2.2.2.2
    some (n17, l18, n13, l14, i15, i16)
def sg_liiilb : Sig (Nat × List T × Int × Int × Int × Nat × List T × Bool) where
  pk := fun v => [.lst v.1 v.2.1, .int v.2.2.1, .int v.2.2.2.1, .int v.2.2.2.2.1, .lst v.2.2.2.2.2.1 v.2.2.2.2.2.2.1, .bool v.2.2.2.2.2.2.2]
  up := fun ls => match ls with
    | [.lst a0 a1, .int a2, .int a3, .int a4, .lst a5 a6, .bool a7] => some (a0, a1, a2, a3, a4, a5, a6, a7)
    | _ => none
  ok := by
    intro ls v h
    split at h
    · cases h; rfl
    · cases h

def f81_s_l01DrawFloats.l0.P : AS := ⟨[(0, .box [.sl .shr [.leaf], .leaf, .leaf] [.lst 0 [], .int .i64 0, .int .u64 0] [] 0), (1, .val false [.leaf] [.int .i64 0] [] 0), (5, .val false [.sl .own [.leaf]] [.lst 0 []] [] 0), (6, .val false [.leaf] [.bool false] [] 0)], 0⟩
def f81_s_l01DrawFloats.l0.A : Alt (Nat × List T × Int × Int × Nat × List T) := .one (.exit 0) ⟨[(0, .box [.sl .shr [.leaf], .leaf, .leaf] [.lst 0 [], .int .i64 0, .int .u64 0] [] 0), (5, .val false [.sl .own [.leaf]] [.lst 0 []] [] 0)], 0⟩ sg_liil
def f81_s_l01DrawFloats.l0.F (n m : Nat) (v : Nat × List T × Int × Int × Int × Nat × List T × Bool) := f81_s_l01DrawFloats.l0 n m v.1 v.2.1 v.2.2.1 v.2.2.2.1 v.2.2.2.2.1 v.2.2.2.2.2.1 v.2.2.2.2.2.2.1 v.2.2.2.2.2.2.2
def f81_s_l01DrawFloats.l0.W (n : Nat) : LpW := .of 48 f81_s_l01DrawFloats.l0.P sg_liiilb f81_s_l01DrawFloats.l0.A (f81_s_l01DrawFloats.l0.F n n)
def f81_s_l01DrawFloats.P : List Arg := [⟨.iop, ⟨false, [.rf .own [.sl .shr [.leaf], .leaf, .leaf]], [.ref [.lst 0 [], .int .i64 0, .int .u64 0]]⟩⟩, ⟨.val, ⟨false, [.leaf], [.int .i64 0]⟩⟩]
def f81_s_l01DrawFloats.A : RAlt (Nat × List T × Nat × List T × Int × Int) := .one ⟨[⟨false, [.sl .own [.leaf]], [.lst 0 []]⟩], [some ⟨false, [.rf .own [.sl .shr [.leaf], .leaf, .leaf]], [.ref [.lst 0 [], .int .i64 0, .int .u64 0]]⟩, none]⟩ sg_llii
def f81_s_l01DrawFloats.F (n : Nat) (v : Nat × List T × Int × Int × Int) := f81_s_l01DrawFloats n v.1 v.2.1 v.2.2.1 v.2.2.2.1 v.2.2.2.2
noncomputable def f81_s_l01DrawFloats.O (n : Nat) : Orc := orcOf (E := E) [f129_s_l00Srcone.w, f77_s_l01DrawPlain.w, f99_s_l01DrawFloat.w] [f81_s_l01DrawFloats.l0.W n] n
theorem f81_s_l01DrawFloats.l0.ok (n : Nat) : LpOk (f81_s_l01DrawFloats.O n) E (evalFn E n) n (keepAt 81) (.loop (loopAt c81 0)) :=
  lp_pure f81_s_l01DrawFloats.l0.P sg_liiilb f81_s_l01DrawFloats.l0.A (f81_s_l01DrawFloats.l0.F n) (orcOf_cf _ _ n) (lpOk_of (bs := []) (by kernel_rfl) .nil) (fun _ => rfl) (fun _ _ => by kernel_rfl) (fun _ _ _ => by kernel_rfl)
theorem f81_s_l01DrawFloats.ok : ∀ n v x, f81_s_l01DrawFloats.F n v = some x → evalFn E n 81 (flAs f81_s_l01DrawFloats.P (sg_liii.pk v)) = some (f81_s_l01DrawFloats.A.enc x) :=
  fn_pure (modes := (fdAt 81).ms) (outs := (fdAt 81).os) (results := (fdAt 81).rs) f81_s_l01DrawFloats.O (c := c81) (keep := keepAt 81) (by kernel_rfl) (fun n => orcOf_cf _ _ n) (fun n => lpOk_of (bs := [loopAt c81 0]) (by kernel_rfl) (.cons (f81_s_l01DrawFloats.l0.ok n) .nil)) (fun _ => rfl) (fun _ _ => by kernel_rfl)
noncomputable def f81_s_l01DrawFloats.w : FnW E := fnW 81 f81_s_l01DrawFloats.P sg_liii f81_s_l01DrawFloats.A f81_s_l01DrawFloats.F f81_s_l01DrawFloats.ok

def f19_s_B10Numbers : Nat → Nat → List T → Int → Option (Nat × List T)
  | 0, _, _, _ => none
  | n + 1, n1, l2, i3 =>
    bd (f75_s_l00From n n1 l2) fun r4 =>
    let n5 : Nat := r4.1
    let l6 : List T := r4.2.1
    let i7 : Int := r4.2.2.1
    let i8 : Int := r4.2.2.2
    bd (f81_s_l01DrawFloats n n5 l6 i7 i8 i3) fun r9 =>
    let n10 : Nat := r9.1
    let l11 : List T := r9.2.1
    let n12 : Nat := r9.2.2.1
    let l13 : List T := r9.2.2.2.1
    let i14 : Int := r9.2.2.2.2.1
    let i15 : Int := r9.2.2.2.2.2
    some (n10, l11)
def f19_s_B10Numbers.P : List Arg := [⟨.val, ⟨false, [.sl .shr [.leaf]], [.lst 0 []]⟩⟩, ⟨.val, ⟨false, [.leaf], [.int .i64 0]⟩⟩]
def f19_s_B10Numbers.A : RAlt (Nat × List T) := .one ⟨[⟨false, [.sl .own [.leaf]], [.lst 0 []]⟩], [none, none]⟩ sg_l
def f19_s_B10Numbers.F (n : Nat) (v : Nat × List T × Int) := f19_s_B10Numbers n v.1 v.2.1 v.2.2
noncomputable def f19_s_B10Numbers.O (n : Nat) : Orc := orcOf (E := E) [f75_s_l00From.w, f81_s_l01DrawFloats.w] [] n
theorem f19_s_B10Numbers.ok : ∀ n v x, f19_s_B10Numbers.F n v = some x → evalFn E n 19 (flAs f19_s_B10Numbers.P (sg_li.pk v)) = some (f19_s_B10Numbers.A.enc x) :=
  fn_pure (modes := (fdAt 19).ms) (outs := (fdAt 19).os) (results := (fdAt 19).rs) f19_s_B10Numbers.O (c := c19) (keep := keepAt 19) (by kernel_rfl) (fun n => orcOf_cf _ _ n) (fun n => lpOk_of (bs := []) (by kernel_rfl) .nil) (fun _ => rfl) (fun _ _ => by kernel_rfl)
noncomputable def f19_s_B10Numbers.w : FnW E := fnW 19 f19_s_B10Numbers.P sg_li f19_s_B10Numbers.A f19_s_B10Numbers.F f19_s_B10Numbers.ok

def f20_i_ApplyLane.l0 (n : Nat) : Nat → Nat → List T → Nat → List T → Int → Int → Option (Nat × List T)
  | 0, _, _, _, _, _, _ => none
  | m + 1, n1, l2, n3, l4, i5, i6 =>
    br (decide (i6 < i5)) (
     gd ((decide (((0 : Int) ≤ i6) ∧ (i6 < ((n1 : Nat) : Int)))) && (okAt [(CK.flt FloatKind.f32)] l2 (Int.toNat i6))) (
     gd (decide (((0 : Int) ≤ i6) ∧ (i6 < ((n3 : Nat) : Int)))) (
     gd (okAt [(CK.flt FloatKind.f32)] l4 (Int.toNat i6)) (
     gd (decide (((0 : Int) ≤ i6) ∧ (i6 < ((n3 : Nat) : Int)))) (
     gd (Nat.ble ((Int.toNat i6) + 1) (List.length l4)) (
     let l7 : List T := (setN l4 (Int.toNat i6) [(T.flt FloatKind.f32 (fmul FloatKind.f32 (fAt l2 (Int.toNat i6)) (fAt l4 (Int.toNat i6))))])
     f20_i_ApplyLane.l0 n m n1 l2 n3 l7 i5 (IntKind.i64.wrap (i6 + (1 : Int))))))))) (
     some (n3, l4))
def f20_i_ApplyLane : Nat → Nat → List T → Int → Nat → List T → Option (Nat × List T × Bool)
  | 0, _, _, _, _, _ => none
  | n + 1, n1, l2, i3, n4, l5 =>
    bd (f82_i_size n ((n4 : Nat) : Int)) fun r6 =>
    let i7 : Int := r6
    bd (f18_i_RunLane n n1 l2 i3 i7) fun r8 =>
    let n9 : Nat := r8.1
    let l10 : List T := r8.2.1
    let b11 : Bool := r8.2.2
    br (!b11) (
     some (0, [], false)) (
     bd (f20_i_ApplyLane.l0 n n n4 l5 n9 l10 ((n9 : Nat) : Int) (0 : Int)) fun r12 =>
     let n13 : Nat := r12.1
     let l14 : List T := r12.2
     some (n13, l14, true))
def sg_lil : Sig (Nat × List T × Int × Nat × List T) where
  pk := fun v => [.lst v.1 v.2.1, .int v.2.2.1, .lst v.2.2.2.1 v.2.2.2.2]
  up := fun ls => match ls with
    | [.lst a0 a1, .int a2, .lst a3 a4] => some (a0, a1, a2, a3, a4)
    | _ => none
  ok := by
    intro ls v h
    split at h
    · cases h; rfl
    · cases h

def f20_i_ApplyLane.l0.P : AS := ⟨[(2, .val false [.sl .shr [.leaf]] [.lst 0 []] [] 0), (8, .val false [.sl .own [.leaf]] [.lst 0 []] [] 0), (23, .val false [.leaf] [.int .i64 0] [] 0), (24, .val false [.leaf] [.int .i64 0] [] 0)], 0⟩
def f20_i_ApplyLane.l0.A : Alt (Nat × List T) := .one (.exit 0) ⟨[(8, .val false [.sl .own [.leaf]] [.lst 0 []] [] 0)], 0⟩ sg_l
def f20_i_ApplyLane.l0.F (n m : Nat) (v : Nat × List T × Nat × List T × Int × Int) := f20_i_ApplyLane.l0 n m v.1 v.2.1 v.2.2.1 v.2.2.2.1 v.2.2.2.2.1 v.2.2.2.2.2
def f20_i_ApplyLane.l0.W (n : Nat) : LpW := .of 80 f20_i_ApplyLane.l0.P sg_llii f20_i_ApplyLane.l0.A (f20_i_ApplyLane.l0.F n n)
def f20_i_ApplyLane.P : List Arg := [⟨.val, ⟨false, [.sl .shr [.leaf, .leaf]], [.lst 0 []]⟩⟩, ⟨.val, ⟨false, [.leaf], [.int .i64 0]⟩⟩, ⟨.val, ⟨false, [.sl .shr [.leaf]], [.lst 0 []]⟩⟩]
def f20_i_ApplyLane.A : RAlt (Nat × List T × Bool) := .one ⟨[⟨false, [.sl .own [.leaf]], [.lst 0 []]⟩, ⟨false, [.leaf], [.bool false]⟩], [none, none, none]⟩ sg_lb
def f20_i_ApplyLane.F (n : Nat) (v : Nat × List T × Int × Nat × List T) := f20_i_ApplyLane n v.1 v.2.1 v.2.2.1 v.2.2.2.1 v.2.2.2.2
noncomputable def f20_i_ApplyLane.O (n : Nat) : Orc := orcOf (E := E) [f82_i_size.w, f18_i_RunLane.w] [f20_i_ApplyLane.l0.W n] n
theorem f20_i_ApplyLane.l0.ok (n : Nat) : LpOk (f20_i_ApplyLane.O n) E (evalFn E n) n (keepAt 20) (.loop (loopAt c20 0)) :=
  lp_pure f20_i_ApplyLane.l0.P sg_llii f20_i_ApplyLane.l0.A (f20_i_ApplyLane.l0.F n) (orcOf_cf _ _ n) (lpOk_of (bs := []) (by kernel_rfl) .nil) (fun _ => rfl) (fun _ _ => by kernel_rfl) (fun _ _ _ => by kernel_rfl)
theorem f20_i_ApplyLane.ok : ∀ n v x, f20_i_ApplyLane.F n v = some x → evalFn E n 20 (flAs f20_i_ApplyLane.P (sg_lil.pk v)) = some (f20_i_ApplyLane.A.enc x) :=
  fn_pure (modes := (fdAt 20).ms) (outs := (fdAt 20).os) (results := (fdAt 20).rs) f20_i_ApplyLane.O (c := c20) (keep := keepAt 20) (by kernel_rfl) (fun n => orcOf_cf _ _ n) (fun n => lpOk_of (bs := [loopAt c20 0]) (by kernel_rfl) (.cons (f20_i_ApplyLane.l0.ok n) .nil)) (fun _ => rfl) (fun _ _ => by kernel_rfl)
noncomputable def f20_i_ApplyLane.w : FnW E := fnW 20 f20_i_ApplyLane.P sg_lil f20_i_ApplyLane.A f20_i_ApplyLane.F f20_i_ApplyLane.ok

def f22_i_LaneAt : Nat → Nat → List T → Int → Option (Nat × Bool)
  | 0, _, _, _ => none
  | n + 1, n1, l2, i3 =>
    bd (f21_i_IsLane n n1 l2) fun r4 =>
    let b5 : Bool := r4
    br (!b5) (
     some (0, false)) (
     bd (f78_i_isPlace n i3) fun r6 =>
     let b7 : Bool := r6
     br (!b7) (
      some (0, false)) (
      bd (f80_i_laneAt n n1 l2 i3) fun r8 =>
      let x9 : Nat := r8
      some (x9, true)))
def sg_fb : Sig (Nat × Bool) where
  pk := fun v => [.flt v.1, .bool v.2]
  up := fun ls => match ls with
    | [.flt a0, .bool a1] => some (a0, a1)
    | _ => none
  ok := by
    intro ls v h
    split at h
    · cases h; rfl
    · cases h

def f22_i_LaneAt.P : List Arg := [⟨.val, ⟨false, [.sl .shr [.leaf, .leaf]], [.lst 0 []]⟩⟩, ⟨.val, ⟨false, [.leaf], [.int .i64 0]⟩⟩]
def f22_i_LaneAt.A : RAlt (Nat × Bool) := .one ⟨[⟨false, [.leaf], [.flt .f32 0]⟩, ⟨false, [.leaf], [.bool false]⟩], [none, none]⟩ sg_fb
def f22_i_LaneAt.F (n : Nat) (v : Nat × List T × Int) := f22_i_LaneAt n v.1 v.2.1 v.2.2
noncomputable def f22_i_LaneAt.O (n : Nat) : Orc := orcOf (E := E) [f78_i_isPlace.w, f21_i_IsLane.w, f80_i_laneAt.w] [] n
theorem f22_i_LaneAt.ok : ∀ n v x, f22_i_LaneAt.F n v = some x → evalFn E n 22 (flAs f22_i_LaneAt.P (sg_li.pk v)) = some (f22_i_LaneAt.A.enc x) :=
  fn_pure (modes := (fdAt 22).ms) (outs := (fdAt 22).os) (results := (fdAt 22).rs) f22_i_LaneAt.O (c := c22) (keep := keepAt 22) (by kernel_rfl) (fun n => orcOf_cf _ _ n) (fun n => lpOk_of (bs := []) (by kernel_rfl) .nil) (fun _ => rfl) (fun _ _ => by kernel_rfl)
noncomputable def f22_i_LaneAt.w : FnW E := fnW 22 f22_i_LaneAt.P sg_li f22_i_LaneAt.A f22_i_LaneAt.F f22_i_LaneAt.ok

def f130_s_l01Bits : Nat → Nat → Option (Int)
  | 0, _ => none
  | n + 1, x1 =>
    br (fne FloatKind.f32 x1 x1) (
     some (2143289344 : Int)) (
     bd (xF32bits n x1) fun r2 =>
     let i3 : Int := r2
     some (IntKind.i64.wrap i3))
def f130_s_l01Bits.P : List Arg := [⟨.val, ⟨false, [.leaf], [.flt .f32 0]⟩⟩]
def f130_s_l01Bits.A : RAlt (Int) := .one ⟨[⟨false, [.leaf], [.int .i64 0]⟩], [none]⟩ sg_i
def f130_s_l01Bits.F (n : Nat) (v : Nat) := f130_s_l01Bits n v
noncomputable def f130_s_l01Bits.O (n : Nat) : Orc := orcOf (E := E) [x98.w] [] n
theorem f130_s_l01Bits.ok : ∀ n v x, f130_s_l01Bits.F n v = some x → evalFn E n 130 (flAs f130_s_l01Bits.P (sg_f.pk v)) = some (f130_s_l01Bits.A.enc x) :=
  fn_pure (modes := (fdAt 130).ms) (outs := (fdAt 130).os) (results := (fdAt 130).rs) f130_s_l01Bits.O (c := c130) (keep := keepAt 130) (by kernel_rfl) (fun n => orcOf_cf _ _ n) (fun n => lpOk_of (bs := []) (by kernel_rfl) .nil) (fun _ => rfl) (fun _ _ => by kernel_rfl)
noncomputable def f130_s_l01Bits.w : FnW E := fnW 130 f130_s_l01Bits.P sg_f f130_s_l01Bits.A f130_s_l01Bits.F f130_s_l01Bits.ok

def f84_s_l01Same : Nat → Nat → Nat → Option (Bool)
  | 0, _, _ => none
  | n + 1, x1, x2 =>
    bd (f130_s_l01Bits n x1) fun r3 =>
    let i4 : Int := r3
    bd (f130_s_l01Bits n x2) fun r5 =>
    let i6 : Int := r5
    some (i4 == i6)
def sg_ff : Sig (Nat × Nat) where
  pk := fun v => [.flt v.1, .flt v.2]
  up := fun ls => match ls with
    | [.flt a0, .flt a1] => some (a0, a1)
    | _ => none
  ok := by
    intro ls v h
    split at h
    · cases h; rfl
    · cases h

def f84_s_l01Same.P : List Arg := [⟨.val, ⟨false, [.leaf], [.flt .f32 0]⟩⟩, ⟨.val, ⟨false, [.leaf], [.flt .f32 0]⟩⟩]
def f84_s_l01Same.A : RAlt (Bool) := .one ⟨[⟨false, [.leaf], [.bool false]⟩], [none, none]⟩ sg_b
def f84_s_l01Same.F (n : Nat) (v : Nat × Nat) := f84_s_l01Same n v.1 v.2
noncomputable def f84_s_l01Same.O (n : Nat) : Orc := orcOf (E := E) [f130_s_l01Bits.w] [] n
theorem f84_s_l01Same.ok : ∀ n v x, f84_s_l01Same.F n v = some x → evalFn E n 84 (flAs f84_s_l01Same.P (sg_ff.pk v)) = some (f84_s_l01Same.A.enc x) :=
  fn_pure (modes := (fdAt 84).ms) (outs := (fdAt 84).os) (results := (fdAt 84).rs) f84_s_l01Same.O (c := c84) (keep := keepAt 84) (by kernel_rfl) (fun n => orcOf_cf _ _ n) (fun n => lpOk_of (bs := []) (by kernel_rfl) .nil) (fun _ => rfl) (fun _ _ => by kernel_rfl)
noncomputable def f84_s_l01Same.w : FnW E := fnW 84 f84_s_l01Same.P sg_ff f84_s_l01Same.A f84_s_l01Same.F f84_s_l01Same.ok

def f23_s_SameNumber : Nat → Nat → Nat → Option (Bool)
  | 0, _, _ => none
  | n + 1, x1, x2 =>
    bd (f84_s_l01Same n x1 x2) fun r3 =>
    let b4 : Bool := r3
    some b4
def f23_s_SameNumber.P : List Arg := [⟨.val, ⟨false, [.leaf], [.flt .f32 0]⟩⟩, ⟨.val, ⟨false, [.leaf], [.flt .f32 0]⟩⟩]
def f23_s_SameNumber.A : RAlt (Bool) := .one ⟨[⟨false, [.leaf], [.bool false]⟩], [none, none]⟩ sg_b
def f23_s_SameNumber.F (n : Nat) (v : Nat × Nat) := f23_s_SameNumber n v.1 v.2
noncomputable def f23_s_SameNumber.O (n : Nat) : Orc := orcOf (E := E) [f84_s_l01Same.w] [] n
theorem f23_s_SameNumber.ok : ∀ n v x, f23_s_SameNumber.F n v = some x → evalFn E n 23 (flAs f23_s_SameNumber.P (sg_ff.pk v)) = some (f23_s_SameNumber.A.enc x) :=
  fn_pure (modes := (fdAt 23).ms) (outs := (fdAt 23).os) (results := (fdAt 23).rs) f23_s_SameNumber.O (c := c23) (keep := keepAt 23) (by kernel_rfl) (fun n => orcOf_cf _ _ n) (fun n => lpOk_of (bs := []) (by kernel_rfl) .nil) (fun _ => rfl) (fun _ _ => by kernel_rfl)
noncomputable def f23_s_SameNumber.w : FnW E := fnW 23 f23_s_SameNumber.P sg_ff f23_s_SameNumber.A f23_s_SameNumber.F f23_s_SameNumber.ok

def f3_l_FnLanes.l0 (n : Nat) : Nat → Nat → List T → Int → Int → Nat → List T → Nat → List T → Nat → List T → Nat → Nat → Int → Int → Option ((Bool) ⊕ (Nat × List T × Int × Int × Nat × List T × Nat × List T × Nat × List T × Nat × Nat))
  | 0, _, _, _, _, _, _, _, _, _, _, _, _, _, _ => none
  | m + 1, n1, l2, i3, i4, n5, l6, n7, l8, n9, l10, x11, x12, i13, i14 =>
    br (decide (i14 < i13)) (
     gd (decide (((0 : Int) ≤ i14) ∧ (i14 < ((n1 : Nat) : Int)))) (
     gd (okAt [(CK.int IntKind.i64)] l2 (((Int.toNat i14) * 2) + 0)) (
     bd (f22_i_LaneAt n n1 l2 (iAt l2 (((Int.toNat i14) * 2) + 0))) fun r15 =>
     let x16 : Nat := r15.1
     let b17 : Bool := r15.2
     br (!b17) (
      some (Sum.inl false)) (
      gd (decide (((0 : Int) ≤ i14) ∧ (i14 < ((n1 : Nat) : Int)))) (
      gd (okAt [(CK.flt FloatKind.f32)] l2 (((Int.toNat i14) * 2) + 1)) (
      bd (f23_s_SameNumber n x16 (fAt l2 (((Int.toNat i14) * 2) + 1))) fun r18 =>
      let b19 : Bool := r18
      br (!b19) (
       some (Sum.inl false)) (
       let x20 : Nat := (fmx false FloatKind.f32 x11 x16)
       let x21 : Nat := (fmx true FloatKind.f32 x12 x16)
       f3_l_FnLanes.l0 n m n1 l2 i3 i4 n5 l6 n7 l8 n9 l10 x20 x21 i13 (IntKind.i64.wrap (i14 + (1 : Int)))))))))) (
     some (Sum.inr (n1, l2, i3, i4, n5, l6, n7, l8, n9, l10, x11, x12)))
def f3_l_FnLanes.l1 (n : Nat) : Nat → Nat → List T → Int → Int → Nat → List T → Nat → List T → Nat → List T → Nat → Nat → Int → Option ((Bool) ⊕ (Nat × List T))
  | 0, _, _, _, _, _, _, _, _, _, _, _, _, _ => none
  | m + 1, n1, l2, i3, i4, n5, l6, n7, l8, n9, l10, x11, x12, i13 =>
    br (decide (i13 < i4)) (
     bd (f22_i_LaneAt n n1 l2 (IntKind.i64.wrap (i3 + i13))) fun r14 =>
     let x15 : Nat := r14.1
     let b16 : Bool := r14.2
     br (!b16) (
      some (Sum.inl false)) (
      gd (decide (((0 : Int) ≤ i13) ∧ (i13 < ((n5 : Nat) : Int)))) (
      gd (okAt [(CK.flt FloatKind.f32)] l6 (Int.toNat i13)) (
      bd (f23_s_SameNumber n x15 (fAt l6 (Int.toNat i13))) fun r17 =>
      let b18 : Bool := r17
      br (!b18) (
       some (Sum.inl false)) (
       gd (decide (((0 : Int) ≤ i13) ∧ (i13 < ((n9 : Nat) : Int)))) (
       gd (okAt [(CK.flt FloatKind.f32)] l10 (Int.toNat i13)) (
       gd (decide (((0 : Int) ≤ i13) ∧ (i13 < ((n7 : Nat) : Int)))) (
       gd (okAt [(CK.flt FloatKind.f32)] l8 (Int.toNat i13)) (
       bd (f23_s_SameNumber n (fAt l10 (Int.toNat i13)) (fmul FloatKind.f32 (fAt l8 (Int.toNat i13)) x15)) fun r19 =>
       let b20 : Bool := r19
       br (!b20) (
        some (Sum.inl false)) (
        bd ((fltToFlt FloatKind.f32 x15 FloatKind.f64)) fun y21 =>
        bd ((fltToFlt FloatKind.f32 x11 FloatKind.f64)) fun y22 =>
        br (flt FloatKind.f64 y21 (fsub FloatKind.f64 y22 4562254508917369340)) (
         some (Sum.inl false)) (
         bd ((fltToFlt FloatKind.f32 x15 FloatKind.f64)) fun y23 =>
         bd ((fltToFlt FloatKind.f32 x12 FloatKind.f64)) fun y24 =>
         br (fgt FloatKind.f64 y23 (fadd FloatKind.f64 y24 4562254508917369340)) (
          some (Sum.inl false)) (
          f3_l_FnLanes.l1 n m n1 l2 i3 i4 n5 l6 n7 l8 n9 l10 x11 x12 (IntKind.i64.wrap (i13 + (1 : Int))))))))))))))) (
     some (Sum.inr (n1, l2)))
def f3_l_FnLanes : Nat → Nat → List T → Nat → List T → Option (Bool)
  | 0, _, _, _, _ => none
  | n + 1, n1, l2, n3, l4 =>
    bd (f15_l_b10Long n n1 l2 n3 l4) fun r5 =>
    let b6 : Bool := r5
    br b6 (
     some true) (
     bd (f16_s_B10Lane n n1 l2) fun r7 =>
     let n8 : Nat := r7.1
     let l9 : List T := r7.2
     bd (f17_l_b10At n n3 l4 (0 : Int) (20 : Int)) fun r10 =>
     let i11 : Int := r10
     bd (f17_l_b10At n n3 l4 (1 : Int) (20 : Int)) fun r12 =>
     let i13 : Int := r12
     bd (f18_i_RunLane n n8 l9 i11 i13) fun r14 =>
     let n15 : Nat := r14.1
     let l16 : List T := r14.2.1
     let b17 : Bool := r14.2.2
     bd (f19_s_B10Numbers n n3 l4 i13) fun r18 =>
     let n19 : Nat := r18.1
     let l20 : List T := r18.2
     bd (f20_i_ApplyLane n n8 l9 i11 n19 l20) fun r21 =>
     let n22 : Nat := r21.1
     let l23 : List T := r21.2.1
     let b24 : Bool := r21.2.2
     br (!b17) (
      some false) (
      br (!b24) (
       some false) (
       br (((n15 : Nat) : Int) != i13) (
        some false) (
        br (((n22 : Nat) : Int) != i13) (
         some false) (
         bd (f21_i_IsLane n n8 l9) fun r25 =>
         let b26 : Bool := r25
         br (!b26) (
          some false) (
          gd (decide (((0 : Int) ≤ (0 : Int)) ∧ ((0 : Int) < ((n8 : Nat) : Int)))) (
          gd (okAt [(CK.flt FloatKind.f32)] l9 1) (
          let x27 : Nat := (fAt l9 1)
          gd (decide (((0 : Int) ≤ (0 : Int)) ∧ ((0 : Int) < ((n8 : Nat) : Int)))) (
          gd (okAt [(CK.flt FloatKind.f32)] l9 1) (
          let x28 : Nat := (fAt l9 1)
          bd (f3_l_FnLanes.l0 n n n8 l9 i11 i13 n15 l16 n19 l20 n22 l23 x27 x28 ((n8 : Nat) : Int) (0 : Int)) fun r29 =>
          sm r29 (fun u30 =>
           let b31 : Bool := u30
           some b31) (fun u32 =>
           let n33 : Nat := u32.1
           let l34 : List T := u32.2.1
           let i35 : Int := u32.2.2.1
           let i36 : Int := u32.2.2.2.1
           let n37 : Nat := u32.2.2.2.2.1
           let l38 : List T := u32.2.2.2.2.2.1
           let n39 : Nat := u32.2.2.2.2.2.2.1
           let l40 : List T := u32.2.2.2.2.2.2.2.1
           let n41 : Nat := u32.2.2.2.2.2.2.2.2.1
           let l42 : List T := u32.2.2.2.2.2.2.2.2.2.1
           let x43 : Nat := u32.2.2.2.2.2.2.2.2.2.2.1
           let x44 : Nat := u32.2.2.2.2.2.2.2.2.2.2.2
           bd (f3_l_FnLanes.l1 n n n33 l34 i35 i36 n37 l38 n39 l40 n41 l42 x43 x44 (0 : Int)) fun r45 =>
           sm r45 (fun u46 =>
            let b47 : Bool := u46
            some b47) (fun u48 =>
            let n49 : Nat := u48.1
            let l50 : List T := u48.2
            bd (f22_i_LaneAt n n49 l50 (100000 : Int)) fun r51 =>
            let x52 : Nat := r51.1
            let b53 : Bool := r51.2
            bd (f22_i_LaneAt n n49 l50 (0 : Int)) fun r54 =>
            let x55 : Nat := r54.1
            let b56 : Bool := r54.2
            br b53 (
             br b56 (
              gd (decide (((0 : Int) ≤ (IntKind.i64.wrap (((n49 : Nat) : Int) - (1 : Int)))) ∧ ((IntKind.i64.wrap (((n49 : Nat) : Int) - (1 : Int))) < ((n49 : Nat) : Int)))) (
              gd (okAt [(CK.flt FloatKind.f32)] l50 (((Int.toNat (IntKind.i64.wrap (((n49 : Nat) : Int) - (1 : Int)))) * 2) + 1)) (
              bd (f23_s_SameNumber n x52 (fAt l50 (((Int.toNat (IntKind.i64.wrap (((n49 : Nat) : Int) - (1 : Int)))) * 2) + 1))) fun r57 =>
              let b58 : Bool := r57
              br b58 (
               gd (decide (((0 : Int) ≤ (0 : Int)) ∧ ((0 : Int) < ((n49 : Nat) : Int)))) (
               gd (okAt [(CK.flt FloatKind.f32)] l50 1) (
               bd (f23_s_SameNumber n x55 (fAt l50 1)) fun r59 =>
               let b60 : Bool := r59
               some b60))) (
               some false)))) (
              some false)) (
             some false)))))))))))))
def sg_liilllffii : Sig (Nat × List T × Int × Int × Nat × List T × Nat × List T × Nat × List T × Nat × Nat × Int × Int) where
  pk := fun v => [.lst v.1 v.2.1, .int v.2.2.1, .int v.2.2.2.1, .lst v.2.2.2.2.1 v.2.2.2.2.2.1, .lst v.2.2.2.2.2.2.1 v.2.2.2.2.2.2.2.1, .lst v.2.2.2.2.2.2.2.2.1 v.2.2.2.2.2.2.2.2.2.1, .flt v.2.2.2.2.2.2.2.2.2.2.1, .flt v.2.2.2.2.2.2.2.2.2.2.2.1, .int v.2.2.2.2.2.2.2.2.2.2.2.2.1, .int v.2.2.2.2.2.2.2.2.2.2.2.2.2]
  up := fun ls => match ls with
    | [.lst a0 a1, .int a2, .int a3, .lst a4 a5, .lst a6 a7, .lst a8 a9, .flt a10, .flt a11, .int a12, .int a13] => some (a0, a1, a2, a3, a4, a5, a6, a7, a8, a9, a10, a11, a12, a13)
    | _ => none
  ok := by
    intro ls v h
    split at h
    · cases h; rfl
    · cases h

def sg_liilllff : Sig (Nat × List T × Int × Int × Nat × List T × Nat × List T × Nat × List T × Nat × Nat) where
  pk := fun v => [.lst v.1 v.2.1, .int v.2.2.1, .int v.2.2.2.1, .lst v.2.2.2.2.1 v.2.2.2.2.2.1, .lst v.2.2.2.2.2.2.1 v.2.2.2.2.2.2.2.1, .lst v.2.2.2.2.2.2.2.2.1 v.2.2.2.2.2.2.2.2.2.1, .flt v.2.2.2.2.2.2.2.2.2.2.1, .flt v.2.2.2.2.2.2.2.2.2.2.2]
  up := fun ls => match ls with
    | [.lst a0 a1, .int a2, .int a3, .lst a4 a5, .lst a6 a7, .lst a8 a9, .flt a10, .flt a11] => some (a0, a1, a2, a3, a4, a5, a6, a7, a8, a9, a10, a11)
    | _ => none
  ok := by
    intro ls v h
    split at h
    · cases h; rfl
    · cases h

def sg_liilllffi : Sig (Nat × List T × Int × Int × Nat × List T × Nat × List T × Nat × List T × Nat × Nat × Int) where
  pk := fun v => [.lst v.1 v.2.1, .int v.2.2.1, .int v.2.2.2.1, .lst v.2.2.2.2.1 v.2.2.2.2.2.1, .lst v.2.2.2.2.2.2.1 v.2.2.2.2.2.2.2.1, .lst v.2.2.2.2.2.2.2.2.1 v.2.2.2.2.2.2.2.2.2.1, .flt v.2.2.2.2.2.2.2.2.2.2.1, .flt v.2.2.2.2.2.2.2.2.2.2.2.1, .int v.2.2.2.2.2.2.2.2.2.2.2.2]
  up := fun ls => match ls with
    | [.lst a0 a1, .int a2, .int a3, .lst a4 a5, .lst a6 a7, .lst a8 a9, .flt a10, .flt a11, .int a12] => some (a0, a1, a2, a3, a4, a5, a6, a7, a8, a9, a10, a11, a12)
    | _ => none
  ok := by
    intro ls v h
    split at h
    · cases h; rfl
    · cases h

def f3_l_FnLanes.l0.P : AS := ⟨[(5, .val false [.sl .own [.leaf, .leaf]] [.lst 0 []] [] 0), (6, .val false [.leaf] [.int .i64 0] [] 0), (7, .val false [.leaf] [.int .i64 0] [] 0), (8, .val false [.sl .own [.leaf]] [.lst 0 []] [] 0), (10, .val false [.sl .own [.leaf]] [.lst 0 []] [] 0), (11, .val false [.sl .own [.leaf]] [.lst 0 []] [] 0), (13, .val false [.leaf] [.flt .f32 0] [] 0), (14, .val false [.leaf] [.flt .f32 0] [] 0), (83, .val false [.leaf] [.int .i64 0] [] 0), (84, .val false [.leaf] [.int .i64 0] [] 0)], 0⟩
def f3_l_FnLanes.l0.A : Alt ((Bool) ⊕ (Nat × List T × Int × Int × Nat × List T × Nat × List T × Nat × List T × Nat × Nat)) := .or (.one .ret ⟨[(4, .val false [.leaf] [.bool false] [] 0), (5, .dead), (6, .dead), (7, .dead), (8, .dead), (10, .dead), (11, .dead), (13, .dead), (14, .dead)], 0⟩ sg_b) (.one (.exit 0) ⟨[(4, .dead), (5, .val false [.sl .own [.leaf, .leaf]] [.lst 0 []] [] 0), (6, .val false [.leaf] [.int .i64 0] [] 0), (7, .val false [.leaf] [.int .i64 0] [] 0), (8, .val false [.sl .own [.leaf]] [.lst 0 []] [] 0), (10, .val false [.sl .own [.leaf]] [.lst 0 []] [] 0), (11, .val false [.sl .own [.leaf]] [.lst 0 []] [] 0), (13, .val false [.leaf] [.flt .f32 0] [] 0), (14, .val false [.leaf] [.flt .f32 0] [] 0)], 0⟩ sg_liilllff)
def f3_l_FnLanes.l0.F (n m : Nat) (v : Nat × List T × Int × Int × Nat × List T × Nat × List T × Nat × List T × Nat × Nat × Int × Int) := f3_l_FnLanes.l0 n m v.1 v.2.1 v.2.2.1 v.2.2.2.1 v.2.2.2.2.1 v.2.2.2.2.2.1 v.2.2.2.2.2.2.1 v.2.2.2.2.2.2.2.1 v.2.2.2.2.2.2.2.2.1 v.2.2.2.2.2.2.2.2.2.1 v.2.2.2.2.2.2.2.2.2.2.1 v.2.2.2.2.2.2.2.2.2.2.2.1 v.2.2.2.2.2.2.2.2.2.2.2.2.1 v.2.2.2.2.2.2.2.2.2.2.2.2.2
def f3_l_FnLanes.l0.W (n : Nat) : LpW := .of 224 f3_l_FnLanes.l0.P sg_liilllffii f3_l_FnLanes.l0.A (f3_l_FnLanes.l0.F n n)
def f3_l_FnLanes.l1.P : AS := ⟨[(5, .val false [.sl .own [.leaf, .leaf]] [.lst 0 []] [] 0), (6, .val false [.leaf] [.int .i64 0] [] 0), (7, .val false [.leaf] [.int .i64 0] [] 0), (8, .val false [.sl .own [.leaf]] [.lst 0 []] [] 0), (10, .val false [.sl .own [.leaf]] [.lst 0 []] [] 0), (11, .val false [.sl .own [.leaf]] [.lst 0 []] [] 0), (13, .val false [.leaf] [.flt .f32 0] [] 0), (14, .val false [.leaf] [.flt .f32 0] [] 0), (18, .val false [.leaf] [.int .i64 0] [] 0)], 0⟩
def f3_l_FnLanes.l1.A : Alt ((Bool) ⊕ (Nat × List T)) := .or (.one .ret ⟨[(4, .val false [.leaf] [.bool false] [] 0), (5, .dead)], 0⟩ sg_b) (.one (.exit 2) ⟨[(4, .dead), (5, .val false [.sl .own [.leaf, .leaf]] [.lst 0 []] [] 0)], 0⟩ sg_l)
def f3_l_FnLanes.l1.F (n m : Nat) (v : Nat × List T × Int × Int × Nat × List T × Nat × List T × Nat × List T × Nat × Nat × Int) := f3_l_FnLanes.l1 n m v.1 v.2.1 v.2.2.1 v.2.2.2.1 v.2.2.2.2.1 v.2.2.2.2.2.1 v.2.2.2.2.2.2.1 v.2.2.2.2.2.2.2.1 v.2.2.2.2.2.2.2.2.1 v.2.2.2.2.2.2.2.2.2.1 v.2.2.2.2.2.2.2.2.2.2.1 v.2.2.2.2.2.2.2.2.2.2.2.1 v.2.2.2.2.2.2.2.2.2.2.2.2
def f3_l_FnLanes.l1.W (n : Nat) : LpW := .of 368 f3_l_FnLanes.l1.P sg_liilllffi f3_l_FnLanes.l1.A (f3_l_FnLanes.l1.F n n)
def f3_l_FnLanes.P : List Arg := [⟨.val, ⟨false, [.sl .shr [.leaf]], [.lst 0 []]⟩⟩, ⟨.val, ⟨false, [.sl .shr [.leaf]], [.lst 0 []]⟩⟩]
def f3_l_FnLanes.A : RAlt (Bool) := .one ⟨[⟨false, [.leaf], [.bool false]⟩], [none, none]⟩ sg_b
def f3_l_FnLanes.F (n : Nat) (v : Nat × List T × Nat × List T) := f3_l_FnLanes n v.1 v.2.1 v.2.2.1 v.2.2.2
noncomputable def f3_l_FnLanes.O (n : Nat) : Orc := orcOf (E := E) [f15_l_b10Long.w, f16_s_B10Lane.w, f17_l_b10At.w, f21_i_IsLane.w, f18_i_RunLane.w, f19_s_B10Numbers.w, f20_i_ApplyLane.w, f22_i_LaneAt.w, f23_s_SameNumber.w] [f3_l_FnLanes.l0.W n, f3_l_FnLanes.l1.W n] n
theorem f3_l_FnLanes.l0.ok (n : Nat) : LpOk (f3_l_FnLanes.O n) E (evalFn E n) n (keepAt 3) (.loop (loopAt c3 0)) :=
  lp_pure f3_l_FnLanes.l0.P sg_liilllffii f3_l_FnLanes.l0.A (f3_l_FnLanes.l0.F n) (orcOf_cf _ _ n) (lpOk_of (bs := []) (by kernel_rfl) .nil) (fun _ => rfl) (fun _ _ => by kernel_rfl) (fun _ _ _ => by kernel_rfl)
theorem f3_l_FnLanes.l1.ok (n : Nat) : LpOk (f3_l_FnLanes.O n) E (evalFn E n) n (keepAt 3) (.loop (loopAt c3 1)) :=
  lp_pure f3_l_FnLanes.l1.P sg_liilllffi f3_l_FnLanes.l1.A (f3_l_FnLanes.l1.F n) (orcOf_cf _ _ n) (lpOk_of (bs := []) (by kernel_rfl) .nil) (fun _ => rfl) (fun _ _ => by kernel_rfl) (fun _ _ _ => by kernel_rfl)
theorem f3_l_FnLanes.ok : ∀ n v x, f3_l_FnLanes.F n v = some x → evalFn E n 3 (flAs f3_l_FnLanes.P (sg_ll.pk v)) = some (f3_l_FnLanes.A.enc x) :=
  fn_pure (modes := (fdAt 3).ms) (outs := (fdAt 3).os) (results := (fdAt 3).rs) f3_l_FnLanes.O (c := c3) (keep := keepAt 3) (by kernel_rfl) (fun n => orcOf_cf _ _ n) (fun n => lpOk_of (bs := [loopAt c3 0, loopAt c3 1]) (by kernel_rfl) (.cons (f3_l_FnLanes.l0.ok n) (.cons (f3_l_FnLanes.l1.ok n) .nil))) (fun _ => rfl) (fun _ _ => by kernel_rfl)
noncomputable def f3_l_FnLanes.w : FnW E := fnW 3 f3_l_FnLanes.P sg_ll f3_l_FnLanes.A f3_l_FnLanes.F f3_l_FnLanes.ok
end Go.Proofs.Ytdejjalkfekjiaa.D
end
section
/- FnLanes, in plain Lean. -/
namespace Go.Proofs.Ytdejjalkfekjiaa.D
open Go Go.Desk
set_option linter.unusedVariables false
theorem s_from (n l : Nat) (c : List T) : f75_s_l00From (n + 1) l c = some (l, c, 0, 0) := by rw [f75_s_l00From]
theorem s_next (n : Nat) {bs : List Int} (hb : Bytes bs) {a : Int} (h0 : 0 ≤ a) (h1 : a ≤ 1125899906842624) (sd : Int) :
    ∃ r sd', (0 ≤ r ∧ r ≤ 255) ∧ f128_s_l00Srcnext (n + 1) bs.length (its .u8 bs) a sd = some (r, bs.length, its .u8 bs, a + 1, sd') := by
  rw [f128_s_l00Srcnext]
  rw [show IntKind.i64.wrap (a + 1) = a + 1 by rw [wrap64] <;> omega]
  cases h : decide (a < (bs.length : Int))
  · simp only [br_f]
    cases decide (a + 1 ≤ (bs.length : Int))
    · exact ⟨_, _, and255 _, rfl⟩
    · exact ⟨0, _, by omega, rfl⟩
  · simp only [decide_eq_true_eq] at h
    obtain ⟨i, rfl⟩ := Int.eq_ofNat_of_zero_le h0
    have hi : i < bs.length := by omega
    have hr := hb (bs[i]) (List.getElem_mem _)
    simp only [br_t, in_dec hi, Int.toNat_natCast, okAt_its hi, Bool.and_self, gd_t, iAt_its]
    rw [show bs.getD i 0 = bs[i] by simp [List.getD, hi], show IntKind.i64.wrap bs[i] = bs[i] by rw [wrap64] <;> omega]
    cases decide ((i : Int) + 1 ≤ (bs.length : Int))
    · exact ⟨_, _, and255 _, rfl⟩
    · exact ⟨_, _, hr, rfl⟩
theorem s_pick (n : Nat) {bs : List Int} (hb : Bytes bs) {a : Int} (h0 : 0 ≤ a) (h1 : a ≤ 1125899906842622) (sd k : Int) :
    ∃ r a' sd', (0 ≤ r ∧ (1 < k → r < k) ∧ (k ≤ 1 → r = 0)) ∧ (a ≤ a' ∧ a' ≤ a + 2) ∧ f76_s_l00Srcpick (n + 2) bs.length (its .u8 bs) a sd k = some (r, bs.length, its .u8 bs, a', sd') := by
  rw [f76_s_l00Srcpick]
  by_cases hk : k ≤ 1
  · rw [decide_eq_true hk]; exact ⟨0, a, sd, by omega, by omega, rfl⟩
  rw [decide_eq_false hk]
  obtain ⟨r, s1, hr, e1⟩ := s_next n hb h0 (by omega) sd
  simp only [br_f, e1, bd_s]
  have hk0 : (!decide (k = 0)) = true := by simp; omega
  by_cases hk2 : k > 200
  · rw [decide_eq_true hk2]
    obtain ⟨r', s2, hr', e2⟩ := s_next n hb (a := a + 1) (by omega) (by omega) s1
    simp only [br_t, e2, bd_s, hk0, gd_t]
    rw [show IntKind.i64.wrap (r * 256) = r * 256 by rw [wrap64] <;> omega, show IntKind.i64.wrap (r * 256 + r') = r * 256 + r' by rw [wrap64] <;> omega]
    refine ⟨_, _, _, ?_, ?_, rfl⟩
    · rw [Int.tmod_eq_emod_of_nonneg (by omega)]
      have := Int.emod_nonneg (r * 256 + r') (show k ≠ 0 by omega)
      have := Int.emod_lt_of_pos (r * 256 + r') (show 0 < k by omega)
      omega
    · omega
  · rw [decide_eq_false hk2]
    simp only [br_f, hk0, gd_t]
    refine ⟨_, _, _, ?_, ?_, rfl⟩
    · rw [Int.tmod_eq_emod_of_nonneg (by omega)]
      have := Int.emod_nonneg r (show k ≠ 0 by omega)
      have := Int.emod_lt_of_pos r (show 0 < k by omega)
      omega
    · omega
theorem s_one (n : Nat) {bs : List Int} (hb : Bytes bs) {a : Int} (h0 : 0 ≤ a) (h1 : a ≤ 1125899906842622) (sd k : Int) :
    ∃ r a' sd', (a ≤ a' ∧ a' ≤ a + 2) ∧ f129_s_l00Srcone (n + 3) bs.length (its .u8 bs) a sd k = some (r, bs.length, its .u8 bs, a', sd') := by
  obtain ⟨r, a', s', -, ha, e⟩ := s_pick n hb h0 h1 sd k
  rw [f129_s_l00Srcone, e]
  exact ⟨_, _, _, ha, rfl⟩
theorem s_plain (n : Nat) {bs : List Int} (hb : Bytes bs) {a : Int} (h0 : 0 ≤ a) (h1 : a ≤ 1125899906842620) (sd : Int) :
    ∃ x a' sd', Plain x ∧ (a ≤ a' ∧ a' ≤ a + 4) ∧ f77_s_l01DrawPlain (n + 4) bs.length (its .u8 bs) a sd = some (x, bs.length, its .u8 bs, a', sd') := by
  obtain ⟨r, a1, s1, hr, ha, e⟩ := s_pick (n + 1) hb h0 (by omega) sd 129
  obtain ⟨b, a2, s2, ha2, e2⟩ := s_one n hb (a := a1) (by omega) (by omega) s1 4
  rw [f77_s_l01DrawPlain, e]
  simp only [bd_s, e2]
  rw [show IntKind.i64.wrap (r - 64) = r - 64 by rw [wrap64] <;> omega]
  cases b
  · exact ⟨_, a2, s2, ⟨r - 64, by omega, .inr rfl⟩, by omega, rfl⟩
  · exact ⟨_, a2, s2, ⟨r - 64, by omega, .inl rfl⟩, by omega, rfl⟩
theorem s_among (n : Nat) {bs : List Int} (hb : Bytes bs) {a : Int} (h0 : 0 ≤ a) (h1 : a ≤ 1125899906842622) (sd : Int) (L : List Int) (hL : 0 < L.length) :
    ∃ r a' sd', r ∈ L ∧ (a ≤ a' ∧ a' ≤ a + 2) ∧ f132_s_l00Srcamong (n + 3) bs.length (its .u8 bs) a sd L.length (its .i64 L) = some (r, bs.length, its .u8 bs, a', sd', L.length, its .i64 L) := by
  obtain ⟨r, a1, s1, hr, ha, e⟩ := s_pick n hb h0 h1 sd (L.length : Int)
  rw [f132_s_l00Srcamong, e]
  obtain ⟨i, rfl⟩ := Int.eq_ofNat_of_zero_le hr.1
  have hi : i < L.length := by
    by_cases h : (L.length : Int) ≤ 1
    · have := hr.2.2 h; omega
    · have := hr.2.1 (by omega); omega
  simp only [bd_s, in_dec hi, Int.toNat_natCast, okAt_its hi, Bool.and_self, gd_t, iAt_its]
  refine ⟨_, _, _, ?_, ha, rfl⟩
  rw [show L.getD i 0 = L[i] by simp [List.getD, hi]]
  exact List.getElem_mem _
theorem s_from32 (n : Nat) {i : Int} (h0 : 0 ≤ i) (h1 : i < 4294967296) : ∃ x, W32 x ∧ f131_s_l01From (n + 2) i = some x := by
  rw [f131_s_l01From]
  refine ⟨canon .f32 i.toNat, w32_canon (by omega), ?_⟩
  rw [u32_wrap h0 h1]
  show bd (if 0 ≤ i then some (canon .f32 i.toNat) else none) _ = _
  rw [if_pos h0]; rfl
theorem s_float (n : Nat) {bs : List Int} (hb : Bytes bs) {a : Int} (h0 : 0 ≤ a) (h1 : a ≤ 1125899906842600) (sd : Int) :
    ∃ x a' sd', W32 x ∧ (a ≤ a' ∧ a' ≤ a + 16) ∧ f99_s_l01DrawFloat (n + 5) bs.length (its .u8 bs) a sd = some (x, bs.length, its .u8 bs, a', sd') := by
  obtain ⟨b, a1, s1, ha1, e1⟩ := s_one (n + 1) hb h0 (by omega) sd 12
  rw [f99_s_l01DrawFloat, e1]
  simp only [bd_s, br_not]
  cases b
  · obtain ⟨x, a2, s2, hx, ha2, e2⟩ := s_plain n hb (a := a1) (by omega) (by omega) s1
    simp only [br_f, e2, bd_s]
    exact ⟨_, _, _, hx.w32, by omega, rfl⟩
  obtain ⟨q, a2, s2, -, ha2, e2⟩ := s_pick (n + 2) hb (a := a1) (by omega) (by omega) s1 4
  simp only [br_t, e2, bd_s]
  cases q == 0
  case true =>
    obtain ⟨r, a3, s3, hr, ha3, e3⟩ := s_among (n + 1) hb (a := a2) (by omega) (by omega) s2 [0, 2147483648, 2139095040, 4286578688, 2143289344, 1, 2139095039, 8388608, 8388607, 2147483649] (by decide)
    have hr' : 0 ≤ r ∧ r < 4294967296 := by simp only [List.mem_cons, List.not_mem_nil, or_false] at hr; omega
    obtain ⟨x, hx, e4⟩ := s_from32 (n + 2) hr'.1 hr'.2
    rw [br_t]
    refine ⟨x, a3, s3, hx, by omega, ?_⟩
    refine Eq.trans (congrArg (fun o => bd o _) e3) ?_
    simp only [bd_s, e4]
  cases q == 1
  case true =>
    obtain ⟨r, a3, s3, hr, ha3, e3⟩ := s_pick (n + 2) hb (a := a2) (by omega) (by omega) s2 65536
    obtain ⟨r', a4, s4, hr', ha4, e4⟩ := s_pick (n + 2) hb (a := a3) (by omega) (by omega) s3 65536
    obtain ⟨x, hx, e5⟩ := s_from32 (n + 2) (i := r * 65536 + r') (by omega) (by omega)
    simp only [br_f, br_t, e3, e4, bd_s]
    rw [show IntKind.i64.wrap (r * 65536) = r * 65536 by rw [wrap64] <;> omega, show IntKind.i64.wrap (r * 65536 + r') = r * 65536 + r' by rw [wrap64] <;> omega, e5]
    exact ⟨x, _, _, hx, by omega, rfl⟩
  cases q == 2
  case true =>
    obtain ⟨r, a3, s3, hr, ha3, e3⟩ := s_pick (n + 2) hb (a := a2) (by omega) (by omega) s2 65536
    obtain ⟨x, hx, e5⟩ := s_from32 (n + 2) (i := r * 65536) (by omega) (by omega)
    simp only [br_f, br_t, e3, bd_s]
    rw [show IntKind.i64.wrap (r * 65536) = r * 65536 by rw [wrap64] <;> omega, e5]
    exact ⟨x, _, _, hx, by omega, rfl⟩
  obtain ⟨x, a3, s3, hx, ha3, e3⟩ := s_plain n hb (a := a2) (by omega) (by omega) s2
  obtain ⟨r, a4, s4, hr, ha4, e4⟩ := s_among (n + 1) hb (a := a3) (by omega) (by omega) s3 [8388608, 2130706432, 1610612736, 536870912] (by decide)
  have hr' : 0 ≤ r ∧ r < 4294967296 := by simp only [List.mem_cons, List.not_mem_nil, or_false] at hr; omega
  obtain ⟨y, hy, e5⟩ := s_from32 (n + 2) hr'.1 hr'.2
  simp only [br_f, e3, bd_s]
  refine ⟨_, a4, s4, w32_fmul x y, by omega, ?_⟩
  refine Eq.trans (congrArg (fun o => bd o _) e4) ?_
  simp only [bd_s, e5]
theorem s_floats_loop (n : Nat) {bs : List Int} (hb : Bytes bs) (str : Bool) : ∀ (j m : Nat) (a sd : Int) (acc : List Nat), 0 ≤ a → a + 16 * (j : Int) ≤ 1125899906842000 → acc.length + j ≤ 2147483647 → j < m → (∀ x ∈ acc, W32 x) →
    ∃ ys a' sd', ys.length = acc.length + j ∧ (∀ x ∈ ys, W32 x) ∧ (a ≤ a' ∧ a' ≤ a + 16 * (j : Int)) ∧
      f81_s_l01DrawFloats.l0 (n + 5) m bs.length (its .u8 bs) a sd (j : Int) acc.length (fls .f32 acc) str = some (bs.length, its .u8 bs, a', sd', ys.length, fls .f32 ys) := by
  intro j
  induction j with
  | zero =>
    intro m a sd acc h0 h1 hl hm hw
    obtain ⟨m, rfl⟩ : ∃ k, m = k + 1 := ⟨m - 1, by omega⟩
    rw [f81_s_l01DrawFloats.l0]
    exact ⟨acc, a, sd, by omega, hw, by omega, rfl⟩
  | succ j ih =>
    intro m a sd acc h0 h1 hl hm hw
    obtain ⟨m, rfl⟩ : ∃ k, m = k + 1 := ⟨m - 1, by omega⟩
    rw [f81_s_l01DrawFloats.l0, decide_eq_true (show (((j + 1 : Nat) : Int) > 0) by omega), show IntKind.i64.wrap (((j + 1 : Nat) : Int) - 1) = (j : Int) by rw [wrap64] <;> omega]
    have key : ∀ x a1 s1, W32 x → a ≤ a1 → a1 ≤ a + 16 → ∃ ys a' sd', ys.length = acc.length + (j + 1) ∧ (∀ x ∈ ys, W32 x) ∧ (a ≤ a' ∧ a' ≤ a + 16 * ((j + 1 : Nat) : Int)) ∧
        f81_s_l01DrawFloats.l0 (n + 5) m bs.length (its .u8 bs) a1 s1 (j : Int) (acc ++ [x]).length (fls .f32 (acc ++ [x])) str = some (bs.length, its .u8 bs, a', sd', ys.length, fls .f32 ys) := by
      intro x a1 s1 hx h2 h3
      obtain ⟨ys, a', sd', hy, hyw, ha, e⟩ := ih m a1 s1 (acc ++ [x]) (by omega) (by omega) (by simp; omega) (by omega) (by
        intro y hy; simp only [List.mem_append, List.mem_singleton] at hy; rcases hy with hy | rfl
        · exact hw y hy
        · exact hx)
      exact ⟨ys, a', sd', by simp at hy; omega, hyw, by omega, e⟩
    simp only [br_t]
    cases str
    · obtain ⟨x, a1, s1, hx, ha, e⟩ := s_plain (n + 1) hb h0 (by omega) sd
      simp only [br_f, e, bd_s, push_ok (show acc.length < 2147483648 by omega), gd_t, push_fls]
      rw [show acc.length + 1 = (acc ++ [x]).length by simp]
      exact key x a1 s1 hx.w32 (by omega) (by omega)
    · obtain ⟨x, a1, s1, hx, ha, e⟩ := s_float n hb h0 (by omega) sd
      simp only [br_t, e, bd_s, push_ok (show acc.length < 2147483648 by omega), gd_t, push_fls]
      rw [show acc.length + 1 = (acc ++ [x]).length by simp]
      exact key x a1 s1 hx (by omega) (by omega)
theorem s_floats (n : Nat) {bs : List Int} (hb : Bytes bs) {a : Int} (h0 : 0 ≤ a) (j : Nat) (h1 : a + 16 * (j : Int) ≤ 1125899906841000) (hj : j ≤ 2147483647) (hn : j < n) (sd : Int) :
    ∃ ys a' sd', ys.length = j ∧ (∀ x ∈ ys, W32 x) ∧ (a ≤ a' ∧ a' ≤ a + 2 + 16 * (j : Int)) ∧ f81_s_l01DrawFloats (n + 6) bs.length (its .u8 bs) a sd (j : Int) = some (ys.length, fls .f32 ys, bs.length, its .u8 bs, a', sd') := by
  obtain ⟨b, a1, s1, ha1, e1⟩ := s_one (n + 2) hb h0 (by omega) sd 4
  obtain ⟨ys, a2, s2, hy, hw, ha2, e2⟩ := s_floats_loop n hb b j (n + 5) a1 s1 [] (by omega) (by omega) (by simp; omega) (by omega) (by simp)
  rw [f81_s_l01DrawFloats, e1]
  refine ⟨ys, a2, s2, by simpa using hy, hw, by omega, ?_⟩
  have e2 : f81_s_l01DrawFloats.l0 (n + 5) (n + 5) bs.length (its .u8 bs) a1 s1 (j : Int) 0 (reps 0 [(T.flt FloatKind.f32 0)]) b = some (bs.length, its .u8 bs, a2, s2, ys.length, fls .f32 ys) := e2
  simp only [bd_s, e2]

theorem l_long10 (n : Nat) (bs cs : List Int) : f15_l_b10Long (n + 1) bs.length (its .u8 bs) cs.length (its .u8 cs) = some (decide (1048576 < bs.length ∨ 1048576 < cs.length)) := by
  rw [f15_l_b10Long]
  by_cases h : 1048576 < bs.length
  · rw [decide_eq_true (show (bs.length : Int) > 1048576 by omega), decide_eq_true (Or.inl h)]; rfl
  · rw [decide_eq_false (show ¬ (bs.length : Int) > 1048576 by omega), br_f]
    congr 1
    simp [h]; omega
theorem l_at10 (n : Nat) {bs : List Int} (hb : Bytes bs) {i k : Int} (hi : 0 ≤ i) (hi2 : i ≤ 1000000) (hk : 1 ≤ k) : ∃ r, (0 ≤ r ∧ r < k) ∧ f17_l_b10At (n + 1) bs.length (its .u8 bs) i k = some r := by
  rw [f17_l_b10At]
  by_cases h : k ≤ 1
  · rw [decide_eq_true h]; exact ⟨0, by omega, rfl⟩
  rw [decide_eq_false h]
  have hk0 : (!decide (k = 0)) = true := by simp; omega
  by_cases h2 : i < (bs.length : Int)
  · rw [decide_eq_true h2]
    obtain ⟨i, rfl⟩ := Int.eq_ofNat_of_zero_le hi
    have hi : i < bs.length := by omega
    have hr := hb (bs[i]) (List.getElem_mem _)
    simp only [br_f, br_t, in_dec hi, Int.toNat_natCast, okAt_its hi, Bool.and_self, gd_t, iAt_its, hk0]
    rw [show bs.getD i 0 = bs[i] by simp [List.getD, hi], show IntKind.i64.wrap bs[i] = bs[i] by rw [wrap64] <;> omega]
    refine ⟨_, ?_, rfl⟩
    rw [Int.tmod_eq_emod_of_nonneg (by omega)]
    have := Int.emod_nonneg bs[i] (show k ≠ 0 by omega)
    have := Int.emod_lt_of_pos bs[i] (show 0 < k by omega)
    omega
  · rw [decide_eq_false h2]
    simp only [br_f, hk0, gd_t]
    rw [show IntKind.i64.wrap (i * 37) = i * 37 by rw [wrap64] <;> omega, show IntKind.i64.wrap (i * 37 + 11) = i * 37 + 11 by rw [wrap64] <;> omega]
    refine ⟨_, ?_, rfl⟩
    rw [Int.tmod_eq_emod_of_nonneg (by omega)]
    have := Int.emod_nonneg (i * 37 + 11) (show k ≠ 0 by omega)
    have := Int.emod_lt_of_pos (i * 37 + 11) (show 0 < k by omega)
    omega
theorem s_bits (n : Nat) {x : Nat} (h : W32 x) : f130_s_l01Bits (n + 2) x = some (x : Int) := by
  rw [f130_s_l01Bits, fne_nan]
  cases hn : isNaN .f32 x
  · have : xF32bits (n + 1) x = some (x : Int) := by simp [xF32bits, hn]
    have hx := h.1
    simp only [br_f, this, bd_s]
    rw [wrap64] <;> omega
  · rw [br_t, ← h.2, canon_nan hn]; rfl
theorem s_same1 (n : Nat) {x y : Nat} (hx : W32 x) (hy : W32 y) : f84_s_l01Same (n + 3) x y = some (x == y) := by
  rw [f84_s_l01Same, s_bits n hx]
  simp only [bd_s, s_bits n hy]
  congr 1
  rw [Bool.eq_iff_iff]; simp; constructor <;> omega
theorem s_same (n : Nat) {x y : Nat} (hx : W32 x) (hy : W32 y) : f23_s_SameNumber (n + 4) x y = some (x == y) := by
  rw [f23_s_SameNumber, s_same1 n hx hy]; rfl
theorem s_b10numbers (n : Nat) {bs : List Int} (hb : Bytes bs) (k : Nat) (hk : k ≤ 1000000) (hn : k < n) : ∃ xs, xs.length = k ∧ (∀ x ∈ xs, W32 x) ∧ f19_s_B10Numbers (n + 7) bs.length (its .u8 bs) (k : Int) = some (xs.length, fls .f32 xs) := by
  obtain ⟨ys, a2, s2, hy, hw, ha2, e2⟩ := s_floats n hb (a := 0) (by omega) k (by omega) (by omega) (by omega) 0
  rw [f19_s_B10Numbers, s_from]
  simp only [bd_s, e2]
  exact ⟨ys, by omega, hw, rfl⟩


theorem i_in (n : Nat) (a b c : Int) : f83_i_within (n + 1) a b c = some (decide (b ≤ a ∧ a ≤ c)) := by
  rw [f83_i_within]
  by_cases h : b ≤ a <;> simp [br, h]

theorem i_sized (n : Nat) (x : Int) : f82_i_size (n + 1) x = some x := by rw [f82_i_size]


/-! points: a place and a value -/
def ptAt (ts : List (Int × Nat)) (i : Nat) : Int × Nat := ts.getD i (0, 0)
theorem pt_cells {ts : List (Int × Nat)} {i : Nat} (h : i < ts.length) : (tps ts)[i * 2]? = some (T.int .i64 (ptAt ts i).1) ∧ (tps ts)[i * 2 + 1]? = some (T.flt .f32 (ptAt ts i).2) := by
  have h1 := tps_at ts i
  have e : ts[i]? = some (ptAt ts i) := by unfold ptAt; simp [List.getD, h]
  rw [e] at h1
  exact h1
theorem okTP {ts : List (Int × Nat)} {i : Nat} (h : i < ts.length) : okAt [.int .i64, .flt .f32] (tps ts) (i * 2 + 0) = true := by
  obtain ⟨h1, h2⟩ := pt_cells h
  simp [okAt, h1, h2, isCK]
theorem okTI {ts : List (Int × Nat)} {i : Nat} (h : i < ts.length) : okAt [.int .i64] (tps ts) (i * 2 + 0) = true := by
  obtain ⟨h1, h2⟩ := pt_cells h
  simp [okAt, h1, isCK]
theorem okTF {ts : List (Int × Nat)} {i : Nat} (h : i < ts.length) : okAt [.flt .f32] (tps ts) (i * 2 + 1) = true := by
  obtain ⟨h1, h2⟩ := pt_cells h
  simp [okAt, h2, isCK]
theorem iTP {ts : List (Int × Nat)} {i : Nat} (h : i < ts.length) : iAt (tps ts) (i * 2 + 0) = (ptAt ts i).1 := by
  obtain ⟨h1, h2⟩ := pt_cells h
  simp [iAt, h1]
theorem fTP {ts : List (Int × Nat)} {i : Nat} (h : i < ts.length) : fAt (tps ts) (i * 2 + 1) = (ptAt ts i).2 := by
  obtain ⟨h1, h2⟩ := pt_cells h
  simp [fAt, h2]
theorem fTP0 {ts : List (Int × Nat)} {i : Nat} (h : i < ts.length) : fAt (tps ts) (i * 2 + 0 + 1) = (ptAt ts i).2 := fTP h
theorem pt_mem {ts : List (Int × Nat)} {i : Nat} (h : i < ts.length) : ptAt ts i ∈ ts := by
  have : ptAt ts i = ts[i] := by unfold ptAt; simp [List.getD, h]
  rw [this]; exact List.getElem_mem h
/-- the places of a lane grow -/
def Lane (ts : List (Int × Nat)) : Prop := 1 ≤ ts.length ∧ ts.length ≤ 12 ∧ (∀ t ∈ ts, 0 ≤ t.1 ∧ t.1 ≤ 100 ∧ Plain t.2) ∧ (∀ i, i + 1 < ts.length → (ptAt ts i).1 < (ptAt ts (i + 1)).1)
def between (p q : Int × Nat) (at_ : Int) : Nat := fadd .f32 p.2 (fmul .f32 (fsub .f32 q.2 p.2) (fdiv .f32 (FloatKind.f32.nearest (at_ - p.1)) (FloatKind.f32.nearest (q.1 - p.1))))
/-- the value of a lane from its place i on -/
def laneGo (ts : List (Int × Nat)) (at_ : Int) : Nat → Nat → Option Nat
  | 0, _ => none
  | j + 1, i => if at_ = (ptAt ts i).1 then some (ptAt ts i).2 else if at_ < (ptAt ts i).1 then some (between (ptAt ts (i - 1)) (ptAt ts i) at_) else laneGo ts at_ j (i + 1)
def laneM (ts : List (Int × Nat)) (at_ : Int) : Nat := if at_ ≤ (ptAt ts 0).1 then (ptAt ts 0).2 else (laneGo ts at_ (ts.length - 1) 1).getD (ptAt ts (ts.length - 1)).2
theorem i_lane_loop (n : Nat) (ts : List (Int × Nat)) (h : Lane ts) (at_ : Int) (h0 : 0 ≤ at_) (h1 : at_ ≤ 100000) : ∀ (j i m : Nat), 1 ≤ i → i + j = ts.length → j < m →
    f80_i_laneAt.l0 (n + 1) m ts.length (tps ts) at_ (i : Int) = some (match laneGo ts at_ j i with
      | some v => .inl v
      | none => .inr (ts.length, tps ts)) := by
  intro j
  induction j with
  | zero =>
    intro i m _ he hm
    obtain ⟨m, rfl⟩ : ∃ k, m = k + 1 := ⟨m - 1, by omega⟩
    rw [f80_i_laneAt.l0, nlt_dec (by omega)]; rfl
  | succ j ih =>
    intro i m hi he hm
    obtain ⟨m, rfl⟩ : ∃ k, m = k + 1 := ⟨m - 1, by omega⟩
    obtain ⟨l1, l2, l3, l4⟩ := h
    have hlt : i < ts.length := by omega
    have hlt1 : i - 1 < ts.length := by omega
    have w1 : IntKind.i64.wrap ((i : Int) - 1) = ((i - 1 : Nat) : Int) := by rw [wrap64] <;> omega
    obtain ⟨a1, a2, -⟩ := l3 _ (pt_mem hlt1)
    obtain ⟨b1, b2, -⟩ := l3 _ (pt_mem hlt)
    rw [f80_i_laneAt.l0, w1, lt_dec hlt, in_dec hlt1, in_dec hlt, Int.toNat_natCast, Int.toNat_natCast, okTP hlt1, okTP hlt, iTP hlt1, iTP hlt, fTP0 hlt1, fTP0 hlt]
    simp only [br_t, gd_t, Bool.and_self]
    unfold laneGo
    by_cases c1 : at_ = (ptAt ts i).1
    · rw [if_pos c1, show (at_ == (ptAt ts i).1) = true by simp [c1]]; rfl
    · rw [if_neg c1, show (at_ == (ptAt ts i).1) = false by simp [c1], br_f]
      by_cases c2 : at_ < (ptAt ts i).1
      · rw [if_pos c2, decide_eq_true c2, br_t, show IntKind.i64.wrap (at_ - (ptAt ts (i - 1)).1) = at_ - (ptAt ts (i - 1)).1 by rw [wrap64] <;> omega, show IntKind.i64.wrap ((ptAt ts i).1 - (ptAt ts (i - 1)).1) = (ptAt ts i).1 - (ptAt ts (i - 1)).1 by rw [wrap64] <;> omega, f118_i_share]
        rfl
      · rw [if_neg c2, decide_eq_false c2, br_f, wrap_succ (by omega)]
        exact ih (i + 1) m (by omega) (by omega) (by omega)
theorem i_lane (n : Nat) (ts : List (Int × Nat)) (h : Lane ts) (at_ : Int) (h0 : 0 ≤ at_) (h1 : at_ ≤ 100000) (hn : ts.length < n) : f80_i_laneAt (n + 2) ts.length (tps ts) at_ = some (laneM ts at_) := by
  have h' := h
  obtain ⟨l1, l2, l3, l4⟩ := h'
  have z1 : okAt [.int .i64, .flt .f32] (tps ts) 0 = true := okTP (i := 0) (by omega)
  have z2 : iAt (tps ts) 0 = (ptAt ts 0).1 := iTP (i := 0) (by omega)
  have z3 : fAt (tps ts) 1 = (ptAt ts 0).2 := fTP (i := 0) (by omega)
  have z4 : decide ((0 : Int) ≤ 0 ∧ (0 : Int) < (ts.length : Int)) = true := decide_eq_true (by omega)
  have w1 : IntKind.i64.wrap ((ts.length : Int) - 1) = ((ts.length - 1 : Nat) : Int) := by rw [wrap64] <;> omega
  have e := i_lane_loop n ts h at_ h0 h1 (ts.length - 1) 1 (n + 1) (by omega) (by omega) (by omega)
  have e : f80_i_laneAt.l0 (n + 1) (n + 1) ts.length (tps ts) at_ 1 = _ := e
  rw [f80_i_laneAt, z1, z4, z2, z3, e]
  unfold laneM
  simp only [gd_t, Bool.and_self]
  by_cases c : at_ ≤ (ptAt ts 0).1
  · rw [decide_eq_true c, if_pos c, br_t]
  · rw [decide_eq_false c, if_neg c, br_f, bd_s]
    cases laneGo ts at_ (ts.length - 1) 1 with
    | some v => rfl
    | none =>
      simp only [sm_r, w1, in_dec (show ts.length - 1 < ts.length by omega), Int.toNat_natCast, okTP (show ts.length - 1 < ts.length by omega), fTP0 (show ts.length - 1 < ts.length by omega), Bool.and_self, gd_t]
      rfl
theorem i_islane_loop (n : Nat) (ts : List (Int × Nat)) (h : Lane ts) : ∀ (j i m : Nat), i + j = ts.length → j < m → f21_i_IsLane.l0 (n + 2) m ts.length (tps ts) ts.length (tps ts) (ts.length : Int) (i : Int) = some (.inr ()) := by
  obtain ⟨l1, l2, l3, l4⟩ := h
  intro j
  induction j with
  | zero =>
    intro i m he hm
    obtain ⟨m, rfl⟩ : ∃ k, m = k + 1 := ⟨m - 1, by omega⟩
    rw [f21_i_IsLane.l0, nlt_dec (by omega)]; rfl
  | succ j ih =>
    intro i m he hm
    obtain ⟨m, rfl⟩ : ∃ k, m = k + 1 := ⟨m - 1, by omega⟩
    have hlt : i < ts.length := by omega
    obtain ⟨b1, b2, -⟩ := l3 _ (pt_mem hlt)
    have rec_ := ih (i + 1) m (by omega) (by omega)
    have place : f78_i_isPlace (n + 2) (ptAt ts i).1 = some true := by
      rw [f78_i_isPlace, i_in, decide_eq_true (show 0 ≤ (ptAt ts i).1 ∧ (ptAt ts i).1 ≤ 100000 by omega)]; rfl
    rw [f21_i_IsLane.l0, lt_dec hlt, in_dec hlt, Int.toNat_natCast, okTP hlt, iTP hlt, wrap_succ (by omega)]
    simp only [br_t, gd_t, Bool.and_self, place, bd_s, br_not]
    by_cases h0 : i = 0
    · subst h0
      rw [decide_eq_false (show ¬ ((0 : Nat) : Int) > 0 by omega), br_f]; exact rec_
    · have hlt1 : i - 1 < ts.length := by omega
      have w1 : IntKind.i64.wrap ((i : Int) - 1) = ((i - 1 : Nat) : Int) := by rw [wrap64] <;> omega
      have hk := l4 (i - 1) (by omega)
      rw [show i - 1 + 1 = i by omega] at hk
      have hix : ix 2 (i - 1) 0 = (i - 1) * 2 + 0 := rfl
      rw [decide_eq_true (show (i : Int) > 0 by omega), br_t, w1, in_dec hlt1, Int.toNat_natCast, okTP hlt1, hix, iTP hlt1, decide_eq_false (show ¬ (ptAt ts (i - 1)).1 ≥ (ptAt ts i).1 by omega)]
      exact rec_
theorem i_islane (n : Nat) (ts : List (Int × Nat)) (h : Lane ts) (hn : ts.length < n) : f21_i_IsLane (n + 3) ts.length (tps ts) = some true := by
  have h' := h
  obtain ⟨l1, l2, l3, l4⟩ := h'
  have e := i_islane_loop n ts h ts.length 0 (n + 2) (by omega) (by omega)
  have e : f21_i_IsLane.l0 (n + 2) (n + 2) ts.length (tps ts) ts.length (tps ts) (ts.length : Int) 0 = _ := e
  rw [f21_i_IsLane, i_sized]
  simp only [bd_s, i_in, decide_eq_true (show (1 : Int) ≤ (ts.length : Int) ∧ (ts.length : Int) ≤ 12 by omega), br_not, br_t, e, sm_r]
theorem i_laneof (n : Nat) (ts : List (Int × Nat)) (h : Lane ts) (at_ : Int) (h0 : 0 ≤ at_) (h1 : at_ ≤ 100000) (hn : ts.length < n) : f22_i_LaneAt (n + 4) ts.length (tps ts) at_ = some (laneM ts at_, true) := by
  rw [f22_i_LaneAt, i_islane n ts h hn]
  have place : f78_i_isPlace (n + 3) at_ = some true := by
    rw [f78_i_isPlace, i_in, decide_eq_true (show 0 ≤ at_ ∧ at_ ≤ 100000 by omega)]; rfl
  simp only [bd_s, br_not, br_t, place, i_lane (n + 1) ts h at_ h0 h1 (by omega)]
def laneL (ts : List (Int × Nat)) (f k : Nat) : List Nat := (List.range k).map fun i => laneM ts ((f + i : Nat) : Int)
theorem i_runlane_loop (n : Nat) (ts : List (Int × Nat)) (h : Lane ts) (f k : Nat) (hf : f + k ≤ 100000) (hn : ts.length < n) : ∀ (j i m : Nat), i + j = k → j < m → f18_i_RunLane.l0 (n + 2) m ts.length (tps ts) (f : Int) (k : Int) (laneL ts f i).length (fls .f32 (laneL ts f i)) (i : Int) = some ((laneL ts f k).length, fls .f32 (laneL ts f k)) := by
  intro j
  induction j with
  | zero =>
    intro i m he hm
    obtain ⟨m, rfl⟩ : ∃ k, m = k + 1 := ⟨m - 1, by omega⟩
    obtain rfl : i = k := by omega
    rw [f18_i_RunLane.l0, nlt_dec (by omega)]; rfl
  | succ j ih =>
    intro i m he hm
    obtain ⟨m, rfl⟩ : ∃ k, m = k + 1 := ⟨m - 1, by omega⟩
    have w1 : IntKind.i64.wrap ((f : Int) + (i : Int)) = ((f + i : Nat) : Int) := by rw [wrap64] <;> omega
    have hl : (laneL ts f i).length = i := by simp [laneL]
    have e : laneL ts f i ++ [laneM ts ((f + i : Nat) : Int)] = laneL ts f (i + 1) := by unfold laneL; rw [List.range_succ, List.map_append]; rfl
    rw [f18_i_RunLane.l0, lt_dec (show i < k by omega), w1, i_lane n ts h _ (by omega) (by omega) hn, wrap_succ (by omega)]
    simp only [br_t, bd_s, push_ok (show (laneL ts f i).length < 2147483648 by omega), gd_t, push_fls]
    rw [push_len (z := laneM ts ((f + i : Nat) : Int)), e]
    exact ih (i + 1) m (by omega) (by omega)
theorem i_runlane (n : Nat) (ts : List (Int × Nat)) (h : Lane ts) (f k : Nat) (hf : f + k ≤ 100000) (hk : k ≤ 256) (hn : ts.length + k < n) : f18_i_RunLane (n + 4) ts.length (tps ts) (f : Int) (k : Int) = some ((laneL ts f k).length, fls .f32 (laneL ts f k), true) := by
  have e := i_runlane_loop (n + 1) ts h f k hf (by omega) k 0 (n + 3) (by omega) (by omega)
  have e : f18_i_RunLane.l0 (n + 3) (n + 3) ts.length (tps ts) (f : Int) (k : Int) 0 [] 0 = _ := e
  have place : f78_i_isPlace (n + 3) (f : Int) = some true := by
    rw [f78_i_isPlace, i_in, decide_eq_true (show (0 : Int) ≤ (f : Int) ∧ (f : Int) ≤ 100000 by omega)]; rfl
  have count : f79_i_isCount (n + 3) (k : Int) = some true := by
    rw [f79_i_isCount, i_in, decide_eq_true (show (0 : Int) ≤ (k : Int) ∧ (k : Int) ≤ 256 by omega)]; rfl
  have w1 : IntKind.i64.wrap ((f : Int) + (k : Int)) = (f : Int) + (k : Int) := by rw [wrap64] <;> omega
  have w2 : IntKind.i64.wrap ((f : Int) + (k : Int) - 1) = (f : Int) + (k : Int) - 1 := by rw [wrap64] <;> omega
  rw [f18_i_RunLane, i_islane n ts h (by omega)]
  simp only [bd_s, br_not, br_t, place, count, w1, w2, decide_eq_false (show ¬ ((f : Int) + (k : Int) - 1 > 100000) by omega), br_f, e]
theorem i_apply_loop (n : Nat) (xs : List Nat) : ∀ (zs ys p d : List Nat) (m : Nat), xs = p ++ zs → ys.length = zs.length → d.length = p.length → p.length + zs.length < 1048576 → zs.length < m →
    f20_i_ApplyLane.l0 n m xs.length (fls .f32 xs) (d ++ ys).length (fls .f32 (d ++ ys)) ((d ++ ys).length : Int) (p.length : Int) = some ((d ++ ys).length, fls .f32 (d ++ List.zipWith (fmul .f32) zs ys)) := by
  intro zs
  induction zs with
  | nil =>
    intro ys p d m hx hl hd hp hm
    obtain ⟨m, rfl⟩ : ∃ k, m = k + 1 := ⟨m - 1, by omega⟩
    obtain rfl : ys = [] := by simpa using hl
    rw [f20_i_ApplyLane.l0, nlt_dec (by simp [hd])]; rfl
  | cons z zs ih =>
    intro ys p d m hx hl hd hp hm
    obtain ⟨m, rfl⟩ : ∃ k, m = k + 1 := ⟨m - 1, by omega⟩
    cases ys with
    | nil => simp at hl
    | cons y ys =>
      have a1 : okAt [.flt .f32] (fls .f32 (d ++ y :: ys)) p.length = true := by rw [← hd]; exact okAt_mid
      have a2 : fAt (fls .f32 (d ++ y :: ys)) p.length = y := by rw [← hd]; exact fAt_mid
      have a3 : decide ((0 : Int) ≤ (p.length : Int) ∧ (p.length : Int) < ((d ++ y :: ys).length : Int)) = true := by rw [← hd]; exact in_mid
      have a4 : decide ((p.length : Int) < ((d ++ y :: ys).length : Int)) = true := by rw [← hd]; exact lt_mid
      have b1 : okAt [.flt .f32] (fls .f32 xs) p.length = true := by rw [hx]; exact okAt_mid
      have b2 : fAt (fls .f32 xs) p.length = z := by rw [hx]; exact fAt_mid
      have b3 : decide ((0 : Int) ≤ (p.length : Int) ∧ (p.length : Int) < (xs.length : Int)) = true := by rw [hx]; exact in_mid
      have hset : (d ++ y :: ys).set p.length (fmul .f32 z y) = (d ++ [fmul .f32 z y]) ++ ys := by rw [← hd]; simp
      have hlen : (d ++ y :: ys).length = ((d ++ [fmul .f32 z y]) ++ ys).length := by simp
      have := ih ys (p ++ [z]) (d ++ [fmul .f32 z y]) m (by rw [hx]; simp) (by simpa using hl) (by simp [hd]) (by simp at hp ⊢; omega) (by simp at hm; omega)
      rw [f20_i_ApplyLane.l0, a4, b3, toNat_len, b1, b2, a3, a1, a2, le_ble (show p.length + 1 ≤ (fls .f32 (d ++ y :: ys)).length by simp [fls, hd]), setN_one, set_fls, hset, wrap_len (z := z) (by simp at hp; omega), hlen]
      simp only [br_t, gd_t, Bool.and_self]
      rw [this]
      simp
theorem i_applylane (n : Nat) (ts : List (Int × Nat)) (h : Lane ts) (f : Nat) (xs : List Nat) (hf : f + xs.length ≤ 100000) (hk : xs.length ≤ 256) (hn : ts.length + xs.length < n) : f20_i_ApplyLane (n + 5) ts.length (tps ts) (f : Int) xs.length (fls .f32 xs) = some (xs.length, fls .f32 (List.zipWith (fmul .f32) xs (laneL ts f xs.length)), true) := by
  have hl : (laneL ts f xs.length).length = xs.length := by simp [laneL]
  have e := i_apply_loop (n + 4) xs xs (laneL ts f xs.length) [] [] (n + 4) rfl hl rfl (by simp; omega) (by omega)
  simp only [List.nil_append, hl] at e
  have e : f20_i_ApplyLane.l0 (n + 4) (n + 4) xs.length (fls .f32 xs) xs.length (fls .f32 (laneL ts f xs.length)) (xs.length : Int) 0 = _ := e
  have r := i_runlane n ts h f xs.length hf hk hn
  rw [hl] at r
  rw [f20_i_ApplyLane, i_sized]
  simp only [bd_s, r, br_not, br_t, e]

theorem pt_left {ts : List (Int × Nat)} {t : Int × Nat} {i : Nat} (h : i < ts.length) : ptAt (ts ++ [t]) i = ptAt ts i := by
  unfold ptAt; simp only [List.getD]; rw [List.getElem?_append_left h]
theorem pt_last {ts : List (Int × Nat)} {t : Int × Nat} : ptAt (ts ++ [t]) ts.length = t := by
  unfold ptAt; simp [List.getD]
theorem draw_loop (n : Nat) {bs : List Int} (hb : Bytes bs) : ∀ (j m : Nat) (a sd : Int) (acc : List (Int × Nat)) (at_ : Int), 0 ≤ a → a + 16 * (j : Int) ≤ 1125899906842000 → acc.length + j ≤ 5 → j < m →
    0 ≤ at_ → at_ + 8 * (j : Int) ≤ 100 → (∀ t ∈ acc, 0 ≤ t.1 ∧ t.1 ≤ 100 ∧ Plain t.2) → (∀ i, i + 1 < acc.length → (ptAt acc i).1 < (ptAt acc (i + 1)).1) → (∀ i, i < acc.length → (ptAt acc i).1 < at_) →
    ∃ ts, ts.length = acc.length + j ∧ (∀ t ∈ ts, 0 ≤ t.1 ∧ t.1 ≤ 100 ∧ Plain t.2) ∧ (∀ i, i + 1 < ts.length → (ptAt ts i).1 < (ptAt ts (i + 1)).1) ∧
      f16_s_B10Lane.l0 (n + 4) m bs.length (its .u8 bs) a sd acc.length (tps acc) at_ (j : Int) = some (ts.length, tps ts) := by
  intro j
  induction j with
  | zero =>
    intro m a sd acc at_ _ _ _ hm _ _ h1 h2 _
    obtain ⟨m, rfl⟩ : ∃ k, m = k + 1 := ⟨m - 1, by omega⟩
    rw [f16_s_B10Lane.l0, decide_eq_false (show ¬ (((0 : Nat) : Int) > 0) by omega)]
    exact ⟨acc, by omega, h1, h2, rfl⟩
  | succ j ih =>
    intro m a sd acc at_ h0 ha hl hm hat hat2 h1 h2 h3
    obtain ⟨m, rfl⟩ : ∃ k, m = k + 1 := ⟨m - 1, by omega⟩
    obtain ⟨x, a1, s1, hx, ha1, e1⟩ := s_plain n hb (a := a) (by omega) (by omega) sd
    obtain ⟨r, a2, s2, hr, ha2, e2⟩ := s_pick (n + 2) hb (a := a1) (by omega) (by omega) s1 8
    rw [f16_s_B10Lane.l0, decide_eq_true (show (((j + 1 : Nat) : Int) > 0) by omega), e1]
    simp only [br_t, bd_s, push_ok (show acc.length < 2147483648 by omega), gd_t, e2, push_tap]
    rw [push_len (z := (at_, x)), show IntKind.i64.wrap (at_ + IntKind.i64.wrap (1 + r)) = at_ + (1 + r) by rw [show IntKind.i64.wrap (1 + r) = 1 + r by rw [wrap64] <;> omega]; rw [wrap64] <;> omega,
      show IntKind.i64.wrap (((j + 1 : Nat) : Int) - 1) = (j : Int) by rw [wrap64] <;> omega]
    obtain ⟨ts, t1, t2, t3, t4⟩ := ih m a2 s2 (acc ++ [(at_, x)]) (at_ + (1 + r)) (by omega) (by omega) (by simp; omega) (by omega) (by omega) (by omega)
      (by
        intro t ht
        rcases List.mem_append.1 ht with h | h
        · exact h1 t h
        · obtain rfl : t = (at_, x) := by simpa using h
          exact ⟨hat, by show at_ ≤ 100; omega, hx⟩)
      (by
        intro i hi
        rw [List.length_append, List.length_singleton] at hi
        rcases Nat.lt_or_ge (i + 1) acc.length with h | h
        · rw [pt_left (by omega), pt_left h]; exact h2 i h
        · have h5 : i + 1 = acc.length := by omega
          rw [pt_left (by omega)]
          have : ptAt (acc ++ [(at_, x)]) (i + 1) = (at_, x) := by rw [h5]; exact pt_last
          rw [this]; exact h3 i (by omega))
      (by
        intro i hi
        rw [List.length_append, List.length_singleton] at hi
        rcases Nat.lt_or_ge i acc.length with h | h
        · rw [pt_left h]; have := h3 i h; omega
        · have h5 : i = acc.length := by omega
          rw [h5, pt_last]; show at_ < at_ + (1 + r); omega)
    exact ⟨ts, by rw [t1]; simp; omega, t2, t3, t4⟩
theorem drawn (n : Nat) {bs : List Int} (hb : Bytes bs) (hn : 6 < n) : ∃ ts, Lane ts ∧ ts.length ≤ 5 ∧ f16_s_B10Lane (n + 5) bs.length (its .u8 bs) = some (ts.length, tps ts) := by
  obtain ⟨r1, a1, s1, h1, ha1, e1⟩ := s_pick (n + 2) hb (a := 0) (by omega) (by omega) 0 4
  obtain ⟨r2, a2, s2, h2, ha2, e2⟩ := s_pick (n + 2) hb (a := a1) (by omega) (by omega) s1 5
  obtain ⟨r2, rfl⟩ := Int.eq_ofNat_of_zero_le h2.1
  obtain ⟨ts, t1, t2, t3, t4⟩ := draw_loop n hb (1 + r2) (n + 4) a2 s2 [] r1 (by omega) (by omega) (by simp; omega) (by omega) (by omega) (by omega) (by simp) (by simp) (by simp)
  refine ⟨ts, ⟨by simp at t1; omega, by simp at t1; omega, t2, t3⟩, by simp at t1; omega, ?_⟩
  rw [f16_s_B10Lane, s_from]
  have t4 : f16_s_B10Lane.l0 (n + 4) (n + 4) bs.length (its .u8 bs) a2 s2 0 (reps 0 [(T.int .i64 (0 : Int)), (T.flt .f32 0)]) r1 ((1 + r2 : Nat) : Int) = _ := t4
  simp only [bd_s, e1, e2, show IntKind.i64.wrap (1 + (r2 : Int)) = ((1 + r2 : Nat) : Int) by rw [wrap64] <;> omega, t4]
theorem keys_grow {ts : List (Int × Nat)} (h : Lane ts) : ∀ (d i : Nat), i + d + 1 < ts.length → (ptAt ts i).1 < (ptAt ts (i + d + 1)).1 := by
  intro d
  induction d with
  | zero => intro i hi; exact h.2.2.2 i hi
  | succ d ih => intro i hi; have h1 := ih i (by omega); have h2 := h.2.2.2 (i + d + 1) (by omega); exact Int.lt_trans h1 h2
theorem keys_lt {ts : List (Int × Nat)} (h : Lane ts) {i k : Nat} (hik : i < k) (hk : k < ts.length) : (ptAt ts i).1 < (ptAt ts k).1 := by
  have := keys_grow h (k - i - 1) i (by omega)
  rwa [show i + (k - i - 1) + 1 = k by omega] at this
theorem go_own {ts : List (Int × Nat)} (h : Lane ts) {k : Nat} (hk : k < ts.length) : ∀ (j i : Nat), i ≤ k → i + j = ts.length → laneGo ts (ptAt ts k).1 j i = some (ptAt ts k).2 := by
  intro j
  induction j with
  | zero => intro i hi he; omega
  | succ j ih =>
    intro i hi he
    unfold laneGo
    rcases Nat.lt_or_ge i k with h1 | h1
    · have := keys_lt h h1 hk
      rw [if_neg (by omega), if_neg (by omega)]
      exact ih (i + 1) (by omega) (by omega)
    · obtain rfl : i = k := by omega
      rw [if_pos rfl]
theorem lane_own {ts : List (Int × Nat)} (h : Lane ts) {k : Nat} (hk : k < ts.length) : laneM ts (ptAt ts k).1 = (ptAt ts k).2 := by
  unfold laneM
  rcases Nat.eq_zero_or_pos k with h0 | h0
  · subst h0; rw [if_pos (Int.le_refl _)]
  · have := keys_lt h h0 hk
    rw [if_neg (by omega), go_own h hk (ts.length - 1) 1 h0 (by omega)]; rfl
theorem go_last {ts : List (Int × Nat)} (h : Lane ts) : ∀ (j i : Nat), i + j = ts.length → laneGo ts 100000 j i = none := by
  intro j
  induction j with
  | zero => intro i _; rfl
  | succ j ih =>
    intro i he
    obtain ⟨h1, h2, -⟩ := h.2.2.1 _ (pt_mem (show i < ts.length by omega))
    unfold laneGo
    rw [if_neg (by omega), if_neg (by omega)]
    exact ih (i + 1) (by omega)
theorem lane_last {ts : List (Int × Nat)} (h : Lane ts) : laneM ts 100000 = (ptAt ts (ts.length - 1)).2 := by
  have h1 := h.1
  obtain ⟨h2, h3, -⟩ := h.2.2.1 _ (pt_mem (show 0 < ts.length by omega))
  unfold laneM
  rw [if_neg (by omega), go_last h _ _ (by omega)]; rfl
theorem lane_first {ts : List (Int × Nat)} (h : Lane ts) : laneM ts 0 = (ptAt ts 0).2 := by
  have h1 := h.1
  obtain ⟨h2, h3, -⟩ := h.2.2.1 _ (pt_mem (show 0 < ts.length by omega))
  unfold laneM
  rw [if_pos h2]
theorem plain_val {x : Nat} (h : Plain x) : Val .f32 x (fval .f32 x) ∧ -10 ≤ fval .f32 x ∧ fval .f32 x ≤ 10 := by
  obtain ⟨v, -, -, v3, v4, v5⟩ := h.val
  refine ⟨fin_val h.fin, ?_, ?_⟩ <;> rcases v5 with e | e <;> rw [e] <;> grind
theorem p2_18 : p2 ((18 : Nat) : Int) = 262144 := by rw [p2_nat]; rfl
theorem lane_mid {p q : Int × Nat} {at_ : Int} (hp : Plain p.2) (hq : Plain q.2) (h0 : 0 ≤ p.1) (h1 : q.1 ≤ 100) (h2 : p.1 < at_) (h3 : at_ < q.1) :
    ∃ v, Val .f32 (between p q at_) v ∧ (fval .f32 p.2 - 2 * p2 (-18) ≤ v ∨ fval .f32 q.2 - 2 * p2 (-18) ≤ v) ∧ (v ≤ fval .f32 p.2 + 2 * p2 (-18) ∨ v ≤ fval .f32 q.2 + 2 * p2 (-18)) := by
  obtain ⟨p1, p2_, p3⟩ := plain_val hp
  obtain ⟨q1, q2, q3⟩ := plain_val hq
  obtain ⟨vp, hvp⟩ : ∃ v, v = fval .f32 p.2 := ⟨_, rfl⟩
  obtain ⟨vq, hvq⟩ : ∃ v, v = fval .f32 q.2 := ⟨_, rfl⟩
  rw [← hvp] at p1 p2_ p3 ⊢
  rw [← hvq] at q1 q2 q3 ⊢
  have hB : Rep0 .f32 ((30 : Nat) : Rat) := rep_nat .f32 (by rw [binade32]; omega)
  have hT : ((30 : Nat) : Rat) < p2 (topE .f32) := nat_top .f32 (by rw [binade32]; omega)
  have h30 : ((30 : Nat) : Rat) = 30 := rfl
  rw [h30] at hB hT
  have hC : ((8000000 : Nat) : Rat) = 8000000 := rfl
  have e18 : -((18 : Nat) : Int) = -18 := rfl
  have hpos := p2_pos (-18)
  obtain ⟨d, d1, d2⟩ := sub_val q1 p1 hB hT (by grind) (by grind)
  have hd := d2.abs 18 (by rw [least32]; decide) (B := 8000000) (by rw [binade32]; omega) (by rw [p2_18, hC]; grind) (by rw [p2_18, hC]; grind)
  rw [e18] at hd
  have hs1 : (vp ≤ vq → 0 ≤ d) ∧ (vq ≤ vp → d ≤ 0) := ⟨fun h => (d2 0 (repZ _)).2 (by grind), fun h => (d2 0 (repZ _)).1 (by grind)⟩
  have hd30 : -30 ≤ d ∧ d ≤ 30 := ⟨(d2 _ hB.neg).2 (by grind), (d2 _ hB.rep).1 (by grind)⟩
  -- the share
  have ia := int_val (k := .f32) (n := at_ - p.1) (by rw [binade32]; omega)
  have ib := int_val (k := .f32) (n := q.1 - p.1) (by rw [binade32]; omega)
  have ha0 : (0 : Rat) < ((at_ - p.1 : Int) : Rat) := by exact_mod_cast (show (0 : Int) < at_ - p.1 by omega)
  have hab : ((at_ - p.1 : Int) : Rat) < ((q.1 - p.1 : Int) : Rat) := by exact_mod_cast (show at_ - p.1 < q.1 - p.1 by omega)
  generalize ((at_ - p.1 : Int) : Rat) = a at ia ha0 hab
  generalize ((q.1 - p.1 : Int) : Rat) = b at ib hab
  have hb0 : 0 < b := by grind
  have hq : a / b * b = a := Rat.div_mul_cancel (by grind)
  have hq0 : 0 ≤ a / b := by
    refine Rat.not_lt.1 fun h => ?_
    have := (Rat.mul_lt_mul_right hb0).2 h
    grind
  have hq1 : a / b ≤ 1 := by
    refine Rat.not_lt.1 fun h => ?_
    have := (Rat.mul_lt_mul_right hb0).2 h
    grind
  obtain ⟨s, s1, s2⟩ := div_val ia ib (by grind) hB hT (by grind) (by grind)
  have hs0 : 0 ≤ s := (s2 0 (repZ _)).2 hq0
  have hs2 : s ≤ 1 := (s2 1 val_one32.rep).1 hq1
  -- the product
  have hdsn : (0 ≤ d → 0 ≤ d * s ∧ d * s ≤ d) ∧ (d ≤ 0 → d ≤ d * s ∧ d * s ≤ 0) := by
    constructor
    · intro h
      have h1 := Rat.mul_nonneg h hs0
      have h2 : d * s ≤ d * 1 := Rat.mul_le_mul_of_nonneg_left hs2 h
      grind
    · intro h
      have h1 := Rat.mul_nonneg (show 0 ≤ -d by grind) hs0
      have h2 : (-d) * s ≤ (-d) * 1 := Rat.mul_le_mul_of_nonneg_left hs2 (by grind)
      grind
  have hds30 : -30 ≤ d * s ∧ d * s ≤ 30 := by
    rcases (Rat.le_total : (0 : Rat) ≤ d ∨ d ≤ 0) with h | h
    · have := hdsn.1 h; grind
    · have := hdsn.2 h; grind
  obtain ⟨m, m1, m2⟩ := mul_val d1 s1 hB hT hds30.2 hds30.1
  have hm : (0 ≤ d → 0 ≤ m ∧ m ≤ d) ∧ (d ≤ 0 → d ≤ m ∧ m ≤ 0) :=
    ⟨fun h => ⟨(m2 0 (repZ _)).2 (hdsn.1 h).1, (m2 d d1.rep).1 (hdsn.1 h).2⟩, fun h => ⟨(m2 d d1.rep).2 (hdsn.2 h).1, (m2 0 (repZ _)).1 (hdsn.2 h).2⟩⟩
  have hd21 : -21 ≤ d ∧ d ≤ 21 := by
    have : p2 (-18) ≤ 1 := by have := p2_le (show (-18 : Int) ≤ 0 by decide); rwa [p2_zero] at this
    grind
  have hsum : -31 < vp + m ∧ vp + m < 31 := by
    rcases (Rat.le_total : (0 : Rat) ≤ d ∨ d ≤ 0) with h | h
    · have := hm.1 h; grind
    · have := hm.2 h; grind
  have hB2 : Rep0 .f32 ((31 : Nat) : Rat) := rep_nat .f32 (by rw [binade32]; omega)
  have hT2 : ((31 : Nat) : Rat) < p2 (topE .f32) := nat_top .f32 (by rw [binade32]; omega)
  have h31 : ((31 : Nat) : Rat) = 31 := rfl
  rw [h31] at hB2 hT2
  obtain ⟨v, v1, v2⟩ := add_val p1 m1 hB2 hT2 (by grind) (by grind)
  have hC2 : ((9000000 : Nat) : Rat) = 9000000 := rfl
  have hv := v2.abs 18 (by rw [least32]; decide) (B := 9000000) (by rw [binade32]; omega) (by rw [p2_18, hC2]; grind) (by rw [p2_18, hC2]; grind)
  rw [e18] at hv
  refine ⟨v, v1, ?_, ?_⟩
  · rcases (Rat.le_total : vp ≤ vq ∨ vq ≤ vp) with h | h
    · left; have := hm.1 (hs1.1 h); grind
    · right; have := hm.2 (hs1.2 h); grind
  · rcases (Rat.le_total : vp ≤ vq ∨ vq ≤ vp) with h | h
    · right; have := hm.1 (hs1.1 h); grind
    · left; have := hm.2 (hs1.2 h); grind
/-- a lane's value is between its points' values, nearly -/
theorem go_between {ts : List (Int × Nat)} (h : Lane ts) {lo hi : Rat} (hb : ∀ k, k < ts.length → lo ≤ fval .f32 (ptAt ts k).2 ∧ fval .f32 (ptAt ts k).2 ≤ hi) (at_ : Int) : ∀ (j i : Nat), 1 ≤ i → i + j = ts.length → (ptAt ts (i - 1)).1 < at_ → ∀ v, laneGo ts at_ j i = some v → W32 v ∧ ∃ w, Val .f32 v w ∧ lo - 2 * p2 (-18) ≤ w ∧ w ≤ hi + 2 * p2 (-18) := by
  have hpos := p2_pos (-18)
  intro j
  induction j with
  | zero => intro i _ _ _ v hv; cases hv
  | succ j ih =>
    intro i h1 he hlt v hv
    have l3 := h.2.2.1
    obtain ⟨b1, b2, b3⟩ := l3 _ (pt_mem (show i < ts.length by omega))
    obtain ⟨a1, a2, a3⟩ := l3 _ (pt_mem (show i - 1 < ts.length by omega))
    obtain ⟨k1, k2⟩ := hb i (by omega)
    obtain ⟨k3, k4⟩ := hb (i - 1) (by omega)
    unfold laneGo at hv
    by_cases c1 : at_ = (ptAt ts i).1
    · rw [if_pos c1] at hv
      obtain rfl := Option.some.inj hv
      exact ⟨b3.w32, _, (plain_val b3).1, by grind, by grind⟩
    · rw [if_neg c1] at hv
      by_cases c2 : at_ < (ptAt ts i).1
      · rw [if_pos c2] at hv
        obtain rfl := Option.some.inj hv
        obtain ⟨w, w1, w2, w3⟩ := lane_mid a3 b3 a1 b2 hlt c2
        exact ⟨w32_fadd _ _, w, w1, by rcases w2 with h | h <;> grind, by rcases w3 with h | h <;> grind⟩
      · rw [if_neg c2] at hv
        exact ih (i + 1) (by omega) (by omega) (by rw [Nat.add_sub_cancel]; omega) v hv
theorem lane_between {ts : List (Int × Nat)} (h : Lane ts) {lo hi : Rat} (hb : ∀ k, k < ts.length → lo ≤ fval .f32 (ptAt ts k).2 ∧ fval .f32 (ptAt ts k).2 ≤ hi) (at_ : Int) : W32 (laneM ts at_) ∧ ∃ w, Val .f32 (laneM ts at_) w ∧ lo - 2 * p2 (-18) ≤ w ∧ w ≤ hi + 2 * p2 (-18) := by
  have hpos := p2_pos (-18)
  have h1 := h.1
  have own : ∀ k, k < ts.length → W32 (ptAt ts k).2 ∧ ∃ w, Val .f32 (ptAt ts k).2 w ∧ lo - 2 * p2 (-18) ≤ w ∧ w ≤ hi + 2 * p2 (-18) := by
    intro k hk
    obtain ⟨-, -, b3⟩ := h.2.2.1 _ (pt_mem hk)
    obtain ⟨k1, k2⟩ := hb k hk
    exact ⟨b3.w32, _, (plain_val b3).1, by grind, by grind⟩
  unfold laneM
  by_cases c : at_ ≤ (ptAt ts 0).1
  · rw [if_pos c]; exact own 0 (by omega)
  · rw [if_neg c]
    cases hg : laneGo ts at_ (ts.length - 1) 1 with
    | none => exact own (ts.length - 1) (by omega)
    | some v => exact go_between h hb at_ (ts.length - 1) 1 (by omega) (by omega) (by rw [Nat.sub_self]; omega) v hg
theorem fmx_low {x y : Nat} {a b : Rat} (hx : Val .f32 x a) (hy : Val .f32 y b) : ∃ r, Val .f32 (fmx false .f32 x y) r ∧ r ≤ a ∧ r ≤ b ∧ (r = a ∨ r = b) := by
  obtain ⟨o1, o2, o3⟩ := order_val hx hy
  unfold fmx
  rcases (show a < b ∨ a = b ∨ b < a by grind) with h | h | h
  · rw [o1.2 h]; exact ⟨a, hx, Rat.le_refl, Rat.le_of_lt h, .inl rfl⟩
  · rw [o2.2 h]
    simp only
    split
    · exact ⟨b, hy, by grind, Rat.le_refl, .inr rfl⟩
    · exact ⟨a, hx, Rat.le_refl, by grind, .inl rfl⟩
  · rw [o3.2 h]; exact ⟨b, hy, Rat.le_of_lt h, Rat.le_refl, .inr rfl⟩
theorem fmx_high {x y : Nat} {a b : Rat} (hx : Val .f32 x a) (hy : Val .f32 y b) : ∃ r, Val .f32 (fmx true .f32 x y) r ∧ a ≤ r ∧ b ≤ r ∧ (r = a ∨ r = b) := by
  obtain ⟨o1, o2, o3⟩ := order_val hx hy
  unfold fmx
  rcases (show a < b ∨ a = b ∨ b < a by grind) with h | h | h
  · rw [o1.2 h]; exact ⟨b, hy, Rat.le_of_lt h, Rat.le_refl, .inr rfl⟩
  · rw [o2.2 h]
    simp only
    split
    · exact ⟨b, hy, by grind, Rat.le_refl, .inr rfl⟩
    · exact ⟨a, hx, Rat.le_refl, by grind, .inl rfl⟩
  · rw [o3.2 h]; exact ⟨a, hx, Rat.le_refl, Rat.le_of_lt h, .inl rfl⟩
theorem val_milli : ∃ c, Val .f64 4562254508917369340 c ∧ p2 (-10) ≤ c ∧ c < 1 := by
  have hlow : Val .f64 4562146422526312448 (p2 (-10)) := by
    have := read_val (k := .f64) (x := 4562146422526312448) (s := false) (m := 2 ^ 52) (e := -62) (by decide)
    rwa [sg_false, mv_pow, show (-62 : Int) + ((52 : Nat) : Int) = -10 by decide] at this
  exact between_val hlow val_one64 (by decide) (by decide)
theorem p2_10_18 : p2 (-10) = 256 * p2 (-18) := by
  have h1 := p2_add (-18) 8
  have h2 : p2 8 = 256 := by have := p2_nat 8; rw [show ((8 : Nat) : Int) = 8 from rfl] at this; rw [this]; rfl
  rw [h2, show (-18 : Int) + 8 = -10 by decide] at h1
  grind
theorem binade64 : 2 * FloatKind.f64.format.binade = 9007199254740992 := by decide
theorem told_low {v low : Nat} {x l : Rat} (hv : Val .f32 v x) (hl : Val .f32 low l) (h1 : -10 ≤ l) (h2 : l ≤ 10) (h : l - 2 * p2 (-18) ≤ x) : flt .f64 (wide v) (fsub .f64 (wide low) 4562254508917369340) = false := by
  obtain ⟨c, c1, c2, c3⟩ := val_milli
  have hpos := p2_pos (-18)
  rw [p2_10_18] at c2
  have hB : Rep0 .f64 ((12 : Nat) : Rat) := rep_nat .f64 (by rw [binade64]; omega)
  have hT : ((12 : Nat) : Rat) < p2 (topE .f64) := nat_top .f64 (by rw [binade64]; omega)
  have h12 : ((12 : Nat) : Rat) = 12 := rfl
  rw [h12] at hB hT
  obtain ⟨r, r1, r2⟩ := sub_val (wide_val hl) c1 hB hT (by grind) (by grind)
  have hC : ((8000000 : Nat) : Rat) = 8000000 := rfl
  have hr := r2.abs 18 (by decide) (B := 8000000) (by rw [binade64]; omega) (by rw [p2_18, hC]; grind) (by rw [p2_18, hC]; grind)
  rw [show -((18 : Nat) : Int) = -18 from rfl] at hr
  cases hg : flt .f64 (wide v) (fsub .f64 (wide low) 4562254508917369340)
  · rfl
  · have := (flt_val (wide_val hv) r1).1 hg; grind
theorem told_high {v high : Nat} {x l : Rat} (hv : Val .f32 v x) (hl : Val .f32 high l) (h1 : -10 ≤ l) (h2 : l ≤ 10) (h : x ≤ l + 2 * p2 (-18)) : fgt .f64 (wide v) (fadd .f64 (wide high) 4562254508917369340) = false := by
  obtain ⟨c, c1, c2, c3⟩ := val_milli
  have hpos := p2_pos (-18)
  rw [p2_10_18] at c2
  have hB : Rep0 .f64 ((12 : Nat) : Rat) := rep_nat .f64 (by rw [binade64]; omega)
  have hT : ((12 : Nat) : Rat) < p2 (topE .f64) := nat_top .f64 (by rw [binade64]; omega)
  have h12 : ((12 : Nat) : Rat) = 12 := rfl
  rw [h12] at hB hT
  obtain ⟨r, r1, r2⟩ := add_val (wide_val hl) c1 hB hT (by grind) (by grind)
  have hC : ((8000000 : Nat) : Rat) = 8000000 := rfl
  have hr := r2.abs 18 (by decide) (B := 8000000) (by rw [binade64]; omega) (by rw [p2_18, hC]; grind) (by rw [p2_18, hC]; grind)
  rw [show -((18 : Nat) : Int) = -18 from rfl] at hr
  cases hg : fgt .f64 (wide v) (fadd .f64 (wide high) 4562254508917369340)
  · rfl
  · have := (fgt_val (wide_val hv) r1).1 hg; grind
theorem ends_loop (n : Nat) (ts : List (Int × Nat)) (h : Lane ts) (hn : ts.length < n) (f k : Int) (N1 N2 N3 : Nat) (c1 c2 c3 : List T) : ∀ (j i m : Nat) (lo hi : Nat) (L H : Rat), i + j = ts.length → j < m → Val .f32 lo L → Val .f32 hi H → -10 ≤ L → L ≤ 10 → -10 ≤ H → H ≤ 10 → (∀ k, k < i → L ≤ fval .f32 (ptAt ts k).2 ∧ fval .f32 (ptAt ts k).2 ≤ H) →
    ∃ lo' hi' L' H', Val .f32 lo' L' ∧ Val .f32 hi' H' ∧ -10 ≤ L' ∧ L' ≤ 10 ∧ -10 ≤ H' ∧ H' ≤ 10 ∧ (∀ k, k < ts.length → L' ≤ fval .f32 (ptAt ts k).2 ∧ fval .f32 (ptAt ts k).2 ≤ H') ∧
      f3_l_FnLanes.l0 (n + 4) m ts.length (tps ts) f k N1 c1 N2 c2 N3 c3 lo hi (ts.length : Int) (i : Int) = some (.inr (ts.length, tps ts, f, k, N1, c1, N2, c2, N3, c3, lo', hi')) := by
  intro j
  induction j with
  | zero =>
    intro i m lo hi L H he hm v1 v2 l1 l2 l3 l4 hb
    obtain ⟨m, rfl⟩ : ∃ k, m = k + 1 := ⟨m - 1, by omega⟩
    obtain rfl : i = ts.length := by omega
    rw [f3_l_FnLanes.l0, nlt_dec (by omega)]
    exact ⟨lo, hi, L, H, v1, v2, l1, l2, l3, l4, hb, rfl⟩
  | succ j ih =>
    intro i m lo hi L H he hm v1 v2 l1 l2 l3 l4 hb
    obtain ⟨m, rfl⟩ : ∃ k, m = k + 1 := ⟨m - 1, by omega⟩
    have hlt : i < ts.length := by omega
    have h12 := h.2.1
    obtain ⟨b1, b2, b3⟩ := h.2.2.1 _ (pt_mem hlt)
    obtain ⟨p1, p2_, p3⟩ := plain_val b3
    obtain ⟨A, a1, a2, a3, a4⟩ := fmx_low v1 p1
    obtain ⟨B, d1, d2, d3, d4⟩ := fmx_high v2 p1
    have rec_ := ih (i + 1) m (fmx false .f32 lo (ptAt ts i).2) (fmx true .f32 hi (ptAt ts i).2) A B (by omega) (by omega) a1 d1 (by rcases a4 with e | e <;> grind) (by rcases a4 with e | e <;> grind) (by rcases d4 with e | e <;> grind) (by rcases d4 with e | e <;> grind)
      (by
        intro k hk
        rcases Nat.lt_or_ge k i with h1 | h1
        · have := hb k h1; grind
        · obtain rfl : k = i := by omega
          exact ⟨a3, d3⟩)
    rw [f3_l_FnLanes.l0, lt_dec hlt, in_dec hlt, Int.toNat_natCast, okTI hlt, iTP hlt, okTF hlt, fTP hlt, i_laneof n ts h _ b1 (by omega) hn, lane_own h hlt, wrap_succ (by omega)]
    simp only [br_t, gd_t, bd_s, br_not, s_same n b3.w32 b3.w32, beq_self_eq_true]
    exact rec_
theorem lane_loop (n : Nat) (ts : List (Int × Nat)) (h : Lane ts) (hn : ts.length < n) (f : Nat) (xs : List Nat) (hf : f + xs.length ≤ 100000) {lo hi : Nat} {L H : Rat} (v1 : Val .f32 lo L) (v2 : Val .f32 hi H) (l1 : -10 ≤ L) (l2 : L ≤ 10) (l3 : -10 ≤ H) (l4 : H ≤ 10) (hb : ∀ k, k < ts.length → L ≤ fval .f32 (ptAt ts k).2 ∧ fval .f32 (ptAt ts k).2 ≤ H) : ∀ (j i m : Nat), i + j = xs.length → j < m →
    f3_l_FnLanes.l1 (n + 4) m ts.length (tps ts) (f : Int) (xs.length : Int) (laneL ts f xs.length).length (fls .f32 (laneL ts f xs.length)) xs.length (fls .f32 xs) (List.zipWith (fmul .f32) xs (laneL ts f xs.length)).length (fls .f32 (List.zipWith (fmul .f32) xs (laneL ts f xs.length))) lo hi (i : Int) = some (.inr (ts.length, tps ts)) := by
  intro j
  induction j with
  | zero =>
    intro i m he hm
    obtain ⟨m, rfl⟩ : ∃ k, m = k + 1 := ⟨m - 1, by omega⟩
    rw [f3_l_FnLanes.l1, nlt_dec (by omega)]; rfl
  | succ j ih =>
    intro i m he hm
    obtain ⟨m, rfl⟩ : ∃ k, m = k + 1 := ⟨m - 1, by omega⟩
    have hlt : i < xs.length := by omega
    have hl1 : i < (laneL ts f xs.length).length := by simp [laneL, hlt]
    have hl2 : i < (List.zipWith (fmul .f32) xs (laneL ts f xs.length)).length := by simp [laneL, hlt]
    obtain ⟨w32, w, w1, w2, w3⟩ := lane_between h hb ((f + i : Nat) : Int)
    have g1 : (laneL ts f xs.length).getD i 0 = laneM ts ((f + i : Nat) : Int) := by simp [laneL, List.getD, hlt]
    have g2 : (List.zipWith (fmul .f32) xs (laneL ts f xs.length)).getD i 0 = fmul .f32 (xs.getD i 0) (laneM ts ((f + i : Nat) : Int)) := by
      simp [laneL, List.getD, hlt]
    have wr : IntKind.i64.wrap ((f : Int) + (i : Int)) = ((f + i : Nat) : Int) := by rw [wrap64] <;> omega
    rw [f3_l_FnLanes.l1, lt_dec hlt, wr, i_laneof n ts h _ (by omega) (by omega) hn, in_dec hl1, in_dec hl2, in_dec hlt, Int.toNat_natCast, okAt_fls hl1, okAt_fls hl2, okAt_fls hlt, fAt_fls, fAt_fls, fAt_fls, g1, g2, wrap_succ (by omega)]
    simp only [br_t, gd_t, bd_s, br_not, s_same n w32 w32, s_same n (w32_fmul _ _) (w32_fmul _ _), beq_self_eq_true, fltToFlt_wide, told_low w1 v1 l1 l2 w2, told_high w1 v2 l3 l4 w3, br_f]
    exact ih (i + 1) m (by omega) (by omega)
theorem exact_ (cs : List Int) (hc : ∀ b ∈ cs, GoodI .u8 b) (lc : cs.length ≤ maxLen) (ms : List Int) (hm : ∀ b ∈ ms, GoodI .u8 b) (lm : ms.length ≤ maxLen) : ∃ n, f3_l_FnLanes n cs.length (its .u8 cs) ms.length (its .u8 ms) = some true := by
  refine ⟨1000, ?_⟩
  suffices h : ∀ n, f3_l_FnLanes (n + 500) cs.length (its .u8 cs) ms.length (its .u8 ms) = some true from h 500
  intro n
  rw [f3_l_FnLanes, l_long10]
  cases hlong : decide (1048576 < cs.length ∨ 1048576 < ms.length)
  case true => rfl
  obtain ⟨ts, h, hl5, e1⟩ := drawn (n + 494) (bytes_of hc) (by omega)
  have e1 : f16_s_B10Lane (n + 499) cs.length (its .u8 cs) = some (ts.length, tps ts) := e1
  obtain ⟨f, hf, e2⟩ := l_at10 (n + 498) (bytes_of hm) (i := 0) (k := 20) (by omega) (by omega) (by omega)
  obtain ⟨k, hk, e3⟩ := l_at10 (n + 498) (bytes_of hm) (i := 1) (k := 20) (by omega) (by omega) (by omega)
  obtain ⟨f, rfl⟩ := Int.eq_ofNat_of_zero_le hf.1
  obtain ⟨k, rfl⟩ := Int.eq_ofNat_of_zero_le hk.1
  obtain ⟨xs, hxl, hxw, e4⟩ := s_b10numbers (n + 492) (bytes_of hm) k (by omega) (by omega)
  have e4 : f19_s_B10Numbers (n + 499) ms.length (its .u8 ms) (k : Int) = some (xs.length, fls .f32 xs) := e4
  subst hxl
  have h1 := h.1
  have e5 := i_runlane (n + 495) ts h f xs.length (by omega) (by omega) (by omega)
  have e6 := i_applylane (n + 494) ts h f xs (by omega) (by omega) (by omega)
  have e7 := i_islane (n + 496) ts h (by omega)
  obtain ⟨-, -, b3⟩ := h.2.2.1 _ (pt_mem (show 0 < ts.length by omega))
  obtain ⟨-, -, c3⟩ := h.2.2.1 _ (pt_mem (show ts.length - 1 < ts.length by omega))
  obtain ⟨p1, p2_, p3⟩ := plain_val b3
  have hla : (laneL ts f xs.length).length = xs.length := by simp [laneL]
  have hlz : (List.zipWith (fmul .f32) xs (laneL ts f xs.length)).length = xs.length := by simp [laneL]
  obtain ⟨lo, hi, L, H, v1, v2, l1, l2, l3, l4, hb, e8⟩ := ends_loop (n + 495) ts h (by omega) (f : Int) (xs.length : Int) xs.length xs.length xs.length (fls .f32 (laneL ts f xs.length)) (fls .f32 xs) (fls .f32 (List.zipWith (fmul .f32) xs (laneL ts f xs.length))) ts.length 0 (n + 499) _ _ _ _ (by omega) (by omega) p1 p1 p2_ p3 p2_ p3 (fun k hk => absurd hk (by omega))
  have e8 : f3_l_FnLanes.l0 (n + 499) (n + 499) ts.length (tps ts) (f : Int) (xs.length : Int) xs.length (fls .f32 (laneL ts f xs.length)) xs.length (fls .f32 xs) xs.length (fls .f32 (List.zipWith (fmul .f32) xs (laneL ts f xs.length))) (ptAt ts 0).2 (ptAt ts 0).2 (ts.length : Int) 0 = _ := e8
  have e9 := lane_loop (n + 495) ts h (by omega) f xs (by omega) v1 v2 l1 l2 l3 l4 hb xs.length 0 (n + 499) (by omega) (by omega)
  rw [hla, hlz] at e9
  have e9 : f3_l_FnLanes.l1 (n + 499) (n + 499) ts.length (tps ts) (f : Int) (xs.length : Int) xs.length (fls .f32 (laneL ts f xs.length)) xs.length (fls .f32 xs) xs.length (fls .f32 (List.zipWith (fmul .f32) xs (laneL ts f xs.length))) lo hi 0 = some (.inr (ts.length, tps ts)) := e9
  rw [hla] at e5
  have eA := i_laneof (n + 495) ts h 100000 (by omega) (by omega) (by omega)
  have eB := i_laneof (n + 495) ts h 0 (by omega) (by omega) (by omega)
  rw [lane_last h] at eA
  rw [lane_first h] at eB
  have z0 : decide ((0 : Int) ≤ 0 ∧ (0 : Int) < (ts.length : Int)) = true := decide_eq_true (by omega)
  have z2 : okAt [.flt .f32] (tps ts) 1 = true := okTF (i := 0) (by omega)
  have z3 : fAt (tps ts) 1 = (ptAt ts 0).2 := fTP (i := 0) (by omega)
  have w1 : IntKind.i64.wrap ((ts.length : Int) - 1) = ((ts.length - 1 : Nat) : Int) := by rw [wrap64] <;> omega
  have hlt : ts.length - 1 < ts.length := by omega
  simp only [br_f, bd_s, e1, e2, e3, e5, e4, e6, br_not, br_t, bne_self_eq_false, e7, z0, z2, z3, gd_t, e8, sm_r, e9, eA, eB, w1, in_dec hlt, Int.toNat_natCast, okTF hlt, fTP hlt, s_same (n + 495) c3.w32 c3.w32, s_same (n + 495) b3.w32 b3.w32, beq_self_eq_true]
theorem law3 : ∀ args, LawArgs E Try.f3.params.toList args → ∃ N os, evalFn E N 3 args = some ⟨[⟨false, [.leaf], [.bool true]⟩], os⟩ := by
  intro args h0
  have hp : Try.f3.params.toList = [22, 22] := by kernel_rfl
  rw [hp] at h0
  obtain ⟨ts0, r0, rfl, hw0, h1⟩ := h0.cons_inv (d := ⟨false, 1, 24, [.sl .own [.leaf]], [.lst 0 []], .slc 5⟩) (by kernel_rfl)
  obtain ⟨n0, cs0, rfl, gl0, hs0⟩ := hw0.slc_inv (e := 5) (d := ⟨false, 1, 24, [.sl .own [.leaf]], [.lst 0 []], .slc 5⟩) (by kernel_rfl) rfl
  obtain ⟨a0, rfl, rfl, g0⟩ := hs0.ints (k := .u8) (d := ⟨false, 1, 1, [.leaf], [.int .u8 0], .int .u8⟩) (by kernel_rfl) rfl
  obtain ⟨ts1, r1, rfl, hw1, h2⟩ := h1.cons_inv (d := ⟨false, 1, 24, [.sl .own [.leaf]], [.lst 0 []], .slc 5⟩) (by kernel_rfl)
  obtain ⟨n1, cs1, rfl, gl1, hs1⟩ := hw1.slc_inv (e := 5) (d := ⟨false, 1, 24, [.sl .own [.leaf]], [.lst 0 []], .slc 5⟩) (by kernel_rfl) rfl
  obtain ⟨a1, rfl, rfl, g1⟩ := hs1.ints (k := .u8) (d := ⟨false, 1, 1, [.leaf], [.int .u8 0], .int .u8⟩) (by kernel_rfl) rfl
  obtain rfl := h2.nil_inv
  obtain ⟨N, hN⟩ := exact_ a0 g0 gl0 a1 g1 gl1
  exact ⟨N, _, f3_l_FnLanes.ok N (a0.length, its .u8 a0, a1.length, its .u8 a1) true hN⟩


end Go.Proofs.Ytdejjalkfekjiaa.D
end
section
/- FnLanes holds: for every input the law returns true, and its arguments read as before. -/
namespace Go.Proofs.Ytdejjalkfekjiaa.fnLanes
open Go Go.ChangeShapes Go.WideShapes Go.ChangeAt Go.RowKit Go.Desk
set_option linter.unusedVariables false
theorem own : ownKnob Try.prog.godebug = none := by kernel_rfl
theorem laidOut : laidOutB Try.prog = true := by kernel_rfl
set_option maxRecDepth 100000 in
theorem lifted (os : Os) (started : os.Started) (H : Type) (enc : TypeId × Value → H) :
    ReturnsInHanded {} Try.checked os 3 .any (Rows.fnLanesSpec.pre6 enc Try.prog Try.f3 Rows.fnLanesRow.domain false) (Rows.fnLanesSpec.post enc Try.prog Try.f3 false true false false) := by
  refine returnsInHanded_of_change (C := Try.checked) own started (by kernel_rfl) Try.func3
    (ChangeSpec.witness6 (enc := enc) (C := Try.checked) false ⟨#[], #[.slice none 0 0, .slice none 0 0], []⟩ 8 (by kernel_rfl) (by kernel_rfl) (by kernel_rfl) (by kernel_rfl)) ?_
  intro W base args ds gs before hval hW hcnd _
  exact law_contract (c := D.c3) Try.checked.mixed D.tysOk D.fnOk Try.func3 (by kernel_rfl) (by kernel_rfl) (by kernel_rfl) Try.underlying4 rfl
    (fun ds h => by
      rw [show Try.f3.params.toList.length = 2 by kernel_rfl] at h
      match ds, h with
      | [_, _], _ => rfl)
    laidOut (N := 8) (by kernel_rfl) (by kernel_rfl) D.law3 hval hW
theorem over : Rows.fnLanesRow.holds Try.pinned (OpenSpec.ofChange Rows.fnLanesSpec) :=
  OpenClaim.holds_of_wide 3 Try.f3 rfl rfl rfl rfl rfl rfl rfl ⟨rfl, rfl, rfl, rfl, rfl⟩ rfl rfl rfl rfl rfl (by kernel_rfl) Try.func3 (by kernel_rfl)
    (of_decide_eq_true (by kernel_rfl)) (by unfold Func.isWrapper; first | (rw [if_pos (by decide +kernel)]; kernel_rfl) | (rw [if_neg (by decide +kernel)]; exact ⟨rfl, rfl⟩))
    (fun os started H enc _ => lifted os started H enc)
theorem proved : Rows.FnLanesSaid := over
#print axioms proved
end Go.Proofs.Ytdejjalkfekjiaa.fnLanes
namespace Go.Proofs.Ytdejjalkfekjiaa
/-- The row, under a short name, for the claim. -/
theorem fnLanes_holds : Rows.FnLanesSaid := fnLanes.proved
end Go.Proofs.Ytdejjalkfekjiaa
end
