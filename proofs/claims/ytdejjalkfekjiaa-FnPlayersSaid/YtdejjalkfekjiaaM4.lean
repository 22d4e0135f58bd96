/- FnPlayers holds: for every input the law returns true, and its arguments read as before. -/
import Derived.Test.YtdejjalkfekjiaaChecked
import Derived.Test.YtdejjalkfekjiaaDeskE
import Derived.KernelRfl
import Derived.Test.YtdejjalkfekjiaaRows
import Derived.WalkKit
import Derived.ProofKit
import Derived.OpenShut
import Derived.ShutString
import Derived.ChangeOld
import Derived.Below
import Derived.SizedLaws
set_option linter.all false
section
/- The tables of the reading: types and functions of the translation, with what is kept at each region's beginning (written by a program of this workplace). -/
namespace Go.Proofs.Ytdejjalkfekjiaa.D
open Go Go.Desk
def bodyOf (f : Func) : Code := match f.body with
  | some c => c
  | none => .skip
def tyTab : List (Nat × TD) := [
  (2, ⟨false, 1, 8, [.leaf], [.int .i64 0], .int .i64⟩),
  (3, ⟨false, 1, 8, [.leaf], [.int .i64 0], .int .i64⟩),
  (4, ⟨false, 1, 1, [.leaf], [.bool false], .bool⟩),
  (5, ⟨false, 1, 1, [.leaf], [.int .u8 0], .int .u8⟩),
  (22, ⟨false, 1, 24, [.sl .own [.leaf]], [.lst 0 []], .slc 5⟩),
  (27, ⟨false, 1, 24, [.sl .own [.leaf]], [.lst 0 []], .slc 33⟩),
  (33, ⟨false, 1, 4, [.leaf], [.flt .f32 0], .flt .f32⟩),
  (58, ⟨false, 1, 24, [.sl .own [.leaf]], [.lst 0 []], .slc 2⟩),
  (63, ⟨false, 1, 8, [.leaf], [.int .u64 0], .int .u64⟩),
  (108, ⟨false, 1, 8, [.leaf], [.nil], .ptr 153⟩),
  (127, ⟨false, 1, 4, [.leaf], [.int .u32 0], .int .u32⟩),
  (151, ⟨false, 1, 8, [.leaf], [.int .u64 0], .int .u64⟩),
  (153, ⟨true, 3, 40, [.sl .own [.leaf], .leaf, .leaf], [.lst 0 [], .int .i64 0, .int .u64 0], .st [(0, 22), (1, 3), (2, 151)]⟩)]
noncomputable def c4 : Code := bodyOf Try.f4
noncomputable def c15 : Code := bodyOf Try.f15
noncomputable def c17 : Code := bodyOf Try.f17
noncomputable def c19 : Code := bodyOf Try.f19
noncomputable def c23 : Code := bodyOf Try.f23
noncomputable def c24 : Code := bodyOf Try.f24
noncomputable def c25 : Code := bodyOf Try.f25
noncomputable def c26 : Code := bodyOf Try.f26
noncomputable def c75 : Code := bodyOf Try.f75
noncomputable def c76 : Code := bodyOf Try.f76
noncomputable def c77 : Code := bodyOf Try.f77
noncomputable def c79 : Code := bodyOf Try.f79
noncomputable def c81 : Code := bodyOf Try.f81
noncomputable def c82 : Code := bodyOf Try.f82
noncomputable def c83 : Code := bodyOf Try.f83
noncomputable def c84 : Code := bodyOf Try.f84
noncomputable def c85 : Code := bodyOf Try.f85
noncomputable def c86 : Code := bodyOf Try.f86
noncomputable def c87 : Code := bodyOf Try.f87
noncomputable def c88 : Code := bodyOf Try.f88
noncomputable def c89 : Code := bodyOf Try.f89
noncomputable def c90 : Code := bodyOf Try.f90
noncomputable def c91 : Code := bodyOf Try.f91
noncomputable def c94 : Code := bodyOf Try.f94
noncomputable def c99 : Code := bodyOf Try.f99
noncomputable def c128 : Code := bodyOf Try.f128
noncomputable def c129 : Code := bodyOf Try.f129
noncomputable def c130 : Code := bodyOf Try.f130
noncomputable def c131 : Code := bodyOf Try.f131
noncomputable def c132 : Code := bodyOf Try.f132
noncomputable def fnTab : List (Nat × FD) := [
  (4, .code c4 [.val, .val] [] [(4, none)] [(0, [0, 1]), (1, [0, 1]), (2, []), (3, [0, 1]), (4, [0, 1, 5]), (5, [1, 5, 6]), (6, [1, 5, 6, 7, 9]), (7, []), (8, [1, 5, 6]), (9, [1, 5, 6, 10]), (10, [1, 5, 6, 10, 11]), (11, [1, 5, 6, 10, 11, 12]), (12, [1, 5, 6, 10, 11, 12, 13]), (13, [1, 5, 6, 10, 11, 12, 13, 14, 15, 16]), (14, [1, 5, 6, 10, 11, 12, 13, 14, 15, 16, 17, 18, 19]), (15, [1, 5, 6, 10, 11, 12, 14, 15, 16, 17, 19, 20, 21, 22]), (16, []), (17, [1, 5, 6]), (18, [1, 6, 23]), (19, [6, 23, 24]), (20, [6, 23, 24, 25, 27]), (21, []), (22, [6, 23, 24, 25]), (23, [6, 23, 24, 25, 28]), (24, [6, 23, 24, 25, 28, 29]), (25, [6, 23, 24, 25, 28, 29]), (26, [6, 23, 24, 25, 28, 29]), (27, [6, 23, 24, 25, 29]), (28, [6, 23, 24, 25, 28, 29]), (29, []), (30, [6, 23, 24, 25, 28, 29]), (31, []), (1000024, [4])]),
  (15, .code c15 [.val, .val] [] [(4, none)] [(0, [0, 1]), (1, [0, 1])]),
  (17, .code c17 [.val, .val, .val] [] [(6, none)] [(0, [0, 1, 2]), (1, [0, 1, 2]), (2, []), (3, [0, 1, 2]), (4, [0, 1, 2]), (5, [1, 2])]),
  (19, .code c19 [.val, .val] [] [(4, none)] [(0, [0, 1]), (1, [0, 1]), (2, [1, 5])]),
  (23, .code c23 [.val, .val] [] [(4, none)] [(0, [0, 1]), (1, [0, 1])]),
  (24, .code c24 [.val, .val, .val, .val] [] [(8, none), (9, none), (10, none)] [(0, [0, 1, 2, 3]), (1, [1, 2, 3, 4]), (2, []), (3, [1, 2, 3, 4]), (4, [11, 12])]),
  (25, .code c25 [.val, .val] [] [(4, none)] [(0, [0, 1]), (1, [0, 1]), (2, []), (3, [0, 1]), (4, [0, 1, 5]), (5, [0, 1, 5]), (6, [0, 1, 5]), (7, []), (8, []), (1000004, [4])]),
  (26, .code c26 [.val, .val, .val, .val, .val, .val] [] [(12, none), (13, none), (14, none)] [(0, [0, 1, 2, 3, 4, 5]), (1, [3, 4, 5, 6, 7, 8]), (2, []), (3, [3, 4, 5, 6, 7, 8]), (4, [15, 16])]),
  (75, .code c75 [.val] [] [(2, none)] [(0, [0]), (1, [0])]),
  (76, .code c76 [.iop, .val] [0] [(4, none)] [(0, [0, 1]), (1, [0, 1]), (2, [0]), (3, [0, 1]), (4, [0, 1, 5]), (5, [0, 1, 5]), (6, [0, 1, 5])]),
  (77, .code c77 [.iop] [0] [(2, none)] [(0, [0]), (1, [0]), (2, [0, 3]), (3, [0, 3]), (4, [0, 3])]),
  (79, .code c79 [.val] [] [(2, none)] [(0, [0]), (1, [0])]),
  (81, .code c81 [.iop, .val] [0] [(4, none)] [(0, [0, 1]), (1, [0, 1]), (2, [0, 1, 5]), (3, [0, 1, 5, 6]), (4, [0, 1, 5, 6]), (5, [0, 1, 5, 6]), (6, [0, 1, 5, 6]), (7, [0, 1, 5, 6]), (8, [0, 5]), (1000003, [0, 5])]),
  (82, .code c82 [.val] [] [(2, none)] [(0, [0]), (1, [0])]),
  (83, .code c83 [.val, .val, .val] [] [(6, none)] [(0, [0, 1, 2]), (1, [0, 1, 2])]),
  (84, .code c84 [.val, .val] [] [(4, none)] [(0, [0, 1]), (1, [0, 1])]),
  (85, .code c85 [.val, .val, .val, .val] [] [(8, none)] [(0, [0, 1, 2, 3]), (1, [0, 1, 2, 3])]),
  (86, .code c86 [.val, .val, .val, .val, .val] [] [(10, none), (11, none)] [(0, [0, 1, 2, 3, 4]), (1, [0, 1, 2, 3, 4]), (2, [0, 1, 2, 3, 4, 12]), (3, [0, 1, 2, 3, 4, 12]), (4, [0, 1, 2, 3, 4, 12]), (5, [0, 1, 2, 3, 4, 12]), (6, [0, 1, 2, 3, 4, 12, 13, 14]), (7, [0, 1, 2, 3, 4, 12, 13, 14, 15]), (8, [0, 1, 2, 3, 4, 12, 13, 14, 15]), (9, [0, 1, 2, 3, 4, 12, 13, 15, 16]), (10, [0, 1, 2, 3, 4, 12, 15]), (11, [0, 1, 2, 3, 4, 12]), (12, [2, 12]), (1000003, [2, 12])]),
  (87, .code c87 [.val, .val] [] [(3, none)] [(0, [0, 1]), (1, [0, 1]), (2, [0, 1]), (3, [])]),
  (88, .code c88 [.val] [] [(2, none)] [(0, [0]), (1, [0])]),
  (89, .code c89 [.val, .val, .val] [] [(6, none)] [(0, [0, 1, 2]), (1, [0, 1, 2]), (2, [0, 1, 2, 9, 10, 11]), (3, [0, 1, 2, 9, 10, 11]), (4, [0, 1, 2, 8, 9, 10, 11]), (5, []), (6, [0, 1, 2, 9, 10, 11]), (7, []), (1000002, [6])]),
  (90, .code c90 [.val, .val, .val, .val] [] [(5, none)] [(0, [0, 1, 2, 3]), (1, [0, 1, 2, 3]), (2, [2, 3]), (3, [0, 3])]),
  (91, .code c91 [.val, .val, .val] [] [(4, none)] [(0, [0, 1, 2]), (1, [0, 1, 2]), (2, [0, 1, 2, 5]), (3, [0, 1, 2, 5]), (4, [0])]),
  (94, .code c94 [.val] [] [(2, none)] [(0, [0]), (1, [0])]),
  (98, .ext (pF32bits)),
  (99, .code c99 [.iop] [0] [(2, none)] [(0, [0]), (1, [0]), (2, [0]), (3, [0]), (4, [0, 10]), (5, [0]), (6, [0, 10]), (7, [0]), (8, [0, 3]), (9, [0, 10]), (10, [0]), (11, [0])]),
  (128, .code c128 [.iop] [0] [(2, none)] [(0, [0]), (1, [0]), (2, [0, 3]), (3, [0]), (4, [0, 3]), (5, [0, 3]), (6, [0, 3]), (7, [0, 3]), (8, [0])]),
  (129, .code c129 [.iop, .val] [0] [(4, none)] [(0, [0, 1]), (1, [0, 1])]),
  (130, .code c130 [.val] [] [(2, none)] [(0, [0]), (1, [0]), (2, []), (3, [0])]),
  (131, .code c131 [.val] [] [(2, none)] [(0, [0]), (1, [0])]),
  (132, .code c132 [.iop, .io] [0, 1] [(4, none)] [(0, [0, 1]), (1, [0, 1])]),
  (140, .ext (pF32frombits))]
noncomputable def E : Env := ⟨fun t => lookT tyTab t, lookF fnTab⟩
noncomputable def fdAt (n : Nat) : FD := match lookF fnTab n with
  | some d => d
  | none => .ext fun _ => none
noncomputable def keepAt (n : Nat) : List (Nat × List Nat) := match lookF fnTab n with
  | some d => d.keep
  | none => []
theorem tysOk : TysOk Try.prog E := tysOk_of (l := tyTab) (fun _ => rfl) (by kernel_rfl)
theorem ft4 : FnTab Try.prog E 4 (fdAt 4) := fnTab_code (c := c4) (modes := (fdAt 4).ms) (outs := (fdAt 4).os) (results := (fdAt 4).rs) (keep := (fdAt 4).keep) Try.func4 (by kernel_rfl) (by kernel_rfl) (by kernel_rfl)
theorem ft15 : FnTab Try.prog E 15 (fdAt 15) := fnTab_code (c := c15) (modes := (fdAt 15).ms) (outs := (fdAt 15).os) (results := (fdAt 15).rs) (keep := (fdAt 15).keep) Try.func15 (by kernel_rfl) (by kernel_rfl) (by kernel_rfl)
theorem ft17 : FnTab Try.prog E 17 (fdAt 17) := fnTab_code (c := c17) (modes := (fdAt 17).ms) (outs := (fdAt 17).os) (results := (fdAt 17).rs) (keep := (fdAt 17).keep) Try.func17 (by kernel_rfl) (by kernel_rfl) (by kernel_rfl)
theorem ft19 : FnTab Try.prog E 19 (fdAt 19) := fnTab_code (c := c19) (modes := (fdAt 19).ms) (outs := (fdAt 19).os) (results := (fdAt 19).rs) (keep := (fdAt 19).keep) Try.func19 (by kernel_rfl) (by kernel_rfl) (by kernel_rfl)
theorem ft23 : FnTab Try.prog E 23 (fdAt 23) := fnTab_code (c := c23) (modes := (fdAt 23).ms) (outs := (fdAt 23).os) (results := (fdAt 23).rs) (keep := (fdAt 23).keep) Try.func23 (by kernel_rfl) (by kernel_rfl) (by kernel_rfl)
theorem ft24 : FnTab Try.prog E 24 (fdAt 24) := fnTab_code (c := c24) (modes := (fdAt 24).ms) (outs := (fdAt 24).os) (results := (fdAt 24).rs) (keep := (fdAt 24).keep) Try.func24 (by kernel_rfl) (by kernel_rfl) (by kernel_rfl)
theorem ft25 : FnTab Try.prog E 25 (fdAt 25) := fnTab_code (c := c25) (modes := (fdAt 25).ms) (outs := (fdAt 25).os) (results := (fdAt 25).rs) (keep := (fdAt 25).keep) Try.func25 (by kernel_rfl) (by kernel_rfl) (by kernel_rfl)
theorem ft26 : FnTab Try.prog E 26 (fdAt 26) := fnTab_code (c := c26) (modes := (fdAt 26).ms) (outs := (fdAt 26).os) (results := (fdAt 26).rs) (keep := (fdAt 26).keep) Try.func26 (by kernel_rfl) (by kernel_rfl) (by kernel_rfl)
theorem ft75 : FnTab Try.prog E 75 (fdAt 75) := fnTab_code (c := c75) (modes := (fdAt 75).ms) (outs := (fdAt 75).os) (results := (fdAt 75).rs) (keep := (fdAt 75).keep) Try.func75 (by kernel_rfl) (by kernel_rfl) (by kernel_rfl)
theorem ft76 : FnTab Try.prog E 76 (fdAt 76) := fnTab_code (c := c76) (modes := (fdAt 76).ms) (outs := (fdAt 76).os) (results := (fdAt 76).rs) (keep := (fdAt 76).keep) Try.func76 (by kernel_rfl) (by kernel_rfl) (by kernel_rfl)
theorem ft77 : FnTab Try.prog E 77 (fdAt 77) := fnTab_code (c := c77) (modes := (fdAt 77).ms) (outs := (fdAt 77).os) (results := (fdAt 77).rs) (keep := (fdAt 77).keep) Try.func77 (by kernel_rfl) (by kernel_rfl) (by kernel_rfl)
theorem ft79 : FnTab Try.prog E 79 (fdAt 79) := fnTab_code (c := c79) (modes := (fdAt 79).ms) (outs := (fdAt 79).os) (results := (fdAt 79).rs) (keep := (fdAt 79).keep) Try.func79 (by kernel_rfl) (by kernel_rfl) (by kernel_rfl)
theorem ft81 : FnTab Try.prog E 81 (fdAt 81) := fnTab_code (c := c81) (modes := (fdAt 81).ms) (outs := (fdAt 81).os) (results := (fdAt 81).rs) (keep := (fdAt 81).keep) Try.func81 (by kernel_rfl) (by kernel_rfl) (by kernel_rfl)
theorem ft82 : FnTab Try.prog E 82 (fdAt 82) := fnTab_code (c := c82) (modes := (fdAt 82).ms) (outs := (fdAt 82).os) (results := (fdAt 82).rs) (keep := (fdAt 82).keep) Try.func82 (by kernel_rfl) (by kernel_rfl) (by kernel_rfl)
theorem ft83 : FnTab Try.prog E 83 (fdAt 83) := fnTab_code (c := c83) (modes := (fdAt 83).ms) (outs := (fdAt 83).os) (results := (fdAt 83).rs) (keep := (fdAt 83).keep) Try.func83 (by kernel_rfl) (by kernel_rfl) (by kernel_rfl)
theorem ft84 : FnTab Try.prog E 84 (fdAt 84) := fnTab_code (c := c84) (modes := (fdAt 84).ms) (outs := (fdAt 84).os) (results := (fdAt 84).rs) (keep := (fdAt 84).keep) Try.func84 (by kernel_rfl) (by kernel_rfl) (by kernel_rfl)
theorem ft85 : FnTab Try.prog E 85 (fdAt 85) := fnTab_code (c := c85) (modes := (fdAt 85).ms) (outs := (fdAt 85).os) (results := (fdAt 85).rs) (keep := (fdAt 85).keep) Try.func85 (by kernel_rfl) (by kernel_rfl) (by kernel_rfl)
theorem ft86 : FnTab Try.prog E 86 (fdAt 86) := fnTab_code (c := c86) (modes := (fdAt 86).ms) (outs := (fdAt 86).os) (results := (fdAt 86).rs) (keep := (fdAt 86).keep) Try.func86 (by kernel_rfl) (by kernel_rfl) (by kernel_rfl)
theorem ft87 : FnTab Try.prog E 87 (fdAt 87) := fnTab_code (c := c87) (modes := (fdAt 87).ms) (outs := (fdAt 87).os) (results := (fdAt 87).rs) (keep := (fdAt 87).keep) Try.func87 (by kernel_rfl) (by kernel_rfl) (by kernel_rfl)
theorem ft88 : FnTab Try.prog E 88 (fdAt 88) := fnTab_code (c := c88) (modes := (fdAt 88).ms) (outs := (fdAt 88).os) (results := (fdAt 88).rs) (keep := (fdAt 88).keep) Try.func88 (by kernel_rfl) (by kernel_rfl) (by kernel_rfl)
theorem ft89 : FnTab Try.prog E 89 (fdAt 89) := fnTab_code (c := c89) (modes := (fdAt 89).ms) (outs := (fdAt 89).os) (results := (fdAt 89).rs) (keep := (fdAt 89).keep) Try.func89 (by kernel_rfl) (by kernel_rfl) (by kernel_rfl)
theorem ft90 : FnTab Try.prog E 90 (fdAt 90) := fnTab_code (c := c90) (modes := (fdAt 90).ms) (outs := (fdAt 90).os) (results := (fdAt 90).rs) (keep := (fdAt 90).keep) Try.func90 (by kernel_rfl) (by kernel_rfl) (by kernel_rfl)
theorem ft91 : FnTab Try.prog E 91 (fdAt 91) := fnTab_code (c := c91) (modes := (fdAt 91).ms) (outs := (fdAt 91).os) (results := (fdAt 91).rs) (keep := (fdAt 91).keep) Try.func91 (by kernel_rfl) (by kernel_rfl) (by kernel_rfl)
theorem ft94 : FnTab Try.prog E 94 (fdAt 94) := fnTab_code (c := c94) (modes := (fdAt 94).ms) (outs := (fdAt 94).os) (results := (fdAt 94).rs) (keep := (fdAt 94).keep) Try.func94 (by kernel_rfl) (by kernel_rfl) (by kernel_rfl)
theorem ft98 : FnTab Try.prog E 98 (.ext (pF32bits)) := ext_pF32bits Try.func98 (by kernel_rfl) (by kernel_rfl) (by kernel_rfl) (by kernel_rfl)
theorem ft99 : FnTab Try.prog E 99 (fdAt 99) := fnTab_code (c := c99) (modes := (fdAt 99).ms) (outs := (fdAt 99).os) (results := (fdAt 99).rs) (keep := (fdAt 99).keep) Try.func99 (by kernel_rfl) (by kernel_rfl) (by kernel_rfl)
theorem ft128 : FnTab Try.prog E 128 (fdAt 128) := fnTab_code (c := c128) (modes := (fdAt 128).ms) (outs := (fdAt 128).os) (results := (fdAt 128).rs) (keep := (fdAt 128).keep) Try.func128 (by kernel_rfl) (by kernel_rfl) (by kernel_rfl)
theorem ft129 : FnTab Try.prog E 129 (fdAt 129) := fnTab_code (c := c129) (modes := (fdAt 129).ms) (outs := (fdAt 129).os) (results := (fdAt 129).rs) (keep := (fdAt 129).keep) Try.func129 (by kernel_rfl) (by kernel_rfl) (by kernel_rfl)
theorem ft130 : FnTab Try.prog E 130 (fdAt 130) := fnTab_code (c := c130) (modes := (fdAt 130).ms) (outs := (fdAt 130).os) (results := (fdAt 130).rs) (keep := (fdAt 130).keep) Try.func130 (by kernel_rfl) (by kernel_rfl) (by kernel_rfl)
theorem ft131 : FnTab Try.prog E 131 (fdAt 131) := fnTab_code (c := c131) (modes := (fdAt 131).ms) (outs := (fdAt 131).os) (results := (fdAt 131).rs) (keep := (fdAt 131).keep) Try.func131 (by kernel_rfl) (by kernel_rfl) (by kernel_rfl)
theorem ft132 : FnTab Try.prog E 132 (fdAt 132) := fnTab_code (c := c132) (modes := (fdAt 132).ms) (outs := (fdAt 132).os) (results := (fdAt 132).rs) (keep := (fdAt 132).keep) Try.func132 (by kernel_rfl) (by kernel_rfl) (by kernel_rfl)
theorem ft140 : FnTab Try.prog E 140 (.ext (pF32frombits)) := ext_pF32frombits Try.func140 (by kernel_rfl) (by kernel_rfl) (by kernel_rfl) (by kernel_rfl)
theorem allFns : AllFns Try.prog E fnTab := .cons ft4 (.cons ft15 (.cons ft17 (.cons ft19 (.cons ft23 (.cons ft24 (.cons ft25 (.cons ft26 (.cons ft75 (.cons ft76 (.cons ft77 (.cons ft79 (.cons ft81 (.cons ft82 (.cons ft83 (.cons ft84 (.cons ft85 (.cons ft86 (.cons ft87 (.cons ft88 (.cons ft89 (.cons ft90 (.cons ft91 (.cons ft94 (.cons ft98 (.cons ft99 (.cons ft128 (.cons ft129 (.cons ft130 (.cons ft131 (.cons ft132 (.cons ft140 (.nil))))))))))))))))))))))))))))))))
theorem fnOk : ∀ f fd, E.fn f = some fd → FnTab Try.prog E f fd := fnTab_of (l := fnTab) (fun _ => rfl) allFns
end Go.Proofs.Ytdejjalkfekjiaa.D
end
section
/- Plain functions for the law's Go functions, each tied to the reading by the kernel (printed by a program of this workplace). -/
namespace Go.Proofs.Ytdejjalkfekjiaa.D
open Go Go.Desk
set_option linter.unusedVariables false
noncomputable def x140.w : FnW E := xF32frombits.w 140 (by kernel_rfl)

noncomputable def x98.w : FnW E := xF32bits.w 98 (by kernel_rfl)

def f15_l_b10Long : Nat → Nat → List T → Nat → List T → Option (Bool)
  | 0, _, _, _, _ => none
  | n + 1, n1, l2, n3, l4 =>
    br (decide (((n1 : Nat) : Int) > (1048576 : Int))) (
     some true) (
     some (decide (((n3 : Nat) : Int) > (1048576 : Int))))
def sg_ll : Sig (Nat × List T × Nat × List T) where
  pk := fun v => [.lst v.1 v.2.1, .lst v.2.2.1 v.2.2.2]
  up := fun ls => match ls with
    | [.lst a0 a1, .lst a2 a3] => some (a0, a1, a2, a3)
    | _ => none
  ok := by
    intro ls v h
    split at h
    · cases h; rfl
    · cases h

def sg_b : Sig (Bool) where
  pk := fun v => [.bool v]
  up := fun ls => match ls with
    | [.bool a0] => some a0
    | _ => none
  ok := by
    intro ls v h
    split at h
    · cases h; rfl
    · cases h

def f15_l_b10Long.P : List Arg := [⟨.val, ⟨false, [.sl .shr [.leaf]], [.lst 0 []]⟩⟩, ⟨.val, ⟨false, [.sl .shr [.leaf]], [.lst 0 []]⟩⟩]
def f15_l_b10Long.A : RAlt (Bool) := .one ⟨[⟨false, [.leaf], [.bool false]⟩], [none, none]⟩ sg_b
def f15_l_b10Long.F (n : Nat) (v : Nat × List T × Nat × List T) := f15_l_b10Long n v.1 v.2.1 v.2.2.1 v.2.2.2
noncomputable def f15_l_b10Long.O (n : Nat) : Orc := orcOf (E := E) [] [] n
theorem f15_l_b10Long.ok : ∀ n v x, f15_l_b10Long.F n v = some x → evalFn E n 15 (flAs f15_l_b10Long.P (sg_ll.pk v)) = some (f15_l_b10Long.A.enc x) :=
  fn_pure (modes := (fdAt 15).ms) (outs := (fdAt 15).os) (results := (fdAt 15).rs) f15_l_b10Long.O (c := c15) (keep := keepAt 15) (by kernel_rfl) (fun n => orcOf_cf _ _ n) (fun n => lpOk_of (bs := []) (by kernel_rfl) .nil) (fun _ => rfl) (fun _ _ => by kernel_rfl)
noncomputable def f15_l_b10Long.w : FnW E := fnW 15 f15_l_b10Long.P sg_ll f15_l_b10Long.A f15_l_b10Long.F f15_l_b10Long.ok

def f17_l_b10At : Nat → Nat → List T → Int → Int → Option (Int)
  | 0, _, _, _, _ => none
  | n + 1, n1, l2, i3, i4 =>
    br (decide (i4 ≤ (1 : Int))) (
     some (0 : Int)) (
     br (decide (i3 < ((n1 : Nat) : Int))) (
      gd ((decide (((0 : Int) ≤ i3) ∧ (i3 < ((n1 : Nat) : Int)))) && (okAt [(CK.int IntKind.u8)] l2 (Int.toNat i3))) (
      gd (!(decide (i4 = (0 : Int)))) (
      some (Int.tmod (IntKind.i64.wrap (iAt l2 (Int.toNat i3))) i4)))) (
      gd (!(decide (i4 = (0 : Int)))) (
      some (Int.tmod (IntKind.i64.wrap ((IntKind.i64.wrap (i3 * (37 : Int))) + (11 : Int))) i4))))
def sg_lii : Sig (Nat × List T × Int × Int) where
  pk := fun v => [.lst v.1 v.2.1, .int v.2.2.1, .int v.2.2.2]
  up := fun ls => match ls with
    | [.lst a0 a1, .int a2, .int a3] => some (a0, a1, a2, a3)
    | _ => none
  ok := by
    intro ls v h
    split at h
    · cases h; rfl
    · cases h

def sg_i : Sig (Int) where
  pk := fun v => [.int v]
  up := fun ls => match ls with
    | [.int a0] => some a0
    | _ => none
  ok := by
    intro ls v h
    split at h
    · cases h; rfl
    · cases h

def f17_l_b10At.P : List Arg := [⟨.val, ⟨false, [.sl .shr [.leaf]], [.lst 0 []]⟩⟩, ⟨.val, ⟨false, [.leaf], [.int .i64 0]⟩⟩, ⟨.val, ⟨false, [.leaf], [.int .i64 0]⟩⟩]
def f17_l_b10At.A : RAlt (Int) := .one ⟨[⟨false, [.leaf], [.int .i64 0]⟩], [none, none, none]⟩ sg_i
def f17_l_b10At.F (n : Nat) (v : Nat × List T × Int × Int) := f17_l_b10At n v.1 v.2.1 v.2.2.1 v.2.2.2
noncomputable def f17_l_b10At.O (n : Nat) : Orc := orcOf (E := E) [] [] n
theorem f17_l_b10At.ok : ∀ n v x, f17_l_b10At.F n v = some x → evalFn E n 17 (flAs f17_l_b10At.P (sg_lii.pk v)) = some (f17_l_b10At.A.enc x) :=
  fn_pure (modes := (fdAt 17).ms) (outs := (fdAt 17).os) (results := (fdAt 17).rs) f17_l_b10At.O (c := c17) (keep := keepAt 17) (by kernel_rfl) (fun n => orcOf_cf _ _ n) (fun n => lpOk_of (bs := []) (by kernel_rfl) .nil) (fun _ => rfl) (fun _ _ => by kernel_rfl)
noncomputable def f17_l_b10At.w : FnW E := fnW 17 f17_l_b10At.P sg_lii f17_l_b10At.A f17_l_b10At.F f17_l_b10At.ok

def f75_s_l00From : Nat → Nat → List T → Option (Nat × List T × Int × Int)
  | 0, _, _ => none
  | n + 1, n1, l2 =>
    some (n1, l2, (0 : Int), (0 : Int))
def sg_l : Sig (Nat × List T) where
  pk := fun v => [.lst v.1 v.2]
  up := fun ls => match ls with
    | [.lst a0 a1] => some (a0, a1)
    | _ => none
  ok := by
    intro ls v h
    split at h
    · cases h; rfl
    · cases h

def f75_s_l00From.P : List Arg := [⟨.val, ⟨false, [.sl .shr [.leaf]], [.lst 0 []]⟩⟩]
def f75_s_l00From.A : RAlt (Nat × List T × Int × Int) := .one ⟨[⟨false, [.rf .own [.sl .shr [.leaf], .leaf, .leaf]], [.ref [.lst 0 [], .int .i64 0, .int .u64 0]]⟩], [none]⟩ sg_lii
def f75_s_l00From.F (n : Nat) (v : Nat × List T) := f75_s_l00From n v.1 v.2
noncomputable def f75_s_l00From.O (n : Nat) : Orc := orcOf (E := E) [] [] n
theorem f75_s_l00From.ok : ∀ n v x, f75_s_l00From.F n v = some x → evalFn E n 75 (flAs f75_s_l00From.P (sg_l.pk v)) = some (f75_s_l00From.A.enc x) :=
  fn_pure (modes := (fdAt 75).ms) (outs := (fdAt 75).os) (results := (fdAt 75).rs) f75_s_l00From.O (c := c75) (keep := keepAt 75) (by kernel_rfl) (fun n => orcOf_cf _ _ n) (fun n => lpOk_of (bs := []) (by kernel_rfl) .nil) (fun _ => rfl) (fun _ _ => by kernel_rfl)
noncomputable def f75_s_l00From.w : FnW E := fnW 75 f75_s_l00From.P sg_l f75_s_l00From.A f75_s_l00From.F f75_s_l00From.ok

def f128_s_l00Srcnext : Nat → Nat → List T → Int → Int → Option (Int × Nat × List T × Int × Int)
  | 0, _, _, _, _ => none
  | n + 1, n1, l2, i3, i4 =>
    br (decide (i3 < ((n1 : Nat) : Int))) (
     gd ((decide (((0 : Int) ≤ i3) ∧ (i3 < ((n1 : Nat) : Int)))) && (okAt [(CK.int IntKind.u8)] l2 (Int.toNat i3))) (
     let i5 : Int := (IntKind.i64.wrap (iAt l2 (Int.toNat i3)))
     let i6 : Int := (IntKind.i64.wrap (i3 + (1 : Int)))
     let i7 : Int := (IntKind.u64.wrap ((IntKind.u64.wrap ((IntKind.u64.wrap (i4 * (6364136223846793005 : Int))) + (IntKind.u64.wrap i5))) + (1442695040888963407 : Int)))
     br (decide (i6 ≤ ((n1 : Nat) : Int))) (
      some (i5, n1, l2, i6, i7)) (
      some ((IntKind.i64.wrap (intBits BinOp.and IntKind.u64 (Int.fdiv i7 (1099511627776 : Int)) (255 : Int))), n1, l2, i6, i7)))) (
     let i8 : Int := (IntKind.i64.wrap (i3 + (1 : Int)))
     let i9 : Int := (IntKind.u64.wrap ((IntKind.u64.wrap ((IntKind.u64.wrap (i4 * (6364136223846793005 : Int))) + (0 : Int))) + (1442695040888963407 : Int)))
     br (decide (i8 ≤ ((n1 : Nat) : Int))) (
      some ((0 : Int), n1, l2, i8, i9)) (
      some ((IntKind.i64.wrap (intBits BinOp.and IntKind.u64 (Int.fdiv i9 (1099511627776 : Int)) (255 : Int))), n1, l2, i8, i9)))
def sg_ilii : Sig (Int × Nat × List T × Int × Int) where
  pk := fun v => [.int v.1, .lst v.2.1 v.2.2.1, .int v.2.2.2.1, .int v.2.2.2.2]
  up := fun ls => match ls with
    | [.int a0, .lst a1 a2, .int a3, .int a4] => some (a0, a1, a2, a3, a4)
    | _ => none
  ok := by
    intro ls v h
    split at h
    · cases h; rfl
    · cases h

def f128_s_l00Srcnext.P : List Arg := [⟨.iop, ⟨false, [.rf .own [.sl .shr [.leaf], .leaf, .leaf]], [.ref [.lst 0 [], .int .i64 0, .int .u64 0]]⟩⟩]
def f128_s_l00Srcnext.A : RAlt (Int × Nat × List T × Int × Int) := .one ⟨[⟨false, [.leaf], [.int .i64 0]⟩], [some ⟨false, [.rf .own [.sl .shr [.leaf], .leaf, .leaf]], [.ref [.lst 0 [], .int .i64 0, .int .u64 0]]⟩]⟩ sg_ilii
def f128_s_l00Srcnext.F (n : Nat) (v : Nat × List T × Int × Int) := f128_s_l00Srcnext n v.1 v.2.1 v.2.2.1 v.2.2.2
noncomputable def f128_s_l00Srcnext.O (n : Nat) : Orc := orcOf (E := E) [] [] n
theorem f128_s_l00Srcnext.ok : ∀ n v x, f128_s_l00Srcnext.F n v = some x → evalFn E n 128 (flAs f128_s_l00Srcnext.P (sg_lii.pk v)) = some (f128_s_l00Srcnext.A.enc x) :=
  fn_pure (modes := (fdAt 128).ms) (outs := (fdAt 128).os) (results := (fdAt 128).rs) f128_s_l00Srcnext.O (c := c128) (keep := keepAt 128) (by kernel_rfl) (fun n => orcOf_cf _ _ n) (fun n => lpOk_of (bs := []) (by kernel_rfl) .nil) (fun _ => rfl) (fun _ _ => by kernel_rfl)
noncomputable def f128_s_l00Srcnext.w : FnW E := fnW 128 f128_s_l00Srcnext.P sg_lii f128_s_l00Srcnext.A f128_s_l00Srcnext.F f128_s_l00Srcnext.ok

def f76_s_l00Srcpick : Nat → Nat → List T → Int → Int → Int → Option (Int × Nat × List T × Int × Int)
  | 0, _, _, _, _, _ => none
  | n + 1, n1, l2, i3, i4, i5 =>
    br (decide (i5 ≤ (1 : Int))) (
     some ((0 : Int), n1, l2, i3, i4)) (
     bd (f128_s_l00Srcnext n n1 l2 i3 i4) fun r6 =>
     let i7 : Int := r6.1
     let n8 : Nat := r6.2.1
     let l9 : List T := r6.2.2.1
     let i10 : Int := r6.2.2.2.1
     let i11 : Int := r6.2.2.2.2
     br (decide (i5 > (200 : Int))) (
      bd (f128_s_l00Srcnext n n8 l9 i10 i11) fun r12 =>
      let i13 : Int := r12.1
      let n14 : Nat := r12.2.1
      let l15 : List T := r12.2.2.1
      let i16 : Int := r12.2.2.2.1
      let i17 : Int := r12.2.2.2.2
      let i18 : Int := (IntKind.i64.wrap ((IntKind.i64.wrap (i7 * (256 : Int))) + i13))
      gd (!(decide (i5 = (0 : Int)))) (
      some ((Int.tmod i18 i5), n14, l15, i16, i17))) (
      gd (!(decide (i5 = (0 : Int)))) (
      some ((Int.tmod i7 i5), n8, l9, i10, i11))))
def sg_liii : Sig (Nat × List T × Int × Int × Int) where
  pk := fun v => [.lst v.1 v.2.1, .int v.2.2.1, .int v.2.2.2.1, .int v.2.2.2.2]
  up := fun ls => match ls with
    | [.lst a0 a1, .int a2, .int a3, .int a4] => some (a0, a1, a2, a3, a4)
    | _ => none
  ok := by
    intro ls v h
    split at h
    · cases h; rfl
    · cases h

def f76_s_l00Srcpick.P : List Arg := [⟨.iop, ⟨false, [.rf .own [.sl .shr [.leaf], .leaf, .leaf]], [.ref [.lst 0 [], .int .i64 0, .int .u64 0]]⟩⟩, ⟨.val, ⟨false, [.leaf], [.int .i64 0]⟩⟩]
def f76_s_l00Srcpick.A : RAlt (Int × Nat × List T × Int × Int) := .one ⟨[⟨false, [.leaf], [.int .i64 0]⟩], [some ⟨false, [.rf .own [.sl .shr [.leaf], .leaf, .leaf]], [.ref [.lst 0 [], .int .i64 0, .int .u64 0]]⟩, none]⟩ sg_ilii
def f76_s_l00Srcpick.F (n : Nat) (v : Nat × List T × Int × Int × Int) := f76_s_l00Srcpick n v.1 v.2.1 v.2.2.1 v.2.2.2.1 v.2.2.2.2
noncomputable def f76_s_l00Srcpick.O (n : Nat) : Orc := orcOf (E := E) [f128_s_l00Srcnext.w] [] n
theorem f76_s_l00Srcpick.ok : ∀ n v x, f76_s_l00Srcpick.F n v = some x → evalFn E n 76 (flAs f76_s_l00Srcpick.P (sg_liii.pk v)) = some (f76_s_l00Srcpick.A.enc x) :=
  fn_pure (modes := (fdAt 76).ms) (outs := (fdAt 76).os) (results := (fdAt 76).rs) f76_s_l00Srcpick.O (c := c76) (keep := keepAt 76) (by kernel_rfl) (fun n => orcOf_cf _ _ n) (fun n => lpOk_of (bs := []) (by kernel_rfl) .nil) (fun _ => rfl) (fun _ _ => by kernel_rfl)
noncomputable def f76_s_l00Srcpick.w : FnW E := fnW 76 f76_s_l00Srcpick.P sg_liii f76_s_l00Srcpick.A f76_s_l00Srcpick.F f76_s_l00Srcpick.ok

def f129_s_l00Srcone : Nat → Nat → List T → Int → Int → Int → Option (Bool × Nat × List T × Int × Int)
  | 0, _, _, _, _, _ => none
  | n + 1, n1, l2, i3, i4, i5 =>
    bd (f76_s_l00Srcpick n n1 l2 i3 i4 i5) fun r6 =>
    let i7 : Int := r6.1
    let n8 : Nat := r6.2.1
    let l9 : List T := r6.2.2.1
    let i10 : Int := r6.2.2.2.1
    let i11 : Int := r6.2.2.2.2
    some ((i7 == (0 : Int)), n8, l9, i10, i11)
def sg_blii : Sig (Bool × Nat × List T × Int × Int) where
  pk := fun v => [.bool v.1, .lst v.2.1 v.2.2.1, .int v.2.2.2.1, .int v.2.2.2.2]
  up := fun ls => match ls with
    | [.bool a0, .lst a1 a2, .int a3, .int a4] => some (a0, a1, a2, a3, a4)
    | _ => none
  ok := by
    intro ls v h
    split at h
    · cases h; rfl
    · cases h

def f129_s_l00Srcone.P : List Arg := [⟨.iop, ⟨false, [.rf .own [.sl .shr [.leaf], .leaf, .leaf]], [.ref [.lst 0 [], .int .i64 0, .int .u64 0]]⟩⟩, ⟨.val, ⟨false, [.leaf], [.int .i64 0]⟩⟩]
def f129_s_l00Srcone.A : RAlt (Bool × Nat × List T × Int × Int) := .one ⟨[⟨false, [.leaf], [.bool false]⟩], [some ⟨false, [.rf .own [.sl .shr [.leaf], .leaf, .leaf]], [.ref [.lst 0 [], .int .i64 0, .int .u64 0]]⟩, none]⟩ sg_blii
def f129_s_l00Srcone.F (n : Nat) (v : Nat × List T × Int × Int × Int) := f129_s_l00Srcone n v.1 v.2.1 v.2.2.1 v.2.2.2.1 v.2.2.2.2
noncomputable def f129_s_l00Srcone.O (n : Nat) : Orc := orcOf (E := E) [f76_s_l00Srcpick.w] [] n
theorem f129_s_l00Srcone.ok : ∀ n v x, f129_s_l00Srcone.F n v = some x → evalFn E n 129 (flAs f129_s_l00Srcone.P (sg_liii.pk v)) = some (f129_s_l00Srcone.A.enc x) :=
  fn_pure (modes := (fdAt 129).ms) (outs := (fdAt 129).os) (results := (fdAt 129).rs) f129_s_l00Srcone.O (c := c129) (keep := keepAt 129) (by kernel_rfl) (fun n => orcOf_cf _ _ n) (fun n => lpOk_of (bs := []) (by kernel_rfl) .nil) (fun _ => rfl) (fun _ _ => by kernel_rfl)
noncomputable def f129_s_l00Srcone.w : FnW E := fnW 129 f129_s_l00Srcone.P sg_liii f129_s_l00Srcone.A f129_s_l00Srcone.F f129_s_l00Srcone.ok

def f77_s_l01DrawPlain : Nat → Nat → List T → Int → Int → Option (Nat × Nat × List T × Int × Int)
  | 0, _, _, _, _ => none
  | n + 1, n1, l2, i3, i4 =>
    bd (f76_s_l00Srcpick n n1 l2 i3 i4 (129 : Int)) fun r5 =>
    let i6 : Int := r5.1
    let n7 : Nat := r5.2.1
    let l8 : List T := r5.2.2.1
    let i9 : Int := r5.2.2.2.1
    let i10 : Int := r5.2.2.2.2
    let i11 : Int := (IntKind.i64.wrap (i6 - (64 : Int)))
    bd (f129_s_l00Srcone n n7 l8 i9 i10 (4 : Int)) fun r12 =>
    let b13 : Bool := r12.1
    let n14 : Nat := r12.2.1
    let l15 : List T := r12.2.2.1
    let i16 : Int := r12.2.2.2.1
    let i17 : Int := r12.2.2.2.2
    br b13 (
     some ((fdiv FloatKind.f32 (FloatKind.nearest FloatKind.f32 i11) 1088421888), n14, l15, i16, i17)) (
     some ((fdiv FloatKind.f32 (FloatKind.nearest FloatKind.f32 i11) 1098907648), n14, l15, i16, i17))
def sg_flii : Sig (Nat × Nat × List T × Int × Int) where
  pk := fun v => [.flt v.1, .lst v.2.1 v.2.2.1, .int v.2.2.2.1, .int v.2.2.2.2]
  up := fun ls => match ls with
    | [.flt a0, .lst a1 a2, .int a3, .int a4] => some (a0, a1, a2, a3, a4)
    | _ => none
  ok := by
    intro ls v h
    split at h
    · cases h; rfl
    · cases h

def f77_s_l01DrawPlain.P : List Arg := [⟨.iop, ⟨false, [.rf .own [.sl .shr [.leaf], .leaf, .leaf]], [.ref [.lst 0 [], .int .i64 0, .int .u64 0]]⟩⟩]
def f77_s_l01DrawPlain.A : RAlt (Nat × Nat × List T × Int × Int) := .one ⟨[⟨false, [.leaf], [.flt .f32 0]⟩], [some ⟨false, [.rf .own [.sl .shr [.leaf], .leaf, .leaf]], [.ref [.lst 0 [], .int .i64 0, .int .u64 0]]⟩]⟩ sg_flii
def f77_s_l01DrawPlain.F (n : Nat) (v : Nat × List T × Int × Int) := f77_s_l01DrawPlain n v.1 v.2.1 v.2.2.1 v.2.2.2
noncomputable def f77_s_l01DrawPlain.O (n : Nat) : Orc := orcOf (E := E) [f76_s_l00Srcpick.w, f129_s_l00Srcone.w] [] n
theorem f77_s_l01DrawPlain.ok : ∀ n v x, f77_s_l01DrawPlain.F n v = some x → evalFn E n 77 (flAs f77_s_l01DrawPlain.P (sg_lii.pk v)) = some (f77_s_l01DrawPlain.A.enc x) :=
  fn_pure (modes := (fdAt 77).ms) (outs := (fdAt 77).os) (results := (fdAt 77).rs) f77_s_l01DrawPlain.O (c := c77) (keep := keepAt 77) (by kernel_rfl) (fun n => orcOf_cf _ _ n) (fun n => lpOk_of (bs := []) (by kernel_rfl) .nil) (fun _ => rfl) (fun _ _ => by kernel_rfl)
noncomputable def f77_s_l01DrawPlain.w : FnW E := fnW 77 f77_s_l01DrawPlain.P sg_lii f77_s_l01DrawPlain.A f77_s_l01DrawPlain.F f77_s_l01DrawPlain.ok

def f132_s_l00Srcamong : Nat → Nat → List T → Int → Int → Nat → List T → Option (Int × Nat × List T × Int × Int × Nat × List T)
  | 0, _, _, _, _, _, _ => none
  | n + 1, n1, l2, i3, i4, n5, l6 =>
    bd (f76_s_l00Srcpick n n1 l2 i3 i4 ((n5 : Nat) : Int)) fun r7 =>
    let i8 : Int := r7.1
    let n9 : Nat := r7.2.1
    let l10 : List T := r7.2.2.1
    let i11 : Int := r7.2.2.2.1
    let i12 : Int := r7.2.2.2.2
    gd (decide (((0 : Int) ≤ i8) ∧ (i8 < ((n5 : Nat) : Int)))) (
    gd (okAt [(CK.int IntKind.i64)] l6 (Int.toNat i8)) (
    some ((iAt l6 (Int.toNat i8)), n9, l10, i11, i12, n5, l6)))
def sg_liil : Sig (Nat × List T × Int × Int × Nat × List T) where
  pk := fun v => [.lst v.1 v.2.1, .int v.2.2.1, .int v.2.2.2.1, .lst v.2.2.2.2.1 v.2.2.2.2.2]
  up := fun ls => match ls with
    | [.lst a0 a1, .int a2, .int a3, .lst a4 a5] => some (a0, a1, a2, a3, a4, a5)
    | _ => none
  ok := by
    intro ls v h
    split at h
    · cases h; rfl
    · cases h

def sg_iliil : Sig (Int × Nat × List T × Int × Int × Nat × List T) where
  pk := fun v => [.int v.1, .lst v.2.1 v.2.2.1, .int v.2.2.2.1, .int v.2.2.2.2.1, .lst v.2.2.2.2.2.1 v.2.2.2.2.2.2]
  up := fun ls => match ls with
    | [.int a0, .lst a1 a2, .int a3, .int a4, .lst a5 a6] => some (a0, a1, a2, a3, a4, a5, a6)
    | _ => none
  ok := by
    intro ls v h
    split at h
    · cases h; rfl
    · cases h

def f132_s_l00Srcamong.P : List Arg := [⟨.iop, ⟨false, [.rf .own [.sl .shr [.leaf], .leaf, .leaf]], [.ref [.lst 0 [], .int .i64 0, .int .u64 0]]⟩⟩, ⟨.io, ⟨false, [.sl .own [.leaf]], [.lst 0 []]⟩⟩]
def f132_s_l00Srcamong.A : RAlt (Int × Nat × List T × Int × Int × Nat × List T) := .one ⟨[⟨false, [.leaf], [.int .i64 0]⟩], [some ⟨false, [.rf .own [.sl .shr [.leaf], .leaf, .leaf]], [.ref [.lst 0 [], .int .i64 0, .int .u64 0]]⟩, some ⟨false, [.sl .own [.leaf]], [.lst 0 []]⟩]⟩ sg_iliil
def f132_s_l00Srcamong.F (n : Nat) (v : Nat × List T × Int × Int × Nat × List T) := f132_s_l00Srcamong n v.1 v.2.1 v.2.2.1 v.2.2.2.1 v.2.2.2.2.1 v.2.2.2.2.2
noncomputable def f132_s_l00Srcamong.O (n : Nat) : Orc := orcOf (E := E) [f76_s_l00Srcpick.w] [] n
theorem f132_s_l00Srcamong.ok : ∀ n v x, f132_s_l00Srcamong.F n v = some x → evalFn E n 132 (flAs f132_s_l00Srcamong.P (sg_liil.pk v)) = some (f132_s_l00Srcamong.A.enc x) :=
  fn_pure (modes := (fdAt 132).ms) (outs := (fdAt 132).os) (results := (fdAt 132).rs) f132_s_l00Srcamong.O (c := c132) (keep := keepAt 132) (by kernel_rfl) (fun n => orcOf_cf _ _ n) (fun n => lpOk_of (bs := []) (by kernel_rfl) .nil) (fun _ => rfl) (fun _ _ => by kernel_rfl)
noncomputable def f132_s_l00Srcamong.w : FnW E := fnW 132 f132_s_l00Srcamong.P sg_liil f132_s_l00Srcamong.A f132_s_l00Srcamong.F f132_s_l00Srcamong.ok

def f131_s_l01From : Nat → Int → Option (Nat)
  | 0, _ => none
  | n + 1, i1 =>
    bd (xF32frombits n (IntKind.u32.wrap i1)) fun r2 =>
    let x3 : Nat := r2
    some x3
def sg_f : Sig (Nat) where
  pk := fun v => [.flt v]
  up := fun ls => match ls with
    | [.flt a0] => some a0
    | _ => none
  ok := by
    intro ls v h
    split at h
    · cases h; rfl
    · cases h

def f131_s_l01From.P : List Arg := [⟨.val, ⟨false, [.leaf], [.int .i64 0]⟩⟩]
def f131_s_l01From.A : RAlt (Nat) := .one ⟨[⟨false, [.leaf], [.flt .f32 0]⟩], [none]⟩ sg_f
def f131_s_l01From.F (n : Nat) (v : Int) := f131_s_l01From n v
noncomputable def f131_s_l01From.O (n : Nat) : Orc := orcOf (E := E) [x140.w] [] n
theorem f131_s_l01From.ok : ∀ n v x, f131_s_l01From.F n v = some x → evalFn E n 131 (flAs f131_s_l01From.P (sg_i.pk v)) = some (f131_s_l01From.A.enc x) :=
  fn_pure (modes := (fdAt 131).ms) (outs := (fdAt 131).os) (results := (fdAt 131).rs) f131_s_l01From.O (c := c131) (keep := keepAt 131) (by kernel_rfl) (fun n => orcOf_cf _ _ n) (fun n => lpOk_of (bs := []) (by kernel_rfl) .nil) (fun _ => rfl) (fun _ _ => by kernel_rfl)
noncomputable def f131_s_l01From.w : FnW E := fnW 131 f131_s_l01From.P sg_i f131_s_l01From.A f131_s_l01From.F f131_s_l01From.ok

def f99_s_l01DrawFloat : Nat → Nat → List T → Int → Int → Option (Nat × Nat × List T × Int × Int)
  | 0, _, _, _, _ => none
  | n + 1, n1, l2, i3, i4 =>
    bd (f129_s_l00Srcone n n1 l2 i3 i4 (12 : Int)) fun r5 =>
    let b6 : Bool := r5.1
    let n7 : Nat := r5.2.1
    let l8 : List T := r5.2.2.1
    let i9 : Int := r5.2.2.2.1
    let i10 : Int := r5.2.2.2.2
    br (!b6) (
     bd (f77_s_l01DrawPlain n n7 l8 i9 i10) fun r11 =>
     let x12 : Nat := r11.1
     let n13 : Nat := r11.2.1
     let l14 : List T := r11.2.2.1
     let i15 : Int := r11.2.2.2.1
     let i16 : Int := r11.2.2.2.2
     some (x12, n13, l14, i15, i16)) (
     bd (f76_s_l00Srcpick n n7 l8 i9 i10 (4 : Int)) fun r17 =>
     let i18 : Int := r17.1
     let n19 : Nat := r17.2.1
     let l20 : List T := r17.2.2.1
     let i21 : Int := r17.2.2.2.1
     let i22 : Int := r17.2.2.2.2
     br (i18 == (0 : Int)) (
      bd (f132_s_l00Srcamong n n19 l20 i21 i22 10 (setN (setN (setN (setN (setN (setN (setN (setN (setN (setN (reps 10 [(T.int IntKind.i64 (0 : Int))]) 0 [(T.int IntKind.i64 (0 : Int))]) 1 [(T.int IntKind.i64 (2147483648 : Int))]) 2 [(T.int IntKind.i64 (2139095040 : Int))]) 3 [(T.int IntKind.i64 (4286578688 : Int))]) 4 [(T.int IntKind.i64 (2143289344 : Int))]) 5 [(T.int IntKind.i64 (1 : Int))]) 6 [(T.int IntKind.i64 (2139095039 : Int))]) 7 [(T.int IntKind.i64 (8388608 : Int))]) 8 [(T.int IntKind.i64 (8388607 : Int))]) 9 [(T.int IntKind.i64 (2147483649 : Int))])) fun r23 =>
      let i24 : Int := r23.1
      let n25 : Nat := r23.2.1
      let l26 : List T := r23.2.2.1
      let i27 : Int := r23.2.2.2.1
      let i28 : Int := r23.2.2.2.2.1
      let n29 : Nat := r23.2.2.2.2.2.1
      let l30 : List T := r23.2.2.2.2.2.2
      bd (f131_s_l01From n i24) fun r31 =>
      let x32 : Nat := r31
      some (x32, n25, l26, i27, i28)) (
      br (i18 == (1 : Int)) (
       bd (f76_s_l00Srcpick n n19 l20 i21 i22 (65536 : Int)) fun r33 =>
       let i34 : Int := r33.1
       let n35 : Nat := r33.2.1
       let l36 : List T := r33.2.2.1
       let i37 : Int := r33.2.2.2.1
       let i38 : Int := r33.2.2.2.2
       let i39 : Int := (IntKind.i64.wrap (i34 * (65536 : Int)))
       bd (f76_s_l00Srcpick n n35 l36 i37 i38 (65536 : Int)) fun r40 =>
       let i41 : Int := r40.1
       let n42 : Nat := r40.2.1
       let l43 : List T := r40.2.2.1
       let i44 : Int := r40.2.2.2.1
       let i45 : Int := r40.2.2.2.2
       bd (f131_s_l01From n (IntKind.i64.wrap (i39 + i41))) fun r46 =>
       let x47 : Nat := r46
       some (x47, n42, l43, i44, i45)) (
       br (i18 == (2 : Int)) (
        bd (f76_s_l00Srcpick n n19 l20 i21 i22 (65536 : Int)) fun r48 =>
        let i49 : Int := r48.1
        let n50 : Nat := r48.2.1
        let l51 : List T := r48.2.2.1
        let i52 : Int := r48.2.2.2.1
        let i53 : Int := r48.2.2.2.2
        bd (f131_s_l01From n (IntKind.i64.wrap (i49 * (65536 : Int)))) fun r54 =>
        let x55 : Nat := r54
        some (x55, n50, l51, i52, i53)) (
        bd (f77_s_l01DrawPlain n n19 l20 i21 i22) fun r56 =>
        let x57 : Nat := r56.1
        let n58 : Nat := r56.2.1
        let l59 : List T := r56.2.2.1
        let i60 : Int := r56.2.2.2.1
        let i61 : Int := r56.2.2.2.2
        bd (f132_s_l00Srcamong n n58 l59 i60 i61 4 (setN (setN (setN (setN (reps 4 [(T.int IntKind.i64 (0 : Int))]) 0 [(T.int IntKind.i64 (8388608 : Int))]) 1 [(T.int IntKind.i64 (2130706432 : Int))]) 2 [(T.int IntKind.i64 (1610612736 : Int))]) 3 [(T.int IntKind.i64 (536870912 : Int))])) fun r62 =>
        let i63 : Int := r62.1
        let n64 : Nat := r62.2.1
        let l65 : List T := r62.2.2.1
        let i66 : Int := r62.2.2.2.1
        let i67 : Int := r62.2.2.2.2.1
        let n68 : Nat := r62.2.2.2.2.2.1
        let l69 : List T := r62.2.2.2.2.2.2
        bd (f131_s_l01From n i63) fun r70 =>
        let x71 : Nat := r70
        some ((fmul FloatKind.f32 x57 x71), n64, l65, i66, i67)))))
def f99_s_l01DrawFloat.P : List Arg := [⟨.iop, ⟨false, [.rf .own [.sl .shr [.leaf], .leaf, .leaf]], [.ref [.lst 0 [], .int .i64 0, .int .u64 0]]⟩⟩]
def f99_s_l01DrawFloat.A : RAlt (Nat × Nat × List T × Int × Int) := .one ⟨[⟨false, [.leaf], [.flt .f32 0]⟩], [some ⟨false, [.rf .own [.sl .shr [.leaf], .leaf, .leaf]], [.ref [.lst 0 [], .int .i64 0, .int .u64 0]]⟩]⟩ sg_flii
def f99_s_l01DrawFloat.F (n : Nat) (v : Nat × List T × Int × Int) := f99_s_l01DrawFloat n v.1 v.2.1 v.2.2.1 v.2.2.2
noncomputable def f99_s_l01DrawFloat.O (n : Nat) : Orc := orcOf (E := E) [f76_s_l00Srcpick.w, f129_s_l00Srcone.w, f77_s_l01DrawPlain.w, f132_s_l00Srcamong.w, f131_s_l01From.w] [] n
theorem f99_s_l01DrawFloat.ok : ∀ n v x, f99_s_l01DrawFloat.F n v = some x → evalFn E n 99 (flAs f99_s_l01DrawFloat.P (sg_lii.pk v)) = some (f99_s_l01DrawFloat.A.enc x) :=
  fn_pure (modes := (fdAt 99).ms) (outs := (fdAt 99).os) (results := (fdAt 99).rs) f99_s_l01DrawFloat.O (c := c99) (keep := keepAt 99) (by kernel_rfl) (fun n => orcOf_cf _ _ n) (fun n => lpOk_of (bs := []) (by kernel_rfl) .nil) (fun _ => rfl) (fun _ _ => by kernel_rfl)
noncomputable def f99_s_l01DrawFloat.w : FnW E := fnW 99 f99_s_l01DrawFloat.P sg_lii f99_s_l01DrawFloat.A f99_s_l01DrawFloat.F f99_s_l01DrawFloat.ok

def f81_s_l01DrawFloats.l0 (n : Nat) : Nat → Nat → List T → Int → Int → Int → Nat → List T → Bool → Option (Nat × List T × Int × Int × Nat × List T)
  | 0, _, _, _, _, _, _, _, _ => none
  | m + 1, n1, l2, i3, i4, i5, n6, l7, b8 =>
    br (decide (i5 > (0 : Int))) (
     br b8 (
      bd (f99_s_l01DrawFloat n n1 l2 i3 i4) fun r9 =>
      let x10 : Nat := r9.1
      let n11 : Nat := r9.2.1
      let l12 : List T := r9.2.2.1
      let i13 : Int := r9.2.2.2.1
      let i14 : Int := r9.2.2.2.2
      gd (Nat.ble (n6 + 1) 2147483648) (
      let n15 : Nat := (n6 + 1)
      let l16 : List T := (l7 ++ (setN (reps 1 [(T.flt FloatKind.f32 0)]) 0 [(T.flt FloatKind.f32 x10)]))
      f81_s_l01DrawFloats.l0 n m n11 l12 i13 i14 (IntKind.i64.wrap (i5 - (1 : Int))) n15 l16 b8)) (
      bd (f77_s_l01DrawPlain n n1 l2 i3 i4) fun r17 =>
      let x18 : Nat := r17.1
      let n19 : Nat := r17.2.1
      let l20 : List T := r17.2.2.1
      let i21 : Int := r17.2.2.2.1
      let i22 : Int := r17.2.2.2.2
      gd (Nat.ble (n6 + 1) 2147483648) (
      let n23 : Nat := (n6 + 1)
      let l24 : List T := (l7 ++ (setN (reps 1 [(T.flt FloatKind.f32 0)]) 0 [(T.flt FloatKind.f32 x18)]))
      f81_s_l01DrawFloats.l0 n m n19 l20 i21 i22 (IntKind.i64.wrap (i5 - (1 : Int))) n23 l24 b8))) (
     some (n1, l2, i3, i4, n6, l7))
def f81_s_l01DrawFloats : Nat → Nat → List T → Int → Int → Int → Option (Nat × List T × Nat × List T × Int × Int)
  | 0, _, _, _, _, _ => none
  | n + 1, n1, l2, i3, i4, i5 =>
    bd (f129_s_l00Srcone n n1 l2 i3 i4 (4 : Int)) fun r6 =>
    let b7 : Bool := r6.1
    let n8 : Nat := r6.2.1
    let l9 : List T := r6.2.2.1
    let i10 : Int := r6.2.2.2.1
    let i11 : Int := r6.2.2.2.2
    bd (f81_s_l01DrawFloats.l0 n n n8 l9 i10 i11 i5 0 (reps 0 [(T.flt FloatKind.f32 0)]) b7) fun r12 =>
    let n13 : Nat := r12.1
    let l14 : List T := r12.2.1
    let i15 : Int := r12.2.2.1
    let i16 : Int := r12.2.2.2.1
    let n17 : Nat := r12.2.2.2.2.1
    let l18 : List T := r12.2.2.2.2.2
    some (n17, l18, n13, l14, i15, i16)
def sg_llii : Sig (Nat × List T × Nat × List T × Int × Int) where
  pk := fun v => [.lst v.1 v.2.1, .lst v.2.2.1 v.2.2.2.1, .int v.2.2.2.2.1, .int v.2.2.2.2.2]
  up := fun ls => match ls with
    | [.lst a0 a1, .lst a2 a3, .int a4, .int a5] => some (a0, a1, a2, a3, a4, a5)
    | _ => none
  ok := by
    intro ls v h
    split at h
    · cases h; rfl
    · cases h

def sg_liiilb : Sig (Nat × List T × Int × Int × Int × Nat × List T × Bool) where
  pk := fun v => [.lst v.1 v.2.1, .int v.2.2.1, .int v.2.2.2.1, .int v.2.2.2.2.1, .lst v.2.2.2.2.2.1 v.2.2.2.2.2.2.1, .bool v.2.2.2.2.2.2.2]
  up := fun ls => match ls with
    | [.lst a0 a1, .int a2, .int a3, .int a4, .lst a5 a6, .bool a7] => some (a0, a1, a2, a3, a4, a5, a6, a7)
    | _ => none
  ok := by
    intro ls v h
    split at h
    · cases h; rfl
    · cases h

def f81_s_l01DrawFloats.l0.P : AS := ⟨[(0, .box [.sl .shr [.leaf], .leaf, .leaf] [.lst 0 [], .int .i64 0, .int .u64 0] [] 0), (1, .val false [.leaf] [.int .i64 0] [] 0), (5, .val false [.sl .own [.leaf]] [.lst 0 []] [] 0), (6, .val false [.leaf] [.bool false] [] 0)], 0⟩
def f81_s_l01DrawFloats.l0.A : Alt (Nat × List T × Int × Int × Nat × List T) := .one (.exit 0) ⟨[(0, .box [.sl .shr [.leaf], .leaf, .leaf] [.lst 0 [], .int .i64 0, .int .u64 0] [] 0), (5, .val false [.sl .own [.leaf]] [.lst 0 []] [] 0)], 0⟩ sg_liil
def f81_s_l01DrawFloats.l0.F (n m : Nat) (v : Nat × List T × Int × Int × Int × Nat × List T × Bool) := f81_s_l01DrawFloats.l0 n m v.1 v.2.1 v.2.2.1 v.2.2.2.1 v.2.2.2.2.1 v.2.2.2.2.2.1 v.2.2.2.2.2.2.1 v.2.2.2.2.2.2.2
def f81_s_l01DrawFloats.l0.W (n : Nat) : LpW := .of 48 f81_s_l01DrawFloats.l0.P sg_liiilb f81_s_l01DrawFloats.l0.A (f81_s_l01DrawFloats.l0.F n n)
def f81_s_l01DrawFloats.P : List Arg := [⟨.iop, ⟨false, [.rf .own [.sl .shr [.leaf], .leaf, .leaf]], [.ref [.lst 0 [], .int .i64 0, .int .u64 0]]⟩⟩, ⟨.val, ⟨false, [.leaf], [.int .i64 0]⟩⟩]
def f81_s_l01DrawFloats.A : RAlt (Nat × List T × Nat × List T × Int × Int) := .one ⟨[⟨false, [.sl .own [.leaf]], [.lst 0 []]⟩], [some ⟨false, [.rf .own [.sl .shr [.leaf], .leaf, .leaf]], [.ref [.lst 0 [], .int .i64 0, .int .u64 0]]⟩, none]⟩ sg_llii
def f81_s_l01DrawFloats.F (n : Nat) (v : Nat × List T × Int × Int × Int) := f81_s_l01DrawFloats n v.1 v.2.1 v.2.2.1 v.2.2.2.1 v.2.2.2.2
noncomputable def f81_s_l01DrawFloats.O (n : Nat) : Orc := orcOf (E := E) [f129_s_l00Srcone.w, f77_s_l01DrawPlain.w, f99_s_l01DrawFloat.w] [f81_s_l01DrawFloats.l0.W n] n
theorem f81_s_l01DrawFloats.l0.ok (n : Nat) : LpOk (f81_s_l01DrawFloats.O n) E (evalFn E n) n (keepAt 81) (.loop (loopAt c81 0)) :=
  lp_pure f81_s_l01DrawFloats.l0.P sg_liiilb f81_s_l01DrawFloats.l0.A (f81_s_l01DrawFloats.l0.F n) (orcOf_cf _ _ n) (lpOk_of (bs := []) (by kernel_rfl) .nil) (fun _ => rfl) (fun _ _ => by kernel_rfl) (fun _ _ _ => by kernel_rfl)
theorem f81_s_l01DrawFloats.ok : ∀ n v x, f81_s_l01DrawFloats.F n v = some x → evalFn E n 81 (flAs f81_s_l01DrawFloats.P (sg_liii.pk v)) = some (f81_s_l01DrawFloats.A.enc x) :=
  fn_pure (modes := (fdAt 81).ms) (outs := (fdAt 81).os) (results := (fdAt 81).rs) f81_s_l01DrawFloats.O (c := c81) (keep := keepAt 81) (by kernel_rfl) (fun n => orcOf_cf _ _ n) (fun n => lpOk_of (bs := [loopAt c81 0]) (by kernel_rfl) (.cons (f81_s_l01DrawFloats.l0.ok n) .nil)) (fun _ => rfl) (fun _ _ => by kernel_rfl)
noncomputable def f81_s_l01DrawFloats.w : FnW E := fnW 81 f81_s_l01DrawFloats.P sg_liii f81_s_l01DrawFloats.A f81_s_l01DrawFloats.F f81_s_l01DrawFloats.ok

def f19_s_B10Numbers : Nat → Nat → List T → Int → Option (Nat × List T)
  | 0, _, _, _ => none
  | n + 1, n1, l2, i3 =>
    bd (f75_s_l00From n n1 l2) fun r4 =>
    let n5 : Nat := r4.1
    let l6 : List T := r4.2.1
    let i7 : Int := r4.2.2.1
    let i8 : Int := r4.2.2.2
    bd (f81_s_l01DrawFloats n n5 l6 i7 i8 i3) fun r9 =>
    let n10 : Nat := r9.1
    let l11 : List T := r9.2.1
    let n12 : Nat := r9.2.2.1
    let l13 : List T := r9.2.2.2.1
    let i14 : Int := r9.2.2.2.2.1
    let i15 : Int := r9.2.2.2.2.2
    some (n10, l11)
def sg_li : Sig (Nat × List T × Int) where
  pk := fun v => [.lst v.1 v.2.1, .int v.2.2]
  up := fun ls => match ls with
    | [.lst a0 a1, .int a2] => some (a0, a1, a2)
    | _ => none
  ok := by
    intro ls v h
    split at h
    · cases h; rfl
    · cases h

def f19_s_B10Numbers.P : List Arg := [⟨.val, ⟨false, [.sl .shr [.leaf]], [.lst 0 []]⟩⟩, ⟨.val, ⟨false, [.leaf], [.int .i64 0]⟩⟩]
def f19_s_B10Numbers.A : RAlt (Nat × List T) := .one ⟨[⟨false, [.sl .own [.leaf]], [.lst 0 []]⟩], [none, none]⟩ sg_l
def f19_s_B10Numbers.F (n : Nat) (v : Nat × List T × Int) := f19_s_B10Numbers n v.1 v.2.1 v.2.2
noncomputable def f19_s_B10Numbers.O (n : Nat) : Orc := orcOf (E := E) [f75_s_l00From.w, f81_s_l01DrawFloats.w] [] n
theorem f19_s_B10Numbers.ok : ∀ n v x, f19_s_B10Numbers.F n v = some x → evalFn E n 19 (flAs f19_s_B10Numbers.P (sg_li.pk v)) = some (f19_s_B10Numbers.A.enc x) :=
  fn_pure (modes := (fdAt 19).ms) (outs := (fdAt 19).os) (results := (fdAt 19).rs) f19_s_B10Numbers.O (c := c19) (keep := keepAt 19) (by kernel_rfl) (fun n => orcOf_cf _ _ n) (fun n => lpOk_of (bs := []) (by kernel_rfl) .nil) (fun _ => rfl) (fun _ _ => by kernel_rfl)
noncomputable def f19_s_B10Numbers.w : FnW E := fnW 19 f19_s_B10Numbers.P sg_li f19_s_B10Numbers.A f19_s_B10Numbers.F f19_s_B10Numbers.ok

def f94_i_areSamples : Nat → Nat → List T → Option (Bool)
  | 0, _, _ => none
  | n + 1, n1, l2 =>
    some (decide (((n1 : Nat) : Int) ≤ (256 : Int)))
def f94_i_areSamples.P : List Arg := [⟨.val, ⟨false, [.sl .shr [.leaf]], [.lst 0 []]⟩⟩]
def f94_i_areSamples.A : RAlt (Bool) := .one ⟨[⟨false, [.leaf], [.bool false]⟩], [none]⟩ sg_b
def f94_i_areSamples.F (n : Nat) (v : Nat × List T) := f94_i_areSamples n v.1 v.2
noncomputable def f94_i_areSamples.O (n : Nat) : Orc := orcOf (E := E) [] [] n
theorem f94_i_areSamples.ok : ∀ n v x, f94_i_areSamples.F n v = some x → evalFn E n 94 (flAs f94_i_areSamples.P (sg_l.pk v)) = some (f94_i_areSamples.A.enc x) :=
  fn_pure (modes := (fdAt 94).ms) (outs := (fdAt 94).os) (results := (fdAt 94).rs) f94_i_areSamples.O (c := c94) (keep := keepAt 94) (by kernel_rfl) (fun n => orcOf_cf _ _ n) (fun n => lpOk_of (bs := []) (by kernel_rfl) .nil) (fun _ => rfl) (fun _ _ => by kernel_rfl)
noncomputable def f94_i_areSamples.w : FnW E := fnW 94 f94_i_areSamples.P sg_l f94_i_areSamples.A f94_i_areSamples.F f94_i_areSamples.ok

def f83_i_within : Nat → Int → Int → Int → Option (Bool)
  | 0, _, _, _ => none
  | n + 1, i1, i2, i3 =>
    br (decide (i2 ≤ i1)) (
     some (decide (i1 ≤ i3))) (
     some false)
def sg_iii : Sig (Int × Int × Int) where
  pk := fun v => [.int v.1, .int v.2.1, .int v.2.2]
  up := fun ls => match ls with
    | [.int a0, .int a1, .int a2] => some (a0, a1, a2)
    | _ => none
  ok := by
    intro ls v h
    split at h
    · cases h; rfl
    · cases h

def f83_i_within.P : List Arg := [⟨.val, ⟨false, [.leaf], [.int .i64 0]⟩⟩, ⟨.val, ⟨false, [.leaf], [.int .i64 0]⟩⟩, ⟨.val, ⟨false, [.leaf], [.int .i64 0]⟩⟩]
def f83_i_within.A : RAlt (Bool) := .one ⟨[⟨false, [.leaf], [.bool false]⟩], [none, none, none]⟩ sg_b
def f83_i_within.F (n : Nat) (v : Int × Int × Int) := f83_i_within n v.1 v.2.1 v.2.2
noncomputable def f83_i_within.O (n : Nat) : Orc := orcOf (E := E) [] [] n
theorem f83_i_within.ok : ∀ n v x, f83_i_within.F n v = some x → evalFn E n 83 (flAs f83_i_within.P (sg_iii.pk v)) = some (f83_i_within.A.enc x) :=
  fn_pure (modes := (fdAt 83).ms) (outs := (fdAt 83).os) (results := (fdAt 83).rs) f83_i_within.O (c := c83) (keep := keepAt 83) (by kernel_rfl) (fun n => orcOf_cf _ _ n) (fun n => lpOk_of (bs := []) (by kernel_rfl) .nil) (fun _ => rfl) (fun _ _ => by kernel_rfl)
noncomputable def f83_i_within.w : FnW E := fnW 83 f83_i_within.P sg_iii f83_i_within.A f83_i_within.F f83_i_within.ok

def f79_i_isCount : Nat → Int → Option (Bool)
  | 0, _ => none
  | n + 1, i1 =>
    bd (f83_i_within n i1 (0 : Int) (256 : Int)) fun r2 =>
    let b3 : Bool := r2
    some b3
def f79_i_isCount.P : List Arg := [⟨.val, ⟨false, [.leaf], [.int .i64 0]⟩⟩]
def f79_i_isCount.A : RAlt (Bool) := .one ⟨[⟨false, [.leaf], [.bool false]⟩], [none]⟩ sg_b
def f79_i_isCount.F (n : Nat) (v : Int) := f79_i_isCount n v
noncomputable def f79_i_isCount.O (n : Nat) : Orc := orcOf (E := E) [f83_i_within.w] [] n
theorem f79_i_isCount.ok : ∀ n v x, f79_i_isCount.F n v = some x → evalFn E n 79 (flAs f79_i_isCount.P (sg_i.pk v)) = some (f79_i_isCount.A.enc x) :=
  fn_pure (modes := (fdAt 79).ms) (outs := (fdAt 79).os) (results := (fdAt 79).rs) f79_i_isCount.O (c := c79) (keep := keepAt 79) (by kernel_rfl) (fun n => orcOf_cf _ _ n) (fun n => lpOk_of (bs := []) (by kernel_rfl) .nil) (fun _ => rfl) (fun _ _ => by kernel_rfl)
noncomputable def f79_i_isCount.w : FnW E := fnW 79 f79_i_isCount.P sg_i f79_i_isCount.A f79_i_isCount.F f79_i_isCount.ok

def f85_i_isPlayed : Nat → Nat → List T → Int → Int → Int → Option (Bool)
  | 0, _, _, _, _, _ => none
  | n + 1, n1, l2, i3, i4, i5 =>
    bd (f94_i_areSamples n n1 l2) fun r6 =>
    let b7 : Bool := r6
    br b7 (
     br (decide (((n1 : Nat) : Int) > (0 : Int))) (
      bd (f83_i_within n i3 (0 : Int) (16777216 : Int)) fun r8 =>
      let b9 : Bool := r8
      br b9 (
       bd (f83_i_within n i4 (0 : Int) (655360 : Int)) fun r10 =>
       let b11 : Bool := r10
       br b11 (
        bd (f79_i_isCount n i5) fun r12 =>
        let b13 : Bool := r12
        some b13) (
        some false)) (
       some false)) (
      some false)) (
     some false)
def f85_i_isPlayed.P : List Arg := [⟨.val, ⟨false, [.sl .shr [.leaf]], [.lst 0 []]⟩⟩, ⟨.val, ⟨false, [.leaf], [.int .i64 0]⟩⟩, ⟨.val, ⟨false, [.leaf], [.int .i64 0]⟩⟩, ⟨.val, ⟨false, [.leaf], [.int .i64 0]⟩⟩]
def f85_i_isPlayed.A : RAlt (Bool) := .one ⟨[⟨false, [.leaf], [.bool false]⟩], [none, none, none, none]⟩ sg_b
def f85_i_isPlayed.F (n : Nat) (v : Nat × List T × Int × Int × Int) := f85_i_isPlayed n v.1 v.2.1 v.2.2.1 v.2.2.2.1 v.2.2.2.2
noncomputable def f85_i_isPlayed.O (n : Nat) : Orc := orcOf (E := E) [f94_i_areSamples.w, f83_i_within.w, f79_i_isCount.w] [] n
theorem f85_i_isPlayed.ok : ∀ n v x, f85_i_isPlayed.F n v = some x → evalFn E n 85 (flAs f85_i_isPlayed.P (sg_liii.pk v)) = some (f85_i_isPlayed.A.enc x) :=
  fn_pure (modes := (fdAt 85).ms) (outs := (fdAt 85).os) (results := (fdAt 85).rs) f85_i_isPlayed.O (c := c85) (keep := keepAt 85) (by kernel_rfl) (fun n => orcOf_cf _ _ n) (fun n => lpOk_of (bs := []) (by kernel_rfl) .nil) (fun _ => rfl) (fun _ _ => by kernel_rfl)
noncomputable def f85_i_isPlayed.w : FnW E := fnW 85 f85_i_isPlayed.P sg_liii f85_i_isPlayed.A f85_i_isPlayed.F f85_i_isPlayed.ok

def f88_i_PlayRecording2 : Nat → Int → Option (Int)
  | 0, _ => none
  | n + 1, i1 =>
    some i1
def f88_i_PlayRecording2.P : List Arg := [⟨.val, ⟨false, [.leaf], [.int .i64 0]⟩⟩]
def f88_i_PlayRecording2.A : RAlt (Int) := .one ⟨[⟨false, [.leaf], [.int .i64 0]⟩], [none]⟩ sg_i
def f88_i_PlayRecording2.F (n : Nat) (v : Int) := f88_i_PlayRecording2 n v
noncomputable def f88_i_PlayRecording2.O (n : Nat) : Orc := orcOf (E := E) [] [] n
theorem f88_i_PlayRecording2.ok : ∀ n v x, f88_i_PlayRecording2.F n v = some x → evalFn E n 88 (flAs f88_i_PlayRecording2.P (sg_i.pk v)) = some (f88_i_PlayRecording2.A.enc x) :=
  fn_pure (modes := (fdAt 88).ms) (outs := (fdAt 88).os) (results := (fdAt 88).rs) f88_i_PlayRecording2.O (c := c88) (keep := keepAt 88) (by kernel_rfl) (fun n => orcOf_cf _ _ n) (fun n => lpOk_of (bs := []) (by kernel_rfl) .nil) (fun _ => rfl) (fun _ _ => by kernel_rfl)
noncomputable def f88_i_PlayRecording2.w : FnW E := fnW 88 f88_i_PlayRecording2.P sg_i f88_i_PlayRecording2.A f88_i_PlayRecording2.F f88_i_PlayRecording2.ok

def f82_i_size : Nat → Int → Option (Int)
  | 0, _ => none
  | n + 1, i1 =>
    some i1
def f82_i_size.P : List Arg := [⟨.val, ⟨false, [.leaf], [.int .i64 0]⟩⟩]
def f82_i_size.A : RAlt (Int) := .one ⟨[⟨false, [.leaf], [.int .i64 0]⟩], [none]⟩ sg_i
def f82_i_size.F (n : Nat) (v : Int) := f82_i_size n v
noncomputable def f82_i_size.O (n : Nat) : Orc := orcOf (E := E) [] [] n
theorem f82_i_size.ok : ∀ n v x, f82_i_size.F n v = some x → evalFn E n 82 (flAs f82_i_size.P (sg_i.pk v)) = some (f82_i_size.A.enc x) :=
  fn_pure (modes := (fdAt 82).ms) (outs := (fdAt 82).os) (results := (fdAt 82).rs) f82_i_size.O (c := c82) (keep := keepAt 82) (by kernel_rfl) (fun n => orcOf_cf _ _ n) (fun n => lpOk_of (bs := []) (by kernel_rfl) .nil) (fun _ => rfl) (fun _ _ => by kernel_rfl)
noncomputable def f82_i_size.w : FnW E := fnW 82 f82_i_size.P sg_i f82_i_size.A f82_i_size.F f82_i_size.ok

def f87_i_PlayRecording1 : Nat → Int → Nat → List T → Option (Nat)
  | 0, _, _, _ => none
  | n + 1, i1, n2, l3 =>
    bd (f82_i_size n ((n2 : Nat) : Int)) fun r4 =>
    let i5 : Int := r4
    br (decide (i1 < i5)) (
     gd ((decide (((0 : Int) ≤ i1) ∧ (i1 < ((n2 : Nat) : Int)))) && (okAt [(CK.flt FloatKind.f32)] l3 (Int.toNat i1))) (
     some (fAt l3 (Int.toNat i1)))) (
     some 0)
def sg_il : Sig (Int × Nat × List T) where
  pk := fun v => [.int v.1, .lst v.2.1 v.2.2]
  up := fun ls => match ls with
    | [.int a0, .lst a1 a2] => some (a0, a1, a2)
    | _ => none
  ok := by
    intro ls v h
    split at h
    · cases h; rfl
    · cases h

def f87_i_PlayRecording1.P : List Arg := [⟨.val, ⟨false, [.leaf], [.int .i64 0]⟩⟩, ⟨.val, ⟨false, [.rf .shr [.sl .shr [.leaf]]], [.ref [.lst 0 []]]⟩⟩]
def f87_i_PlayRecording1.A : RAlt (Nat) := .one ⟨[⟨false, [.leaf], [.flt .f32 0]⟩], [none, none]⟩ sg_f
def f87_i_PlayRecording1.F (n : Nat) (v : Int × Nat × List T) := f87_i_PlayRecording1 n v.1 v.2.1 v.2.2
noncomputable def f87_i_PlayRecording1.O (n : Nat) : Orc := orcOf (E := E) [f82_i_size.w] [] n
theorem f87_i_PlayRecording1.ok : ∀ n v x, f87_i_PlayRecording1.F n v = some x → evalFn E n 87 (flAs f87_i_PlayRecording1.P (sg_il.pk v)) = some (f87_i_PlayRecording1.A.enc x) :=
  fn_pure (modes := (fdAt 87).ms) (outs := (fdAt 87).os) (results := (fdAt 87).rs) f87_i_PlayRecording1.O (c := c87) (keep := keepAt 87) (by kernel_rfl) (fun n => orcOf_cf _ _ n) (fun n => lpOk_of (bs := []) (by kernel_rfl) .nil) (fun _ => rfl) (fun _ _ => by kernel_rfl)
noncomputable def f87_i_PlayRecording1.w : FnW E := fnW 87 f87_i_PlayRecording1.P sg_il f87_i_PlayRecording1.A f87_i_PlayRecording1.F f87_i_PlayRecording1.ok

def f86_i_play.l0 (n : Nat) : Nat → Nat → List T → Int → Int → Int → Nat → List T → Option (Int × Nat × List T)
  | 0, _, _, _, _, _, _, _ => none
  | m + 1, n1, l2, i3, i4, i5, n6, l7 =>
    br (decide (i5 > (0 : Int))) (
     let i8 : Int := (IntKind.i64.wrap (Int.tdiv i3 (65536 : Int)))
     let i9 : Int := (Int.tmod i3 (65536 : Int))
     bd (f87_i_PlayRecording1 n i8 n1 l2) fun r10 =>
     let x11 : Nat := r10
     br (decide (i9 > (0 : Int))) (
      let x12 : Nat := (fdiv FloatKind.f32 (FloatKind.nearest FloatKind.f32 i9) 1199570944)
      bd (f87_i_PlayRecording1 n (IntKind.i64.wrap (i8 + (1 : Int))) n1 l2) fun r13 =>
      let x14 : Nat := r13
      let x15 : Nat := (fadd FloatKind.f32 x11 (fmul FloatKind.f32 (fsub FloatKind.f32 x14 x11) x12))
      gd (Nat.ble (n6 + 1) 2147483648) (
      let n16 : Nat := (n6 + 1)
      let l17 : List T := (l7 ++ (setN (reps 1 [(T.flt FloatKind.f32 0)]) 0 [(T.flt FloatKind.f32 x15)]))
      bd (f88_i_PlayRecording2 n (IntKind.i64.wrap (i3 + i4))) fun r18 =>
      let i19 : Int := r18
      f86_i_play.l0 n m n1 l2 i19 i4 (IntKind.i64.wrap (i5 - (1 : Int))) n16 l17)) (
      gd (Nat.ble (n6 + 1) 2147483648) (
      let n20 : Nat := (n6 + 1)
      let l21 : List T := (l7 ++ (setN (reps 1 [(T.flt FloatKind.f32 0)]) 0 [(T.flt FloatKind.f32 x11)]))
      bd (f88_i_PlayRecording2 n (IntKind.i64.wrap (i3 + i4))) fun r22 =>
      let i23 : Int := r22
      f86_i_play.l0 n m n1 l2 i23 i4 (IntKind.i64.wrap (i5 - (1 : Int))) n20 l21))) (
     some (i3, n6, l7))
def f86_i_play : Nat → Nat → List T → Int → Int → Int → Option (Nat × List T × Int)
  | 0, _, _, _, _, _ => none
  | n + 1, n1, l2, i3, i4, i5 =>
    bd (f88_i_PlayRecording2 n i3) fun r6 =>
    let i7 : Int := r6
    bd (f86_i_play.l0 n n n1 l2 i7 i4 i5 0 []) fun r8 =>
    let i9 : Int := r8.1
    let n10 : Nat := r8.2.1
    let l11 : List T := r8.2.2
    some (n10, l11, i9)
def sg_liiil : Sig (Nat × List T × Int × Int × Int × Nat × List T) where
  pk := fun v => [.lst v.1 v.2.1, .int v.2.2.1, .int v.2.2.2.1, .int v.2.2.2.2.1, .lst v.2.2.2.2.2.1 v.2.2.2.2.2.2]
  up := fun ls => match ls with
    | [.lst a0 a1, .int a2, .int a3, .int a4, .lst a5 a6] => some (a0, a1, a2, a3, a4, a5, a6)
    | _ => none
  ok := by
    intro ls v h
    split at h
    · cases h; rfl
    · cases h

def f86_i_play.l0.P : AS := ⟨[(0, .val false [.fn [.rf .shr [.sl .shr [.leaf]]]] [.fn 87 [.ref [.lst 0 []]]] [] 0), (1, .val false [.fn []] [.fn 88 []] [] 0), (2, .val false [.leaf] [.int .i64 0] [] 0), (3, .val false [.leaf] [.int .i64 0] [] 0), (4, .val false [.leaf] [.int .i64 0] [] 0), (12, .val false [.sl .own [.leaf]] [.lst 0 []] [] 0)], 0⟩
def f86_i_play.l0.A : Alt (Int × Nat × List T) := .one (.exit 0) ⟨[(2, .val false [.leaf] [.int .i64 0] [] 0), (12, .val false [.sl .own [.leaf]] [.lst 0 []] [] 0)], 0⟩ sg_il
def f86_i_play.l0.F (n m : Nat) (v : Nat × List T × Int × Int × Int × Nat × List T) := f86_i_play.l0 n m v.1 v.2.1 v.2.2.1 v.2.2.2.1 v.2.2.2.2.1 v.2.2.2.2.2.1 v.2.2.2.2.2.2
def f86_i_play.l0.W (n : Nat) : LpW := .of 48 f86_i_play.l0.P sg_liiil f86_i_play.l0.A (f86_i_play.l0.F n n)
def f86_i_play.P : List Arg := [⟨.val, ⟨false, [.fn [.rf .shr [.sl .shr [.leaf]]]], [.fn 87 [.ref [.lst 0 []]]]⟩⟩, ⟨.val, ⟨false, [.fn []], [.fn 88 []]⟩⟩, ⟨.val, ⟨false, [.leaf], [.int .i64 0]⟩⟩, ⟨.val, ⟨false, [.leaf], [.int .i64 0]⟩⟩, ⟨.val, ⟨false, [.leaf], [.int .i64 0]⟩⟩]
def f86_i_play.A : RAlt (Nat × List T × Int) := .one ⟨[⟨false, [.sl .own [.leaf]], [.lst 0 []]⟩, ⟨false, [.leaf], [.int .i64 0]⟩], [none, none, none, none, none]⟩ sg_li
def f86_i_play.F (n : Nat) (v : Nat × List T × Int × Int × Int) := f86_i_play n v.1 v.2.1 v.2.2.1 v.2.2.2.1 v.2.2.2.2
noncomputable def f86_i_play.O (n : Nat) : Orc := orcOf (E := E) [f88_i_PlayRecording2.w, f87_i_PlayRecording1.w] [f86_i_play.l0.W n] n
theorem f86_i_play.l0.ok (n : Nat) : LpOk (f86_i_play.O n) E (evalFn E n) n (keepAt 86) (.loop (loopAt c86 0)) :=
  lp_pure f86_i_play.l0.P sg_liiil f86_i_play.l0.A (f86_i_play.l0.F n) (orcOf_cf _ _ n) (lpOk_of (bs := []) (by kernel_rfl) .nil) (fun _ => rfl) (fun _ _ => by kernel_rfl) (fun _ _ _ => by kernel_rfl)
theorem f86_i_play.ok : ∀ n v x, f86_i_play.F n v = some x → evalFn E n 86 (flAs f86_i_play.P (sg_liii.pk v)) = some (f86_i_play.A.enc x) :=
  fn_pure (modes := (fdAt 86).ms) (outs := (fdAt 86).os) (results := (fdAt 86).rs) f86_i_play.O (c := c86) (keep := keepAt 86) (by kernel_rfl) (fun n => orcOf_cf _ _ n) (fun n => lpOk_of (bs := [loopAt c86 0]) (by kernel_rfl) (.cons (f86_i_play.l0.ok n) .nil)) (fun _ => rfl) (fun _ _ => by kernel_rfl)
noncomputable def f86_i_play.w : FnW E := fnW 86 f86_i_play.P sg_liii f86_i_play.A f86_i_play.F f86_i_play.ok

def f24_i_PlayRecording : Nat → Nat → List T → Int → Int → Int → Option (Nat × List T × Int × Bool)
  | 0, _, _, _, _, _ => none
  | n + 1, n1, l2, i3, i4, i5 =>
    bd (f85_i_isPlayed n n1 l2 i3 i4 i5) fun r6 =>
    let b7 : Bool := r6
    br (!b7) (
     some (0, [], (0 : Int), false)) (
     bd (f86_i_play n n1 l2 i3 i4 i5) fun r8 =>
     let n9 : Nat := r8.1
     let l10 : List T := r8.2.1
     let i11 : Int := r8.2.2
     some (n9, l10, i11, true))
def sg_lib : Sig (Nat × List T × Int × Bool) where
  pk := fun v => [.lst v.1 v.2.1, .int v.2.2.1, .bool v.2.2.2]
  up := fun ls => match ls with
    | [.lst a0 a1, .int a2, .bool a3] => some (a0, a1, a2, a3)
    | _ => none
  ok := by
    intro ls v h
    split at h
    · cases h; rfl
    · cases h

def f24_i_PlayRecording.P : List Arg := [⟨.val, ⟨false, [.sl .shr [.leaf]], [.lst 0 []]⟩⟩, ⟨.val, ⟨false, [.leaf], [.int .i64 0]⟩⟩, ⟨.val, ⟨false, [.leaf], [.int .i64 0]⟩⟩, ⟨.val, ⟨false, [.leaf], [.int .i64 0]⟩⟩]
def f24_i_PlayRecording.A : RAlt (Nat × List T × Int × Bool) := .one ⟨[⟨false, [.sl .own [.leaf]], [.lst 0 []]⟩, ⟨false, [.leaf], [.int .i64 0]⟩, ⟨false, [.leaf], [.bool false]⟩], [none, none, none, none]⟩ sg_lib
def f24_i_PlayRecording.F (n : Nat) (v : Nat × List T × Int × Int × Int) := f24_i_PlayRecording n v.1 v.2.1 v.2.2.1 v.2.2.2.1 v.2.2.2.2
noncomputable def f24_i_PlayRecording.O (n : Nat) : Orc := orcOf (E := E) [f85_i_isPlayed.w, f86_i_play.w] [] n
theorem f24_i_PlayRecording.ok : ∀ n v x, f24_i_PlayRecording.F n v = some x → evalFn E n 24 (flAs f24_i_PlayRecording.P (sg_liii.pk v)) = some (f24_i_PlayRecording.A.enc x) :=
  fn_pure (modes := (fdAt 24).ms) (outs := (fdAt 24).os) (results := (fdAt 24).rs) f24_i_PlayRecording.O (c := c24) (keep := keepAt 24) (by kernel_rfl) (fun n => orcOf_cf _ _ n) (fun n => lpOk_of (bs := []) (by kernel_rfl) .nil) (fun _ => rfl) (fun _ _ => by kernel_rfl)
noncomputable def f24_i_PlayRecording.w : FnW E := fnW 24 f24_i_PlayRecording.P sg_liii f24_i_PlayRecording.A f24_i_PlayRecording.F f24_i_PlayRecording.ok

def f130_s_l01Bits : Nat → Nat → Option (Int)
  | 0, _ => none
  | n + 1, x1 =>
    br (fne FloatKind.f32 x1 x1) (
     some (2143289344 : Int)) (
     bd (xF32bits n x1) fun r2 =>
     let i3 : Int := r2
     some (IntKind.i64.wrap i3))
def f130_s_l01Bits.P : List Arg := [⟨.val, ⟨false, [.leaf], [.flt .f32 0]⟩⟩]
def f130_s_l01Bits.A : RAlt (Int) := .one ⟨[⟨false, [.leaf], [.int .i64 0]⟩], [none]⟩ sg_i
def f130_s_l01Bits.F (n : Nat) (v : Nat) := f130_s_l01Bits n v
noncomputable def f130_s_l01Bits.O (n : Nat) : Orc := orcOf (E := E) [x98.w] [] n
theorem f130_s_l01Bits.ok : ∀ n v x, f130_s_l01Bits.F n v = some x → evalFn E n 130 (flAs f130_s_l01Bits.P (sg_f.pk v)) = some (f130_s_l01Bits.A.enc x) :=
  fn_pure (modes := (fdAt 130).ms) (outs := (fdAt 130).os) (results := (fdAt 130).rs) f130_s_l01Bits.O (c := c130) (keep := keepAt 130) (by kernel_rfl) (fun n => orcOf_cf _ _ n) (fun n => lpOk_of (bs := []) (by kernel_rfl) .nil) (fun _ => rfl) (fun _ _ => by kernel_rfl)
noncomputable def f130_s_l01Bits.w : FnW E := fnW 130 f130_s_l01Bits.P sg_f f130_s_l01Bits.A f130_s_l01Bits.F f130_s_l01Bits.ok

def f84_s_l01Same : Nat → Nat → Nat → Option (Bool)
  | 0, _, _ => none
  | n + 1, x1, x2 =>
    bd (f130_s_l01Bits n x1) fun r3 =>
    let i4 : Int := r3
    bd (f130_s_l01Bits n x2) fun r5 =>
    let i6 : Int := r5
    some (i4 == i6)
def sg_ff : Sig (Nat × Nat) where
  pk := fun v => [.flt v.1, .flt v.2]
  up := fun ls => match ls with
    | [.flt a0, .flt a1] => some (a0, a1)
    | _ => none
  ok := by
    intro ls v h
    split at h
    · cases h; rfl
    · cases h

def f84_s_l01Same.P : List Arg := [⟨.val, ⟨false, [.leaf], [.flt .f32 0]⟩⟩, ⟨.val, ⟨false, [.leaf], [.flt .f32 0]⟩⟩]
def f84_s_l01Same.A : RAlt (Bool) := .one ⟨[⟨false, [.leaf], [.bool false]⟩], [none, none]⟩ sg_b
def f84_s_l01Same.F (n : Nat) (v : Nat × Nat) := f84_s_l01Same n v.1 v.2
noncomputable def f84_s_l01Same.O (n : Nat) : Orc := orcOf (E := E) [f130_s_l01Bits.w] [] n
theorem f84_s_l01Same.ok : ∀ n v x, f84_s_l01Same.F n v = some x → evalFn E n 84 (flAs f84_s_l01Same.P (sg_ff.pk v)) = some (f84_s_l01Same.A.enc x) :=
  fn_pure (modes := (fdAt 84).ms) (outs := (fdAt 84).os) (results := (fdAt 84).rs) f84_s_l01Same.O (c := c84) (keep := keepAt 84) (by kernel_rfl) (fun n => orcOf_cf _ _ n) (fun n => lpOk_of (bs := []) (by kernel_rfl) .nil) (fun _ => rfl) (fun _ _ => by kernel_rfl)
noncomputable def f84_s_l01Same.w : FnW E := fnW 84 f84_s_l01Same.P sg_ff f84_s_l01Same.A f84_s_l01Same.F f84_s_l01Same.ok

def f23_s_SameNumber : Nat → Nat → Nat → Option (Bool)
  | 0, _, _ => none
  | n + 1, x1, x2 =>
    bd (f84_s_l01Same n x1 x2) fun r3 =>
    let b4 : Bool := r3
    some b4
def f23_s_SameNumber.P : List Arg := [⟨.val, ⟨false, [.leaf], [.flt .f32 0]⟩⟩, ⟨.val, ⟨false, [.leaf], [.flt .f32 0]⟩⟩]
def f23_s_SameNumber.A : RAlt (Bool) := .one ⟨[⟨false, [.leaf], [.bool false]⟩], [none, none]⟩ sg_b
def f23_s_SameNumber.F (n : Nat) (v : Nat × Nat) := f23_s_SameNumber n v.1 v.2
noncomputable def f23_s_SameNumber.O (n : Nat) : Orc := orcOf (E := E) [f84_s_l01Same.w] [] n
theorem f23_s_SameNumber.ok : ∀ n v x, f23_s_SameNumber.F n v = some x → evalFn E n 23 (flAs f23_s_SameNumber.P (sg_ff.pk v)) = some (f23_s_SameNumber.A.enc x) :=
  fn_pure (modes := (fdAt 23).ms) (outs := (fdAt 23).os) (results := (fdAt 23).rs) f23_s_SameNumber.O (c := c23) (keep := keepAt 23) (by kernel_rfl) (fun n => orcOf_cf _ _ n) (fun n => lpOk_of (bs := []) (by kernel_rfl) .nil) (fun _ => rfl) (fun _ _ => by kernel_rfl)
noncomputable def f23_s_SameNumber.w : FnW E := fnW 23 f23_s_SameNumber.P sg_ff f23_s_SameNumber.A f23_s_SameNumber.F f23_s_SameNumber.ok

def f25_l_b10Same.l0 (n : Nat) : Nat → Nat → List T → Nat → List T → Int → Option ((Bool) ⊕ (Unit))
  | 0, _, _, _, _, _ => none
  | m + 1, n1, l2, n3, l4, i5 =>
    br (decide (i5 < ((n1 : Nat) : Int))) (
     gd ((decide (((0 : Int) ≤ i5) ∧ (i5 < ((n1 : Nat) : Int)))) && (okAt [(CK.flt FloatKind.f32)] l2 (Int.toNat i5))) (
     gd ((decide (((0 : Int) ≤ i5) ∧ (i5 < ((n3 : Nat) : Int)))) && (okAt [(CK.flt FloatKind.f32)] l4 (Int.toNat i5))) (
     bd (f23_s_SameNumber n (fAt l2 (Int.toNat i5)) (fAt l4 (Int.toNat i5))) fun r6 =>
     let b7 : Bool := r6
     br (!b7) (
      some (Sum.inl false)) (
      f25_l_b10Same.l0 n m n1 l2 n3 l4 (IntKind.i64.wrap (i5 + (1 : Int))))))) (
     some (Sum.inr ()))
def f25_l_b10Same : Nat → Nat → List T → Nat → List T → Option (Bool)
  | 0, _, _, _, _ => none
  | n + 1, n1, l2, n3, l4 =>
    br (((n1 : Nat) : Int) != ((n3 : Nat) : Int)) (
     some false) (
     bd (f25_l_b10Same.l0 n n n1 l2 n3 l4 (0 : Int)) fun r5 =>
     sm r5 (fun u6 =>
      let b7 : Bool := u6
      some b7) (fun u8 =>
      some true))
def sg_lli : Sig (Nat × List T × Nat × List T × Int) where
  pk := fun v => [.lst v.1 v.2.1, .lst v.2.2.1 v.2.2.2.1, .int v.2.2.2.2]
  up := fun ls => match ls with
    | [.lst a0 a1, .lst a2 a3, .int a4] => some (a0, a1, a2, a3, a4)
    | _ => none
  ok := by
    intro ls v h
    split at h
    · cases h; rfl
    · cases h

def sg : Sig (Unit) where
  pk := fun v => []
  up := fun ls => match ls with
    | [] => some ()
    | _ => none
  ok := by
    intro ls v h
    split at h
    · cases h; rfl
    · cases h

def f25_l_b10Same.l0.P : AS := ⟨[(0, .val false [.sl .shr [.leaf]] [.lst 0 []] [] 0), (1, .val false [.sl .shr [.leaf]] [.lst 0 []] [] 0), (5, .val false [.leaf] [.int .i64 0] [] 0)], 0⟩
def f25_l_b10Same.l0.A : Alt ((Bool) ⊕ (Unit)) := .or (.one .ret ⟨[(4, .val false [.leaf] [.bool false] [] 0)], 0⟩ sg_b) (.one (.exit 0) ⟨[(4, .dead)], 0⟩ sg)
def f25_l_b10Same.l0.F (n m : Nat) (v : Nat × List T × Nat × List T × Int) := f25_l_b10Same.l0 n m v.1 v.2.1 v.2.2.1 v.2.2.2.1 v.2.2.2.2
def f25_l_b10Same.l0.W (n : Nat) : LpW := .of 64 f25_l_b10Same.l0.P sg_lli f25_l_b10Same.l0.A (f25_l_b10Same.l0.F n n)
def f25_l_b10Same.P : List Arg := [⟨.val, ⟨false, [.sl .shr [.leaf]], [.lst 0 []]⟩⟩, ⟨.val, ⟨false, [.sl .shr [.leaf]], [.lst 0 []]⟩⟩]
def f25_l_b10Same.A : RAlt (Bool) := .one ⟨[⟨false, [.leaf], [.bool false]⟩], [none, none]⟩ sg_b
def f25_l_b10Same.F (n : Nat) (v : Nat × List T × Nat × List T) := f25_l_b10Same n v.1 v.2.1 v.2.2.1 v.2.2.2
noncomputable def f25_l_b10Same.O (n : Nat) : Orc := orcOf (E := E) [f23_s_SameNumber.w] [f25_l_b10Same.l0.W n] n
theorem f25_l_b10Same.l0.ok (n : Nat) : LpOk (f25_l_b10Same.O n) E (evalFn E n) n (keepAt 25) (.loop (loopAt c25 0)) :=
  lp_pure f25_l_b10Same.l0.P sg_lli f25_l_b10Same.l0.A (f25_l_b10Same.l0.F n) (orcOf_cf _ _ n) (lpOk_of (bs := []) (by kernel_rfl) .nil) (fun _ => rfl) (fun _ _ => by kernel_rfl) (fun _ _ _ => by kernel_rfl)
theorem f25_l_b10Same.ok : ∀ n v x, f25_l_b10Same.F n v = some x → evalFn E n 25 (flAs f25_l_b10Same.P (sg_ll.pk v)) = some (f25_l_b10Same.A.enc x) :=
  fn_pure (modes := (fdAt 25).ms) (outs := (fdAt 25).os) (results := (fdAt 25).rs) f25_l_b10Same.O (c := c25) (keep := keepAt 25) (by kernel_rfl) (fun n => orcOf_cf _ _ n) (fun n => lpOk_of (bs := [loopAt c25 0]) (by kernel_rfl) (.cons (f25_l_b10Same.l0.ok n) .nil)) (fun _ => rfl) (fun _ _ => by kernel_rfl)
noncomputable def f25_l_b10Same.w : FnW E := fnW 25 f25_l_b10Same.P sg_ll f25_l_b10Same.A f25_l_b10Same.F f25_l_b10Same.ok

def f89_i_allWithin.l0 (n : Nat) : Nat → Nat → List T → Int → Int → Nat → List T → Int → Int → Option ((Bool) ⊕ (Unit))
  | 0, _, _, _, _, _, _, _, _ => none
  | m + 1, n1, l2, i3, i4, n5, l6, i7, i8 =>
    br (decide (i8 < i7)) (
     gd ((decide (((0 : Int) ≤ i8) ∧ (i8 < ((n5 : Nat) : Int)))) && (okAt [(CK.int IntKind.i64)] l6 (Int.toNat i8))) (
     let i9 : Int := (iAt l6 (Int.toNat i8))
     bd (f83_i_within n i9 i3 i4) fun r10 =>
     let b11 : Bool := r10
     br (!b11) (
      some (Sum.inl false)) (
      f89_i_allWithin.l0 n m n1 l2 i3 i4 n5 l6 i7 (IntKind.i64.wrap (i8 + (1 : Int)))))) (
     some (Sum.inr ()))
def f89_i_allWithin : Nat → Nat → List T → Int → Int → Option (Bool)
  | 0, _, _, _, _ => none
  | n + 1, n1, l2, i3, i4 =>
    bd (f89_i_allWithin.l0 n n n1 l2 i3 i4 n1 l2 ((n1 : Nat) : Int) (0 : Int)) fun r5 =>
    sm r5 (fun u6 =>
     let b7 : Bool := u6
     some b7) (fun u8 =>
     some true)
def sg_liilii : Sig (Nat × List T × Int × Int × Nat × List T × Int × Int) where
  pk := fun v => [.lst v.1 v.2.1, .int v.2.2.1, .int v.2.2.2.1, .lst v.2.2.2.2.1 v.2.2.2.2.2.1, .int v.2.2.2.2.2.2.1, .int v.2.2.2.2.2.2.2]
  up := fun ls => match ls with
    | [.lst a0 a1, .int a2, .int a3, .lst a4 a5, .int a6, .int a7] => some (a0, a1, a2, a3, a4, a5, a6, a7)
    | _ => none
  ok := by
    intro ls v h
    split at h
    · cases h; rfl
    · cases h

def f89_i_allWithin.l0.P : AS := ⟨[(0, .val false [.sl .shr [.leaf]] [.lst 0 []] [] 0), (1, .val false [.leaf] [.int .i64 0] [] 0), (2, .val false [.leaf] [.int .i64 0] [] 0), (9, .val false [.sl .shr [.leaf]] [.lst 0 []] [] 0), (10, .val false [.leaf] [.int .i64 0] [] 0), (11, .val false [.leaf] [.int .i64 0] [] 0)], 0⟩
def f89_i_allWithin.l0.A : Alt ((Bool) ⊕ (Unit)) := .or (.one .ret ⟨[(6, .val false [.leaf] [.bool false] [] 0)], 0⟩ sg_b) (.one (.exit 0) ⟨[(6, .dead)], 0⟩ sg)
def f89_i_allWithin.l0.F (n m : Nat) (v : Nat × List T × Int × Int × Nat × List T × Int × Int) := f89_i_allWithin.l0 n m v.1 v.2.1 v.2.2.1 v.2.2.2.1 v.2.2.2.2.1 v.2.2.2.2.2.1 v.2.2.2.2.2.2.1 v.2.2.2.2.2.2.2
def f89_i_allWithin.l0.W (n : Nat) : LpW := .of 32 f89_i_allWithin.l0.P sg_liilii f89_i_allWithin.l0.A (f89_i_allWithin.l0.F n n)
def f89_i_allWithin.P : List Arg := [⟨.val, ⟨false, [.sl .shr [.leaf]], [.lst 0 []]⟩⟩, ⟨.val, ⟨false, [.leaf], [.int .i64 0]⟩⟩, ⟨.val, ⟨false, [.leaf], [.int .i64 0]⟩⟩]
def f89_i_allWithin.A : RAlt (Bool) := .one ⟨[⟨false, [.leaf], [.bool false]⟩], [none, none, none]⟩ sg_b
def f89_i_allWithin.F (n : Nat) (v : Nat × List T × Int × Int) := f89_i_allWithin n v.1 v.2.1 v.2.2.1 v.2.2.2
noncomputable def f89_i_allWithin.O (n : Nat) : Orc := orcOf (E := E) [f83_i_within.w] [f89_i_allWithin.l0.W n] n
theorem f89_i_allWithin.l0.ok (n : Nat) : LpOk (f89_i_allWithin.O n) E (evalFn E n) n (keepAt 89) (.loop (loopAt c89 0)) :=
  lp_pure f89_i_allWithin.l0.P sg_liilii f89_i_allWithin.l0.A (f89_i_allWithin.l0.F n) (orcOf_cf _ _ n) (lpOk_of (bs := []) (by kernel_rfl) .nil) (fun _ => rfl) (fun _ _ => by kernel_rfl) (fun _ _ _ => by kernel_rfl)
theorem f89_i_allWithin.ok : ∀ n v x, f89_i_allWithin.F n v = some x → evalFn E n 89 (flAs f89_i_allWithin.P (sg_lii.pk v)) = some (f89_i_allWithin.A.enc x) :=
  fn_pure (modes := (fdAt 89).ms) (outs := (fdAt 89).os) (results := (fdAt 89).rs) f89_i_allWithin.O (c := c89) (keep := keepAt 89) (by kernel_rfl) (fun n => orcOf_cf _ _ n) (fun n => lpOk_of (bs := [loopAt c89 0]) (by kernel_rfl) (.cons (f89_i_allWithin.l0.ok n) .nil)) (fun _ => rfl) (fun _ _ => by kernel_rfl)
noncomputable def f89_i_allWithin.w : FnW E := fnW 89 f89_i_allWithin.P sg_lii f89_i_allWithin.A f89_i_allWithin.F f89_i_allWithin.ok

def f91_i_PlayLoop2 : Nat → Int → Int → Int → Option (Int)
  | 0, _, _, _ => none
  | n + 1, i1, i2, i3 =>
    let i4 : Int := (IntKind.i64.wrap ((65536 : Int) * i2))
    br (decide (i1 ≥ i4)) (
     gd (!(decide ((IntKind.i64.wrap ((65536 : Int) * (IntKind.i64.wrap (i2 - i3)))) = (0 : Int)))) (
     let i5 : Int := (IntKind.i64.wrap ((IntKind.i64.wrap ((65536 : Int) * i3)) + (Int.tmod (IntKind.i64.wrap (i1 - i4)) (IntKind.i64.wrap ((65536 : Int) * (IntKind.i64.wrap (i2 - i3)))))))
     some i5)) (
     some i1)
def f91_i_PlayLoop2.P : List Arg := [⟨.val, ⟨false, [.leaf], [.int .i64 0]⟩⟩, ⟨.val, ⟨false, [.rf .shr [.leaf]], [.ref [.int .i64 0]]⟩⟩, ⟨.val, ⟨false, [.rf .shr [.leaf]], [.ref [.int .i64 0]]⟩⟩]
def f91_i_PlayLoop2.A : RAlt (Int) := .one ⟨[⟨false, [.leaf], [.int .i64 0]⟩], [none, none, none]⟩ sg_i
def f91_i_PlayLoop2.F (n : Nat) (v : Int × Int × Int) := f91_i_PlayLoop2 n v.1 v.2.1 v.2.2
noncomputable def f91_i_PlayLoop2.O (n : Nat) : Orc := orcOf (E := E) [] [] n
theorem f91_i_PlayLoop2.ok : ∀ n v x, f91_i_PlayLoop2.F n v = some x → evalFn E n 91 (flAs f91_i_PlayLoop2.P (sg_iii.pk v)) = some (f91_i_PlayLoop2.A.enc x) :=
  fn_pure (modes := (fdAt 91).ms) (outs := (fdAt 91).os) (results := (fdAt 91).rs) f91_i_PlayLoop2.O (c := c91) (keep := keepAt 91) (by kernel_rfl) (fun n => orcOf_cf _ _ n) (fun n => lpOk_of (bs := []) (by kernel_rfl) .nil) (fun _ => rfl) (fun _ _ => by kernel_rfl)
noncomputable def f91_i_PlayLoop2.w : FnW E := fnW 91 f91_i_PlayLoop2.P sg_iii f91_i_PlayLoop2.A f91_i_PlayLoop2.F f91_i_PlayLoop2.ok

def f90_i_PlayLoop1 : Nat → Int → Int → Int → Nat → List T → Option (Nat)
  | 0, _, _, _, _, _ => none
  | n + 1, i1, i2, i3, n4, l5 =>
    br (i1 == i2) (
     gd ((decide (((0 : Int) ≤ i3) ∧ (i3 < ((n4 : Nat) : Int)))) && (okAt [(CK.flt FloatKind.f32)] l5 (Int.toNat i3))) (
     some (fAt l5 (Int.toNat i3)))) (
     gd ((decide (((0 : Int) ≤ i1) ∧ (i1 < ((n4 : Nat) : Int)))) && (okAt [(CK.flt FloatKind.f32)] l5 (Int.toNat i1))) (
     some (fAt l5 (Int.toNat i1))))
def sg_iiil : Sig (Int × Int × Int × Nat × List T) where
  pk := fun v => [.int v.1, .int v.2.1, .int v.2.2.1, .lst v.2.2.2.1 v.2.2.2.2]
  up := fun ls => match ls with
    | [.int a0, .int a1, .int a2, .lst a3 a4] => some (a0, a1, a2, a3, a4)
    | _ => none
  ok := by
    intro ls v h
    split at h
    · cases h; rfl
    · cases h

def f90_i_PlayLoop1.P : List Arg := [⟨.val, ⟨false, [.leaf], [.int .i64 0]⟩⟩, ⟨.val, ⟨false, [.rf .shr [.leaf]], [.ref [.int .i64 0]]⟩⟩, ⟨.val, ⟨false, [.rf .shr [.leaf]], [.ref [.int .i64 0]]⟩⟩, ⟨.val, ⟨false, [.rf .shr [.sl .shr [.leaf]]], [.ref [.lst 0 []]]⟩⟩]
def f90_i_PlayLoop1.A : RAlt (Nat) := .one ⟨[⟨false, [.leaf], [.flt .f32 0]⟩], [none, none, none, none]⟩ sg_f
def f90_i_PlayLoop1.F (n : Nat) (v : Int × Int × Int × Nat × List T) := f90_i_PlayLoop1 n v.1 v.2.1 v.2.2.1 v.2.2.2.1 v.2.2.2.2
noncomputable def f90_i_PlayLoop1.O (n : Nat) : Orc := orcOf (E := E) [] [] n
theorem f90_i_PlayLoop1.ok : ∀ n v x, f90_i_PlayLoop1.F n v = some x → evalFn E n 90 (flAs f90_i_PlayLoop1.P (sg_iiil.pk v)) = some (f90_i_PlayLoop1.A.enc x) :=
  fn_pure (modes := (fdAt 90).ms) (outs := (fdAt 90).os) (results := (fdAt 90).rs) f90_i_PlayLoop1.O (c := c90) (keep := keepAt 90) (by kernel_rfl) (fun n => orcOf_cf _ _ n) (fun n => lpOk_of (bs := []) (by kernel_rfl) .nil) (fun _ => rfl) (fun _ _ => by kernel_rfl)
noncomputable def f90_i_PlayLoop1.w : FnW E := fnW 90 f90_i_PlayLoop1.P sg_iiil f90_i_PlayLoop1.A f90_i_PlayLoop1.F f90_i_PlayLoop1.ok

def f86_i_play_2.l0 (n : Nat) : Nat → Int → Int → Nat → List T → Int → Int → Int → Int → Int → Nat → List T → Option (Int × Nat × List T)
  | 0, _, _, _, _, _, _, _, _, _, _, _ => none
  | m + 1, i1, i2, n3, l4, i5, i6, i7, i8, i9, n10, l11 =>
    br (decide (i9 > (0 : Int))) (
     let i12 : Int := (IntKind.i64.wrap (Int.tdiv i7 (65536 : Int)))
     let i13 : Int := (Int.tmod i7 (65536 : Int))
     bd (f90_i_PlayLoop1 n i12 i1 i2 n3 l4) fun r14 =>
     let x15 : Nat := r14
     br (decide (i13 > (0 : Int))) (
      let x16 : Nat := (fdiv FloatKind.f32 (FloatKind.nearest FloatKind.f32 i13) 1199570944)
      bd (f90_i_PlayLoop1 n (IntKind.i64.wrap (i12 + (1 : Int))) i1 i2 n3 l4) fun r17 =>
      let x18 : Nat := r17
      let x19 : Nat := (fadd FloatKind.f32 x15 (fmul FloatKind.f32 (fsub FloatKind.f32 x18 x15) x16))
      gd (Nat.ble (n10 + 1) 2147483648) (
      let n20 : Nat := (n10 + 1)
      let l21 : List T := (l11 ++ (setN (reps 1 [(T.flt FloatKind.f32 0)]) 0 [(T.flt FloatKind.f32 x19)]))
      bd (f91_i_PlayLoop2 n (IntKind.i64.wrap (i7 + i8)) i5 i6) fun r22 =>
      let i23 : Int := r22
      f86_i_play_2.l0 n m i1 i2 n3 l4 i5 i6 i23 i8 (IntKind.i64.wrap (i9 - (1 : Int))) n20 l21)) (
      gd (Nat.ble (n10 + 1) 2147483648) (
      let n24 : Nat := (n10 + 1)
      let l25 : List T := (l11 ++ (setN (reps 1 [(T.flt FloatKind.f32 0)]) 0 [(T.flt FloatKind.f32 x15)]))
      bd (f91_i_PlayLoop2 n (IntKind.i64.wrap (i7 + i8)) i5 i6) fun r26 =>
      let i27 : Int := r26
      f86_i_play_2.l0 n m i1 i2 n3 l4 i5 i6 i27 i8 (IntKind.i64.wrap (i9 - (1 : Int))) n24 l25))) (
     some (i7, n10, l11))
def f86_i_play_2 : Nat → Int → Int → Nat → List T → Int → Int → Int → Int → Int → Option (Nat × List T × Int)
  | 0, _, _, _, _, _, _, _, _, _ => none
  | n + 1, i1, i2, n3, l4, i5, i6, i7, i8, i9 =>
    bd (f91_i_PlayLoop2 n i7 i5 i6) fun r10 =>
    let i11 : Int := r10
    bd (f86_i_play_2.l0 n n i1 i2 n3 l4 i5 i6 i11 i8 i9 0 []) fun r12 =>
    let i13 : Int := r12.1
    let n14 : Nat := r12.2.1
    let l15 : List T := r12.2.2
    some (n14, l15, i13)
def sg_iiliiiii : Sig (Int × Int × Nat × List T × Int × Int × Int × Int × Int) where
  pk := fun v => [.int v.1, .int v.2.1, .lst v.2.2.1 v.2.2.2.1, .int v.2.2.2.2.1, .int v.2.2.2.2.2.1, .int v.2.2.2.2.2.2.1, .int v.2.2.2.2.2.2.2.1, .int v.2.2.2.2.2.2.2.2]
  up := fun ls => match ls with
    | [.int a0, .int a1, .lst a2 a3, .int a4, .int a5, .int a6, .int a7, .int a8] => some (a0, a1, a2, a3, a4, a5, a6, a7, a8)
    | _ => none
  ok := by
    intro ls v h
    split at h
    · cases h; rfl
    · cases h

def sg_iiliiiiil : Sig (Int × Int × Nat × List T × Int × Int × Int × Int × Int × Nat × List T) where
  pk := fun v => [.int v.1, .int v.2.1, .lst v.2.2.1 v.2.2.2.1, .int v.2.2.2.2.1, .int v.2.2.2.2.2.1, .int v.2.2.2.2.2.2.1, .int v.2.2.2.2.2.2.2.1, .int v.2.2.2.2.2.2.2.2.1, .lst v.2.2.2.2.2.2.2.2.2.1 v.2.2.2.2.2.2.2.2.2.2]
  up := fun ls => match ls with
    | [.int a0, .int a1, .lst a2 a3, .int a4, .int a5, .int a6, .int a7, .int a8, .lst a9 a10] => some (a0, a1, a2, a3, a4, a5, a6, a7, a8, a9, a10)
    | _ => none
  ok := by
    intro ls v h
    split at h
    · cases h; rfl
    · cases h

def f86_i_play_2.l0.P : AS := ⟨[(0, .val false [.fn [.rf .shr [.leaf], .rf .shr [.leaf], .rf .shr [.sl .shr [.leaf]]]] [.fn 90 [.ref [.int .i64 0], .ref [.int .i64 0], .ref [.lst 0 []]]] [] 0), (1, .val false [.fn [.rf .shr [.leaf], .rf .shr [.leaf]]] [.fn 91 [.ref [.int .i64 0], .ref [.int .i64 0]]] [] 0), (2, .val false [.leaf] [.int .i64 0] [] 0), (3, .val false [.leaf] [.int .i64 0] [] 0), (4, .val false [.leaf] [.int .i64 0] [] 0), (12, .val false [.sl .own [.leaf]] [.lst 0 []] [] 0)], 0⟩
def f86_i_play_2.l0.A : Alt (Int × Nat × List T) := .one (.exit 0) ⟨[(2, .val false [.leaf] [.int .i64 0] [] 0), (12, .val false [.sl .own [.leaf]] [.lst 0 []] [] 0)], 0⟩ sg_il
def f86_i_play_2.l0.F (n m : Nat) (v : Int × Int × Nat × List T × Int × Int × Int × Int × Int × Nat × List T) := f86_i_play_2.l0 n m v.1 v.2.1 v.2.2.1 v.2.2.2.1 v.2.2.2.2.1 v.2.2.2.2.2.1 v.2.2.2.2.2.2.1 v.2.2.2.2.2.2.2.1 v.2.2.2.2.2.2.2.2.1 v.2.2.2.2.2.2.2.2.2.1 v.2.2.2.2.2.2.2.2.2.2
def f86_i_play_2.l0.W (n : Nat) : LpW := .of 48 f86_i_play_2.l0.P sg_iiliiiiil f86_i_play_2.l0.A (f86_i_play_2.l0.F n n)
def f86_i_play_2.P : List Arg := [⟨.val, ⟨false, [.fn [.rf .shr [.leaf], .rf .shr [.leaf], .rf .shr [.sl .shr [.leaf]]]], [.fn 90 [.ref [.int .i64 0], .ref [.int .i64 0], .ref [.lst 0 []]]]⟩⟩, ⟨.val, ⟨false, [.fn [.rf .shr [.leaf], .rf .shr [.leaf]]], [.fn 91 [.ref [.int .i64 0], .ref [.int .i64 0]]]⟩⟩, ⟨.val, ⟨false, [.leaf], [.int .i64 0]⟩⟩, ⟨.val, ⟨false, [.leaf], [.int .i64 0]⟩⟩, ⟨.val, ⟨false, [.leaf], [.int .i64 0]⟩⟩]
def f86_i_play_2.A : RAlt (Nat × List T × Int) := .one ⟨[⟨false, [.sl .own [.leaf]], [.lst 0 []]⟩, ⟨false, [.leaf], [.int .i64 0]⟩], [none, none, none, none, none]⟩ sg_li
def f86_i_play_2.F (n : Nat) (v : Int × Int × Nat × List T × Int × Int × Int × Int × Int) := f86_i_play_2 n v.1 v.2.1 v.2.2.1 v.2.2.2.1 v.2.2.2.2.1 v.2.2.2.2.2.1 v.2.2.2.2.2.2.1 v.2.2.2.2.2.2.2.1 v.2.2.2.2.2.2.2.2
noncomputable def f86_i_play_2.O (n : Nat) : Orc := orcOf (E := E) [f91_i_PlayLoop2.w, f90_i_PlayLoop1.w] [f86_i_play_2.l0.W n] n
theorem f86_i_play_2.l0.ok (n : Nat) : LpOk (f86_i_play_2.O n) E (evalFn E n) n (keepAt 86) (.loop (loopAt c86 0)) :=
  lp_pure f86_i_play_2.l0.P sg_iiliiiiil f86_i_play_2.l0.A (f86_i_play_2.l0.F n) (orcOf_cf _ _ n) (lpOk_of (bs := []) (by kernel_rfl) .nil) (fun _ => rfl) (fun _ _ => by kernel_rfl) (fun _ _ _ => by kernel_rfl)
theorem f86_i_play_2.ok : ∀ n v x, f86_i_play_2.F n v = some x → evalFn E n 86 (flAs f86_i_play_2.P (sg_iiliiiii.pk v)) = some (f86_i_play_2.A.enc x) :=
  fn_pure (modes := (fdAt 86).ms) (outs := (fdAt 86).os) (results := (fdAt 86).rs) f86_i_play_2.O (c := c86) (keep := keepAt 86) (by kernel_rfl) (fun n => orcOf_cf _ _ n) (fun n => lpOk_of (bs := [loopAt c86 0]) (by kernel_rfl) (.cons (f86_i_play_2.l0.ok n) .nil)) (fun _ => rfl) (fun _ _ => by kernel_rfl)
noncomputable def f86_i_play_2.w : FnW E := fnW 86 f86_i_play_2.P sg_iiliiiii f86_i_play_2.A f86_i_play_2.F f86_i_play_2.ok

def f26_i_PlayLoop : Nat → Nat → List T → Int → Int → Int → Int → Int → Option (Nat × List T × Int × Bool)
  | 0, _, _, _, _, _, _, _ => none
  | n + 1, n1, l2, i3, i4, i5, i6, i7 =>
    bd (f85_i_isPlayed n n1 l2 i5 i6 i7) fun r8 =>
    let b9 : Bool := r8
    br (!b9) (
     some (0, [], (0 : Int), false)) (
     bd (f82_i_size n ((n1 : Nat) : Int)) fun r10 =>
     let i11 : Int := r10
     bd (f89_i_allWithin n 2 (setN (setN (reps 2 [(T.int IntKind.i64 (0 : Int))]) 0 [(T.int IntKind.i64 i3)]) 1 [(T.int IntKind.i64 i4)]) (0 : Int) i11) fun r12 =>
     let b13 : Bool := r12
     br (!b13) (
      some (0, [], (0 : Int), false)) (
      br (decide (i3 ≥ i4)) (
       some (0, [], (0 : Int), false)) (
       bd (f86_i_play_2 n i4 i3 n1 l2 i4 i3 i5 i6 i7) fun r14 =>
       let n15 : Nat := r14.1
       let l16 : List T := r14.2.1
       let i17 : Int := r14.2.2
       some (n15, l16, i17, true))))
def sg_liiiii : Sig (Nat × List T × Int × Int × Int × Int × Int) where
  pk := fun v => [.lst v.1 v.2.1, .int v.2.2.1, .int v.2.2.2.1, .int v.2.2.2.2.1, .int v.2.2.2.2.2.1, .int v.2.2.2.2.2.2]
  up := fun ls => match ls with
    | [.lst a0 a1, .int a2, .int a3, .int a4, .int a5, .int a6] => some (a0, a1, a2, a3, a4, a5, a6)
    | _ => none
  ok := by
    intro ls v h
    split at h
    · cases h; rfl
    · cases h

def f26_i_PlayLoop.P : List Arg := [⟨.val, ⟨false, [.sl .shr [.leaf]], [.lst 0 []]⟩⟩, ⟨.val, ⟨false, [.leaf], [.int .i64 0]⟩⟩, ⟨.val, ⟨false, [.leaf], [.int .i64 0]⟩⟩, ⟨.val, ⟨false, [.leaf], [.int .i64 0]⟩⟩, ⟨.val, ⟨false, [.leaf], [.int .i64 0]⟩⟩, ⟨.val, ⟨false, [.leaf], [.int .i64 0]⟩⟩]
def f26_i_PlayLoop.A : RAlt (Nat × List T × Int × Bool) := .one ⟨[⟨false, [.sl .own [.leaf]], [.lst 0 []]⟩, ⟨false, [.leaf], [.int .i64 0]⟩, ⟨false, [.leaf], [.bool false]⟩], [none, none, none, none, none, none]⟩ sg_lib
def f26_i_PlayLoop.F (n : Nat) (v : Nat × List T × Int × Int × Int × Int × Int) := f26_i_PlayLoop n v.1 v.2.1 v.2.2.1 v.2.2.2.1 v.2.2.2.2.1 v.2.2.2.2.2.1 v.2.2.2.2.2.2
noncomputable def f26_i_PlayLoop.O (n : Nat) : Orc := orcOf (E := E) [f85_i_isPlayed.w, f82_i_size.w, f89_i_allWithin.w, f86_i_play_2.w] [] n
theorem f26_i_PlayLoop.ok : ∀ n v x, f26_i_PlayLoop.F n v = some x → evalFn E n 26 (flAs f26_i_PlayLoop.P (sg_liiiii.pk v)) = some (f26_i_PlayLoop.A.enc x) :=
  fn_pure (modes := (fdAt 26).ms) (outs := (fdAt 26).os) (results := (fdAt 26).rs) f26_i_PlayLoop.O (c := c26) (keep := keepAt 26) (by kernel_rfl) (fun n => orcOf_cf _ _ n) (fun n => lpOk_of (bs := []) (by kernel_rfl) .nil) (fun _ => rfl) (fun _ _ => by kernel_rfl)
noncomputable def f26_i_PlayLoop.w : FnW E := fnW 26 f26_i_PlayLoop.P sg_liiiii f26_i_PlayLoop.A f26_i_PlayLoop.F f26_i_PlayLoop.ok

def f4_l_FnPlayers.l0 (n : Nat) : Nat → Nat → List T → Int → Int → Nat → List T → Int → Int → Option ((Bool) ⊕ (Unit))
  | 0, _, _, _, _, _, _, _, _ => none
  | m + 1, n1, l2, i3, i4, n5, l6, i7, i8 =>
    br (decide (i8 < (40 : Int))) (
     br (i7 == i3) (
      gd (decide (((0 : Int) ≤ i8) ∧ (i8 < ((n5 : Nat) : Int)))) (
      gd (okAt [(CK.flt FloatKind.f32)] l6 (Int.toNat i8)) (
      gd (decide (((0 : Int) ≤ i4) ∧ (i4 < ((n1 : Nat) : Int)))) (
      gd (okAt [(CK.flt FloatKind.f32)] l2 (Int.toNat i4)) (
      bd (f23_s_SameNumber n (fAt l6 (Int.toNat i8)) (fAt l2 (Int.toNat i4))) fun r9 =>
      let b10 : Bool := r9
      br (!b10) (
       some (Sum.inl false)) (
       let i11 : Int := (IntKind.i64.wrap (i4 + (1 : Int)))
       f4_l_FnPlayers.l0 n m n1 l2 i3 i4 n5 l6 i11 (IntKind.i64.wrap (i8 + (1 : Int))))))))) (
      gd (decide (((0 : Int) ≤ i8) ∧ (i8 < ((n5 : Nat) : Int)))) (
      gd (okAt [(CK.flt FloatKind.f32)] l6 (Int.toNat i8)) (
      gd (decide (((0 : Int) ≤ i7) ∧ (i7 < ((n1 : Nat) : Int)))) (
      gd (okAt [(CK.flt FloatKind.f32)] l2 (Int.toNat i7)) (
      bd (f23_s_SameNumber n (fAt l6 (Int.toNat i8)) (fAt l2 (Int.toNat i7))) fun r12 =>
      let b13 : Bool := r12
      br (!b13) (
       some (Sum.inl false)) (
       let i14 : Int := (IntKind.i64.wrap (i7 + (1 : Int)))
       f4_l_FnPlayers.l0 n m n1 l2 i3 i4 n5 l6 i14 (IntKind.i64.wrap (i8 + (1 : Int)))))))))) (
     some (Sum.inr ()))
def f4_l_FnPlayers : Nat → Nat → List T → Nat → List T → Option (Bool)
  | 0, _, _, _, _ => none
  | n + 1, n1, l2, n3, l4 =>
    bd (f15_l_b10Long n n1 l2 n3 l4) fun r5 =>
    let b6 : Bool := r5
    br b6 (
     some true) (
     bd (f17_l_b10At n n1 l2 (0 : Int) (12 : Int)) fun r7 =>
     let i8 : Int := r7
     let i9 : Int := (IntKind.i64.wrap ((1 : Int) + i8))
     bd (f19_s_B10Numbers n n1 l2 i9) fun r10 =>
     let n11 : Nat := r10.1
     let l12 : List T := r10.2
     bd (f24_i_PlayRecording n n11 l12 (0 : Int) (65536 : Int) (IntKind.i64.wrap (i9 + (3 : Int)))) fun r13 =>
     let n14 : Nat := r13.1
     let l15 : List T := r13.2.1
     let i16 : Int := r13.2.2.1
     let b17 : Bool := r13.2.2.2
     br (!b17) (
      some false) (
      gd (Nat.ble (0 + n11) 2147483648) (
      gd (Nat.ble ((0 + n11) + 3) 2147483648) (
      bd (f25_l_b10Same n n14 l15 ((0 + n11) + 3) (((reps 0 [(T.flt FloatKind.f32 0)]) ++ l12) ++ (setN (setN (setN (reps 3 [(T.flt FloatKind.f32 0)]) 0 [(T.flt FloatKind.f32 0)]) 1 [(T.flt FloatKind.f32 0)]) 2 [(T.flt FloatKind.f32 0)]))) fun r18 =>
      let b19 : Bool := r18
      br (!b19) (
       some false) (
       bd (f17_l_b10At n n3 l4 (0 : Int) (64 : Int)) fun r20 =>
       let i21 : Int := r20
       let i22 : Int := (IntKind.i64.wrap ((4096 : Int) * i21))
       bd (f17_l_b10At n n3 l4 (1 : Int) (64 : Int)) fun r23 =>
       let i24 : Int := r23
       let i25 : Int := (IntKind.i64.wrap ((4096 : Int) * i24))
       bd (f17_l_b10At n n3 l4 (2 : Int) (20 : Int)) fun r26 =>
       let i27 : Int := r26
       bd (f17_l_b10At n n3 l4 (3 : Int) (IntKind.i64.wrap (i27 + (1 : Int)))) fun r28 =>
       let i29 : Int := r28
       bd (f24_i_PlayRecording n n11 l12 i22 i25 i27) fun r30 =>
       let n31 : Nat := r30.1
       let l32 : List T := r30.2.1
       let i33 : Int := r30.2.2.1
       let b34 : Bool := r30.2.2.2
       bd (f24_i_PlayRecording n n11 l12 i22 i25 i29) fun r35 =>
       let n36 : Nat := r35.1
       let l37 : List T := r35.2.1
       let i38 : Int := r35.2.2.1
       let b39 : Bool := r35.2.2.2
       bd (f24_i_PlayRecording n n11 l12 i38 i25 (IntKind.i64.wrap (i27 - i29))) fun r40 =>
       let n41 : Nat := r40.1
       let l42 : List T := r40.2.1
       let i43 : Int := r40.2.2.1
       let b44 : Bool := r40.2.2.2
       br (!b34) (
        some false) (
        br (!b39) (
         some false) (
         br (!b44) (
          some false) (
          br (i33 != i43) (
           some false) (
           br (i33 != (IntKind.i64.wrap (i22 + (IntKind.i64.wrap (i27 * i25))))) (
            some false) (
            gd (Nat.ble (0 + n36) 2147483648) (
            gd (Nat.ble ((0 + n36) + n41) 2147483648) (
            bd (f25_l_b10Same n ((0 + n36) + n41) (((reps 0 [(T.flt FloatKind.f32 0)]) ++ l37) ++ l42) n31 l32) fun r45 =>
            let b46 : Bool := r45
            br (!b46) (
             some false) (
             bd (f17_l_b10At n n3 l4 (4 : Int) i9) fun r47 =>
             let i48 : Int := r47
             let i49 : Int := (IntKind.i64.wrap ((1 : Int) + i48))
             bd (f17_l_b10At n n3 l4 (5 : Int) i49) fun r50 =>
             let i51 : Int := r50
             bd (f26_i_PlayLoop n n11 l12 i51 i49 (0 : Int) (65536 : Int) (40 : Int)) fun r52 =>
             let n53 : Nat := r52.1
             let l54 : List T := r52.2.1
             let i55 : Int := r52.2.2.1
             let b56 : Bool := r52.2.2.2
             br (!b56) (
              some false) (
              br (((n53 : Nat) : Int) != (40 : Int)) (
               some false) (
               bd (f4_l_FnPlayers.l0 n n n11 l12 i49 i51 n53 l54 (0 : Int) (0 : Int)) fun r57 =>
               sm r57 (fun u58 =>
                let b59 : Bool := u58
                some b59) (fun u60 =>
                some true))))))))))))))))
def f4_l_FnPlayers.l0.P : AS := ⟨[(6, .val false [.sl .own [.leaf]] [.lst 0 []] [] 0), (23, .val false [.leaf] [.int .i64 0] [] 0), (24, .val false [.leaf] [.int .i64 0] [] 0), (25, .val false [.sl .own [.leaf]] [.lst 0 []] [] 0), (28, .val false [.leaf] [.int .i64 0] [] 0), (29, .val false [.leaf] [.int .i64 0] [] 0)], 0⟩
def f4_l_FnPlayers.l0.A : Alt ((Bool) ⊕ (Unit)) := .or (.one .ret ⟨[(4, .val false [.leaf] [.bool false] [] 0)], 0⟩ sg_b) (.one (.exit 0) ⟨[(4, .dead)], 0⟩ sg)
def f4_l_FnPlayers.l0.F (n m : Nat) (v : Nat × List T × Int × Int × Nat × List T × Int × Int) := f4_l_FnPlayers.l0 n m v.1 v.2.1 v.2.2.1 v.2.2.2.1 v.2.2.2.2.1 v.2.2.2.2.2.1 v.2.2.2.2.2.2.1 v.2.2.2.2.2.2.2
def f4_l_FnPlayers.l0.W (n : Nat) : LpW := .of 384 f4_l_FnPlayers.l0.P sg_liilii f4_l_FnPlayers.l0.A (f4_l_FnPlayers.l0.F n n)
def f4_l_FnPlayers.P : List Arg := [⟨.val, ⟨false, [.sl .shr [.leaf]], [.lst 0 []]⟩⟩, ⟨.val, ⟨false, [.sl .shr [.leaf]], [.lst 0 []]⟩⟩]
def f4_l_FnPlayers.A : RAlt (Bool) := .one ⟨[⟨false, [.leaf], [.bool false]⟩], [none, none]⟩ sg_b
def f4_l_FnPlayers.F (n : Nat) (v : Nat × List T × Nat × List T) := f4_l_FnPlayers n v.1 v.2.1 v.2.2.1 v.2.2.2
noncomputable def f4_l_FnPlayers.O (n : Nat) : Orc := orcOf (E := E) [f15_l_b10Long.w, f17_l_b10At.w, f19_s_B10Numbers.w, f24_i_PlayRecording.w, f23_s_SameNumber.w, f25_l_b10Same.w, f26_i_PlayLoop.w] [f4_l_FnPlayers.l0.W n] n
theorem f4_l_FnPlayers.l0.ok (n : Nat) : LpOk (f4_l_FnPlayers.O n) E (evalFn E n) n (keepAt 4) (.loop (loopAt c4 0)) :=
  lp_pure f4_l_FnPlayers.l0.P sg_liilii f4_l_FnPlayers.l0.A (f4_l_FnPlayers.l0.F n) (orcOf_cf _ _ n) (lpOk_of (bs := []) (by kernel_rfl) .nil) (fun _ => rfl) (fun _ _ => by kernel_rfl) (fun _ _ _ => by kernel_rfl)
theorem f4_l_FnPlayers.ok : ∀ n v x, f4_l_FnPlayers.F n v = some x → evalFn E n 4 (flAs f4_l_FnPlayers.P (sg_ll.pk v)) = some (f4_l_FnPlayers.A.enc x) :=
  fn_pure (modes := (fdAt 4).ms) (outs := (fdAt 4).os) (results := (fdAt 4).rs) f4_l_FnPlayers.O (c := c4) (keep := keepAt 4) (by kernel_rfl) (fun n => orcOf_cf _ _ n) (fun n => lpOk_of (bs := [loopAt c4 0]) (by kernel_rfl) (.cons (f4_l_FnPlayers.l0.ok n) .nil)) (fun _ => rfl) (fun _ _ => by kernel_rfl)
noncomputable def f4_l_FnPlayers.w : FnW E := fnW 4 f4_l_FnPlayers.P sg_ll f4_l_FnPlayers.A f4_l_FnPlayers.F f4_l_FnPlayers.ok
end Go.Proofs.Ytdejjalkfekjiaa.D
end
section
/- FnPlayers, in plain Lean. -/
namespace Go.Proofs.Ytdejjalkfekjiaa.D
open Go Go.Desk
set_option linter.unusedVariables false
theorem s_from (n l : Nat) (c : List T) : f75_s_l00From (n + 1) l c = some (l, c, 0, 0) := by rw [f75_s_l00From]
theorem s_next (n : Nat) {bs : List Int} (hb : Bytes bs) {a : Int} (h0 : 0 ≤ a) (h1 : a ≤ 1125899906842624) (sd : Int) :
    ∃ r sd', (0 ≤ r ∧ r ≤ 255) ∧ f128_s_l00Srcnext (n + 1) bs.length (its .u8 bs) a sd = some (r, bs.length, its .u8 bs, a + 1, sd') := by
  rw [f128_s_l00Srcnext]
  rw [show IntKind.i64.wrap (a + 1) = a + 1 by rw [wrap64] <;> omega]
  cases h : decide (a < (bs.length : Int))
  · simp only [br_f]
    cases decide (a + 1 ≤ (bs.length : Int))
    · exact ⟨_, _, and255 _, rfl⟩
    · exact ⟨0, _, by omega, rfl⟩
  · simp only [decide_eq_true_eq] at h
    obtain ⟨i, rfl⟩ := Int.eq_ofNat_of_zero_le h0
    have hi : i < bs.length := by omega
    have hr := hb (bs[i]) (List.getElem_mem _)
    simp only [br_t, in_dec hi, Int.toNat_natCast, okAt_its hi, Bool.and_self, gd_t, iAt_its]
    rw [show bs.getD i 0 = bs[i] by simp [List.getD, hi], show IntKind.i64.wrap bs[i] = bs[i] by rw [wrap64] <;> omega]
    cases decide ((i : Int) + 1 ≤ (bs.length : Int))
    · exact ⟨_, _, and255 _, rfl⟩
    · exact ⟨_, _, hr, rfl⟩
theorem s_pick (n : Nat) {bs : List Int} (hb : Bytes bs) {a : Int} (h0 : 0 ≤ a) (h1 : a ≤ 1125899906842622) (sd k : Int) :
    ∃ r a' sd', (0 ≤ r ∧ (1 < k → r < k) ∧ (k ≤ 1 → r = 0)) ∧ (a ≤ a' ∧ a' ≤ a + 2) ∧ f76_s_l00Srcpick (n + 2) bs.length (its .u8 bs) a sd k = some (r, bs.length, its .u8 bs, a', sd') := by
  rw [f76_s_l00Srcpick]
  by_cases hk : k ≤ 1
  · rw [decide_eq_true hk]; exact ⟨0, a, sd, by omega, by omega, rfl⟩
  rw [decide_eq_false hk]
  obtain ⟨r, s1, hr, e1⟩ := s_next n hb h0 (by omega) sd
  simp only [br_f, e1, bd_s]
  have hk0 : (!decide (k = 0)) = true := by simp; omega
  by_cases hk2 : k > 200
  · rw [decide_eq_true hk2]
    obtain ⟨r', s2, hr', e2⟩ := s_next n hb (a := a + 1) (by omega) (by omega) s1
    simp only [br_t, e2, bd_s, hk0, gd_t]
    rw [show IntKind.i64.wrap (r * 256) = r * 256 by rw [wrap64] <;> omega, show IntKind.i64.wrap (r * 256 + r') = r * 256 + r' by rw [wrap64] <;> omega]
    refine ⟨_, _, _, ?_, ?_, rfl⟩
    · rw [Int.tmod_eq_emod_of_nonneg (by omega)]
      have := Int.emod_nonneg (r * 256 + r') (show k ≠ 0 by omega)
      have := Int.emod_lt_of_pos (r * 256 + r') (show 0 < k by omega)
      omega
    · omega
  · rw [decide_eq_false hk2]
    simp only [br_f, hk0, gd_t]
    refine ⟨_, _, _, ?_, ?_, rfl⟩
    · rw [Int.tmod_eq_emod_of_nonneg (by omega)]
      have := Int.emod_nonneg r (show k ≠ 0 by omega)
      have := Int.emod_lt_of_pos r (show 0 < k by omega)
      omega
    · omega
theorem s_one (n : Nat) {bs : List Int} (hb : Bytes bs) {a : Int} (h0 : 0 ≤ a) (h1 : a ≤ 1125899906842622) (sd k : Int) :
    ∃ r a' sd', (a ≤ a' ∧ a' ≤ a + 2) ∧ f129_s_l00Srcone (n + 3) bs.length (its .u8 bs) a sd k = some (r, bs.length, its .u8 bs, a', sd') := by
  obtain ⟨r, a', s', -, ha, e⟩ := s_pick n hb h0 h1 sd k
  rw [f129_s_l00Srcone, e]
  exact ⟨_, _, _, ha, rfl⟩
theorem s_plain (n : Nat) {bs : List Int} (hb : Bytes bs) {a : Int} (h0 : 0 ≤ a) (h1 : a ≤ 1125899906842620) (sd : Int) :
    ∃ x a' sd', Plain x ∧ (a ≤ a' ∧ a' ≤ a + 4) ∧ f77_s_l01DrawPlain (n + 4) bs.length (its .u8 bs) a sd = some (x, bs.length, its .u8 bs, a', sd') := by
  obtain ⟨r, a1, s1, hr, ha, e⟩ := s_pick (n + 1) hb h0 (by omega) sd 129
  obtain ⟨b, a2, s2, ha2, e2⟩ := s_one n hb (a := a1) (by omega) (by omega) s1 4
  rw [f77_s_l01DrawPlain, e]
  simp only [bd_s, e2]
  rw [show IntKind.i64.wrap (r - 64) = r - 64 by rw [wrap64] <;> omega]
  cases b
  · exact ⟨_, a2, s2, ⟨r - 64, by omega, .inr rfl⟩, by omega, rfl⟩
  · exact ⟨_, a2, s2, ⟨r - 64, by omega, .inl rfl⟩, by omega, rfl⟩
theorem s_among (n : Nat) {bs : List Int} (hb : Bytes bs) {a : Int} (h0 : 0 ≤ a) (h1 : a ≤ 1125899906842622) (sd : Int) (L : List Int) (hL : 0 < L.length) :
    ∃ r a' sd', r ∈ L ∧ (a ≤ a' ∧ a' ≤ a + 2) ∧ f132_s_l00Srcamong (n + 3) bs.length (its .u8 bs) a sd L.length (its .i64 L) = some (r, bs.length, its .u8 bs, a', sd', L.length, its .i64 L) := by
  obtain ⟨r, a1, s1, hr, ha, e⟩ := s_pick n hb h0 h1 sd (L.length : Int)
  rw [f132_s_l00Srcamong, e]
  obtain ⟨i, rfl⟩ := Int.eq_ofNat_of_zero_le hr.1
  have hi : i < L.length := by
    by_cases h : (L.length : Int) ≤ 1
    · have := hr.2.2 h; omega
    · have := hr.2.1 (by omega); omega
  simp only [bd_s, in_dec hi, Int.toNat_natCast, okAt_its hi, Bool.and_self, gd_t, iAt_its]
  refine ⟨_, _, _, ?_, ha, rfl⟩
  rw [show L.getD i 0 = L[i] by simp [List.getD, hi]]
  exact List.getElem_mem _
theorem s_from32 (n : Nat) {i : Int} (h0 : 0 ≤ i) (h1 : i < 4294967296) : ∃ x, W32 x ∧ f131_s_l01From (n + 2) i = some x := by
  rw [f131_s_l01From]
  refine ⟨canon .f32 i.toNat, w32_canon (by omega), ?_⟩
  rw [u32_wrap h0 h1]
  show bd (if 0 ≤ i then some (canon .f32 i.toNat) else none) _ = _
  rw [if_pos h0]; rfl
theorem s_float (n : Nat) {bs : List Int} (hb : Bytes bs) {a : Int} (h0 : 0 ≤ a) (h1 : a ≤ 1125899906842600) (sd : Int) :
    ∃ x a' sd', W32 x ∧ (a ≤ a' ∧ a' ≤ a + 16) ∧ f99_s_l01DrawFloat (n + 5) bs.length (its .u8 bs) a sd = some (x, bs.length, its .u8 bs, a', sd') := by
  obtain ⟨b, a1, s1, ha1, e1⟩ := s_one (n + 1) hb h0 (by omega) sd 12
  rw [f99_s_l01DrawFloat, e1]
  simp only [bd_s, br_not]
  cases b
  · obtain ⟨x, a2, s2, hx, ha2, e2⟩ := s_plain n hb (a := a1) (by omega) (by omega) s1
    simp only [br_f, e2, bd_s]
    exact ⟨_, _, _, hx.w32, by omega, rfl⟩
  obtain ⟨q, a2, s2, -, ha2, e2⟩ := s_pick (n + 2) hb (a := a1) (by omega) (by omega) s1 4
  simp only [br_t, e2, bd_s]
  cases q == 0
  case true =>
    obtain ⟨r, a3, s3, hr, ha3, e3⟩ := s_among (n + 1) hb (a := a2) (by omega) (by omega) s2 [0, 2147483648, 2139095040, 4286578688, 2143289344, 1, 2139095039, 8388608, 8388607, 2147483649] (by decide)
    have hr' : 0 ≤ r ∧ r < 4294967296 := by simp only [List.mem_cons, List.not_mem_nil, or_false] at hr; omega
    obtain ⟨x, hx, e4⟩ := s_from32 (n + 2) hr'.1 hr'.2
    rw [br_t]
    refine ⟨x, a3, s3, hx, by omega, ?_⟩
    refine Eq.trans (congrArg (fun o => bd o _) e3) ?_
    simp only [bd_s, e4]
  cases q == 1
  case true =>
    obtain ⟨r, a3, s3, hr, ha3, e3⟩ := s_pick (n + 2) hb (a := a2) (by omega) (by omega) s2 65536
    obtain ⟨r', a4, s4, hr', ha4, e4⟩ := s_pick (n + 2) hb (a := a3) (by omega) (by omega) s3 65536
    obtain ⟨x, hx, e5⟩ := s_from32 (n + 2) (i := r * 65536 + r') (by omega) (by omega)
    simp only [br_f, br_t, e3, e4, bd_s]
    rw [show IntKind.i64.wrap (r * 65536) = r * 65536 by rw [wrap64] <;> omega, show IntKind.i64.wrap (r * 65536 + r') = r * 65536 + r' by rw [wrap64] <;> omega, e5]
    exact ⟨x, _, _, hx, by omega, rfl⟩
  cases q == 2
  case true =>
    obtain ⟨r, a3, s3, hr, ha3, e3⟩ := s_pick (n + 2) hb (a := a2) (by omega) (by omega) s2 65536
    obtain ⟨x, hx, e5⟩ := s_from32 (n + 2) (i := r * 65536) (by omega) (by omega)
    simp only [br_f, br_t, e3, bd_s]
    rw [show IntKind.i64.wrap (r * 65536) = r * 65536 by rw [wrap64] <;> omega, e5]
    exact ⟨x, _, _, hx, by omega, rfl⟩
  obtain ⟨x, a3, s3, hx, ha3, e3⟩ := s_plain n hb (a := a2) (by omega) (by omega) s2
  obtain ⟨r, a4, s4, hr, ha4, e4⟩ := s_among (n + 1) hb (a := a3) (by omega) (by omega) s3 [8388608, 2130706432, 1610612736, 536870912] (by decide)
  have hr' : 0 ≤ r ∧ r < 4294967296 := by simp only [List.mem_cons, List.not_mem_nil, or_false] at hr; omega
  obtain ⟨y, hy, e5⟩ := s_from32 (n + 2) hr'.1 hr'.2
  simp only [br_f, e3, bd_s]
  refine ⟨_, a4, s4, w32_fmul x y, by omega, ?_⟩
  refine Eq.trans (congrArg (fun o => bd o _) e4) ?_
  simp only [bd_s, e5]
theorem s_floats_loop (n : Nat) {bs : List Int} (hb : Bytes bs) (str : Bool) : ∀ (j m : Nat) (a sd : Int) (acc : List Nat), 0 ≤ a → a + 16 * (j : Int) ≤ 1125899906842000 → acc.length + j ≤ 2147483647 → j < m → (∀ x ∈ acc, W32 x) →
    ∃ ys a' sd', ys.length = acc.length + j ∧ (∀ x ∈ ys, W32 x) ∧ (a ≤ a' ∧ a' ≤ a + 16 * (j : Int)) ∧
      f81_s_l01DrawFloats.l0 (n + 5) m bs.length (its .u8 bs) a sd (j : Int) acc.length (fls .f32 acc) str = some (bs.length, its .u8 bs, a', sd', ys.length, fls .f32 ys) := by
  intro j
  induction j with
  | zero =>
    intro m a sd acc h0 h1 hl hm hw
    obtain ⟨m, rfl⟩ : ∃ k, m = k + 1 := ⟨m - 1, by omega⟩
    rw [f81_s_l01DrawFloats.l0]
    exact ⟨acc, a, sd, by omega, hw, by omega, rfl⟩
  | succ j ih =>
    intro m a sd acc h0 h1 hl hm hw
    obtain ⟨m, rfl⟩ : ∃ k, m = k + 1 := ⟨m - 1, by omega⟩
    rw [f81_s_l01DrawFloats.l0, decide_eq_true (show (((j + 1 : Nat) : Int) > 0) by omega), show IntKind.i64.wrap (((j + 1 : Nat) : Int) - 1) = (j : Int) by rw [wrap64] <;> omega]
    have key : ∀ x a1 s1, W32 x → a ≤ a1 → a1 ≤ a + 16 → ∃ ys a' sd', ys.length = acc.length + (j + 1) ∧ (∀ x ∈ ys, W32 x) ∧ (a ≤ a' ∧ a' ≤ a + 16 * ((j + 1 : Nat) : Int)) ∧
        f81_s_l01DrawFloats.l0 (n + 5) m bs.length (its .u8 bs) a1 s1 (j : Int) (acc ++ [x]).length (fls .f32 (acc ++ [x])) str = some (bs.length, its .u8 bs, a', sd', ys.length, fls .f32 ys) := by
      intro x a1 s1 hx h2 h3
      obtain ⟨ys, a', sd', hy, hyw, ha, e⟩ := ih m a1 s1 (acc ++ [x]) (by omega) (by omega) (by simp; omega) (by omega) (by
        intro y hy; simp only [List.mem_append, List.mem_singleton] at hy; rcases hy with hy | rfl
        · exact hw y hy
        · exact hx)
      exact ⟨ys, a', sd', by simp at hy; omega, hyw, by omega, e⟩
    simp only [br_t]
    cases str
    · obtain ⟨x, a1, s1, hx, ha, e⟩ := s_plain (n + 1) hb h0 (by omega) sd
      simp only [br_f, e, bd_s, push_ok (show acc.length < 2147483648 by omega), gd_t, push_fls]
      rw [show acc.length + 1 = (acc ++ [x]).length by simp]
      exact key x a1 s1 hx.w32 (by omega) (by omega)
    · obtain ⟨x, a1, s1, hx, ha, e⟩ := s_float n hb h0 (by omega) sd
      simp only [br_t, e, bd_s, push_ok (show acc.length < 2147483648 by omega), gd_t, push_fls]
      rw [show acc.length + 1 = (acc ++ [x]).length by simp]
      exact key x a1 s1 hx (by omega) (by omega)
theorem s_floats (n : Nat) {bs : List Int} (hb : Bytes bs) {a : Int} (h0 : 0 ≤ a) (j : Nat) (h1 : a + 16 * (j : Int) ≤ 1125899906841000) (hj : j ≤ 2147483647) (hn : j < n) (sd : Int) :
    ∃ ys a' sd', ys.length = j ∧ (∀ x ∈ ys, W32 x) ∧ (a ≤ a' ∧ a' ≤ a + 2 + 16 * (j : Int)) ∧ f81_s_l01DrawFloats (n + 6) bs.length (its .u8 bs) a sd (j : Int) = some (ys.length, fls .f32 ys, bs.length, its .u8 bs, a', sd') := by
  obtain ⟨b, a1, s1, ha1, e1⟩ := s_one (n + 2) hb h0 (by omega) sd 4
  obtain ⟨ys, a2, s2, hy, hw, ha2, e2⟩ := s_floats_loop n hb b j (n + 5) a1 s1 [] (by omega) (by omega) (by simp; omega) (by omega) (by simp)
  rw [f81_s_l01DrawFloats, e1]
  refine ⟨ys, a2, s2, by simpa using hy, hw, by omega, ?_⟩
  have e2 : f81_s_l01DrawFloats.l0 (n + 5) (n + 5) bs.length (its .u8 bs) a1 s1 (j : Int) 0 (reps 0 [(T.flt FloatKind.f32 0)]) b = some (bs.length, its .u8 bs, a2, s2, ys.length, fls .f32 ys) := e2
  simp only [bd_s, e2]

theorem l_long10 (n : Nat) (bs cs : List Int) : f15_l_b10Long (n + 1) bs.length (its .u8 bs) cs.length (its .u8 cs) = some (decide (1048576 < bs.length ∨ 1048576 < cs.length)) := by
  rw [f15_l_b10Long]
  by_cases h : 1048576 < bs.length
  · rw [decide_eq_true (show (bs.length : Int) > 1048576 by omega), decide_eq_true (Or.inl h)]; rfl
  · rw [decide_eq_false (show ¬ (bs.length : Int) > 1048576 by omega), br_f]
    congr 1
    simp [h]; omega
theorem l_at10 (n : Nat) {bs : List Int} (hb : Bytes bs) {i k : Int} (hi : 0 ≤ i) (hi2 : i ≤ 1000000) (hk : 1 ≤ k) : ∃ r, (0 ≤ r ∧ r < k) ∧ f17_l_b10At (n + 1) bs.length (its .u8 bs) i k = some r := by
  rw [f17_l_b10At]
  by_cases h : k ≤ 1
  · rw [decide_eq_true h]; exact ⟨0, by omega, rfl⟩
  rw [decide_eq_false h]
  have hk0 : (!decide (k = 0)) = true := by simp; omega
  by_cases h2 : i < (bs.length : Int)
  · rw [decide_eq_true h2]
    obtain ⟨i, rfl⟩ := Int.eq_ofNat_of_zero_le hi
    have hi : i < bs.length := by omega
    have hr := hb (bs[i]) (List.getElem_mem _)
    simp only [br_f, br_t, in_dec hi, Int.toNat_natCast, okAt_its hi, Bool.and_self, gd_t, iAt_its, hk0]
    rw [show bs.getD i 0 = bs[i] by simp [List.getD, hi], show IntKind.i64.wrap bs[i] = bs[i] by rw [wrap64] <;> omega]
    refine ⟨_, ?_, rfl⟩
    rw [Int.tmod_eq_emod_of_nonneg (by omega)]
    have := Int.emod_nonneg bs[i] (show k ≠ 0 by omega)
    have := Int.emod_lt_of_pos bs[i] (show 0 < k by omega)
    omega
  · rw [decide_eq_false h2]
    simp only [br_f, hk0, gd_t]
    rw [show IntKind.i64.wrap (i * 37) = i * 37 by rw [wrap64] <;> omega, show IntKind.i64.wrap (i * 37 + 11) = i * 37 + 11 by rw [wrap64] <;> omega]
    refine ⟨_, ?_, rfl⟩
    rw [Int.tmod_eq_emod_of_nonneg (by omega)]
    have := Int.emod_nonneg (i * 37 + 11) (show k ≠ 0 by omega)
    have := Int.emod_lt_of_pos (i * 37 + 11) (show 0 < k by omega)
    omega
theorem s_bits (n : Nat) {x : Nat} (h : W32 x) : f130_s_l01Bits (n + 2) x = some (x : Int) := by
  rw [f130_s_l01Bits, fne_nan]
  cases hn : isNaN .f32 x
  · have : xF32bits (n + 1) x = some (x : Int) := by simp [xF32bits, hn]
    have hx := h.1
    simp only [br_f, this, bd_s]
    rw [wrap64] <;> omega
  · rw [br_t, ← h.2, canon_nan hn]; rfl
theorem s_same1 (n : Nat) {x y : Nat} (hx : W32 x) (hy : W32 y) : f84_s_l01Same (n + 3) x y = some (x == y) := by
  rw [f84_s_l01Same, s_bits n hx]
  simp only [bd_s, s_bits n hy]
  congr 1
  rw [Bool.eq_iff_iff]; simp; constructor <;> omega
theorem s_same (n : Nat) {x y : Nat} (hx : W32 x) (hy : W32 y) : f23_s_SameNumber (n + 4) x y = some (x == y) := by
  rw [f23_s_SameNumber, s_same1 n hx hy]; rfl
theorem l_same10_loop (n : Nat) : ∀ (zs ys p q : List Nat) (m : Nat), ys.length = zs.length → p.length = q.length → (∀ x ∈ zs, W32 x) → (∀ x ∈ ys, W32 x) → p.length + zs.length ≤ 1048576 → zs.length < m →
    f25_l_b10Same.l0 (n + 4) m (p ++ zs).length (fls .f32 (p ++ zs)) (q ++ ys).length (fls .f32 (q ++ ys)) (p.length : Int) = some (if zs = ys then .inr () else .inl false) := by
  intro zs
  induction zs with
  | nil =>
    intro ys p q m hl hpq _ _ _ hm
    obtain ⟨m, rfl⟩ : ∃ k, m = k + 1 := ⟨m - 1, by omega⟩
    obtain rfl : ys = [] := List.length_eq_zero_iff.1 (by simpa using hl)
    rw [f25_l_b10Same.l0, lt_end]
    rfl
  | cons z zs ih =>
    intro ys p q m hl hpq hz hy hb hm
    obtain ⟨m, rfl⟩ : ∃ k, m = k + 1 := ⟨m - 1, by omega⟩
    cases ys with
    | nil => simp at hl
    | cons y ys =>
      rw [f25_l_b10Same.l0, lt_mid, in_mid]
      simp only [hpq, in_mid, toNat_len, okAt_mid]
      rw [← hpq]
      simp only [okAt_mid, fAt_mid, Bool.and_self, gd_t, br_t]
      rw [hpq]
      simp only [fAt_mid]
      rw [s_same n (hz z (by simp)) (hy y (by simp)), ← hpq]
      simp only [bd_s, br_not]
      cases h : z == y
      · simp only [beq_eq_false_iff_ne, ne_eq] at h
        simp [br_f, h]
      · simp only [beq_iff_eq] at h
        subst h
        rw [br_t, wrap_len (z := z) (by simp at hb; omega)]
        have := ih ys (p ++ [z]) (q ++ [z]) m (by simpa using hl) (by simp [hpq]) (fun x hx => hz x (by simp [hx])) (fun x hx => hy x (by simp [hx])) (by simp at hb ⊢; omega) (by simp at hm; omega)
        simpa using this
/-- two lists of numbers -/
theorem l_same10 (n : Nat) (xs ys : List Nat) (hx : ∀ x ∈ xs, W32 x) (hy : ∀ x ∈ ys, W32 x) (hl : xs.length ≤ 1048576) (hn : xs.length < n) : f25_l_b10Same (n + 5) xs.length (fls .f32 xs) ys.length (fls .f32 ys) = some (decide (xs = ys)) := by
  rw [f25_l_b10Same]
  by_cases h : ys.length = xs.length
  · rw [show (((xs.length : Nat) : Int) != ((ys.length : Nat) : Int)) = false by simp [h], br_f]
    have := l_same10_loop n xs ys [] [] (n + 4) h rfl hx hy (by simpa using hl) (by omega)
    simp only [List.nil_append, List.length_nil] at this
    rw [show ((0 : Nat) : Int) = 0 from rfl] at this
    rw [this, bd_s]
    by_cases e : xs = ys
    · rw [if_pos e, decide_eq_true e]; rfl
    · rw [if_neg e, decide_eq_false e]; rfl
  · rw [show (((xs.length : Nat) : Int) != ((ys.length : Nat) : Int)) = true by simp; omega, decide_eq_false (fun e => h (by rw [e]))]
    rfl
theorem s_b10numbers (n : Nat) {bs : List Int} (hb : Bytes bs) (k : Nat) (hk : k ≤ 1000000) (hn : k < n) : ∃ xs, xs.length = k ∧ (∀ x ∈ xs, W32 x) ∧ f19_s_B10Numbers (n + 7) bs.length (its .u8 bs) (k : Int) = some (xs.length, fls .f32 xs) := by
  obtain ⟨ys, a2, s2, hy, hw, ha2, e2⟩ := s_floats n hb (a := 0) (by omega) k (by omega) (by omega) (by omega) 0
  rw [f19_s_B10Numbers, s_from]
  simp only [bd_s, e2]
  exact ⟨ys, by omega, hw, rfl⟩

theorem i_few (n k : Nat) (l : List T) : f94_i_areSamples (n + 1) k l = some (decide ((k : Int) ≤ 256)) := by rw [f94_i_areSamples]

theorem i_in (n : Nat) (a b c : Int) : f83_i_within (n + 1) a b c = some (decide (b ≤ a ∧ a ≤ c)) := by
  rw [f83_i_within]
  by_cases h : b ≤ a <;> simp [br, h]

theorem i_sized (n : Nat) (x : Int) : f82_i_size (n + 1) x = some x := by rw [f82_i_size]
theorem i_all_loop (n : Nat) (N : Nat) (cs : List T) (lo hi : Int) : ∀ (zs p : List Int) (m : Nat), (∀ z ∈ zs, lo ≤ z ∧ z ≤ hi) → p.length + zs.length < 1048576 → zs.length < m →
    f89_i_allWithin.l0 (n + 1) m N cs lo hi (p ++ zs).length (its .i64 (p ++ zs)) ((p ++ zs).length : Int) (p.length : Int) = some (.inr ()) := by
  intro zs
  induction zs with
  | nil =>
    intro p m _ _ hm
    obtain ⟨m, rfl⟩ : ∃ k, m = k + 1 := ⟨m - 1, by omega⟩
    rw [f89_i_allWithin.l0, lt_end]; rfl
  | cons z zs ih =>
    intro p m hz hp hm
    obtain ⟨m, rfl⟩ : ∃ k, m = k + 1 := ⟨m - 1, by omega⟩
    rw [f89_i_allWithin.l0, lt_mid, in_mid, toNat_len, okAt_midI, iAt_mid]
    have := ih (p ++ [z]) m (fun x hx => hz x (by simp [hx])) (by simp at hp ⊢; omega) (by simp at hm; omega)
    simp only [br_t, gd_t, Bool.and_self, i_in, decide_eq_true (hz z (by simp)), bd_s, br_not, wrap_len (z := z) (show p.length < 4611686018427387904 by simp at hp; omega)]
    simpa using this
theorem i_allin (n : Nat) (xs : List Int) (lo hi : Int) (h : ∀ z ∈ xs, lo ≤ z ∧ z ≤ hi) (hl : xs.length < 1048576) (hn : xs.length < n) : f89_i_allWithin (n + 2) xs.length (its .i64 xs) lo hi = some true := by
  rw [f89_i_allWithin]
  have e := i_all_loop n xs.length (its .i64 xs) lo hi xs [] (n + 1) h (by simpa using hl) (by omega)
  have e : f89_i_allWithin.l0 (n + 1) (n + 1) xs.length (its .i64 xs) lo hi xs.length (its .i64 xs) (xs.length : Int) 0 = some (.inr ()) := e
  rw [e]; rfl

def atM (xs : List Nat) (i : Nat) : Nat := xs.getD i 0
def playVal (xs : List Nat) (p : Nat) : Nat := if p % 65536 > 0 then fadd .f32 (atM xs (p / 65536)) (fmul .f32 (fsub .f32 (atM xs (p / 65536 + 1)) (atM xs (p / 65536))) (fdiv .f32 (FloatKind.f32.nearest ((p % 65536 : Nat) : Int)) 1199570944)) else atM xs (p / 65536)
def playSeq (xs : List Nat) (st : Nat) : Nat → Nat → List Nat
  | 0, _ => []
  | n + 1, p => playVal xs p :: playSeq xs st n (p + st)
theorem play_length (xs : List Nat) (st : Nat) : ∀ n p, (playSeq xs st n p).length = n
  | 0, _ => rfl
  | n + 1, p => by simp [playSeq, play_length xs st n]
theorem play_append (xs : List Nat) (st : Nat) : ∀ a b p, playSeq xs st (a + b) p = playSeq xs st a p ++ playSeq xs st b (p + a * st)
  | 0, b, p => by simp [playSeq]
  | a + 1, b, p => by
    rw [show a + 1 + b = (a + b) + 1 by omega]
    simp only [playSeq, play_append xs st a b, List.cons_append]
    rw [show p + st + a * st = p + (a + 1) * st by rw [Nat.add_mul]; omega]
theorem at_w32 {xs : List Nat} (h : ∀ x ∈ xs, W32 x) (i : Nat) : W32 (atM xs i) := by
  unfold atM
  simp only [List.getD]
  cases hi : xs[i]? with
  | none => exact w32_zero
  | some v => exact h v (List.mem_of_getElem? hi)
theorem play_w32 {xs : List Nat} (h : ∀ x ∈ xs, W32 x) (st : Nat) : ∀ n p, ∀ y ∈ playSeq xs st n p, W32 y
  | 0, _, y, hy => by simp [playSeq] at hy
  | n + 1, p, y, hy => by
    simp only [playSeq, List.mem_cons] at hy
    rcases hy with rfl | hy
    · unfold playVal; split
      · exact w32_fadd _ _
      · exact at_w32 h _
    · exact play_w32 h st n _ y hy
theorem i_at (n : Nat) (xs : List Nat) (i : Nat) : f87_i_PlayRecording1 (n + 2) (i : Int) xs.length (fls .f32 xs) = some (atM xs i) := by
  rw [f87_i_PlayRecording1, i_sized]
  simp only [bd_s]
  rcases Nat.lt_or_ge i xs.length with h | h
  · simp only [lt_dec h, br_t, in_dec h, Int.toNat_natCast, okAt_fls h, Bool.and_self, gd_t, fAt_fls]; rfl
  · rw [nlt_dec h]
    unfold atM
    simp [br, List.getD, h]
theorem play_loop (n : Nat) (xs : List Nat) (st : Nat) (hst : st ≤ 655360) : ∀ (j p m : Nat) (acc : List Nat), p + j * 655360 ≤ 1000000000000 → acc.length + j < 1048576 → j < m →
    f86_i_play.l0 (n + 2) m xs.length (fls .f32 xs) (p : Int) (st : Int) (j : Int) acc.length (fls .f32 acc) = some (((p + j * st : Nat) : Int), (acc ++ playSeq xs st j p).length, fls .f32 (acc ++ playSeq xs st j p)) := by
  intro j
  induction j with
  | zero =>
    intro p m acc _ _ hm
    obtain ⟨m, rfl⟩ : ∃ k, m = k + 1 := ⟨m - 1, by omega⟩
    rw [f86_i_play.l0]
    simp [br, playSeq]
  | succ j ih =>
    intro p m acc hp ha hm
    obtain ⟨m, rfl⟩ : ∃ k, m = k + 1 := ⟨m - 1, by omega⟩
    have hp2 : p ≤ 1000000000000 := by omega
    have d1 : IntKind.i64.wrap (Int.tdiv (p : Int) 65536) = ((p / 65536 : Nat) : Int) := by rw [Int.tdiv_eq_ediv_of_nonneg (by omega), wrap64] <;> omega
    have d2 : Int.tmod (p : Int) 65536 = ((p % 65536 : Nat) : Int) := by rw [Int.tmod_eq_emod_of_nonneg (by omega)]; omega
    have d3 : IntKind.i64.wrap (((p / 65536 : Nat) : Int) + 1) = ((p / 65536 + 1 : Nat) : Int) := wrap_succ (by omega)
    have d4 : IntKind.i64.wrap ((p : Int) + (st : Int)) = ((p + st : Nat) : Int) := by rw [wrap64] <;> omega
    have d5 : IntKind.i64.wrap (((j + 1 : Nat) : Int) - 1) = (j : Int) := by rw [wrap64] <;> omega
    have d6 : ∀ i, f88_i_PlayRecording2 (n + 2) i = some i := fun i => by rw [f88_i_PlayRecording2]
    have := ih (p + st) m (acc ++ [playVal xs p]) (by omega) (by simp; omega) (by omega)
    have e : p + st + j * st = p + (j + 1) * st := by rw [Nat.add_mul]; omega
    rw [e] at this
    rw [f86_i_play.l0, decide_eq_true (show (((j + 1 : Nat) : Int) > 0) by omega)]
    simp only [br_t, d1, d2, d3, d4, d5, d6, i_at n xs, bd_s, push_ok (show acc.length < 2147483648 by omega), gd_t, push_fls]
    by_cases h : p % 65536 > 0
    · have hv : playVal xs p = fadd .f32 (atM xs (p / 65536)) (fmul .f32 (fsub .f32 (atM xs (p / 65536 + 1)) (atM xs (p / 65536))) (fdiv .f32 (FloatKind.f32.nearest ((p % 65536 : Nat) : Int)) 1199570944)) := by unfold playVal; rw [if_pos h]
      rw [decide_eq_true (show (((p % 65536 : Nat) : Int) > 0) by omega), br_t, ← hv]
      simpa [playSeq] using this
    · have hv : playVal xs p = atM xs (p / 65536) := by unfold playVal; rw [if_neg h]
      rw [decide_eq_false (show ¬ (((p % 65536 : Nat) : Int) > 0) by omega), br_f, ← hv]
      simpa [playSeq] using this
theorem played (n : Nat) (xs : List Nat) (h1 : 1 ≤ xs.length) (h2 : xs.length ≤ 256) (p st c : Nat) (hp : p ≤ 16777216) (hst : st ≤ 655360) (hc : c ≤ 256) (hn : 300 < n) :
    f24_i_PlayRecording (n + 5) xs.length (fls .f32 xs) (p : Int) (st : Int) (c : Int) = some ((playSeq xs st c p).length, fls .f32 (playSeq xs st c p), ((p + c * st : Nat) : Int), true) := by
  have e := play_loop (n + 1) xs st hst c p (n + 3) [] (by omega) (by simp; omega) (by omega)
  have e : f86_i_play.l0 (n + 3) (n + 3) xs.length (fls .f32 xs) (p : Int) (st : Int) (c : Int) 0 [] = some (((p + c * st : Nat) : Int), (playSeq xs st c p).length, fls .f32 (playSeq xs st c p)) := e
  have hpl : f85_i_isPlayed (n + 4) xs.length (fls .f32 xs) (p : Int) (st : Int) (c : Int) = some true := by
    rw [f85_i_isPlayed, i_few, decide_eq_true (show (xs.length : Int) ≤ 256 by omega), decide_eq_true (show (xs.length : Int) > 0 by omega)]
    simp only [bd_s, br_t, i_in, decide_eq_true (show 0 ≤ (p : Int) ∧ (p : Int) ≤ 16777216 by omega), decide_eq_true (show 0 ≤ (st : Int) ∧ (st : Int) ≤ 655360 by omega)]
    rw [f79_i_isCount]
    simp only [i_in, decide_eq_true (show 0 ≤ (c : Int) ∧ (c : Int) ≤ 256 by omega), bd_s]
  rw [f24_i_PlayRecording, hpl]
  simp only [bd_s, br_not, br_t]
  rw [f86_i_play, f88_i_PlayRecording2]
  simp only [bd_s, e]
/-- played with its own speed -/
theorem play_own (xs : List Nat) : ∀ (k j : Nat), k + j = xs.length → playSeq xs 65536 (k + 3) (65536 * j) = xs.drop j ++ [0, 0, 0] := by
  have hv : ∀ j, playVal xs (65536 * j) = atM xs j := fun j => by
    unfold playVal
    rw [if_neg (by omega), show 65536 * j / 65536 = j by omega]
  intro k
  induction k with
  | zero =>
    intro j hj
    have h0 : ∀ i, xs.length ≤ i → atM xs i = 0 := fun i hi => by unfold atM; simp [List.getD, hi]
    rw [List.drop_eq_nil_of_le (by omega)]
    simp only [playSeq, Nat.zero_add, List.nil_append]
    rw [show 65536 * j + 65536 = 65536 * (j + 1) by omega, show 65536 * (j + 1) + 65536 = 65536 * (j + 2) by omega, hv, hv, hv, h0 _ (by omega), h0 _ (by omega), h0 _ (by omega)]
  | succ k ih =>
    intro j hj
    have hlt : j < xs.length := by omega
    rw [show k + 1 + 3 = (k + 3) + 1 by omega]
    show playVal xs (65536 * j) :: playSeq xs 65536 (k + 3) (65536 * j + 65536) = _
    rw [show 65536 * j + 65536 = 65536 * (j + 1) by omega, hv, ih (j + 1) (by omega)]
    have : xs.drop j = xs[j] :: xs.drop (j + 1) := (List.getElem_cons_drop hlt).symm
    rw [this, show atM xs j = xs[j] by simp [atM, List.getD, hlt]]; rfl
/-- a loop -/
def nextL (first behind j : Nat) : Nat := if j + 1 = behind then first else j + 1
def loopSeq (xs : List Nat) (first behind : Nat) : Nat → Nat → List Nat
  | 0, _ => []
  | n + 1, j => atM xs j :: loopSeq xs first behind n (nextL first behind j)
theorem loop_length (xs : List Nat) (f b : Nat) : ∀ n j, (loopSeq xs f b n j).length = n
  | 0, _ => rfl
  | n + 1, j => by simp [loopSeq, loop_length xs f b n]
theorem loops (n : Nat) (xs : List Nat) (hx : xs.length ≤ 256) (f b : Nat) (hf : f < b) (hb : b ≤ xs.length) : ∀ (c j m : Nat) (acc : List Nat), j < b → acc.length + c < 1048576 → c < m → ∃ e : Int,
    f86_i_play_2.l0 (n + 2) m (b : Int) (f : Int) xs.length (fls .f32 xs) (b : Int) (f : Int) ((65536 * j : Nat) : Int) 65536 (c : Int) acc.length (fls .f32 acc) = some (e, (acc ++ loopSeq xs f b c j).length, fls .f32 (acc ++ loopSeq xs f b c j)) := by
  intro c
  induction c with
  | zero =>
    intro j m acc _ _ hm
    obtain ⟨m, rfl⟩ : ∃ k, m = k + 1 := ⟨m - 1, by omega⟩
    rw [f86_i_play_2.l0]
    exact ⟨_, by simp [br, loopSeq]; rfl⟩
  | succ c ih =>
    intro j m acc hj ha hm
    obtain ⟨m, rfl⟩ : ∃ k, m = k + 1 := ⟨m - 1, by omega⟩
    have d1 : IntKind.i64.wrap (Int.tdiv ((65536 * j : Nat) : Int) 65536) = (j : Int) := by rw [Int.tdiv_eq_ediv_of_nonneg (by omega), wrap64] <;> omega
    have d2 : Int.tmod ((65536 * j : Nat) : Int) 65536 = 0 := by rw [Int.tmod_eq_emod_of_nonneg (by omega)]; omega
    have d4 : IntKind.i64.wrap (((65536 * j : Nat) : Int) + 65536) = ((65536 * (j + 1) : Nat) : Int) := by rw [wrap64] <;> omega
    have d5 : IntKind.i64.wrap (((c + 1 : Nat) : Int) - 1) = (c : Int) := by rw [wrap64] <;> omega
    have hlt : j < xs.length := by omega
    have d6 : f90_i_PlayLoop1 (n + 2) (j : Int) (b : Int) (f : Int) xs.length (fls .f32 xs) = some (atM xs j) := by
      rw [f90_i_PlayLoop1, show (((j : Nat) : Int) == (b : Int)) = false by simp; omega]
      simp only [br_f, in_dec hlt, Int.toNat_natCast, okAt_fls hlt, Bool.and_self, gd_t, fAt_fls]; rfl
    have d7 : f91_i_PlayLoop2 (n + 2) ((65536 * (j + 1) : Nat) : Int) (b : Int) (f : Int) = some ((65536 * nextL f b j : Nat) : Int) := by
      rw [f91_i_PlayLoop2, show IntKind.i64.wrap (65536 * (b : Int)) = 65536 * (b : Int) by rw [wrap64] <;> omega]
      unfold nextL
      by_cases h : j + 1 = b
      · rw [decide_eq_true (show ((65536 * (j + 1) : Nat) : Int) ≥ 65536 * (b : Int) by omega), if_pos h]
        rw [show IntKind.i64.wrap ((b : Int) - (f : Int)) = (b : Int) - (f : Int) by rw [wrap64] <;> omega, show IntKind.i64.wrap (65536 * ((b : Int) - (f : Int))) = 65536 * ((b : Int) - (f : Int)) by rw [wrap64] <;> omega, decide_eq_false (show ¬ (65536 * ((b : Int) - (f : Int)) = 0) by omega),
          show IntKind.i64.wrap (((65536 * (j + 1) : Nat) : Int) - 65536 * (b : Int)) = 0 by rw [wrap64] <;> omega, show IntKind.i64.wrap (65536 * (f : Int)) = 65536 * (f : Int) by rw [wrap64] <;> omega, Int.zero_tmod, Int.add_zero, show IntKind.i64.wrap (65536 * (f : Int)) = 65536 * (f : Int) by rw [wrap64] <;> omega]
        simp [br, gd]
      · rw [decide_eq_false (show ¬ (((65536 * (j + 1) : Nat) : Int) ≥ 65536 * (b : Int)) by omega), if_neg h]; rfl
    have hj' : nextL f b j < b := by unfold nextL; split <;> omega
    obtain ⟨e, he⟩ := ih (nextL f b j) m (acc ++ [atM xs j]) hj' (by simp; omega) (by omega)
    refine ⟨e, ?_⟩
    have z0 : decide ((0 : Int) > 0) = false := by decide
    rw [f86_i_play_2.l0, decide_eq_true (show (((c + 1 : Nat) : Int) > 0) by omega)]
    simp only [br_t, d1, d2, d4, d5, d6, d7, bd_s, z0, br_f, push_ok (show acc.length < 2147483648 by omega), gd_t, push_fls]
    simpa [loopSeq] using he
theorem looped (n : Nat) (xs : List Nat) (h1 : 1 ≤ xs.length) (h2 : xs.length ≤ 256) (f b : Nat) (hf : f < b) (hb : b ≤ xs.length) (hn : 300 < n) :
    ∃ e, f26_i_PlayLoop (n + 5) xs.length (fls .f32 xs) (f : Int) (b : Int) 0 65536 40 = some ((loopSeq xs f b 40 0).length, fls .f32 (loopSeq xs f b 40 0), e, true) := by
  obtain ⟨e, he⟩ := loops (n + 1) xs h2 f b hf hb 40 0 (n + 3) [] (by omega) (by simp) (by omega)
  have he : f86_i_play_2.l0 (n + 3) (n + 3) (b : Int) (f : Int) xs.length (fls .f32 xs) (b : Int) (f : Int) 0 65536 40 0 [] = some (e, (loopSeq xs f b 40 0).length, fls .f32 (loopSeq xs f b 40 0)) := he
  have hpl : f85_i_isPlayed (n + 4) xs.length (fls .f32 xs) 0 65536 40 = some true := by
    rw [f85_i_isPlayed, i_few, decide_eq_true (show (xs.length : Int) ≤ 256 by omega), decide_eq_true (show (xs.length : Int) > 0 by omega)]
    simp only [bd_s, br_t, i_in]
    rw [f79_i_isCount]
    simp only [i_in, bd_s]; rfl
  have hall := i_allin (n + 2) [(f : Int), (b : Int)] 0 (xs.length : Int) (by intro z hz; simp at hz; omega) (by simp) (by simp; omega)
  have hall : f89_i_allWithin (n + 4) 2 (setN (setN (reps 2 [(T.int .i64 (0 : Int))]) 0 [(T.int .i64 (f : Int))]) 1 [(T.int .i64 (b : Int))]) 0 (xs.length : Int) = some true := hall
  have h0 : f91_i_PlayLoop2 (n + 3) 0 (b : Int) (f : Int) = some 0 := by
    rw [f91_i_PlayLoop2, show IntKind.i64.wrap (65536 * (b : Int)) = 65536 * (b : Int) by rw [wrap64] <;> omega, decide_eq_false (show ¬ ((0 : Int) ≥ 65536 * (b : Int)) by omega)]; rfl
  refine ⟨e, ?_⟩
  rw [f26_i_PlayLoop, hpl, i_sized]
  simp only [bd_s, br_not, br_t, hall, decide_eq_false (show ¬ ((f : Int) ≥ (b : Int)) by omega), br_f]
  rw [f86_i_play_2, h0]
  simp only [bd_s, he]
theorem told_loop (n : Nat) (xs : List Nat) (hxw : ∀ x ∈ xs, W32 x) (hx : xs.length ≤ 256) (f b : Nat) (hf : f < b) (hb : b ≤ xs.length) : ∀ (c i at_ m : Nat) (q : List Nat), i + c = 40 → q.length = i → at_ ≤ b → c < m →
    f4_l_FnPlayers.l0 (n + 4) m xs.length (fls .f32 xs) (b : Int) (f : Int) (q ++ loopSeq xs f b c (if at_ = b then f else at_)).length (fls .f32 (q ++ loopSeq xs f b c (if at_ = b then f else at_))) (at_ : Int) (i : Int) = some (.inr ()) := by
  intro c
  induction c with
  | zero =>
    intro i at_ m q hi hq ha hm
    obtain ⟨m, rfl⟩ : ∃ k, m = k + 1 := ⟨m - 1, by omega⟩
    rw [f4_l_FnPlayers.l0, decide_eq_false (show ¬ ((i : Int) < 40) by omega)]; rfl
  | succ c ih =>
    intro i at_ m q hi hq ha hm
    obtain ⟨m, rfl⟩ : ∃ k, m = k + 1 := ⟨m - 1, by omega⟩
    obtain ⟨j, hj⟩ : ∃ j, j = (if at_ = b then f else at_) := ⟨_, rfl⟩
    rw [← hj]
    have hjb : j < b := by rw [hj]; split <;> omega
    have e1 : okAt [.flt .f32] (fls .f32 (q ++ loopSeq xs f b (c + 1) j)) i = true := by rw [← hq]; exact okAt_mid
    have e2 : fAt (fls .f32 (q ++ loopSeq xs f b (c + 1) j)) i = atM xs j := by rw [← hq]; exact fAt_mid
    have e3 : decide ((0 : Int) ≤ (i : Int) ∧ (i : Int) < ((q ++ loopSeq xs f b (c + 1) j).length : Int)) = true := by rw [← hq]; exact in_mid
    have hjl : j < xs.length := by omega
    have hn : nextL f b j = (if j + 1 = b then f else j + 1) := rfl
    have := ih (i + 1) (j + 1) m (q ++ [atM xs j]) (by omega) (by simp [hq]) (by omega) (by omega)
    have w1 : IntKind.i64.wrap ((i : Int) + 1) = ((i + 1 : Nat) : Int) := wrap_succ (by omega)
    have w2 : IntKind.i64.wrap ((j : Int) + 1) = ((j + 1 : Nat) : Int) := wrap_succ (by omega)
    have hw := at_w32 hxw j
    have hfx : fAt (fls .f32 xs) j = atM xs j := fAt_fls
    rw [f4_l_FnPlayers.l0, decide_eq_true (show ((i : Int) < 40) by omega), e3, Int.toNat_natCast, e1, e2]
    by_cases h : at_ = b
    · rw [if_pos h] at hj
      subst hj
      subst h
      simp only [br_t, beq_self_eq_true, gd_t, in_dec hjl, Int.toNat_natCast, okAt_fls hjl, hfx, s_same n hw hw, bd_s, br_not, w1, w2]
      rw [← hn] at this
      simpa [loopSeq] using this
    · rw [if_neg h] at hj
      subst hj
      rw [show (((j : Nat) : Int) == (b : Int)) = false by simp; omega]
      simp only [br_t, br_f, beq_self_eq_true, gd_t, in_dec hjl, Int.toNat_natCast, okAt_fls hjl, hfx, s_same n hw hw, bd_s, br_not, w1, w2]
      rw [← hn] at this
      simpa [loopSeq] using this
theorem exact_ (cs : List Int) (hc : ∀ b ∈ cs, GoodI .u8 b) (lc : cs.length ≤ maxLen) (ms : List Int) (hm : ∀ b ∈ ms, GoodI .u8 b) (lm : ms.length ≤ maxLen) : ∃ n, f4_l_FnPlayers n cs.length (its .u8 cs) ms.length (its .u8 ms) = some true := by
  refine ⟨1000, ?_⟩
  suffices h : ∀ n, f4_l_FnPlayers (n + 500) cs.length (its .u8 cs) ms.length (its .u8 ms) = some true from h 500
  intro n
  rw [f4_l_FnPlayers, l_long10]
  cases hlong : decide (1048576 < cs.length ∨ 1048576 < ms.length)
  case true => rfl
  obtain ⟨c, hc1, e1⟩ := l_at10 (n + 498) (bytes_of hc) (i := 0) (k := 12) (by omega) (by omega) (by omega)
  obtain ⟨c, rfl⟩ := Int.eq_ofNat_of_zero_le hc1.1
  obtain ⟨xs, hxl, hxw, e2⟩ := s_b10numbers (n + 492) (bytes_of hc) (1 + c) (by omega) (by omega)
  obtain ⟨i1, h1, e3⟩ := l_at10 (n + 498) (bytes_of hm) (i := 0) (k := 64) (by omega) (by omega) (by omega)
  obtain ⟨i1, rfl⟩ := Int.eq_ofNat_of_zero_le h1.1
  obtain ⟨i2, h2, e4⟩ := l_at10 (n + 498) (bytes_of hm) (i := 1) (k := 64) (by omega) (by omega) (by omega)
  obtain ⟨i2, rfl⟩ := Int.eq_ofNat_of_zero_le h2.1
  obtain ⟨k, h3, e5⟩ := l_at10 (n + 498) (bytes_of hm) (i := 2) (k := 20) (by omega) (by omega) (by omega)
  obtain ⟨k, rfl⟩ := Int.eq_ofNat_of_zero_le h3.1
  obtain ⟨a, h4, e6⟩ := l_at10 (n + 498) (bytes_of hm) (i := 3) (k := (k : Int) + 1) (by omega) (by omega) (by omega)
  obtain ⟨a, rfl⟩ := Int.eq_ofNat_of_zero_le h4.1
  obtain ⟨b, h5, e7⟩ := l_at10 (n + 498) (bytes_of hm) (i := 4) (k := ((1 + c : Nat) : Int)) (by omega) (by omega) (by omega)
  obtain ⟨b, rfl⟩ := Int.eq_ofNat_of_zero_le h5.1
  obtain ⟨f, h6, e8⟩ := l_at10 (n + 498) (bytes_of hm) (i := 5) (k := ((1 + b : Nat) : Int)) (by omega) (by omega) (by omega)
  obtain ⟨f, rfl⟩ := Int.eq_ofNat_of_zero_le h6.1
  have w1 : IntKind.i64.wrap (1 + (c : Int)) = ((1 + c : Nat) : Int) := by rw [wrap64] <;> omega
  have w2 : IntKind.i64.wrap (((1 + c : Nat) : Int) + 3) = ((1 + c + 3 : Nat) : Int) := by rw [wrap64] <;> omega
  have w3 : IntKind.i64.wrap (4096 * (i1 : Int)) = ((4096 * i1 : Nat) : Int) := by rw [wrap64] <;> omega
  have w4 : IntKind.i64.wrap (4096 * (i2 : Int)) = ((4096 * i2 : Nat) : Int) := by rw [wrap64] <;> omega
  have w5 : IntKind.i64.wrap ((k : Int) + 1) = (k : Int) + 1 := by rw [wrap64] <;> omega
  have w6 : IntKind.i64.wrap ((k : Int) - (a : Int)) = ((k - a : Nat) : Int) := by rw [wrap64] <;> omega
  have hmul : k * (4096 * i2) ≤ 20 * (4096 * 64) := Nat.mul_le_mul (by omega) (by omega)
  have hmul2 : a * (4096 * i2) ≤ 20 * (4096 * 64) := Nat.mul_le_mul (by omega) (by omega)
  have w7 : IntKind.i64.wrap ((k : Int) * ((4096 * i2 : Nat) : Int)) = ((k * (4096 * i2) : Nat) : Int) := by
    have : (k : Int) * ((4096 * i2 : Nat) : Int) = ((k * (4096 * i2) : Nat) : Int) := (Int.natCast_mul _ _).symm
    rw [this, wrap64] <;> omega
  have w8 : IntKind.i64.wrap (((4096 * i1 : Nat) : Int) + ((k * (4096 * i2) : Nat) : Int)) = ((4096 * i1 + k * (4096 * i2) : Nat) : Int) := by rw [wrap64] <;> omega
  have w9 : IntKind.i64.wrap (1 + (b : Int)) = ((1 + b : Nat) : Int) := by rw [wrap64] <;> omega
  have hx1 : 1 ≤ xs.length := by omega
  have p1 := played (n + 494) xs hx1 (by omega) 0 65536 (1 + c + 3) (by omega) (by omega) (by omega) (by omega)
  have p2 := played (n + 494) xs hx1 (by omega) (4096 * i1) (4096 * i2) k (by omega) (by omega) (by omega) (by omega)
  have p3 := played (n + 494) xs hx1 (by omega) (4096 * i1) (4096 * i2) a (by omega) (by omega) (by omega) (by omega)
  have p4 := played (n + 494) xs hx1 (by omega) (4096 * i1 + a * (4096 * i2)) (4096 * i2) (k - a) (by omega) (by omega) (by omega) (by omega)
  obtain ⟨e, p5⟩ := looped (n + 494) xs hx1 (by omega) f (1 + b) (by omega) (by omega) (by omega)
  have hown := play_own xs xs.length 0 (by omega)
  rw [List.drop_zero, Nat.mul_zero, hxl] at hown
  have hsplit := play_append xs (4096 * i2) a (k - a) (4096 * i1)
  rw [show a + (k - a) = k by omega] at hsplit
  have hend : 4096 * i1 + a * (4096 * i2) + (k - a) * (4096 * i2) = 4096 * i1 + k * (4096 * i2) := by
    rw [Nat.add_assoc, ← Nat.add_mul, show a + (k - a) = k by omega]
  have told := told_loop (n + 495) xs hxw (by omega) f (1 + b) (by omega) (by omega) 40 0 0 (n + 499) [] (by omega) rfl (by omega) (by omega)
  rw [if_neg (show ¬ 0 = 1 + b by omega)] at told
  have told : f4_l_FnPlayers.l0 (n + 499) (n + 499) xs.length (fls .f32 xs) ((1 + b : Nat) : Int) (f : Int) (loopSeq xs f (1 + b) 40 0).length (fls .f32 (loopSeq xs f (1 + b) 40 0)) 0 0 = some (.inr ()) := told
  have hw1 := play_w32 hxw 65536 (1 + c + 3) 0
  have hw2 := play_w32 hxw (4096 * i2) k (4096 * i1)
  have s1 := l_same10 (n + 494) _ _ hw1 hw1 (by rw [play_length]; omega) (by rw [play_length]; omega)
  have s2 := l_same10 (n + 494) _ _ hw2 hw2 (by rw [play_length]; omega) (by rw [play_length]; omega)
  have q1 : reps 0 [T.flt FloatKind.f32 0] ++ fls .f32 xs ++ (setN (setN (setN (reps 3 [(T.flt .f32 0)]) 0 [(T.flt .f32 0)]) 1 [(T.flt .f32 0)]) 2 [(T.flt .f32 0)]) = fls .f32 (playSeq xs 65536 (1 + c + 3) 0) := by rw [hown, ← fls_append]; rfl
  have q2 : reps 0 [T.flt FloatKind.f32 0] ++ fls .f32 (playSeq xs (4096 * i2) a (4096 * i1)) ++ fls .f32 (playSeq xs (4096 * i2) (k - a) (4096 * i1 + a * (4096 * i2))) = fls .f32 (playSeq xs (4096 * i2) k (4096 * i1)) := by rw [hsplit, ← fls_append]; rfl
  have p1 : f24_i_PlayRecording (n + 499) xs.length (fls .f32 xs) 0 65536 ((1 + c + 3 : Nat) : Int) = _ := p1
  rw [play_length] at p1 p2 p3 p4 s1 s2
  rw [loop_length] at p5 told
  rw [hxl] at e2
  rw [hend] at p4
  rw [hxl] at p1 p2 p3 p4 p5 told
  have p1 : f24_i_PlayRecording (n + 499) _ _ _ _ _ = _ := p1
  simp only [br_f, br_not, bd_s, e1, w1, e2, w2, p1, br_t, Nat.zero_add, q1, e3, w3, e4, w4, e5, w5, e6, p2, p3, w6, p4, w7, w8, q2, e7, e8, w9, p5]
  rw [show a + (k - a) = k by omega, le_ble (show 1 + c ≤ 2147483648 by omega), le_ble (show 1 + c + 3 ≤ 2147483648 by omega), le_ble (show a ≤ 2147483648 by omega), le_ble (show k ≤ 2147483648 by omega)]
  have s1 : f25_l_b10Same (n + 499) _ _ _ _ = _ := s1
  have s2 : f25_l_b10Same (n + 499) _ _ _ _ = _ := s2
  rw [s1, s2, told]
  simp [br, gd, bd, sm]
theorem law4 : ∀ args, LawArgs E Try.f4.params.toList args → ∃ N os, evalFn E N 4 args = some ⟨[⟨false, [.leaf], [.bool true]⟩], os⟩ := by
  intro args h0
  have hp : Try.f4.params.toList = [22, 22] := by kernel_rfl
  rw [hp] at h0
  obtain ⟨ts0, r0, rfl, hw0, h1⟩ := h0.cons_inv (d := ⟨false, 1, 24, [.sl .own [.leaf]], [.lst 0 []], .slc 5⟩) (by kernel_rfl)
  obtain ⟨n0, cs0, rfl, gl0, hs0⟩ := hw0.slc_inv (e := 5) (d := ⟨false, 1, 24, [.sl .own [.leaf]], [.lst 0 []], .slc 5⟩) (by kernel_rfl) rfl
  obtain ⟨a0, rfl, rfl, g0⟩ := hs0.ints (k := .u8) (d := ⟨false, 1, 1, [.leaf], [.int .u8 0], .int .u8⟩) (by kernel_rfl) rfl
  obtain ⟨ts1, r1, rfl, hw1, h2⟩ := h1.cons_inv (d := ⟨false, 1, 24, [.sl .own [.leaf]], [.lst 0 []], .slc 5⟩) (by kernel_rfl)
  obtain ⟨n1, cs1, rfl, gl1, hs1⟩ := hw1.slc_inv (e := 5) (d := ⟨false, 1, 24, [.sl .own [.leaf]], [.lst 0 []], .slc 5⟩) (by kernel_rfl) rfl
  obtain ⟨a1, rfl, rfl, g1⟩ := hs1.ints (k := .u8) (d := ⟨false, 1, 1, [.leaf], [.int .u8 0], .int .u8⟩) (by kernel_rfl) rfl
  obtain rfl := h2.nil_inv
  obtain ⟨N, hN⟩ := exact_ a0 g0 gl0 a1 g1 gl1
  exact ⟨N, _, f4_l_FnPlayers.ok N (a0.length, its .u8 a0, a1.length, its .u8 a1) true hN⟩


end Go.Proofs.Ytdejjalkfekjiaa.D
end
section
/- FnPlayers holds: for every input the law returns true, and its arguments read as before. -/
namespace Go.Proofs.Ytdejjalkfekjiaa.fnPlayers
open Go Go.ChangeShapes Go.WideShapes Go.ChangeAt Go.RowKit Go.Desk
set_option linter.unusedVariables false
theorem own : ownKnob Try.prog.godebug = none := by kernel_rfl
theorem laidOut : laidOutB Try.prog = true := by kernel_rfl
set_option maxRecDepth 100000 in
theorem lifted (os : Os) (started : os.Started) (H : Type) (enc : TypeId × Value → H) :
    ReturnsInHanded {} Try.checked os 4 .any (Rows.fnPlayersSpec.pre6 enc Try.prog Try.f4 Rows.fnPlayersRow.domain false) (Rows.fnPlayersSpec.post enc Try.prog Try.f4 false true false false) := by
  refine returnsInHanded_of_change (C := Try.checked) own started (by kernel_rfl) Try.func4
    (ChangeSpec.witness6 (enc := enc) (C := Try.checked) false ⟨#[], #[.slice none 0 0, .slice none 0 0], []⟩ 8 (by kernel_rfl) (by kernel_rfl) (by kernel_rfl) (by kernel_rfl)) ?_
  intro W base args ds gs before hval hW hcnd _
  exact law_contract (c := D.c4) Try.checked.mixed D.tysOk D.fnOk Try.func4 (by kernel_rfl) (by kernel_rfl) (by kernel_rfl) Try.underlying4 rfl
    (fun ds h => by
      rw [show Try.f4.params.toList.length = 2 by kernel_rfl] at h
      match ds, h with
      | [_, _], _ => rfl)
    laidOut (N := 8) (by kernel_rfl) (by kernel_rfl) D.law4 hval hW
theorem over : Rows.fnPlayersRow.holds Try.pinned (OpenSpec.ofChange Rows.fnPlayersSpec) :=
  OpenClaim.holds_of_wide 4 Try.f4 rfl rfl rfl rfl rfl rfl rfl ⟨rfl, rfl, rfl, rfl, rfl⟩ rfl rfl rfl rfl rfl (by kernel_rfl) Try.func4 (by kernel_rfl)
    (of_decide_eq_true (by kernel_rfl)) (by unfold Func.isWrapper; first | (rw [if_pos (by decide +kernel)]; kernel_rfl) | (rw [if_neg (by decide +kernel)]; exact ⟨rfl, rfl⟩))
    (fun os started H enc _ => lifted os started H enc)
theorem proved : Rows.FnPlayersSaid := over
#print axioms proved
end Go.Proofs.Ytdejjalkfekjiaa.fnPlayers
namespace Go.Proofs.Ytdejjalkfekjiaa
/-- The row, under a short name, for the claim. -/
theorem fnPlayers_holds : Rows.FnPlayersSaid := fnPlayers.proved
end Go.Proofs.Ytdejjalkfekjiaa
end
