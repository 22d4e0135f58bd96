/- FnTaps holds: for every input the law returns true, and its arguments read as before. -/
import Derived.Test.YtdejjalkfekjiaaChecked
import Derived.Test.YtdejjalkfekjiaaDeskE
import Derived.KernelRfl
import Derived.Test.YtdejjalkfekjiaaRows
import Derived.WalkKit
import Derived.ProofKit
import Derived.OpenShut
import Derived.ShutString
import Derived.ChangeOld
import Derived.Below
import Derived.SizedLaws
set_option linter.all false
section
/- The tables of the reading: types and functions of the translation, with what is kept at each region's beginning (written by a program of this workplace). -/
namespace Go.Proofs.Ytdejjalkfekjiaa.D
open Go Go.Desk
def bodyOf (f : Func) : Code := match f.body with
  | some c => c
  | none => .skip
def tyTab : List (Nat × TD) := [
  (2, ⟨false, 1, 8, [.leaf], [.int .i64 0], .int .i64⟩),
  (3, ⟨false, 1, 8, [.leaf], [.int .i64 0], .int .i64⟩),
  (4, ⟨false, 1, 1, [.leaf], [.bool false], .bool⟩),
  (5, ⟨false, 1, 1, [.leaf], [.int .u8 0], .int .u8⟩),
  (22, ⟨false, 1, 24, [.sl .own [.leaf]], [.lst 0 []], .slc 5⟩),
  (27, ⟨false, 1, 24, [.sl .own [.leaf]], [.lst 0 []], .slc 33⟩),
  (33, ⟨false, 1, 4, [.leaf], [.flt .f32 0], .flt .f32⟩),
  (51, ⟨false, 1, 24, [.sl .own [.leaf, .leaf]], [.lst 0 []], .slc 130⟩),
  (58, ⟨false, 1, 24, [.sl .own [.leaf]], [.lst 0 []], .slc 2⟩),
  (63, ⟨false, 1, 8, [.leaf], [.int .u64 0], .int .u64⟩),
  (108, ⟨false, 1, 8, [.leaf], [.nil], .ptr 153⟩),
  (127, ⟨false, 1, 4, [.leaf], [.int .u32 0], .int .u32⟩),
  (130, ⟨true, 2, 16, [.leaf, .leaf], [.int .i64 0, .flt .f32 0], .st [(0, 2), (1, 33)]⟩),
  (151, ⟨false, 1, 8, [.leaf], [.int .u64 0], .int .u64⟩),
  (153, ⟨true, 3, 40, [.sl .own [.leaf], .leaf, .leaf], [.lst 0 [], .int .i64 0, .int .u64 0], .st [(0, 22), (1, 3), (2, 151)]⟩)]
noncomputable def c6 : Code := bodyOf Try.f6
noncomputable def c15 : Code := bodyOf Try.f15
noncomputable def c17 : Code := bodyOf Try.f17
noncomputable def c19 : Code := bodyOf Try.f19
noncomputable def c23 : Code := bodyOf Try.f23
noncomputable def c25 : Code := bodyOf Try.f25
noncomputable def c35 : Code := bodyOf Try.f35
noncomputable def c36 : Code := bodyOf Try.f36
noncomputable def c37 : Code := bodyOf Try.f37
noncomputable def c38 : Code := bodyOf Try.f38
noncomputable def c39 : Code := bodyOf Try.f39
noncomputable def c75 : Code := bodyOf Try.f75
noncomputable def c76 : Code := bodyOf Try.f76
noncomputable def c77 : Code := bodyOf Try.f77
noncomputable def c81 : Code := bodyOf Try.f81
noncomputable def c82 : Code := bodyOf Try.f82
noncomputable def c83 : Code := bodyOf Try.f83
noncomputable def c84 : Code := bodyOf Try.f84
noncomputable def c89 : Code := bodyOf Try.f89
noncomputable def c94 : Code := bodyOf Try.f94
noncomputable def c95 : Code := bodyOf Try.f95
noncomputable def c99 : Code := bodyOf Try.f99
noncomputable def c100 : Code := bodyOf Try.f100
noncomputable def c101 : Code := bodyOf Try.f101
noncomputable def c128 : Code := bodyOf Try.f128
noncomputable def c129 : Code := bodyOf Try.f129
noncomputable def c130 : Code := bodyOf Try.f130
noncomputable def c131 : Code := bodyOf Try.f131
noncomputable def c132 : Code := bodyOf Try.f132
noncomputable def fnTab : List (Nat × FD) := [
  (6, .code c6 [.val, .val] [] [(4, none)] [(0, [0, 1]), (1, [0, 1]), (2, []), (3, [0, 1]), (4, [0, 1, 5]), (5, [0, 1, 5, 6]), (6, [0, 1, 5, 6, 7]), (7, [0, 1, 5, 6, 7, 8]), (8, [0, 1, 5, 6, 7, 8, 9]), (9, [0, 1, 5, 6, 7, 8, 9, 10, 11, 12]), (10, [0, 1, 5, 6, 7, 8, 10, 11, 12, 13, 14, 15]), (11, [0, 1, 5, 6, 7, 10, 11, 12, 13, 15, 16, 17, 18]), (12, []), (13, [0, 1, 6, 7]), (14, [0, 1, 6, 7, 19]), (15, [0, 6, 7, 19, 20]), (16, [6, 7, 19, 20, 21]), (17, [6, 7, 19, 20, 21, 22, 23, 24]), (18, []), (19, [6, 7, 19, 20, 21, 22, 23]), (20, [6, 7, 19, 20, 22, 23, 25]), (21, [6, 7, 19, 20, 22, 23, 25, 26]), (22, [6, 7, 19, 20, 22, 23, 25, 26]), (23, [6, 7, 19, 20, 22, 23, 25, 26]), (24, []), (25, [6, 23, 25]), (1000021, [4, 6, 23, 25])]),
  (15, .code c15 [.val, .val] [] [(4, none)] [(0, [0, 1]), (1, [0, 1])]),
  (17, .code c17 [.val, .val, .val] [] [(6, none)] [(0, [0, 1, 2]), (1, [0, 1, 2]), (2, []), (3, [0, 1, 2]), (4, [0, 1, 2]), (5, [1, 2])]),
  (19, .code c19 [.val, .val] [] [(4, none)] [(0, [0, 1]), (1, [0, 1]), (2, [1, 5])]),
  (23, .code c23 [.val, .val] [] [(4, none)] [(0, [0, 1]), (1, [0, 1])]),
  (25, .code c25 [.val, .val] [] [(4, none)] [(0, [0, 1]), (1, [0, 1]), (2, []), (3, [0, 1]), (4, [0, 1, 5]), (5, [0, 1, 5]), (6, [0, 1, 5]), (7, []), (8, []), (1000004, [4])]),
  (35, .code c35 [.val] [] [(2, none)] [(0, [0]), (1, [0]), (2, [3]), (3, [3, 4]), (4, [3, 4, 5]), (5, [3, 4, 5]), (6, [3, 4, 5]), (7, [3, 4, 5, 6]), (8, [3, 4, 5, 6]), (9, [4]), (1000004, [4])]),
  (36, .code c36 [.val, .val, .val] [] [(6, none), (7, none), (8, none)] [(0, [0, 1, 2]), (1, [0, 1, 2]), (2, []), (3, [0, 1, 2]), (4, [0, 2, 9]), (5, [0, 2, 9, 10]), (6, [0, 2, 9, 10, 33, 34]), (7, [0, 2, 9, 10, 33, 34]), (8, [0, 2, 9, 10, 11, 33, 34]), (9, [0, 2, 9, 10, 11, 12, 33, 34]), (10, [0, 2, 9, 10, 11, 12, 33, 34, 37, 38, 39]), (11, [0, 2, 9, 10, 11, 12, 33, 34, 37, 38, 39]), (12, [0, 2, 9, 10, 11, 12, 14, 33, 34, 37, 38, 39]), (13, [0, 2, 9, 10, 11, 12, 33, 34, 37, 38, 39]), (14, [0, 2, 9, 10, 12, 33, 34]), (15, [0, 2, 9, 10, 33, 34]), (16, [2, 9, 10]), (1000006, [2, 9, 10]), (1000010, [0, 2, 9, 10, 12, 33, 34, 56, 61])]),
  (37, .code c37 [.val] [] [(2, none)] [(0, [0]), (1, [0]), (2, []), (3, [0]), (4, [0, 8, 9, 10]), (5, [0, 8, 9, 10]), (6, [0, 4, 8, 9, 10]), (7, []), (8, [0, 8, 9, 10]), (9, []), (1000004, [2])]),
  (38, .code c38 [.val] [] [(2, none)] [(0, [0]), (1, [0]), (2, [3])]),
  (39, .code c39 [.val, .val, .val, .val, .val] [] [(10, none), (11, none), (12, none)] [(0, [0, 1, 2, 3, 4]), (1, [0, 1, 2, 3, 4]), (2, [0, 1, 2, 3, 4, 13]), (3, []), (4, [0, 1, 2, 3, 4, 13]), (5, [0, 1, 3, 4, 13, 14]), (6, [0, 1, 3, 4, 13, 14, 15]), (7, [0, 1, 3, 4, 13, 14, 15, 50, 51, 52]), (8, [0, 1, 3, 4, 13, 14, 15, 50, 51, 52]), (9, [0, 1, 3, 4, 13, 14, 15, 16, 17, 50, 51, 52]), (10, [0, 1, 3, 4, 13, 14, 15, 17, 18, 50, 51, 52]), (11, [0, 1, 3, 4, 13, 14, 15, 17, 50, 51, 52]), (12, [0, 1, 3, 4, 13, 14, 15, 50, 51, 52]), (13, [14, 15]), (1000007, [14, 15])]),
  (75, .code c75 [.val] [] [(2, none)] [(0, [0]), (1, [0])]),
  (76, .code c76 [.iop, .val] [0] [(4, none)] [(0, [0, 1]), (1, [0, 1]), (2, [0]), (3, [0, 1]), (4, [0, 1, 5]), (5, [0, 1, 5]), (6, [0, 1, 5])]),
  (77, .code c77 [.iop] [0] [(2, none)] [(0, [0]), (1, [0]), (2, [0, 3]), (3, [0, 3]), (4, [0, 3])]),
  (81, .code c81 [.iop, .val] [0] [(4, none)] [(0, [0, 1]), (1, [0, 1]), (2, [0, 1, 5]), (3, [0, 1, 5, 6]), (4, [0, 1, 5, 6]), (5, [0, 1, 5, 6]), (6, [0, 1, 5, 6]), (7, [0, 1, 5, 6]), (8, [0, 5]), (1000003, [0, 5])]),
  (82, .code c82 [.val] [] [(2, none)] [(0, [0]), (1, [0])]),
  (83, .code c83 [.val, .val, .val] [] [(6, none)] [(0, [0, 1, 2]), (1, [0, 1, 2])]),
  (84, .code c84 [.val, .val] [] [(4, none)] [(0, [0, 1]), (1, [0, 1])]),
  (89, .code c89 [.val, .val, .val] [] [(6, none)] [(0, [0, 1, 2]), (1, [0, 1, 2]), (2, [0, 1, 2, 9, 10, 11]), (3, [0, 1, 2, 9, 10, 11]), (4, [0, 1, 2, 8, 9, 10, 11]), (5, []), (6, [0, 1, 2, 9, 10, 11]), (7, []), (1000002, [6])]),
  (94, .code c94 [.val] [] [(2, none)] [(0, [0]), (1, [0])]),
  (95, .code c95 [.val] [] [(2, none)] [(0, [0]), (1, [0])]),
  (98, .ext (pF32bits)),
  (99, .code c99 [.iop] [0] [(2, none)] [(0, [0]), (1, [0]), (2, [0]), (3, [0]), (4, [0, 10]), (5, [0]), (6, [0, 10]), (7, [0]), (8, [0, 3]), (9, [0, 10]), (10, [0]), (11, [0])]),
  (100, .code c100 [.val] [] [(2, none)] [(0, [0]), (1, [0])]),
  (101, .code c101 [.val, .val] [] [(4, none)] [(0, [0, 1]), (1, [0, 1])]),
  (128, .code c128 [.iop] [0] [(2, none)] [(0, [0]), (1, [0]), (2, [0, 3]), (3, [0]), (4, [0, 3]), (5, [0, 3]), (6, [0, 3]), (7, [0, 3]), (8, [0])]),
  (129, .code c129 [.iop, .val] [0] [(4, none)] [(0, [0, 1]), (1, [0, 1])]),
  (130, .code c130 [.val] [] [(2, none)] [(0, [0]), (1, [0]), (2, []), (3, [0])]),
  (131, .code c131 [.val] [] [(2, none)] [(0, [0]), (1, [0])]),
  (132, .code c132 [.iop, .io] [0, 1] [(4, none)] [(0, [0, 1]), (1, [0, 1])]),
  (140, .ext (pF32frombits))]
noncomputable def E : Env := ⟨fun t => lookT tyTab t, lookF fnTab⟩
noncomputable def fdAt (n : Nat) : FD := match lookF fnTab n with
  | some d => d
  | none => .ext fun _ => none
noncomputable def keepAt (n : Nat) : List (Nat × List Nat) := match lookF fnTab n with
  | some d => d.keep
  | none => []
theorem tysOk : TysOk Try.prog E := tysOk_of (l := tyTab) (fun _ => rfl) (by kernel_rfl)
theorem ft6 : FnTab Try.prog E 6 (fdAt 6) := fnTab_code (c := c6) (modes := (fdAt 6).ms) (outs := (fdAt 6).os) (results := (fdAt 6).rs) (keep := (fdAt 6).keep) Try.func6 (by kernel_rfl) (by kernel_rfl) (by kernel_rfl)
theorem ft15 : FnTab Try.prog E 15 (fdAt 15) := fnTab_code (c := c15) (modes := (fdAt 15).ms) (outs := (fdAt 15).os) (results := (fdAt 15).rs) (keep := (fdAt 15).keep) Try.func15 (by kernel_rfl) (by kernel_rfl) (by kernel_rfl)
theorem ft17 : FnTab Try.prog E 17 (fdAt 17) := fnTab_code (c := c17) (modes := (fdAt 17).ms) (outs := (fdAt 17).os) (results := (fdAt 17).rs) (keep := (fdAt 17).keep) Try.func17 (by kernel_rfl) (by kernel_rfl) (by kernel_rfl)
theorem ft19 : FnTab Try.prog E 19 (fdAt 19) := fnTab_code (c := c19) (modes := (fdAt 19).ms) (outs := (fdAt 19).os) (results := (fdAt 19).rs) (keep := (fdAt 19).keep) Try.func19 (by kernel_rfl) (by kernel_rfl) (by kernel_rfl)
theorem ft23 : FnTab Try.prog E 23 (fdAt 23) := fnTab_code (c := c23) (modes := (fdAt 23).ms) (outs := (fdAt 23).os) (results := (fdAt 23).rs) (keep := (fdAt 23).keep) Try.func23 (by kernel_rfl) (by kernel_rfl) (by kernel_rfl)
theorem ft25 : FnTab Try.prog E 25 (fdAt 25) := fnTab_code (c := c25) (modes := (fdAt 25).ms) (outs := (fdAt 25).os) (results := (fdAt 25).rs) (keep := (fdAt 25).keep) Try.func25 (by kernel_rfl) (by kernel_rfl) (by kernel_rfl)
theorem ft35 : FnTab Try.prog E 35 (fdAt 35) := fnTab_code (c := c35) (modes := (fdAt 35).ms) (outs := (fdAt 35).os) (results := (fdAt 35).rs) (keep := (fdAt 35).keep) Try.func35 (by kernel_rfl) (by kernel_rfl) (by kernel_rfl)
theorem ft36 : FnTab Try.prog E 36 (fdAt 36) := fnTab_code (c := c36) (modes := (fdAt 36).ms) (outs := (fdAt 36).os) (results := (fdAt 36).rs) (keep := (fdAt 36).keep) Try.func36 (by kernel_rfl) (by kernel_rfl) (by kernel_rfl)
theorem ft37 : FnTab Try.prog E 37 (fdAt 37) := fnTab_code (c := c37) (modes := (fdAt 37).ms) (outs := (fdAt 37).os) (results := (fdAt 37).rs) (keep := (fdAt 37).keep) Try.func37 (by kernel_rfl) (by kernel_rfl) (by kernel_rfl)
theorem ft38 : FnTab Try.prog E 38 (fdAt 38) := fnTab_code (c := c38) (modes := (fdAt 38).ms) (outs := (fdAt 38).os) (results := (fdAt 38).rs) (keep := (fdAt 38).keep) Try.func38 (by kernel_rfl) (by kernel_rfl) (by kernel_rfl)
theorem ft39 : FnTab Try.prog E 39 (fdAt 39) := fnTab_code (c := c39) (modes := (fdAt 39).ms) (outs := (fdAt 39).os) (results := (fdAt 39).rs) (keep := (fdAt 39).keep) Try.func39 (by kernel_rfl) (by kernel_rfl) (by kernel_rfl)
theorem ft75 : FnTab Try.prog E 75 (fdAt 75) := fnTab_code (c := c75) (modes := (fdAt 75).ms) (outs := (fdAt 75).os) (results := (fdAt 75).rs) (keep := (fdAt 75).keep) Try.func75 (by kernel_rfl) (by kernel_rfl) (by kernel_rfl)
theorem ft76 : FnTab Try.prog E 76 (fdAt 76) := fnTab_code (c := c76) (modes := (fdAt 76).ms) (outs := (fdAt 76).os) (results := (fdAt 76).rs) (keep := (fdAt 76).keep) Try.func76 (by kernel_rfl) (by kernel_rfl) (by kernel_rfl)
theorem ft77 : FnTab Try.prog E 77 (fdAt 77) := fnTab_code (c := c77) (modes := (fdAt 77).ms) (outs := (fdAt 77).os) (results := (fdAt 77).rs) (keep := (fdAt 77).keep) Try.func77 (by kernel_rfl) (by kernel_rfl) (by kernel_rfl)
theorem ft81 : FnTab Try.prog E 81 (fdAt 81) := fnTab_code (c := c81) (modes := (fdAt 81).ms) (outs := (fdAt 81).os) (results := (fdAt 81).rs) (keep := (fdAt 81).keep) Try.func81 (by kernel_rfl) (by kernel_rfl) (by kernel_rfl)
theorem ft82 : FnTab Try.prog E 82 (fdAt 82) := fnTab_code (c := c82) (modes := (fdAt 82).ms) (outs := (fdAt 82).os) (results := (fdAt 82).rs) (keep := (fdAt 82).keep) Try.func82 (by kernel_rfl) (by kernel_rfl) (by kernel_rfl)
theorem ft83 : FnTab Try.prog E 83 (fdAt 83) := fnTab_code (c := c83) (modes := (fdAt 83).ms) (outs := (fdAt 83).os) (results := (fdAt 83).rs) (keep := (fdAt 83).keep) Try.func83 (by kernel_rfl) (by kernel_rfl) (by kernel_rfl)
theorem ft84 : FnTab Try.prog E 84 (fdAt 84) := fnTab_code (c := c84) (modes := (fdAt 84).ms) (outs := (fdAt 84).os) (results := (fdAt 84).rs) (keep := (fdAt 84).keep) Try.func84 (by kernel_rfl) (by kernel_rfl) (by kernel_rfl)
theorem ft89 : FnTab Try.prog E 89 (fdAt 89) := fnTab_code (c := c89) (modes := (fdAt 89).ms) (outs := (fdAt 89).os) (results := (fdAt 89).rs) (keep := (fdAt 89).keep) Try.func89 (by kernel_rfl) (by kernel_rfl) (by kernel_rfl)
theorem ft94 : FnTab Try.prog E 94 (fdAt 94) := fnTab_code (c := c94) (modes := (fdAt 94).ms) (outs := (fdAt 94).os) (results := (fdAt 94).rs) (keep := (fdAt 94).keep) Try.func94 (by kernel_rfl) (by kernel_rfl) (by kernel_rfl)
theorem ft95 : FnTab Try.prog E 95 (fdAt 95) := fnTab_code (c := c95) (modes := (fdAt 95).ms) (outs := (fdAt 95).os) (results := (fdAt 95).rs) (keep := (fdAt 95).keep) Try.func95 (by kernel_rfl) (by kernel_rfl) (by kernel_rfl)
theorem ft98 : FnTab Try.prog E 98 (.ext (pF32bits)) := ext_pF32bits Try.func98 (by kernel_rfl) (by kernel_rfl) (by kernel_rfl) (by kernel_rfl)
theorem ft99 : FnTab Try.prog E 99 (fdAt 99) := fnTab_code (c := c99) (modes := (fdAt 99).ms) (outs := (fdAt 99).os) (results := (fdAt 99).rs) (keep := (fdAt 99).keep) Try.func99 (by kernel_rfl) (by kernel_rfl) (by kernel_rfl)
theorem ft100 : FnTab Try.prog E 100 (fdAt 100) := fnTab_code (c := c100) (modes := (fdAt 100).ms) (outs := (fdAt 100).os) (results := (fdAt 100).rs) (keep := (fdAt 100).keep) Try.func100 (by kernel_rfl) (by kernel_rfl) (by kernel_rfl)
theorem ft101 : FnTab Try.prog E 101 (fdAt 101) := fnTab_code (c := c101) (modes := (fdAt 101).ms) (outs := (fdAt 101).os) (results := (fdAt 101).rs) (keep := (fdAt 101).keep) Try.func101 (by kernel_rfl) (by kernel_rfl) (by kernel_rfl)
theorem ft128 : FnTab Try.prog E 128 (fdAt 128) := fnTab_code (c := c128) (modes := (fdAt 128).ms) (outs := (fdAt 128).os) (results := (fdAt 128).rs) (keep := (fdAt 128).keep) Try.func128 (by kernel_rfl) (by kernel_rfl) (by kernel_rfl)
theorem ft129 : FnTab Try.prog E 129 (fdAt 129) := fnTab_code (c := c129) (modes := (fdAt 129).ms) (outs := (fdAt 129).os) (results := (fdAt 129).rs) (keep := (fdAt 129).keep) Try.func129 (by kernel_rfl) (by kernel_rfl) (by kernel_rfl)
theorem ft130 : FnTab Try.prog E 130 (fdAt 130) := fnTab_code (c := c130) (modes := (fdAt 130).ms) (outs := (fdAt 130).os) (results := (fdAt 130).rs) (keep := (fdAt 130).keep) Try.func130 (by kernel_rfl) (by kernel_rfl) (by kernel_rfl)
theorem ft131 : FnTab Try.prog E 131 (fdAt 131) := fnTab_code (c := c131) (modes := (fdAt 131).ms) (outs := (fdAt 131).os) (results := (fdAt 131).rs) (keep := (fdAt 131).keep) Try.func131 (by kernel_rfl) (by kernel_rfl) (by kernel_rfl)
theorem ft132 : FnTab Try.prog E 132 (fdAt 132) := fnTab_code (c := c132) (modes := (fdAt 132).ms) (outs := (fdAt 132).os) (results := (fdAt 132).rs) (keep := (fdAt 132).keep) Try.func132 (by kernel_rfl) (by kernel_rfl) (by kernel_rfl)
theorem ft140 : FnTab Try.prog E 140 (.ext (pF32frombits)) := ext_pF32frombits Try.func140 (by kernel_rfl) (by kernel_rfl) (by kernel_rfl) (by kernel_rfl)
theorem allFns : AllFns Try.prog E fnTab := .cons ft6 (.cons ft15 (.cons ft17 (.cons ft19 (.cons ft23 (.cons ft25 (.cons ft35 (.cons ft36 (.cons ft37 (.cons ft38 (.cons ft39 (.cons ft75 (.cons ft76 (.cons ft77 (.cons ft81 (.cons ft82 (.cons ft83 (.cons ft84 (.cons ft89 (.cons ft94 (.cons ft95 (.cons ft98 (.cons ft99 (.cons ft100 (.cons ft101 (.cons ft128 (.cons ft129 (.cons ft130 (.cons ft131 (.cons ft132 (.cons ft140 (.nil)))))))))))))))))))))))))))))))
theorem fnOk : ∀ f fd, E.fn f = some fd → FnTab Try.prog E f fd := fnTab_of (l := fnTab) (fun _ => rfl) allFns
end Go.Proofs.Ytdejjalkfekjiaa.D
end
section
/- Plain functions for the law's Go functions, each tied to the reading by the kernel (printed by a program of this workplace). -/
namespace Go.Proofs.Ytdejjalkfekjiaa.D
open Go Go.Desk
set_option linter.unusedVariables false
noncomputable def x140.w : FnW E := xF32frombits.w 140 (by kernel_rfl)

noncomputable def x98.w : FnW E := xF32bits.w 98 (by kernel_rfl)

def f15_l_b10Long : Nat → Nat → List T → Nat → List T → Option (Bool)
  | 0, _, _, _, _ => none
  | n + 1, n1, l2, n3, l4 =>
    br (decide (((n1 : Nat) : Int) > (1048576 : Int))) (
     some true) (
     some (decide (((n3 : Nat) : Int) > (1048576 : Int))))
def sg_ll : Sig (Nat × List T × Nat × List T) where
  pk := fun v => [.lst v.1 v.2.1, .lst v.2.2.1 v.2.2.2]
  up := fun ls => match ls with
    | [.lst a0 a1, .lst a2 a3] => some (a0, a1, a2, a3)
    | _ => none
  ok := by
    intro ls v h
    split at h
    · cases h; rfl
    · cases h

def sg_b : Sig (Bool) where
  pk := fun v => [.bool v]
  up := fun ls => match ls with
    | [.bool a0] => some a0
    | _ => none
  ok := by
    intro ls v h
    split at h
    · cases h; rfl
    · cases h

def f15_l_b10Long.P : List Arg := [⟨.val, ⟨false, [.sl .shr [.leaf]], [.lst 0 []]⟩⟩, ⟨.val, ⟨false, [.sl .shr [.leaf]], [.lst 0 []]⟩⟩]
def f15_l_b10Long.A : RAlt (Bool) := .one ⟨[⟨false, [.leaf], [.bool false]⟩], [none, none]⟩ sg_b
def f15_l_b10Long.F (n : Nat) (v : Nat × List T × Nat × List T) := f15_l_b10Long n v.1 v.2.1 v.2.2.1 v.2.2.2
noncomputable def f15_l_b10Long.O (n : Nat) : Orc := orcOf (E := E) [] [] n
theorem f15_l_b10Long.ok : ∀ n v x, f15_l_b10Long.F n v = some x → evalFn E n 15 (flAs f15_l_b10Long.P (sg_ll.pk v)) = some (f15_l_b10Long.A.enc x) :=
  fn_pure (modes := (fdAt 15).ms) (outs := (fdAt 15).os) (results := (fdAt 15).rs) f15_l_b10Long.O (c := c15) (keep := keepAt 15) (by kernel_rfl) (fun n => orcOf_cf _ _ n) (fun n => lpOk_of (bs := []) (by kernel_rfl) .nil) (fun _ => rfl) (fun _ _ => by kernel_rfl)
noncomputable def f15_l_b10Long.w : FnW E := fnW 15 f15_l_b10Long.P sg_ll f15_l_b10Long.A f15_l_b10Long.F f15_l_b10Long.ok

def f75_s_l00From : Nat → Nat → List T → Option (Nat × List T × Int × Int)
  | 0, _, _ => none
  | n + 1, n1, l2 =>
    some (n1, l2, (0 : Int), (0 : Int))
def sg_l : Sig (Nat × List T) where
  pk := fun v => [.lst v.1 v.2]
  up := fun ls => match ls with
    | [.lst a0 a1] => some (a0, a1)
    | _ => none
  ok := by
    intro ls v h
    split at h
    · cases h; rfl
    · cases h

def sg_lii : Sig (Nat × List T × Int × Int) where
  pk := fun v => [.lst v.1 v.2.1, .int v.2.2.1, .int v.2.2.2]
  up := fun ls => match ls with
    | [.lst a0 a1, .int a2, .int a3] => some (a0, a1, a2, a3)
    | _ => none
  ok := by
    intro ls v h
    split at h
    · cases h; rfl
    · cases h

def f75_s_l00From.P : List Arg := [⟨.val, ⟨false, [.sl .shr [.leaf]], [.lst 0 []]⟩⟩]
def f75_s_l00From.A : RAlt (Nat × List T × Int × Int) := .one ⟨[⟨false, [.rf .own [.sl .shr [.leaf], .leaf, .leaf]], [.ref [.lst 0 [], .int .i64 0, .int .u64 0]]⟩], [none]⟩ sg_lii
def f75_s_l00From.F (n : Nat) (v : Nat × List T) := f75_s_l00From n v.1 v.2
noncomputable def f75_s_l00From.O (n : Nat) : Orc := orcOf (E := E) [] [] n
theorem f75_s_l00From.ok : ∀ n v x, f75_s_l00From.F n v = some x → evalFn E n 75 (flAs f75_s_l00From.P (sg_l.pk v)) = some (f75_s_l00From.A.enc x) :=
  fn_pure (modes := (fdAt 75).ms) (outs := (fdAt 75).os) (results := (fdAt 75).rs) f75_s_l00From.O (c := c75) (keep := keepAt 75) (by kernel_rfl) (fun n => orcOf_cf _ _ n) (fun n => lpOk_of (bs := []) (by kernel_rfl) .nil) (fun _ => rfl) (fun _ _ => by kernel_rfl)
noncomputable def f75_s_l00From.w : FnW E := fnW 75 f75_s_l00From.P sg_l f75_s_l00From.A f75_s_l00From.F f75_s_l00From.ok

def f128_s_l00Srcnext : Nat → Nat → List T → Int → Int → Option (Int × Nat × List T × Int × Int)
  | 0, _, _, _, _ => none
  | n + 1, n1, l2, i3, i4 =>
    br (decide (i3 < ((n1 : Nat) : Int))) (
     gd ((decide (((0 : Int) ≤ i3) ∧ (i3 < ((n1 : Nat) : Int)))) && (okAt [(CK.int IntKind.u8)] l2 (Int.toNat i3))) (
     let i5 : Int := (IntKind.i64.wrap (iAt l2 (Int.toNat i3)))
     let i6 : Int := (IntKind.i64.wrap (i3 + (1 : Int)))
     let i7 : Int := (IntKind.u64.wrap ((IntKind.u64.wrap ((IntKind.u64.wrap (i4 * (6364136223846793005 : Int))) + (IntKind.u64.wrap i5))) + (1442695040888963407 : Int)))
     br (decide (i6 ≤ ((n1 : Nat) : Int))) (
      some (i5, n1, l2, i6, i7)) (
      some ((IntKind.i64.wrap (intBits BinOp.and IntKind.u64 (Int.fdiv i7 (1099511627776 : Int)) (255 : Int))), n1, l2, i6, i7)))) (
     let i8 : Int := (IntKind.i64.wrap (i3 + (1 : Int)))
     let i9 : Int := (IntKind.u64.wrap ((IntKind.u64.wrap ((IntKind.u64.wrap (i4 * (6364136223846793005 : Int))) + (0 : Int))) + (1442695040888963407 : Int)))
     br (decide (i8 ≤ ((n1 : Nat) : Int))) (
      some ((0 : Int), n1, l2, i8, i9)) (
      some ((IntKind.i64.wrap (intBits BinOp.and IntKind.u64 (Int.fdiv i9 (1099511627776 : Int)) (255 : Int))), n1, l2, i8, i9)))
def sg_ilii : Sig (Int × Nat × List T × Int × Int) where
  pk := fun v => [.int v.1, .lst v.2.1 v.2.2.1, .int v.2.2.2.1, .int v.2.2.2.2]
  up := fun ls => match ls with
    | [.int a0, .lst a1 a2, .int a3, .int a4] => some (a0, a1, a2, a3, a4)
    | _ => none
  ok := by
    intro ls v h
    split at h
    · cases h; rfl
    · cases h

def f128_s_l00Srcnext.P : List Arg := [⟨.iop, ⟨false, [.rf .own [.sl .shr [.leaf], .leaf, .leaf]], [.ref [.lst 0 [], .int .i64 0, .int .u64 0]]⟩⟩]
def f128_s_l00Srcnext.A : RAlt (Int × Nat × List T × Int × Int) := .one ⟨[⟨false, [.leaf], [.int .i64 0]⟩], [some ⟨false, [.rf .own [.sl .shr [.leaf], .leaf, .leaf]], [.ref [.lst 0 [], .int .i64 0, .int .u64 0]]⟩]⟩ sg_ilii
def f128_s_l00Srcnext.F (n : Nat) (v : Nat × List T × Int × Int) := f128_s_l00Srcnext n v.1 v.2.1 v.2.2.1 v.2.2.2
noncomputable def f128_s_l00Srcnext.O (n : Nat) : Orc := orcOf (E := E) [] [] n
theorem f128_s_l00Srcnext.ok : ∀ n v x, f128_s_l00Srcnext.F n v = some x → evalFn E n 128 (flAs f128_s_l00Srcnext.P (sg_lii.pk v)) = some (f128_s_l00Srcnext.A.enc x) :=
  fn_pure (modes := (fdAt 128).ms) (outs := (fdAt 128).os) (results := (fdAt 128).rs) f128_s_l00Srcnext.O (c := c128) (keep := keepAt 128) (by kernel_rfl) (fun n => orcOf_cf _ _ n) (fun n => lpOk_of (bs := []) (by kernel_rfl) .nil) (fun _ => rfl) (fun _ _ => by kernel_rfl)
noncomputable def f128_s_l00Srcnext.w : FnW E := fnW 128 f128_s_l00Srcnext.P sg_lii f128_s_l00Srcnext.A f128_s_l00Srcnext.F f128_s_l00Srcnext.ok

def f76_s_l00Srcpick : Nat → Nat → List T → Int → Int → Int → Option (Int × Nat × List T × Int × Int)
  | 0, _, _, _, _, _ => none
  | n + 1, n1, l2, i3, i4, i5 =>
    br (decide (i5 ≤ (1 : Int))) (
     some ((0 : Int), n1, l2, i3, i4)) (
     bd (f128_s_l00Srcnext n n1 l2 i3 i4) fun r6 =>
     let i7 : Int := r6.1
     let n8 : Nat := r6.2.1
     let l9 : List T := r6.2.2.1
     let i10 : Int := r6.2.2.2.1
     let i11 : Int := r6.2.2.2.2
     br (decide (i5 > (200 : Int))) (
      bd (f128_s_l00Srcnext n n8 l9 i10 i11) fun r12 =>
      let i13 : Int := r12.1
      let n14 : Nat := r12.2.1
      let l15 : List T := r12.2.2.1
      let i16 : Int := r12.2.2.2.1
      let i17 : Int := r12.2.2.2.2
      let i18 : Int := (IntKind.i64.wrap ((IntKind.i64.wrap (i7 * (256 : Int))) + i13))
      gd (!(decide (i5 = (0 : Int)))) (
      some ((Int.tmod i18 i5), n14, l15, i16, i17))) (
      gd (!(decide (i5 = (0 : Int)))) (
      some ((Int.tmod i7 i5), n8, l9, i10, i11))))
def sg_liii : Sig (Nat × List T × Int × Int × Int) where
  pk := fun v => [.lst v.1 v.2.1, .int v.2.2.1, .int v.2.2.2.1, .int v.2.2.2.2]
  up := fun ls => match ls with
    | [.lst a0 a1, .int a2, .int a3, .int a4] => some (a0, a1, a2, a3, a4)
    | _ => none
  ok := by
    intro ls v h
    split at h
    · cases h; rfl
    · cases h

def f76_s_l00Srcpick.P : List Arg := [⟨.iop, ⟨false, [.rf .own [.sl .shr [.leaf], .leaf, .leaf]], [.ref [.lst 0 [], .int .i64 0, .int .u64 0]]⟩⟩, ⟨.val, ⟨false, [.leaf], [.int .i64 0]⟩⟩]
def f76_s_l00Srcpick.A : RAlt (Int × Nat × List T × Int × Int) := .one ⟨[⟨false, [.leaf], [.int .i64 0]⟩], [some ⟨false, [.rf .own [.sl .shr [.leaf], .leaf, .leaf]], [.ref [.lst 0 [], .int .i64 0, .int .u64 0]]⟩, none]⟩ sg_ilii
def f76_s_l00Srcpick.F (n : Nat) (v : Nat × List T × Int × Int × Int) := f76_s_l00Srcpick n v.1 v.2.1 v.2.2.1 v.2.2.2.1 v.2.2.2.2
noncomputable def f76_s_l00Srcpick.O (n : Nat) : Orc := orcOf (E := E) [f128_s_l00Srcnext.w] [] n
theorem f76_s_l00Srcpick.ok : ∀ n v x, f76_s_l00Srcpick.F n v = some x → evalFn E n 76 (flAs f76_s_l00Srcpick.P (sg_liii.pk v)) = some (f76_s_l00Srcpick.A.enc x) :=
  fn_pure (modes := (fdAt 76).ms) (outs := (fdAt 76).os) (results := (fdAt 76).rs) f76_s_l00Srcpick.O (c := c76) (keep := keepAt 76) (by kernel_rfl) (fun n => orcOf_cf _ _ n) (fun n => lpOk_of (bs := []) (by kernel_rfl) .nil) (fun _ => rfl) (fun _ _ => by kernel_rfl)
noncomputable def f76_s_l00Srcpick.w : FnW E := fnW 76 f76_s_l00Srcpick.P sg_liii f76_s_l00Srcpick.A f76_s_l00Srcpick.F f76_s_l00Srcpick.ok

def f129_s_l00Srcone : Nat → Nat → List T → Int → Int → Int → Option (Bool × Nat × List T × Int × Int)
  | 0, _, _, _, _, _ => none
  | n + 1, n1, l2, i3, i4, i5 =>
    bd (f76_s_l00Srcpick n n1 l2 i3 i4 i5) fun r6 =>
    let i7 : Int := r6.1
    let n8 : Nat := r6.2.1
    let l9 : List T := r6.2.2.1
    let i10 : Int := r6.2.2.2.1
    let i11 : Int := r6.2.2.2.2
    some ((i7 == (0 : Int)), n8, l9, i10, i11)
def sg_blii : Sig (Bool × Nat × List T × Int × Int) where
  pk := fun v => [.bool v.1, .lst v.2.1 v.2.2.1, .int v.2.2.2.1, .int v.2.2.2.2]
  up := fun ls => match ls with
    | [.bool a0, .lst a1 a2, .int a3, .int a4] => some (a0, a1, a2, a3, a4)
    | _ => none
  ok := by
    intro ls v h
    split at h
    · cases h; rfl
    · cases h

def f129_s_l00Srcone.P : List Arg := [⟨.iop, ⟨false, [.rf .own [.sl .shr [.leaf], .leaf, .leaf]], [.ref [.lst 0 [], .int .i64 0, .int .u64 0]]⟩⟩, ⟨.val, ⟨false, [.leaf], [.int .i64 0]⟩⟩]
def f129_s_l00Srcone.A : RAlt (Bool × Nat × List T × Int × Int) := .one ⟨[⟨false, [.leaf], [.bool false]⟩], [some ⟨false, [.rf .own [.sl .shr [.leaf], .leaf, .leaf]], [.ref [.lst 0 [], .int .i64 0, .int .u64 0]]⟩, none]⟩ sg_blii
def f129_s_l00Srcone.F (n : Nat) (v : Nat × List T × Int × Int × Int) := f129_s_l00Srcone n v.1 v.2.1 v.2.2.1 v.2.2.2.1 v.2.2.2.2
noncomputable def f129_s_l00Srcone.O (n : Nat) : Orc := orcOf (E := E) [f76_s_l00Srcpick.w] [] n
theorem f129_s_l00Srcone.ok : ∀ n v x, f129_s_l00Srcone.F n v = some x → evalFn E n 129 (flAs f129_s_l00Srcone.P (sg_liii.pk v)) = some (f129_s_l00Srcone.A.enc x) :=
  fn_pure (modes := (fdAt 129).ms) (outs := (fdAt 129).os) (results := (fdAt 129).rs) f129_s_l00Srcone.O (c := c129) (keep := keepAt 129) (by kernel_rfl) (fun n => orcOf_cf _ _ n) (fun n => lpOk_of (bs := []) (by kernel_rfl) .nil) (fun _ => rfl) (fun _ _ => by kernel_rfl)
noncomputable def f129_s_l00Srcone.w : FnW E := fnW 129 f129_s_l00Srcone.P sg_liii f129_s_l00Srcone.A f129_s_l00Srcone.F f129_s_l00Srcone.ok

def f77_s_l01DrawPlain : Nat → Nat → List T → Int → Int → Option (Nat × Nat × List T × Int × Int)
  | 0, _, _, _, _ => none
  | n + 1, n1, l2, i3, i4 =>
    bd (f76_s_l00Srcpick n n1 l2 i3 i4 (129 : Int)) fun r5 =>
    let i6 : Int := r5.1
    let n7 : Nat := r5.2.1
    let l8 : List T := r5.2.2.1
    let i9 : Int := r5.2.2.2.1
    let i10 : Int := r5.2.2.2.2
    let i11 : Int := (IntKind.i64.wrap (i6 - (64 : Int)))
    bd (f129_s_l00Srcone n n7 l8 i9 i10 (4 : Int)) fun r12 =>
    let b13 : Bool := r12.1
    let n14 : Nat := r12.2.1
    let l15 : List T := r12.2.2.1
    let i16 : Int := r12.2.2.2.1
    let i17 : Int := r12.2.2.2.2
    br b13 (
     some ((fdiv FloatKind.f32 (FloatKind.nearest FloatKind.f32 i11) 1088421888), n14, l15, i16, i17)) (
     some ((fdiv FloatKind.f32 (FloatKind.nearest FloatKind.f32 i11) 1098907648), n14, l15, i16, i17))
def sg_flii : Sig (Nat × Nat × List T × Int × Int) where
  pk := fun v => [.flt v.1, .lst v.2.1 v.2.2.1, .int v.2.2.2.1, .int v.2.2.2.2]
  up := fun ls => match ls with
    | [.flt a0, .lst a1 a2, .int a3, .int a4] => some (a0, a1, a2, a3, a4)
    | _ => none
  ok := by
    intro ls v h
    split at h
    · cases h; rfl
    · cases h

def f77_s_l01DrawPlain.P : List Arg := [⟨.iop, ⟨false, [.rf .own [.sl .shr [.leaf], .leaf, .leaf]], [.ref [.lst 0 [], .int .i64 0, .int .u64 0]]⟩⟩]
def f77_s_l01DrawPlain.A : RAlt (Nat × Nat × List T × Int × Int) := .one ⟨[⟨false, [.leaf], [.flt .f32 0]⟩], [some ⟨false, [.rf .own [.sl .shr [.leaf], .leaf, .leaf]], [.ref [.lst 0 [], .int .i64 0, .int .u64 0]]⟩]⟩ sg_flii
def f77_s_l01DrawPlain.F (n : Nat) (v : Nat × List T × Int × Int) := f77_s_l01DrawPlain n v.1 v.2.1 v.2.2.1 v.2.2.2
noncomputable def f77_s_l01DrawPlain.O (n : Nat) : Orc := orcOf (E := E) [f76_s_l00Srcpick.w, f129_s_l00Srcone.w] [] n
theorem f77_s_l01DrawPlain.ok : ∀ n v x, f77_s_l01DrawPlain.F n v = some x → evalFn E n 77 (flAs f77_s_l01DrawPlain.P (sg_lii.pk v)) = some (f77_s_l01DrawPlain.A.enc x) :=
  fn_pure (modes := (fdAt 77).ms) (outs := (fdAt 77).os) (results := (fdAt 77).rs) f77_s_l01DrawPlain.O (c := c77) (keep := keepAt 77) (by kernel_rfl) (fun n => orcOf_cf _ _ n) (fun n => lpOk_of (bs := []) (by kernel_rfl) .nil) (fun _ => rfl) (fun _ _ => by kernel_rfl)
noncomputable def f77_s_l01DrawPlain.w : FnW E := fnW 77 f77_s_l01DrawPlain.P sg_lii f77_s_l01DrawPlain.A f77_s_l01DrawPlain.F f77_s_l01DrawPlain.ok

def f132_s_l00Srcamong : Nat → Nat → List T → Int → Int → Nat → List T → Option (Int × Nat × List T × Int × Int × Nat × List T)
  | 0, _, _, _, _, _, _ => none
  | n + 1, n1, l2, i3, i4, n5, l6 =>
    bd (f76_s_l00Srcpick n n1 l2 i3 i4 ((n5 : Nat) : Int)) fun r7 =>
    let i8 : Int := r7.1
    let n9 : Nat := r7.2.1
    let l10 : List T := r7.2.2.1
    let i11 : Int := r7.2.2.2.1
    let i12 : Int := r7.2.2.2.2
    gd (decide (((0 : Int) ≤ i8) ∧ (i8 < ((n5 : Nat) : Int)))) (
    gd (okAt [(CK.int IntKind.i64)] l6 (Int.toNat i8)) (
    some ((iAt l6 (Int.toNat i8)), n9, l10, i11, i12, n5, l6)))
def sg_liil : Sig (Nat × List T × Int × Int × Nat × List T) where
  pk := fun v => [.lst v.1 v.2.1, .int v.2.2.1, .int v.2.2.2.1, .lst v.2.2.2.2.1 v.2.2.2.2.2]
  up := fun ls => match ls with
    | [.lst a0 a1, .int a2, .int a3, .lst a4 a5] => some (a0, a1, a2, a3, a4, a5)
    | _ => none
  ok := by
    intro ls v h
    split at h
    · cases h; rfl
    · cases h

def sg_iliil : Sig (Int × Nat × List T × Int × Int × Nat × List T) where
  pk := fun v => [.int v.1, .lst v.2.1 v.2.2.1, .int v.2.2.2.1, .int v.2.2.2.2.1, .lst v.2.2.2.2.2.1 v.2.2.2.2.2.2]
  up := fun ls => match ls with
    | [.int a0, .lst a1 a2, .int a3, .int a4, .lst a5 a6] => some (a0, a1, a2, a3, a4, a5, a6)
    | _ => none
  ok := by
    intro ls v h
    split at h
    · cases h; rfl
    · cases h

def f132_s_l00Srcamong.P : List Arg := [⟨.iop, ⟨false, [.rf .own [.sl .shr [.leaf], .leaf, .leaf]], [.ref [.lst 0 [], .int .i64 0, .int .u64 0]]⟩⟩, ⟨.io, ⟨false, [.sl .own [.leaf]], [.lst 0 []]⟩⟩]
def f132_s_l00Srcamong.A : RAlt (Int × Nat × List T × Int × Int × Nat × List T) := .one ⟨[⟨false, [.leaf], [.int .i64 0]⟩], [some ⟨false, [.rf .own [.sl .shr [.leaf], .leaf, .leaf]], [.ref [.lst 0 [], .int .i64 0, .int .u64 0]]⟩, some ⟨false, [.sl .own [.leaf]], [.lst 0 []]⟩]⟩ sg_iliil
def f132_s_l00Srcamong.F (n : Nat) (v : Nat × List T × Int × Int × Nat × List T) := f132_s_l00Srcamong n v.1 v.2.1 v.2.2.1 v.2.2.2.1 v.2.2.2.2.1 v.2.2.2.2.2
noncomputable def f132_s_l00Srcamong.O (n : Nat) : Orc := orcOf (E := E) [f76_s_l00Srcpick.w] [] n
theorem f132_s_l00Srcamong.ok : ∀ n v x, f132_s_l00Srcamong.F n v = some x → evalFn E n 132 (flAs f132_s_l00Srcamong.P (sg_liil.pk v)) = some (f132_s_l00Srcamong.A.enc x) :=
  fn_pure (modes := (fdAt 132).ms) (outs := (fdAt 132).os) (results := (fdAt 132).rs) f132_s_l00Srcamong.O (c := c132) (keep := keepAt 132) (by kernel_rfl) (fun n => orcOf_cf _ _ n) (fun n => lpOk_of (bs := []) (by kernel_rfl) .nil) (fun _ => rfl) (fun _ _ => by kernel_rfl)
noncomputable def f132_s_l00Srcamong.w : FnW E := fnW 132 f132_s_l00Srcamong.P sg_liil f132_s_l00Srcamong.A f132_s_l00Srcamong.F f132_s_l00Srcamong.ok

def f131_s_l01From : Nat → Int → Option (Nat)
  | 0, _ => none
  | n + 1, i1 =>
    bd (xF32frombits n (IntKind.u32.wrap i1)) fun r2 =>
    let x3 : Nat := r2
    some x3
def sg_i : Sig (Int) where
  pk := fun v => [.int v]
  up := fun ls => match ls with
    | [.int a0] => some a0
    | _ => none
  ok := by
    intro ls v h
    split at h
    · cases h; rfl
    · cases h

def sg_f : Sig (Nat) where
  pk := fun v => [.flt v]
  up := fun ls => match ls with
    | [.flt a0] => some a0
    | _ => none
  ok := by
    intro ls v h
    split at h
    · cases h; rfl
    · cases h

def f131_s_l01From.P : List Arg := [⟨.val, ⟨false, [.leaf], [.int .i64 0]⟩⟩]
def f131_s_l01From.A : RAlt (Nat) := .one ⟨[⟨false, [.leaf], [.flt .f32 0]⟩], [none]⟩ sg_f
def f131_s_l01From.F (n : Nat) (v : Int) := f131_s_l01From n v
noncomputable def f131_s_l01From.O (n : Nat) : Orc := orcOf (E := E) [x140.w] [] n
theorem f131_s_l01From.ok : ∀ n v x, f131_s_l01From.F n v = some x → evalFn E n 131 (flAs f131_s_l01From.P (sg_i.pk v)) = some (f131_s_l01From.A.enc x) :=
  fn_pure (modes := (fdAt 131).ms) (outs := (fdAt 131).os) (results := (fdAt 131).rs) f131_s_l01From.O (c := c131) (keep := keepAt 131) (by kernel_rfl) (fun n => orcOf_cf _ _ n) (fun n => lpOk_of (bs := []) (by kernel_rfl) .nil) (fun _ => rfl) (fun _ _ => by kernel_rfl)
noncomputable def f131_s_l01From.w : FnW E := fnW 131 f131_s_l01From.P sg_i f131_s_l01From.A f131_s_l01From.F f131_s_l01From.ok

def f99_s_l01DrawFloat : Nat → Nat → List T → Int → Int → Option (Nat × Nat × List T × Int × Int)
  | 0, _, _, _, _ => none
  | n + 1, n1, l2, i3, i4 =>
    bd (f129_s_l00Srcone n n1 l2 i3 i4 (12 : Int)) fun r5 =>
    let b6 : Bool := r5.1
    let n7 : Nat := r5.2.1
    let l8 : List T := r5.2.2.1
    let i9 : Int := r5.2.2.2.1
    let i10 : Int := r5.2.2.2.2
    br (!b6) (
     bd (f77_s_l01DrawPlain n n7 l8 i9 i10) fun r11 =>
     let x12 : Nat := r11.1
     let n13 : Nat := r11.2.1
     let l14 : List T := r11.2.2.1
     let i15 : Int := r11.2.2.2.1
     let i16 : Int := r11.2.2.2.2
     some (x12, n13, l14, i15, i16)) (
     bd (f76_s_l00Srcpick n n7 l8 i9 i10 (4 : Int)) fun r17 =>
     let i18 : Int := r17.1
     let n19 : Nat := r17.2.1
     let l20 : List T := r17.2.2.1
     let i21 : Int := r17.2.2.2.1
     let i22 : Int := r17.2.2.2.2
     br (i18 == (0 : Int)) (
      bd (f132_s_l00Srcamong n n19 l20 i21 i22 10 (setN (setN (setN (setN (setN (setN (setN (setN (setN (setN (reps 10 [(T.int IntKind.i64 (0 : Int))]) 0 [(T.int IntKind.i64 (0 : Int))]) 1 [(T.int IntKind.i64 (2147483648 : Int))]) 2 [(T.int IntKind.i64 (2139095040 : Int))]) 3 [(T.int IntKind.i64 (4286578688 : Int))]) 4 [(T.int IntKind.i64 (2143289344 : Int))]) 5 [(T.int IntKind.i64 (1 : Int))]) 6 [(T.int IntKind.i64 (2139095039 : Int))]) 7 [(T.int IntKind.i64 (8388608 : Int))]) 8 [(T.int IntKind.i64 (8388607 : Int))]) 9 [(T.int IntKind.i64 (2147483649 : Int))])) fun r23 =>
      let i24 : Int := r23.1
      let n25 : Nat := r23.2.1
      let l26 : List T := r23.2.2.1
      let i27 : Int := r23.2.2.2.1
      let i28 : Int := r23.2.2.2.2.1
      let n29 : Nat := r23.2.2.2.2.2.1
      let l30 : List T := r23.2.2.2.2.2.2
      bd (f131_s_l01From n i24) fun r31 =>
      let x32 : Nat := r31
      some (x32, n25, l26, i27, i28)) (
      br (i18 == (1 : Int)) (
       bd (f76_s_l00Srcpick n n19 l20 i21 i22 (65536 : Int)) fun r33 =>
       let i34 : Int := r33.1
       let n35 : Nat := r33.2.1
       let l36 : List T := r33.2.2.1
       let i37 : Int := r33.2.2.2.1
       let i38 : Int := r33.2.2.2.2
       let i39 : Int := (IntKind.i64.wrap (i34 * (65536 : Int)))
       bd (f76_s_l00Srcpick n n35 l36 i37 i38 (65536 : Int)) fun r40 =>
       let i41 : Int := r40.1
       let n42 : Nat := r40.2.1
       let l43 : List T := r40.2.2.1
       let i44 : Int := r40.2.2.2.1
       let i45 : Int := r40.2.2.2.2
       bd (f131_s_l01From n (IntKind.i64.wrap (i39 + i41))) fun r46 =>
       let x47 : Nat := r46
       some (x47, n42, l43, i44, i45)) (
       br (i18 == (2 : Int)) (
        bd (f76_s_l00Srcpick n n19 l20 i21 i22 (65536 : Int)) fun r48 =>
        let i49 : Int := r48.1
        let n50 : Nat := r48.2.1
        let l51 : List T := r48.2.2.1
        let i52 : Int := r48.2.2.2.1
        let i53 : Int := r48.2.2.2.2
        bd (f131_s_l01From n (IntKind.i64.wrap (i49 * (65536 : Int)))) fun r54 =>
        let x55 : Nat := r54
        some (x55, n50, l51, i52, i53)) (
        bd (f77_s_l01DrawPlain n n19 l20 i21 i22) fun r56 =>
        let x57 : Nat := r56.1
        let n58 : Nat := r56.2.1
        let l59 : List T := r56.2.2.1
        let i60 : Int := r56.2.2.2.1
        let i61 : Int := r56.2.2.2.2
        bd (f132_s_l00Srcamong n n58 l59 i60 i61 4 (setN (setN (setN (setN (reps 4 [(T.int IntKind.i64 (0 : Int))]) 0 [(T.int IntKind.i64 (8388608 : Int))]) 1 [(T.int IntKind.i64 (2130706432 : Int))]) 2 [(T.int IntKind.i64 (1610612736 : Int))]) 3 [(T.int IntKind.i64 (536870912 : Int))])) fun r62 =>
        let i63 : Int := r62.1
        let n64 : Nat := r62.2.1
        let l65 : List T := r62.2.2.1
        let i66 : Int := r62.2.2.2.1
        let i67 : Int := r62.2.2.2.2.1
        let n68 : Nat := r62.2.2.2.2.2.1
        let l69 : List T := r62.2.2.2.2.2.2
        bd (f131_s_l01From n i63) fun r70 =>
        let x71 : Nat := r70
        some ((fmul FloatKind.f32 x57 x71), n64, l65, i66, i67)))))
def f99_s_l01DrawFloat.P : List Arg := [⟨.iop, ⟨false, [.rf .own [.sl .shr [.leaf], .leaf, .leaf]], [.ref [.lst 0 [], .int .i64 0, .int .u64 0]]⟩⟩]
def f99_s_l01DrawFloat.A : RAlt (Nat × Nat × List T × Int × Int) := .one ⟨[⟨false, [.leaf], [.flt .f32 0]⟩], [some ⟨false, [.rf .own [.sl .shr [.leaf], .leaf, .leaf]], [.ref [.lst 0 [], .int .i64 0, .int .u64 0]]⟩]⟩ sg_flii
def f99_s_l01DrawFloat.F (n : Nat) (v : Nat × List T × Int × Int) := f99_s_l01DrawFloat n v.1 v.2.1 v.2.2.1 v.2.2.2
noncomputable def f99_s_l01DrawFloat.O (n : Nat) : Orc := orcOf (E := E) [f76_s_l00Srcpick.w, f129_s_l00Srcone.w, f77_s_l01DrawPlain.w, f132_s_l00Srcamong.w, f131_s_l01From.w] [] n
theorem f99_s_l01DrawFloat.ok : ∀ n v x, f99_s_l01DrawFloat.F n v = some x → evalFn E n 99 (flAs f99_s_l01DrawFloat.P (sg_lii.pk v)) = some (f99_s_l01DrawFloat.A.enc x) :=
  fn_pure (modes := (fdAt 99).ms) (outs := (fdAt 99).os) (results := (fdAt 99).rs) f99_s_l01DrawFloat.O (c := c99) (keep := keepAt 99) (by kernel_rfl) (fun n => orcOf_cf _ _ n) (fun n => lpOk_of (bs := []) (by kernel_rfl) .nil) (fun _ => rfl) (fun _ _ => by kernel_rfl)
noncomputable def f99_s_l01DrawFloat.w : FnW E := fnW 99 f99_s_l01DrawFloat.P sg_lii f99_s_l01DrawFloat.A f99_s_l01DrawFloat.F f99_s_l01DrawFloat.ok

def f35_s_B10Taps.l0 (n : Nat) : Nat → Nat → List T → Int → Int → Nat → List T → Int → Option (Nat × List T)
  | 0, _, _, _, _, _, _, _ => none
  | m + 1, n1, l2, i3, i4, n5, l6, i7 =>
    br (decide (i7 > (0 : Int))) (
     bd (f76_s_l00Srcpick n n1 l2 i3 i4 (8 : Int)) fun r8 =>
     let i9 : Int := r8.1
     let n10 : Nat := r8.2.1
     let l11 : List T := r8.2.2.1
     let i12 : Int := r8.2.2.2.1
     let i13 : Int := r8.2.2.2.2
     bd (f99_s_l01DrawFloat n n10 l11 i12 i13) fun r14 =>
     let x15 : Nat := r14.1
     let n16 : Nat := r14.2.1
     let l17 : List T := r14.2.2.1
     let i18 : Int := r14.2.2.2.1
     let i19 : Int := r14.2.2.2.2
     gd (Nat.ble (n5 + 1) 2147483648) (
     let n20 : Nat := (n5 + 1)
     let l21 : List T := (l6 ++ (setN (reps 1 [(T.int IntKind.i64 (0 : Int)), (T.flt FloatKind.f32 0)]) 0 [(T.int IntKind.i64 i9), (T.flt FloatKind.f32 x15)]))
     f35_s_B10Taps.l0 n m n16 l17 i18 i19 n20 l21 (IntKind.i64.wrap (i7 - (1 : Int))))) (
     some (n5, l6))
def f35_s_B10Taps : Nat → Nat → List T → Option (Nat × List T)
  | 0, _, _ => none
  | n + 1, n1, l2 =>
    bd (f75_s_l00From n n1 l2) fun r3 =>
    let n4 : Nat := r3.1
    let l5 : List T := r3.2.1
    let i6 : Int := r3.2.2.1
    let i7 : Int := r3.2.2.2
    bd (f76_s_l00Srcpick n n4 l5 i6 i7 (5 : Int)) fun r8 =>
    let i9 : Int := r8.1
    let n10 : Nat := r8.2.1
    let l11 : List T := r8.2.2.1
    let i12 : Int := r8.2.2.2.1
    let i13 : Int := r8.2.2.2.2
    bd (f35_s_B10Taps.l0 n n n10 l11 i12 i13 0 (reps 0 [(T.int IntKind.i64 (0 : Int)), (T.flt FloatKind.f32 0)]) i9) fun r14 =>
    let n15 : Nat := r14.1
    let l16 : List T := r14.2
    some (n15, l16)
def sg_liili : Sig (Nat × List T × Int × Int × Nat × List T × Int) where
  pk := fun v => [.lst v.1 v.2.1, .int v.2.2.1, .int v.2.2.2.1, .lst v.2.2.2.2.1 v.2.2.2.2.2.1, .int v.2.2.2.2.2.2]
  up := fun ls => match ls with
    | [.lst a0 a1, .int a2, .int a3, .lst a4 a5, .int a6] => some (a0, a1, a2, a3, a4, a5, a6)
    | _ => none
  ok := by
    intro ls v h
    split at h
    · cases h; rfl
    · cases h

def f35_s_B10Taps.l0.P : AS := ⟨[(3, .box [.sl .shr [.leaf], .leaf, .leaf] [.lst 0 [], .int .i64 0, .int .u64 0] [] 0), (4, .val false [.sl .own [.leaf, .leaf]] [.lst 0 []] [] 0), (5, .val false [.leaf] [.int .i64 0] [] 0)], 0⟩
def f35_s_B10Taps.l0.A : Alt (Nat × List T) := .one (.exit 0) ⟨[(4, .val false [.sl .own [.leaf, .leaf]] [.lst 0 []] [] 0)], 0⟩ sg_l
def f35_s_B10Taps.l0.F (n m : Nat) (v : Nat × List T × Int × Int × Nat × List T × Int) := f35_s_B10Taps.l0 n m v.1 v.2.1 v.2.2.1 v.2.2.2.1 v.2.2.2.2.1 v.2.2.2.2.2.1 v.2.2.2.2.2.2
def f35_s_B10Taps.l0.W (n : Nat) : LpW := .of 64 f35_s_B10Taps.l0.P sg_liili f35_s_B10Taps.l0.A (f35_s_B10Taps.l0.F n n)
def f35_s_B10Taps.P : List Arg := [⟨.val, ⟨false, [.sl .shr [.leaf]], [.lst 0 []]⟩⟩]
def f35_s_B10Taps.A : RAlt (Nat × List T) := .one ⟨[⟨false, [.sl .own [.leaf, .leaf]], [.lst 0 []]⟩], [none]⟩ sg_l
def f35_s_B10Taps.F (n : Nat) (v : Nat × List T) := f35_s_B10Taps n v.1 v.2
noncomputable def f35_s_B10Taps.O (n : Nat) : Orc := orcOf (E := E) [f75_s_l00From.w, f76_s_l00Srcpick.w, f99_s_l01DrawFloat.w] [f35_s_B10Taps.l0.W n] n
theorem f35_s_B10Taps.l0.ok (n : Nat) : LpOk (f35_s_B10Taps.O n) E (evalFn E n) n (keepAt 35) (.loop (loopAt c35 0)) :=
  lp_pure f35_s_B10Taps.l0.P sg_liili f35_s_B10Taps.l0.A (f35_s_B10Taps.l0.F n) (orcOf_cf _ _ n) (lpOk_of (bs := []) (by kernel_rfl) .nil) (fun _ => rfl) (fun _ _ => by kernel_rfl) (fun _ _ _ => by kernel_rfl)
theorem f35_s_B10Taps.ok : ∀ n v x, f35_s_B10Taps.F n v = some x → evalFn E n 35 (flAs f35_s_B10Taps.P (sg_l.pk v)) = some (f35_s_B10Taps.A.enc x) :=
  fn_pure (modes := (fdAt 35).ms) (outs := (fdAt 35).os) (results := (fdAt 35).rs) f35_s_B10Taps.O (c := c35) (keep := keepAt 35) (by kernel_rfl) (fun n => orcOf_cf _ _ n) (fun n => lpOk_of (bs := [loopAt c35 0]) (by kernel_rfl) (.cons (f35_s_B10Taps.l0.ok n) .nil)) (fun _ => rfl) (fun _ _ => by kernel_rfl)
noncomputable def f35_s_B10Taps.w : FnW E := fnW 35 f35_s_B10Taps.P sg_l f35_s_B10Taps.A f35_s_B10Taps.F f35_s_B10Taps.ok

def f17_l_b10At : Nat → Nat → List T → Int → Int → Option (Int)
  | 0, _, _, _, _ => none
  | n + 1, n1, l2, i3, i4 =>
    br (decide (i4 ≤ (1 : Int))) (
     some (0 : Int)) (
     br (decide (i3 < ((n1 : Nat) : Int))) (
      gd ((decide (((0 : Int) ≤ i3) ∧ (i3 < ((n1 : Nat) : Int)))) && (okAt [(CK.int IntKind.u8)] l2 (Int.toNat i3))) (
      gd (!(decide (i4 = (0 : Int)))) (
      some (Int.tmod (IntKind.i64.wrap (iAt l2 (Int.toNat i3))) i4)))) (
      gd (!(decide (i4 = (0 : Int)))) (
      some (Int.tmod (IntKind.i64.wrap ((IntKind.i64.wrap (i3 * (37 : Int))) + (11 : Int))) i4))))
def f17_l_b10At.P : List Arg := [⟨.val, ⟨false, [.sl .shr [.leaf]], [.lst 0 []]⟩⟩, ⟨.val, ⟨false, [.leaf], [.int .i64 0]⟩⟩, ⟨.val, ⟨false, [.leaf], [.int .i64 0]⟩⟩]
def f17_l_b10At.A : RAlt (Int) := .one ⟨[⟨false, [.leaf], [.int .i64 0]⟩], [none, none, none]⟩ sg_i
def f17_l_b10At.F (n : Nat) (v : Nat × List T × Int × Int) := f17_l_b10At n v.1 v.2.1 v.2.2.1 v.2.2.2
noncomputable def f17_l_b10At.O (n : Nat) : Orc := orcOf (E := E) [] [] n
theorem f17_l_b10At.ok : ∀ n v x, f17_l_b10At.F n v = some x → evalFn E n 17 (flAs f17_l_b10At.P (sg_lii.pk v)) = some (f17_l_b10At.A.enc x) :=
  fn_pure (modes := (fdAt 17).ms) (outs := (fdAt 17).os) (results := (fdAt 17).rs) f17_l_b10At.O (c := c17) (keep := keepAt 17) (by kernel_rfl) (fun n => orcOf_cf _ _ n) (fun n => lpOk_of (bs := []) (by kernel_rfl) .nil) (fun _ => rfl) (fun _ _ => by kernel_rfl)
noncomputable def f17_l_b10At.w : FnW E := fnW 17 f17_l_b10At.P sg_lii f17_l_b10At.A f17_l_b10At.F f17_l_b10At.ok

def f81_s_l01DrawFloats.l0 (n : Nat) : Nat → Nat → List T → Int → Int → Int → Nat → List T → Bool → Option (Nat × List T × Int × Int × Nat × List T)
  | 0, _, _, _, _, _, _, _, _ => none
  | m + 1, n1, l2, i3, i4, i5, n6, l7, b8 =>
    br (decide (i5 > (0 : Int))) (
     br b8 (
      bd (f99_s_l01DrawFloat n n1 l2 i3 i4) fun r9 =>
      let x10 : Nat := r9.1
      let n11 : Nat := r9.2.1
      let l12 : List T := r9.2.2.1
      let i13 : Int := r9.2.2.2.1
      let i14 : Int := r9.2.2.2.2
      gd (Nat.ble (n6 + 1) 2147483648) (
      let n15 : Nat := (n6 + 1)
      let l16 : List T := (l7 ++ (setN (reps 1 [(T.flt FloatKind.f32 0)]) 0 [(T.flt FloatKind.f32 x10)]))
      f81_s_l01DrawFloats.l0 n m n11 l12 i13 i14 (IntKind.i64.wrap (i5 - (1 : Int))) n15 l16 b8)) (
      bd (f77_s_l01DrawPlain n n1 l2 i3 i4) fun r17 =>
      let x18 : Nat := r17.1
      let n19 : Nat := r17.2.1
      let l20 : List T := r17.2.2.1
      let i21 : Int := r17.2.2.2.1
      let i22 : Int := r17.2.2.2.2
      gd (Nat.ble (n6 + 1) 2147483648) (
      let n23 : Nat := (n6 + 1)
      let l24 : List T := (l7 ++ (setN (reps 1 [(T.flt FloatKind.f32 0)]) 0 [(T.flt FloatKind.f32 x18)]))
      f81_s_l01DrawFloats.l0 n m n19 l20 i21 i22 (IntKind.i64.wrap (i5 - (1 : Int))) n23 l24 b8))) (
     some (n1, l2, i3, i4, n6, l7))
def f81_s_l01DrawFloats : Nat → Nat → List T → Int → Int → Int → Option (Nat × List T × Nat × List T × Int × Int)
  | 0, _, _, _, _, _ => none
  | n + 1, n1, l2, i3, i4, i5 =>
    bd (f129_s_l00Srcone n n1 l2 i3 i4 (4 : Int)) fun r6 =>
    let b7 : Bool := r6.1
    let n8 : Nat := r6.2.1
    let l9 : List T := r6.2.2.1
    let i10 : Int := r6.2.2.2.1
    let i11 : Int := r6.2.2.2.2
    bd (f81_s_l01DrawFloats.l0 n n n8 l9 i10 i11 i5 0 (reps 0 [(T.flt FloatKind.f32 0)]) b7) fun r12 =>
    let n13 : Nat := r12.1
    let l14 : List T := r12.2.1
    let i15 : Int := r12.2.2.1
    let i16 : Int := r12.2.2.2.1
    let n17 : Nat := r12.2.2.2.2.1
    let l18 : List T := r12.2.2.2.2.2
    some (n17, l18, n13, l14, i15, i16)
def sg_llii : Sig (Nat × List T × Nat × List T × Int × Int) where
  pk := fun v => [.lst v.1 v.2.1, .lst v.2.2.1 v.2.2.2.1, .int v.2.2.2.2.1, .int v.2.2.2.2.2]
  up := fun ls => match ls with
    | [.lst a0 a1, .lst a2 a3, .int a4, .int a5] => some (a0, a1, a2, a3, a4, a5)
    | _ => none
  ok := by
    intro ls v h
    split at h
    · cases h; rfl
    · cases h

def sg_liiilb : Sig (Nat × List T × Int × Int × Int × Nat × List T × Bool) where
  pk := fun v => [.lst v.1 v.2.1, .int v.2.2.1, .int v.2.2.2.1, .int v.2.2.2.2.1, .lst v.2.2.2.2.2.1 v.2.2.2.2.2.2.1, .bool v.2.2.2.2.2.2.2]
  up := fun ls => match ls with
    | [.lst a0 a1, .int a2, .int a3, .int a4, .lst a5 a6, .bool a7] => some (a0, a1, a2, a3, a4, a5, a6, a7)
    | _ => none
  ok := by
    intro ls v h
    split at h
    · cases h; rfl
    · cases h

def f81_s_l01DrawFloats.l0.P : AS := ⟨[(0, .box [.sl .shr [.leaf], .leaf, .leaf] [.lst 0 [], .int .i64 0, .int .u64 0] [] 0), (1, .val false [.leaf] [.int .i64 0] [] 0), (5, .val false [.sl .own [.leaf]] [.lst 0 []] [] 0), (6, .val false [.leaf] [.bool false] [] 0)], 0⟩
def f81_s_l01DrawFloats.l0.A : Alt (Nat × List T × Int × Int × Nat × List T) := .one (.exit 0) ⟨[(0, .box [.sl .shr [.leaf], .leaf, .leaf] [.lst 0 [], .int .i64 0, .int .u64 0] [] 0), (5, .val false [.sl .own [.leaf]] [.lst 0 []] [] 0)], 0⟩ sg_liil
def f81_s_l01DrawFloats.l0.F (n m : Nat) (v : Nat × List T × Int × Int × Int × Nat × List T × Bool) := f81_s_l01DrawFloats.l0 n m v.1 v.2.1 v.2.2.1 v.2.2.2.1 v.2.2.2.2.1 v.2.2.2.2.2.1 v.2.2.2.2.2.2.1 v.2.2.2.2.2.2.2
def f81_s_l01DrawFloats.l0.W (n : Nat) : LpW := .of 48 f81_s_l01DrawFloats.l0.P sg_liiilb f81_s_l01DrawFloats.l0.A (f81_s_l01DrawFloats.l0.F n n)
def f81_s_l01DrawFloats.P : List Arg := [⟨.iop, ⟨false, [.rf .own [.sl .shr [.leaf], .leaf, .leaf]], [.ref [.lst 0 [], .int .i64 0, .int .u64 0]]⟩⟩, ⟨.val, ⟨false, [.leaf], [.int .i64 0]⟩⟩]
def f81_s_l01DrawFloats.A : RAlt (Nat × List T × Nat × List T × Int × Int) := .one ⟨[⟨false, [.sl .own [.leaf]], [.lst 0 []]⟩], [some ⟨false, [.rf .own [.sl .shr [.leaf], .leaf, .leaf]], [.ref [.lst 0 [], .int .i64 0, .int .u64 0]]⟩, none]⟩ sg_llii
def f81_s_l01DrawFloats.F (n : Nat) (v : Nat × List T × Int × Int × Int) := f81_s_l01DrawFloats n v.1 v.2.1 v.2.2.1 v.2.2.2.1 v.2.2.2.2
noncomputable def f81_s_l01DrawFloats.O (n : Nat) : Orc := orcOf (E := E) [f129_s_l00Srcone.w, f77_s_l01DrawPlain.w, f99_s_l01DrawFloat.w] [f81_s_l01DrawFloats.l0.W n] n
theorem f81_s_l01DrawFloats.l0.ok (n : Nat) : LpOk (f81_s_l01DrawFloats.O n) E (evalFn E n) n (keepAt 81) (.loop (loopAt c81 0)) :=
  lp_pure f81_s_l01DrawFloats.l0.P sg_liiilb f81_s_l01DrawFloats.l0.A (f81_s_l01DrawFloats.l0.F n) (orcOf_cf _ _ n) (lpOk_of (bs := []) (by kernel_rfl) .nil) (fun _ => rfl) (fun _ _ => by kernel_rfl) (fun _ _ _ => by kernel_rfl)
theorem f81_s_l01DrawFloats.ok : ∀ n v x, f81_s_l01DrawFloats.F n v = some x → evalFn E n 81 (flAs f81_s_l01DrawFloats.P (sg_liii.pk v)) = some (f81_s_l01DrawFloats.A.enc x) :=
  fn_pure (modes := (fdAt 81).ms) (outs := (fdAt 81).os) (results := (fdAt 81).rs) f81_s_l01DrawFloats.O (c := c81) (keep := keepAt 81) (by kernel_rfl) (fun n => orcOf_cf _ _ n) (fun n => lpOk_of (bs := [loopAt c81 0]) (by kernel_rfl) (.cons (f81_s_l01DrawFloats.l0.ok n) .nil)) (fun _ => rfl) (fun _ _ => by kernel_rfl)
noncomputable def f81_s_l01DrawFloats.w : FnW E := fnW 81 f81_s_l01DrawFloats.P sg_liii f81_s_l01DrawFloats.A f81_s_l01DrawFloats.F f81_s_l01DrawFloats.ok

def f19_s_B10Numbers : Nat → Nat → List T → Int → Option (Nat × List T)
  | 0, _, _, _ => none
  | n + 1, n1, l2, i3 =>
    bd (f75_s_l00From n n1 l2) fun r4 =>
    let n5 : Nat := r4.1
    let l6 : List T := r4.2.1
    let i7 : Int := r4.2.2.1
    let i8 : Int := r4.2.2.2
    bd (f81_s_l01DrawFloats n n5 l6 i7 i8 i3) fun r9 =>
    let n10 : Nat := r9.1
    let l11 : List T := r9.2.1
    let n12 : Nat := r9.2.2.1
    let l13 : List T := r9.2.2.2.1
    let i14 : Int := r9.2.2.2.2.1
    let i15 : Int := r9.2.2.2.2.2
    some (n10, l11)
def sg_li : Sig (Nat × List T × Int) where
  pk := fun v => [.lst v.1 v.2.1, .int v.2.2]
  up := fun ls => match ls with
    | [.lst a0 a1, .int a2] => some (a0, a1, a2)
    | _ => none
  ok := by
    intro ls v h
    split at h
    · cases h; rfl
    · cases h

def f19_s_B10Numbers.P : List Arg := [⟨.val, ⟨false, [.sl .shr [.leaf]], [.lst 0 []]⟩⟩, ⟨.val, ⟨false, [.leaf], [.int .i64 0]⟩⟩]
def f19_s_B10Numbers.A : RAlt (Nat × List T) := .one ⟨[⟨false, [.sl .own [.leaf]], [.lst 0 []]⟩], [none, none]⟩ sg_l
def f19_s_B10Numbers.F (n : Nat) (v : Nat × List T × Int) := f19_s_B10Numbers n v.1 v.2.1 v.2.2
noncomputable def f19_s_B10Numbers.O (n : Nat) : Orc := orcOf (E := E) [f75_s_l00From.w, f81_s_l01DrawFloats.w] [] n
theorem f19_s_B10Numbers.ok : ∀ n v x, f19_s_B10Numbers.F n v = some x → evalFn E n 19 (flAs f19_s_B10Numbers.P (sg_li.pk v)) = some (f19_s_B10Numbers.A.enc x) :=
  fn_pure (modes := (fdAt 19).ms) (outs := (fdAt 19).os) (results := (fdAt 19).rs) f19_s_B10Numbers.O (c := c19) (keep := keepAt 19) (by kernel_rfl) (fun n => orcOf_cf _ _ n) (fun n => lpOk_of (bs := []) (by kernel_rfl) .nil) (fun _ => rfl) (fun _ _ => by kernel_rfl)
noncomputable def f19_s_B10Numbers.w : FnW E := fnW 19 f19_s_B10Numbers.P sg_li f19_s_B10Numbers.A f19_s_B10Numbers.F f19_s_B10Numbers.ok

def f83_i_within : Nat → Int → Int → Int → Option (Bool)
  | 0, _, _, _ => none
  | n + 1, i1, i2, i3 =>
    br (decide (i2 ≤ i1)) (
     some (decide (i1 ≤ i3))) (
     some false)
def sg_iii : Sig (Int × Int × Int) where
  pk := fun v => [.int v.1, .int v.2.1, .int v.2.2]
  up := fun ls => match ls with
    | [.int a0, .int a1, .int a2] => some (a0, a1, a2)
    | _ => none
  ok := by
    intro ls v h
    split at h
    · cases h; rfl
    · cases h

def f83_i_within.P : List Arg := [⟨.val, ⟨false, [.leaf], [.int .i64 0]⟩⟩, ⟨.val, ⟨false, [.leaf], [.int .i64 0]⟩⟩, ⟨.val, ⟨false, [.leaf], [.int .i64 0]⟩⟩]
def f83_i_within.A : RAlt (Bool) := .one ⟨[⟨false, [.leaf], [.bool false]⟩], [none, none, none]⟩ sg_b
def f83_i_within.F (n : Nat) (v : Int × Int × Int) := f83_i_within n v.1 v.2.1 v.2.2
noncomputable def f83_i_within.O (n : Nat) : Orc := orcOf (E := E) [] [] n
theorem f83_i_within.ok : ∀ n v x, f83_i_within.F n v = some x → evalFn E n 83 (flAs f83_i_within.P (sg_iii.pk v)) = some (f83_i_within.A.enc x) :=
  fn_pure (modes := (fdAt 83).ms) (outs := (fdAt 83).os) (results := (fdAt 83).rs) f83_i_within.O (c := c83) (keep := keepAt 83) (by kernel_rfl) (fun n => orcOf_cf _ _ n) (fun n => lpOk_of (bs := []) (by kernel_rfl) .nil) (fun _ => rfl) (fun _ _ => by kernel_rfl)
noncomputable def f83_i_within.w : FnW E := fnW 83 f83_i_within.P sg_iii f83_i_within.A f83_i_within.F f83_i_within.ok

def f37_i_ValidTaps.l0 (n : Nat) : Nat → Nat → List T → Nat → List T → Int → Int → Option ((Bool) ⊕ (Unit))
  | 0, _, _, _, _, _, _ => none
  | m + 1, n1, l2, n3, l4, i5, i6 =>
    br (decide (i6 < i5)) (
     gd ((decide (((0 : Int) ≤ i6) ∧ (i6 < ((n3 : Nat) : Int)))) && (okAt [(CK.int IntKind.i64), (CK.flt FloatKind.f32)] l4 (((Int.toNat i6) * 2) + 0))) (
     let i7 : Int := (iAt l4 (((Int.toNat i6) * 2) + 0))
     let x8 : Nat := (fAt l4 ((((Int.toNat i6) * 2) + 0) + 1))
     bd (f83_i_within n i7 (0 : Int) (64 : Int)) fun r9 =>
     let b10 : Bool := r9
     br (!b10) (
      some (Sum.inl false)) (
      f37_i_ValidTaps.l0 n m n1 l2 n3 l4 i5 (IntKind.i64.wrap (i6 + (1 : Int)))))) (
     some (Sum.inr ()))
def f37_i_ValidTaps : Nat → Nat → List T → Option (Bool)
  | 0, _, _ => none
  | n + 1, n1, l2 =>
    br (decide (((n1 : Nat) : Int) > (8 : Int))) (
     some false) (
     bd (f37_i_ValidTaps.l0 n n n1 l2 n1 l2 ((n1 : Nat) : Int) (0 : Int)) fun r3 =>
     sm r3 (fun u4 =>
      let b5 : Bool := u4
      some b5) (fun u6 =>
      some true))
def sg : Sig (Unit) where
  pk := fun v => []
  up := fun ls => match ls with
    | [] => some ()
    | _ => none
  ok := by
    intro ls v h
    split at h
    · cases h; rfl
    · cases h

def f37_i_ValidTaps.l0.P : AS := ⟨[(0, .val false [.sl .shr [.leaf, .leaf]] [.lst 0 []] [] 0), (8, .val false [.sl .shr [.leaf, .leaf]] [.lst 0 []] [] 0), (9, .val false [.leaf] [.int .i64 0] [] 0), (10, .val false [.leaf] [.int .i64 0] [] 0)], 0⟩
def f37_i_ValidTaps.l0.A : Alt ((Bool) ⊕ (Unit)) := .or (.one .ret ⟨[(2, .val false [.leaf] [.bool false] [] 0)], 0⟩ sg_b) (.one (.exit 0) ⟨[(2, .dead)], 0⟩ sg)
def f37_i_ValidTaps.l0.F (n m : Nat) (v : Nat × List T × Nat × List T × Int × Int) := f37_i_ValidTaps.l0 n m v.1 v.2.1 v.2.2.1 v.2.2.2.1 v.2.2.2.2.1 v.2.2.2.2.2
def f37_i_ValidTaps.l0.W (n : Nat) : LpW := .of 64 f37_i_ValidTaps.l0.P sg_llii f37_i_ValidTaps.l0.A (f37_i_ValidTaps.l0.F n n)
def f37_i_ValidTaps.P : List Arg := [⟨.val, ⟨false, [.sl .shr [.leaf, .leaf]], [.lst 0 []]⟩⟩]
def f37_i_ValidTaps.A : RAlt (Bool) := .one ⟨[⟨false, [.leaf], [.bool false]⟩], [none]⟩ sg_b
def f37_i_ValidTaps.F (n : Nat) (v : Nat × List T) := f37_i_ValidTaps n v.1 v.2
noncomputable def f37_i_ValidTaps.O (n : Nat) : Orc := orcOf (E := E) [f83_i_within.w] [f37_i_ValidTaps.l0.W n] n
theorem f37_i_ValidTaps.l0.ok (n : Nat) : LpOk (f37_i_ValidTaps.O n) E (evalFn E n) n (keepAt 37) (.loop (loopAt c37 0)) :=
  lp_pure f37_i_ValidTaps.l0.P sg_llii f37_i_ValidTaps.l0.A (f37_i_ValidTaps.l0.F n) (orcOf_cf _ _ n) (lpOk_of (bs := []) (by kernel_rfl) .nil) (fun _ => rfl) (fun _ _ => by kernel_rfl) (fun _ _ _ => by kernel_rfl)
theorem f37_i_ValidTaps.ok : ∀ n v x, f37_i_ValidTaps.F n v = some x → evalFn E n 37 (flAs f37_i_ValidTaps.P (sg_l.pk v)) = some (f37_i_ValidTaps.A.enc x) :=
  fn_pure (modes := (fdAt 37).ms) (outs := (fdAt 37).os) (results := (fdAt 37).rs) f37_i_ValidTaps.O (c := c37) (keep := keepAt 37) (by kernel_rfl) (fun n => orcOf_cf _ _ n) (fun n => lpOk_of (bs := [loopAt c37 0]) (by kernel_rfl) (.cons (f37_i_ValidTaps.l0.ok n) .nil)) (fun _ => rfl) (fun _ _ => by kernel_rfl)
noncomputable def f37_i_ValidTaps.w : FnW E := fnW 37 f37_i_ValidTaps.P sg_l f37_i_ValidTaps.A f37_i_ValidTaps.F f37_i_ValidTaps.ok

def f94_i_areSamples : Nat → Nat → List T → Option (Bool)
  | 0, _, _ => none
  | n + 1, n1, l2 =>
    some (decide (((n1 : Nat) : Int) ≤ (256 : Int)))
def f94_i_areSamples.P : List Arg := [⟨.val, ⟨false, [.sl .shr [.leaf]], [.lst 0 []]⟩⟩]
def f94_i_areSamples.A : RAlt (Bool) := .one ⟨[⟨false, [.leaf], [.bool false]⟩], [none]⟩ sg_b
def f94_i_areSamples.F (n : Nat) (v : Nat × List T) := f94_i_areSamples n v.1 v.2
noncomputable def f94_i_areSamples.O (n : Nat) : Orc := orcOf (E := E) [] [] n
theorem f94_i_areSamples.ok : ∀ n v x, f94_i_areSamples.F n v = some x → evalFn E n 94 (flAs f94_i_areSamples.P (sg_l.pk v)) = some (f94_i_areSamples.A.enc x) :=
  fn_pure (modes := (fdAt 94).ms) (outs := (fdAt 94).os) (results := (fdAt 94).rs) f94_i_areSamples.O (c := c94) (keep := keepAt 94) (by kernel_rfl) (fun n => orcOf_cf _ _ n) (fun n => lpOk_of (bs := []) (by kernel_rfl) .nil) (fun _ => rfl) (fun _ _ => by kernel_rfl)
noncomputable def f94_i_areSamples.w : FnW E := fnW 94 f94_i_areSamples.P sg_l f94_i_areSamples.A f94_i_areSamples.F f94_i_areSamples.ok

def f95_i_copyNumbers : Nat → Nat → List T → Option (Nat × List T)
  | 0, _, _ => none
  | n + 1, n1, l2 =>
    gd (Nat.ble (0 + n1) 2147483648) (
    some ((0 + n1), ((reps 0 [(T.flt FloatKind.f32 0)]) ++ l2)))
def f95_i_copyNumbers.P : List Arg := [⟨.val, ⟨false, [.sl .shr [.leaf]], [.lst 0 []]⟩⟩]
def f95_i_copyNumbers.A : RAlt (Nat × List T) := .one ⟨[⟨false, [.sl .own [.leaf]], [.lst 0 []]⟩], [none]⟩ sg_l
def f95_i_copyNumbers.F (n : Nat) (v : Nat × List T) := f95_i_copyNumbers n v.1 v.2
noncomputable def f95_i_copyNumbers.O (n : Nat) : Orc := orcOf (E := E) [] [] n
theorem f95_i_copyNumbers.ok : ∀ n v x, f95_i_copyNumbers.F n v = some x → evalFn E n 95 (flAs f95_i_copyNumbers.P (sg_l.pk v)) = some (f95_i_copyNumbers.A.enc x) :=
  fn_pure (modes := (fdAt 95).ms) (outs := (fdAt 95).os) (results := (fdAt 95).rs) f95_i_copyNumbers.O (c := c95) (keep := keepAt 95) (by kernel_rfl) (fun n => orcOf_cf _ _ n) (fun n => lpOk_of (bs := []) (by kernel_rfl) .nil) (fun _ => rfl) (fun _ _ => by kernel_rfl)
noncomputable def f95_i_copyNumbers.w : FnW E := fnW 95 f95_i_copyNumbers.P sg_l f95_i_copyNumbers.A f95_i_copyNumbers.F f95_i_copyNumbers.ok

def f36_i_RunTaps.l1 (n : Nat) : Nat → Nat → List T → Nat → List T → Nat → List T → Nat → List T → Int → Nat → Int → Int → Nat → List T → Int → Int → Option (Nat × List T × Nat × List T × Nat × List T × Nat × List T × Nat × Int × Int)
  | 0, _, _, _, _, _, _, _, _, _, _, _, _, _, _, _, _ => none
  | m + 1, n1, l2, n3, l4, n5, l6, n7, l8, i9, x10, i11, i12, n13, l14, i15, i16 =>
    br (decide (i16 < i15)) (
     gd ((decide (((0 : Int) ≤ i16) ∧ (i16 < ((n13 : Nat) : Int)))) && (okAt [(CK.int IntKind.i64), (CK.flt FloatKind.f32)] l14 (((Int.toNat i16) * 2) + 0))) (
     let i17 : Int := (iAt l14 (((Int.toNat i16) * 2) + 0))
     let x18 : Nat := (fAt l14 ((((Int.toNat i16) * 2) + 0) + 1))
     gd (decide (((0 : Int) ≤ (IntKind.i64.wrap ((IntKind.i64.wrap ((64 : Int) + i9)) - i17))) ∧ ((IntKind.i64.wrap ((IntKind.i64.wrap ((64 : Int) + i9)) - i17)) < ((n5 : Nat) : Int)))) (
     gd (okAt [(CK.flt FloatKind.f32)] l6 (Int.toNat (IntKind.i64.wrap ((IntKind.i64.wrap ((64 : Int) + i9)) - i17)))) (
     let x19 : Nat := (fadd FloatKind.f32 x10 (fmul FloatKind.f32 x18 (fAt l6 (Int.toNat (IntKind.i64.wrap ((IntKind.i64.wrap ((64 : Int) + i9)) - i17))))))
     f36_i_RunTaps.l1 n m n1 l2 n3 l4 n5 l6 n7 l8 i9 x19 i11 i12 n13 l14 i15 (IntKind.i64.wrap (i16 + (1 : Int))))))) (
     some (n1, l2, n3, l4, n5, l6, n7, l8, x10, i11, i12))
def f36_i_RunTaps.l0 (n : Nat) : Nat → Nat → List T → Nat → List T → Nat → List T → Nat → List T → Int → Int → Option (Nat × List T × Nat × List T × Nat × List T)
  | 0, _, _, _, _, _, _, _, _, _, _ => none
  | m + 1, n1, l2, n3, l4, n5, l6, n7, l8, i9, i10 =>
    br (decide (i10 < i9)) (
     bd (f36_i_RunTaps.l1 n n n1 l2 n3 l4 n5 l6 n7 l8 i10 0 i9 i10 n1 l2 ((n1 : Nat) : Int) (0 : Int)) fun r11 =>
     let n12 : Nat := r11.1
     let l13 : List T := r11.2.1
     let n14 : Nat := r11.2.2.1
     let l15 : List T := r11.2.2.2.1
     let n16 : Nat := r11.2.2.2.2.1
     let l17 : List T := r11.2.2.2.2.2.1
     let n18 : Nat := r11.2.2.2.2.2.2.1
     let l19 : List T := r11.2.2.2.2.2.2.2.1
     let x20 : Nat := r11.2.2.2.2.2.2.2.2.1
     let i21 : Int := r11.2.2.2.2.2.2.2.2.2.1
     let i22 : Int := r11.2.2.2.2.2.2.2.2.2.2
     gd (Nat.ble (n18 + 1) 2147483648) (
     let n23 : Nat := (n18 + 1)
     let l24 : List T := (l19 ++ (setN (reps 1 [(T.flt FloatKind.f32 0)]) 0 [(T.flt FloatKind.f32 x20)]))
     f36_i_RunTaps.l0 n m n12 l13 n14 l15 n16 l17 n23 l24 i21 (IntKind.i64.wrap (i22 + (1 : Int))))) (
     some (n3, l4, n5, l6, n7, l8))
def f36_i_RunTaps : Nat → Nat → List T → Nat → List T → Nat → List T → Option (Nat × List T × Nat × List T × Bool)
  | 0, _, _, _, _, _, _ => none
  | n + 1, n1, l2, n3, l4, n5, l6 =>
    bd (f37_i_ValidTaps n n1 l2) fun r7 =>
    let b8 : Bool := r7
    br (!b8) (
     some (0, [], 0, [], false)) (
     br (((n3 : Nat) : Int) != (64 : Int)) (
      some (0, [], 0, [], false)) (
      bd (f94_i_areSamples n n5 l6) fun r9 =>
      let b10 : Bool := r9
      br (!b10) (
       some (0, [], 0, [], false)) (
       bd (f95_i_copyNumbers n n3 l4) fun r11 =>
       let n12 : Nat := r11.1
       let l13 : List T := r11.2
       gd (Nat.ble (n12 + n5) 2147483648) (
       let n14 : Nat := (n12 + n5)
       let l15 : List T := (l13 ++ l6)
       bd (f36_i_RunTaps.l0 n n n1 l2 n5 l6 n14 l15 0 [] ((n5 : Nat) : Int) (0 : Int)) fun r16 =>
       let n17 : Nat := r16.1
       let l18 : List T := r16.2.1
       let n19 : Nat := r16.2.2.1
       let l20 : List T := r16.2.2.2.1
       let n21 : Nat := r16.2.2.2.2.1
       let l22 : List T := r16.2.2.2.2.2
       gd (decide (((0 : Int) ≤ ((n17 : Nat) : Int)) ∧ ((((n17 : Nat) : Int) ≤ ((n19 : Nat) : Int)) ∧ (((n19 : Nat) : Int) ≤ ((n19 : Nat) : Int))))) (
       bd (f95_i_copyNumbers n (n19 - n17) (List.take (n19 - n17) (List.drop n17 l20))) fun r23 =>
       let n24 : Nat := r23.1
       let l25 : List T := r23.2
       some (n21, l22, n24, l25, true))))))
def sg_lll : Sig (Nat × List T × Nat × List T × Nat × List T) where
  pk := fun v => [.lst v.1 v.2.1, .lst v.2.2.1 v.2.2.2.1, .lst v.2.2.2.2.1 v.2.2.2.2.2]
  up := fun ls => match ls with
    | [.lst a0 a1, .lst a2 a3, .lst a4 a5] => some (a0, a1, a2, a3, a4, a5)
    | _ => none
  ok := by
    intro ls v h
    split at h
    · cases h; rfl
    · cases h

def sg_llb : Sig (Nat × List T × Nat × List T × Bool) where
  pk := fun v => [.lst v.1 v.2.1, .lst v.2.2.1 v.2.2.2.1, .bool v.2.2.2.2]
  up := fun ls => match ls with
    | [.lst a0 a1, .lst a2 a3, .bool a4] => some (a0, a1, a2, a3, a4)
    | _ => none
  ok := by
    intro ls v h
    split at h
    · cases h; rfl
    · cases h

def sg_llllifiilii : Sig (Nat × List T × Nat × List T × Nat × List T × Nat × List T × Int × Nat × Int × Int × Nat × List T × Int × Int) where
  pk := fun v => [.lst v.1 v.2.1, .lst v.2.2.1 v.2.2.2.1, .lst v.2.2.2.2.1 v.2.2.2.2.2.1, .lst v.2.2.2.2.2.2.1 v.2.2.2.2.2.2.2.1, .int v.2.2.2.2.2.2.2.2.1, .flt v.2.2.2.2.2.2.2.2.2.1, .int v.2.2.2.2.2.2.2.2.2.2.1, .int v.2.2.2.2.2.2.2.2.2.2.2.1, .lst v.2.2.2.2.2.2.2.2.2.2.2.2.1 v.2.2.2.2.2.2.2.2.2.2.2.2.2.1, .int v.2.2.2.2.2.2.2.2.2.2.2.2.2.2.1, .int v.2.2.2.2.2.2.2.2.2.2.2.2.2.2.2]
  up := fun ls => match ls with
    | [.lst a0 a1, .lst a2 a3, .lst a4 a5, .lst a6 a7, .int a8, .flt a9, .int a10, .int a11, .lst a12 a13, .int a14, .int a15] => some (a0, a1, a2, a3, a4, a5, a6, a7, a8, a9, a10, a11, a12, a13, a14, a15)
    | _ => none
  ok := by
    intro ls v h
    split at h
    · cases h; rfl
    · cases h

def sg_llllfii : Sig (Nat × List T × Nat × List T × Nat × List T × Nat × List T × Nat × Int × Int) where
  pk := fun v => [.lst v.1 v.2.1, .lst v.2.2.1 v.2.2.2.1, .lst v.2.2.2.2.1 v.2.2.2.2.2.1, .lst v.2.2.2.2.2.2.1 v.2.2.2.2.2.2.2.1, .flt v.2.2.2.2.2.2.2.2.1, .int v.2.2.2.2.2.2.2.2.2.1, .int v.2.2.2.2.2.2.2.2.2.2]
  up := fun ls => match ls with
    | [.lst a0 a1, .lst a2 a3, .lst a4 a5, .lst a6 a7, .flt a8, .int a9, .int a10] => some (a0, a1, a2, a3, a4, a5, a6, a7, a8, a9, a10)
    | _ => none
  ok := by
    intro ls v h
    split at h
    · cases h; rfl
    · cases h

def sg_llllii : Sig (Nat × List T × Nat × List T × Nat × List T × Nat × List T × Int × Int) where
  pk := fun v => [.lst v.1 v.2.1, .lst v.2.2.1 v.2.2.2.1, .lst v.2.2.2.2.1 v.2.2.2.2.2.1, .lst v.2.2.2.2.2.2.1 v.2.2.2.2.2.2.2.1, .int v.2.2.2.2.2.2.2.2.1, .int v.2.2.2.2.2.2.2.2.2]
  up := fun ls => match ls with
    | [.lst a0 a1, .lst a2 a3, .lst a4 a5, .lst a6 a7, .int a8, .int a9] => some (a0, a1, a2, a3, a4, a5, a6, a7, a8, a9)
    | _ => none
  ok := by
    intro ls v h
    split at h
    · cases h; rfl
    · cases h

def f36_i_RunTaps.l1.P : AS := ⟨[(0, .val false [.sl .shr [.leaf, .leaf]] [.lst 0 []] [] 0), (2, .val false [.sl .shr [.leaf]] [.lst 0 []] [] 0), (9, .val false [.sl .own [.leaf]] [.lst 0 []] [] 0), (10, .val false [.sl .own [.leaf]] [.lst 0 []] [] 0), (11, .val false [.leaf] [.int .i64 0] [] 0), (12, .val false [.leaf] [.flt .f32 0] [] 0), (33, .val false [.leaf] [.int .i64 0] [] 0), (34, .val false [.leaf] [.int .i64 0] [] 0), (37, .val false [.sl .shr [.leaf, .leaf]] [.lst 0 []] [] 0), (38, .val false [.leaf] [.int .i64 0] [] 0), (39, .val false [.leaf] [.int .i64 0] [] 0)], 0⟩
def f36_i_RunTaps.l1.A : Alt (Nat × List T × Nat × List T × Nat × List T × Nat × List T × Nat × Int × Int) := .one (.exit 2) ⟨[(0, .val false [.sl .shr [.leaf, .leaf]] [.lst 0 []] [] 0), (2, .val false [.sl .shr [.leaf]] [.lst 0 []] [] 0), (9, .val false [.sl .own [.leaf]] [.lst 0 []] [] 0), (10, .val false [.sl .own [.leaf]] [.lst 0 []] [] 0), (12, .val false [.leaf] [.flt .f32 0] [] 0), (33, .val false [.leaf] [.int .i64 0] [] 0), (34, .val false [.leaf] [.int .i64 0] [] 0), (56, .dead), (61, .dead)], 0⟩ sg_llllfii
def f36_i_RunTaps.l1.F (n m : Nat) (v : Nat × List T × Nat × List T × Nat × List T × Nat × List T × Int × Nat × Int × Int × Nat × List T × Int × Int) := f36_i_RunTaps.l1 n m v.1 v.2.1 v.2.2.1 v.2.2.2.1 v.2.2.2.2.1 v.2.2.2.2.2.1 v.2.2.2.2.2.2.1 v.2.2.2.2.2.2.2.1 v.2.2.2.2.2.2.2.2.1 v.2.2.2.2.2.2.2.2.2.1 v.2.2.2.2.2.2.2.2.2.2.1 v.2.2.2.2.2.2.2.2.2.2.2.1 v.2.2.2.2.2.2.2.2.2.2.2.2.1 v.2.2.2.2.2.2.2.2.2.2.2.2.2.1 v.2.2.2.2.2.2.2.2.2.2.2.2.2.2.1 v.2.2.2.2.2.2.2.2.2.2.2.2.2.2.2
def f36_i_RunTaps.l1.W (n : Nat) : LpW := .of 160 f36_i_RunTaps.l1.P sg_llllifiilii f36_i_RunTaps.l1.A (f36_i_RunTaps.l1.F n n)
def f36_i_RunTaps.l0.P : AS := ⟨[(0, .val false [.sl .shr [.leaf, .leaf]] [.lst 0 []] [] 0), (2, .val false [.sl .shr [.leaf]] [.lst 0 []] [] 0), (9, .val false [.sl .own [.leaf]] [.lst 0 []] [] 0), (10, .val false [.sl .own [.leaf]] [.lst 0 []] [] 0), (33, .val false [.leaf] [.int .i64 0] [] 0), (34, .val false [.leaf] [.int .i64 0] [] 0)], 0⟩
def f36_i_RunTaps.l0.A : Alt (Nat × List T × Nat × List T × Nat × List T) := .one (.exit 0) ⟨[(2, .val false [.sl .shr [.leaf]] [.lst 0 []] [] 0), (9, .val false [.sl .own [.leaf]] [.lst 0 []] [] 0), (10, .val false [.sl .own [.leaf]] [.lst 0 []] [] 0)], 0⟩ sg_lll
def f36_i_RunTaps.l0.F (n m : Nat) (v : Nat × List T × Nat × List T × Nat × List T × Nat × List T × Int × Int) := f36_i_RunTaps.l0 n m v.1 v.2.1 v.2.2.1 v.2.2.2.1 v.2.2.2.2.1 v.2.2.2.2.2.1 v.2.2.2.2.2.2.1 v.2.2.2.2.2.2.2.1 v.2.2.2.2.2.2.2.2.1 v.2.2.2.2.2.2.2.2.2
def f36_i_RunTaps.l0.W (n : Nat) : LpW := .of 96 f36_i_RunTaps.l0.P sg_llllii f36_i_RunTaps.l0.A (f36_i_RunTaps.l0.F n n)
def f36_i_RunTaps.P : List Arg := [⟨.val, ⟨false, [.sl .shr [.leaf, .leaf]], [.lst 0 []]⟩⟩, ⟨.val, ⟨false, [.sl .shr [.leaf]], [.lst 0 []]⟩⟩, ⟨.val, ⟨false, [.sl .shr [.leaf]], [.lst 0 []]⟩⟩]
def f36_i_RunTaps.A : RAlt (Nat × List T × Nat × List T × Bool) := .one ⟨[⟨false, [.sl .own [.leaf]], [.lst 0 []]⟩, ⟨false, [.sl .own [.leaf]], [.lst 0 []]⟩, ⟨false, [.leaf], [.bool false]⟩], [none, none, none]⟩ sg_llb
def f36_i_RunTaps.F (n : Nat) (v : Nat × List T × Nat × List T × Nat × List T) := f36_i_RunTaps n v.1 v.2.1 v.2.2.1 v.2.2.2.1 v.2.2.2.2.1 v.2.2.2.2.2
noncomputable def f36_i_RunTaps.O (n : Nat) : Orc := orcOf (E := E) [f37_i_ValidTaps.w, f94_i_areSamples.w, f95_i_copyNumbers.w] [f36_i_RunTaps.l1.W n, f36_i_RunTaps.l0.W n] n
theorem f36_i_RunTaps.l1.ok (n : Nat) : LpOk (f36_i_RunTaps.O n) E (evalFn E n) n (keepAt 36) (.loop (loopAt c36 1)) :=
  lp_pure f36_i_RunTaps.l1.P sg_llllifiilii f36_i_RunTaps.l1.A (f36_i_RunTaps.l1.F n) (orcOf_cf _ _ n) (lpOk_of (bs := []) (by kernel_rfl) .nil) (fun _ => rfl) (fun _ _ => by kernel_rfl) (fun _ _ _ => by kernel_rfl)
theorem f36_i_RunTaps.l0.ok (n : Nat) : LpOk (f36_i_RunTaps.O n) E (evalFn E n) n (keepAt 36) (.loop (loopAt c36 0)) :=
  lp_pure f36_i_RunTaps.l0.P sg_llllii f36_i_RunTaps.l0.A (f36_i_RunTaps.l0.F n) (orcOf_cf _ _ n) (lpOk_of (bs := [loopAt c36 1]) (by kernel_rfl) (.cons (f36_i_RunTaps.l1.ok n) .nil)) (fun _ => rfl) (fun _ _ => by kernel_rfl) (fun _ _ _ => by kernel_rfl)
theorem f36_i_RunTaps.ok : ∀ n v x, f36_i_RunTaps.F n v = some x → evalFn E n 36 (flAs f36_i_RunTaps.P (sg_lll.pk v)) = some (f36_i_RunTaps.A.enc x) :=
  fn_pure (modes := (fdAt 36).ms) (outs := (fdAt 36).os) (results := (fdAt 36).rs) f36_i_RunTaps.O (c := c36) (keep := keepAt 36) (by kernel_rfl) (fun n => orcOf_cf _ _ n) (fun n => lpOk_of (bs := [loopAt c36 0]) (by kernel_rfl) (.cons (f36_i_RunTaps.l0.ok n) .nil)) (fun _ => rfl) (fun _ _ => by kernel_rfl)
noncomputable def f36_i_RunTaps.w : FnW E := fnW 36 f36_i_RunTaps.P sg_lll f36_i_RunTaps.A f36_i_RunTaps.F f36_i_RunTaps.ok

def f130_s_l01Bits : Nat → Nat → Option (Int)
  | 0, _ => none
  | n + 1, x1 =>
    br (fne FloatKind.f32 x1 x1) (
     some (2143289344 : Int)) (
     bd (xF32bits n x1) fun r2 =>
     let i3 : Int := r2
     some (IntKind.i64.wrap i3))
def f130_s_l01Bits.P : List Arg := [⟨.val, ⟨false, [.leaf], [.flt .f32 0]⟩⟩]
def f130_s_l01Bits.A : RAlt (Int) := .one ⟨[⟨false, [.leaf], [.int .i64 0]⟩], [none]⟩ sg_i
def f130_s_l01Bits.F (n : Nat) (v : Nat) := f130_s_l01Bits n v
noncomputable def f130_s_l01Bits.O (n : Nat) : Orc := orcOf (E := E) [x98.w] [] n
theorem f130_s_l01Bits.ok : ∀ n v x, f130_s_l01Bits.F n v = some x → evalFn E n 130 (flAs f130_s_l01Bits.P (sg_f.pk v)) = some (f130_s_l01Bits.A.enc x) :=
  fn_pure (modes := (fdAt 130).ms) (outs := (fdAt 130).os) (results := (fdAt 130).rs) f130_s_l01Bits.O (c := c130) (keep := keepAt 130) (by kernel_rfl) (fun n => orcOf_cf _ _ n) (fun n => lpOk_of (bs := []) (by kernel_rfl) .nil) (fun _ => rfl) (fun _ _ => by kernel_rfl)
noncomputable def f130_s_l01Bits.w : FnW E := fnW 130 f130_s_l01Bits.P sg_f f130_s_l01Bits.A f130_s_l01Bits.F f130_s_l01Bits.ok

def f84_s_l01Same : Nat → Nat → Nat → Option (Bool)
  | 0, _, _ => none
  | n + 1, x1, x2 =>
    bd (f130_s_l01Bits n x1) fun r3 =>
    let i4 : Int := r3
    bd (f130_s_l01Bits n x2) fun r5 =>
    let i6 : Int := r5
    some (i4 == i6)
def sg_ff : Sig (Nat × Nat) where
  pk := fun v => [.flt v.1, .flt v.2]
  up := fun ls => match ls with
    | [.flt a0, .flt a1] => some (a0, a1)
    | _ => none
  ok := by
    intro ls v h
    split at h
    · cases h; rfl
    · cases h

def f84_s_l01Same.P : List Arg := [⟨.val, ⟨false, [.leaf], [.flt .f32 0]⟩⟩, ⟨.val, ⟨false, [.leaf], [.flt .f32 0]⟩⟩]
def f84_s_l01Same.A : RAlt (Bool) := .one ⟨[⟨false, [.leaf], [.bool false]⟩], [none, none]⟩ sg_b
def f84_s_l01Same.F (n : Nat) (v : Nat × Nat) := f84_s_l01Same n v.1 v.2
noncomputable def f84_s_l01Same.O (n : Nat) : Orc := orcOf (E := E) [f130_s_l01Bits.w] [] n
theorem f84_s_l01Same.ok : ∀ n v x, f84_s_l01Same.F n v = some x → evalFn E n 84 (flAs f84_s_l01Same.P (sg_ff.pk v)) = some (f84_s_l01Same.A.enc x) :=
  fn_pure (modes := (fdAt 84).ms) (outs := (fdAt 84).os) (results := (fdAt 84).rs) f84_s_l01Same.O (c := c84) (keep := keepAt 84) (by kernel_rfl) (fun n => orcOf_cf _ _ n) (fun n => lpOk_of (bs := []) (by kernel_rfl) .nil) (fun _ => rfl) (fun _ _ => by kernel_rfl)
noncomputable def f84_s_l01Same.w : FnW E := fnW 84 f84_s_l01Same.P sg_ff f84_s_l01Same.A f84_s_l01Same.F f84_s_l01Same.ok

def f23_s_SameNumber : Nat → Nat → Nat → Option (Bool)
  | 0, _, _ => none
  | n + 1, x1, x2 =>
    bd (f84_s_l01Same n x1 x2) fun r3 =>
    let b4 : Bool := r3
    some b4
def f23_s_SameNumber.P : List Arg := [⟨.val, ⟨false, [.leaf], [.flt .f32 0]⟩⟩, ⟨.val, ⟨false, [.leaf], [.flt .f32 0]⟩⟩]
def f23_s_SameNumber.A : RAlt (Bool) := .one ⟨[⟨false, [.leaf], [.bool false]⟩], [none, none]⟩ sg_b
def f23_s_SameNumber.F (n : Nat) (v : Nat × Nat) := f23_s_SameNumber n v.1 v.2
noncomputable def f23_s_SameNumber.O (n : Nat) : Orc := orcOf (E := E) [f84_s_l01Same.w] [] n
theorem f23_s_SameNumber.ok : ∀ n v x, f23_s_SameNumber.F n v = some x → evalFn E n 23 (flAs f23_s_SameNumber.P (sg_ff.pk v)) = some (f23_s_SameNumber.A.enc x) :=
  fn_pure (modes := (fdAt 23).ms) (outs := (fdAt 23).os) (results := (fdAt 23).rs) f23_s_SameNumber.O (c := c23) (keep := keepAt 23) (by kernel_rfl) (fun n => orcOf_cf _ _ n) (fun n => lpOk_of (bs := []) (by kernel_rfl) .nil) (fun _ => rfl) (fun _ _ => by kernel_rfl)
noncomputable def f23_s_SameNumber.w : FnW E := fnW 23 f23_s_SameNumber.P sg_ff f23_s_SameNumber.A f23_s_SameNumber.F f23_s_SameNumber.ok

def f25_l_b10Same.l0 (n : Nat) : Nat → Nat → List T → Nat → List T → Int → Option ((Bool) ⊕ (Unit))
  | 0, _, _, _, _, _ => none
  | m + 1, n1, l2, n3, l4, i5 =>
    br (decide (i5 < ((n1 : Nat) : Int))) (
     gd ((decide (((0 : Int) ≤ i5) ∧ (i5 < ((n1 : Nat) : Int)))) && (okAt [(CK.flt FloatKind.f32)] l2 (Int.toNat i5))) (
     gd ((decide (((0 : Int) ≤ i5) ∧ (i5 < ((n3 : Nat) : Int)))) && (okAt [(CK.flt FloatKind.f32)] l4 (Int.toNat i5))) (
     bd (f23_s_SameNumber n (fAt l2 (Int.toNat i5)) (fAt l4 (Int.toNat i5))) fun r6 =>
     let b7 : Bool := r6
     br (!b7) (
      some (Sum.inl false)) (
      f25_l_b10Same.l0 n m n1 l2 n3 l4 (IntKind.i64.wrap (i5 + (1 : Int))))))) (
     some (Sum.inr ()))
def f25_l_b10Same : Nat → Nat → List T → Nat → List T → Option (Bool)
  | 0, _, _, _, _ => none
  | n + 1, n1, l2, n3, l4 =>
    br (((n1 : Nat) : Int) != ((n3 : Nat) : Int)) (
     some false) (
     bd (f25_l_b10Same.l0 n n n1 l2 n3 l4 (0 : Int)) fun r5 =>
     sm r5 (fun u6 =>
      let b7 : Bool := u6
      some b7) (fun u8 =>
      some true))
def sg_lli : Sig (Nat × List T × Nat × List T × Int) where
  pk := fun v => [.lst v.1 v.2.1, .lst v.2.2.1 v.2.2.2.1, .int v.2.2.2.2]
  up := fun ls => match ls with
    | [.lst a0 a1, .lst a2 a3, .int a4] => some (a0, a1, a2, a3, a4)
    | _ => none
  ok := by
    intro ls v h
    split at h
    · cases h; rfl
    · cases h

def f25_l_b10Same.l0.P : AS := ⟨[(0, .val false [.sl .shr [.leaf]] [.lst 0 []] [] 0), (1, .val false [.sl .shr [.leaf]] [.lst 0 []] [] 0), (5, .val false [.leaf] [.int .i64 0] [] 0)], 0⟩
def f25_l_b10Same.l0.A : Alt ((Bool) ⊕ (Unit)) := .or (.one .ret ⟨[(4, .val false [.leaf] [.bool false] [] 0)], 0⟩ sg_b) (.one (.exit 0) ⟨[(4, .dead)], 0⟩ sg)
def f25_l_b10Same.l0.F (n m : Nat) (v : Nat × List T × Nat × List T × Int) := f25_l_b10Same.l0 n m v.1 v.2.1 v.2.2.1 v.2.2.2.1 v.2.2.2.2
def f25_l_b10Same.l0.W (n : Nat) : LpW := .of 64 f25_l_b10Same.l0.P sg_lli f25_l_b10Same.l0.A (f25_l_b10Same.l0.F n n)
def f25_l_b10Same.P : List Arg := [⟨.val, ⟨false, [.sl .shr [.leaf]], [.lst 0 []]⟩⟩, ⟨.val, ⟨false, [.sl .shr [.leaf]], [.lst 0 []]⟩⟩]
def f25_l_b10Same.A : RAlt (Bool) := .one ⟨[⟨false, [.leaf], [.bool false]⟩], [none, none]⟩ sg_b
def f25_l_b10Same.F (n : Nat) (v : Nat × List T × Nat × List T) := f25_l_b10Same n v.1 v.2.1 v.2.2.1 v.2.2.2
noncomputable def f25_l_b10Same.O (n : Nat) : Orc := orcOf (E := E) [f23_s_SameNumber.w] [f25_l_b10Same.l0.W n] n
theorem f25_l_b10Same.l0.ok (n : Nat) : LpOk (f25_l_b10Same.O n) E (evalFn E n) n (keepAt 25) (.loop (loopAt c25 0)) :=
  lp_pure f25_l_b10Same.l0.P sg_lli f25_l_b10Same.l0.A (f25_l_b10Same.l0.F n) (orcOf_cf _ _ n) (lpOk_of (bs := []) (by kernel_rfl) .nil) (fun _ => rfl) (fun _ _ => by kernel_rfl) (fun _ _ _ => by kernel_rfl)
theorem f25_l_b10Same.ok : ∀ n v x, f25_l_b10Same.F n v = some x → evalFn E n 25 (flAs f25_l_b10Same.P (sg_ll.pk v)) = some (f25_l_b10Same.A.enc x) :=
  fn_pure (modes := (fdAt 25).ms) (outs := (fdAt 25).os) (results := (fdAt 25).rs) f25_l_b10Same.O (c := c25) (keep := keepAt 25) (by kernel_rfl) (fun n => orcOf_cf _ _ n) (fun n => lpOk_of (bs := [loopAt c25 0]) (by kernel_rfl) (.cons (f25_l_b10Same.l0.ok n) .nil)) (fun _ => rfl) (fun _ _ => by kernel_rfl)
noncomputable def f25_l_b10Same.w : FnW E := fnW 25 f25_l_b10Same.P sg_ll f25_l_b10Same.A f25_l_b10Same.F f25_l_b10Same.ok

def f38_s_B10Plain : Nat → Nat → List T → Option (Nat)
  | 0, _, _ => none
  | n + 1, n1, l2 =>
    bd (f75_s_l00From n n1 l2) fun r3 =>
    let n4 : Nat := r3.1
    let l5 : List T := r3.2.1
    let i6 : Int := r3.2.2.1
    let i7 : Int := r3.2.2.2
    bd (f77_s_l01DrawPlain n n4 l5 i6 i7) fun r8 =>
    let x9 : Nat := r8.1
    let n10 : Nat := r8.2.1
    let l11 : List T := r8.2.2.1
    let i12 : Int := r8.2.2.2.1
    let i13 : Int := r8.2.2.2.2
    some x9
def f38_s_B10Plain.P : List Arg := [⟨.val, ⟨false, [.sl .shr [.leaf]], [.lst 0 []]⟩⟩]
def f38_s_B10Plain.A : RAlt (Nat) := .one ⟨[⟨false, [.leaf], [.flt .f32 0]⟩], [none]⟩ sg_f
def f38_s_B10Plain.F (n : Nat) (v : Nat × List T) := f38_s_B10Plain n v.1 v.2
noncomputable def f38_s_B10Plain.O (n : Nat) : Orc := orcOf (E := E) [f75_s_l00From.w, f77_s_l01DrawPlain.w] [] n
theorem f38_s_B10Plain.ok : ∀ n v x, f38_s_B10Plain.F n v = some x → evalFn E n 38 (flAs f38_s_B10Plain.P (sg_l.pk v)) = some (f38_s_B10Plain.A.enc x) :=
  fn_pure (modes := (fdAt 38).ms) (outs := (fdAt 38).os) (results := (fdAt 38).rs) f38_s_B10Plain.O (c := c38) (keep := keepAt 38) (by kernel_rfl) (fun n => orcOf_cf _ _ n) (fun n => lpOk_of (bs := []) (by kernel_rfl) .nil) (fun _ => rfl) (fun _ _ => by kernel_rfl)
noncomputable def f38_s_B10Plain.w : FnW E := fnW 38 f38_s_B10Plain.P sg_l f38_s_B10Plain.A f38_s_B10Plain.F f38_s_B10Plain.ok

def f82_i_size : Nat → Int → Option (Int)
  | 0, _ => none
  | n + 1, i1 =>
    some i1
def f82_i_size.P : List Arg := [⟨.val, ⟨false, [.leaf], [.int .i64 0]⟩⟩]
def f82_i_size.A : RAlt (Int) := .one ⟨[⟨false, [.leaf], [.int .i64 0]⟩], [none]⟩ sg_i
def f82_i_size.F (n : Nat) (v : Int) := f82_i_size n v
noncomputable def f82_i_size.O (n : Nat) : Orc := orcOf (E := E) [] [] n
theorem f82_i_size.ok : ∀ n v x, f82_i_size.F n v = some x → evalFn E n 82 (flAs f82_i_size.P (sg_i.pk v)) = some (f82_i_size.A.enc x) :=
  fn_pure (modes := (fdAt 82).ms) (outs := (fdAt 82).os) (results := (fdAt 82).rs) f82_i_size.O (c := c82) (keep := keepAt 82) (by kernel_rfl) (fun n => orcOf_cf _ _ n) (fun n => lpOk_of (bs := []) (by kernel_rfl) .nil) (fun _ => rfl) (fun _ _ => by kernel_rfl)
noncomputable def f82_i_size.w : FnW E := fnW 82 f82_i_size.P sg_i f82_i_size.A f82_i_size.F f82_i_size.ok

def f100_i_isLength : Nat → Int → Option (Bool)
  | 0, _ => none
  | n + 1, i1 =>
    bd (f83_i_within n i1 (1 : Int) (64 : Int)) fun r2 =>
    let b3 : Bool := r2
    some b3
def f100_i_isLength.P : List Arg := [⟨.val, ⟨false, [.leaf], [.int .i64 0]⟩⟩]
def f100_i_isLength.A : RAlt (Bool) := .one ⟨[⟨false, [.leaf], [.bool false]⟩], [none]⟩ sg_b
def f100_i_isLength.F (n : Nat) (v : Int) := f100_i_isLength n v
noncomputable def f100_i_isLength.O (n : Nat) : Orc := orcOf (E := E) [f83_i_within.w] [] n
theorem f100_i_isLength.ok : ∀ n v x, f100_i_isLength.F n v = some x → evalFn E n 100 (flAs f100_i_isLength.P (sg_i.pk v)) = some (f100_i_isLength.A.enc x) :=
  fn_pure (modes := (fdAt 100).ms) (outs := (fdAt 100).os) (results := (fdAt 100).rs) f100_i_isLength.O (c := c100) (keep := keepAt 100) (by kernel_rfl) (fun n => orcOf_cf _ _ n) (fun n => lpOk_of (bs := []) (by kernel_rfl) .nil) (fun _ => rfl) (fun _ _ => by kernel_rfl)
noncomputable def f100_i_isLength.w : FnW E := fnW 100 f100_i_isLength.P sg_i f100_i_isLength.A f100_i_isLength.F f100_i_isLength.ok

def f89_i_allWithin.l0 (n : Nat) : Nat → Nat → List T → Int → Int → Nat → List T → Int → Int → Option ((Bool) ⊕ (Unit))
  | 0, _, _, _, _, _, _, _, _ => none
  | m + 1, n1, l2, i3, i4, n5, l6, i7, i8 =>
    br (decide (i8 < i7)) (
     gd ((decide (((0 : Int) ≤ i8) ∧ (i8 < ((n5 : Nat) : Int)))) && (okAt [(CK.int IntKind.i64)] l6 (Int.toNat i8))) (
     let i9 : Int := (iAt l6 (Int.toNat i8))
     bd (f83_i_within n i9 i3 i4) fun r10 =>
     let b11 : Bool := r10
     br (!b11) (
      some (Sum.inl false)) (
      f89_i_allWithin.l0 n m n1 l2 i3 i4 n5 l6 i7 (IntKind.i64.wrap (i8 + (1 : Int)))))) (
     some (Sum.inr ()))
def f89_i_allWithin : Nat → Nat → List T → Int → Int → Option (Bool)
  | 0, _, _, _, _ => none
  | n + 1, n1, l2, i3, i4 =>
    bd (f89_i_allWithin.l0 n n n1 l2 i3 i4 n1 l2 ((n1 : Nat) : Int) (0 : Int)) fun r5 =>
    sm r5 (fun u6 =>
     let b7 : Bool := u6
     some b7) (fun u8 =>
     some true)
def sg_liilii : Sig (Nat × List T × Int × Int × Nat × List T × Int × Int) where
  pk := fun v => [.lst v.1 v.2.1, .int v.2.2.1, .int v.2.2.2.1, .lst v.2.2.2.2.1 v.2.2.2.2.2.1, .int v.2.2.2.2.2.2.1, .int v.2.2.2.2.2.2.2]
  up := fun ls => match ls with
    | [.lst a0 a1, .int a2, .int a3, .lst a4 a5, .int a6, .int a7] => some (a0, a1, a2, a3, a4, a5, a6, a7)
    | _ => none
  ok := by
    intro ls v h
    split at h
    · cases h; rfl
    · cases h

def f89_i_allWithin.l0.P : AS := ⟨[(0, .val false [.sl .shr [.leaf]] [.lst 0 []] [] 0), (1, .val false [.leaf] [.int .i64 0] [] 0), (2, .val false [.leaf] [.int .i64 0] [] 0), (9, .val false [.sl .shr [.leaf]] [.lst 0 []] [] 0), (10, .val false [.leaf] [.int .i64 0] [] 0), (11, .val false [.leaf] [.int .i64 0] [] 0)], 0⟩
def f89_i_allWithin.l0.A : Alt ((Bool) ⊕ (Unit)) := .or (.one .ret ⟨[(6, .val false [.leaf] [.bool false] [] 0)], 0⟩ sg_b) (.one (.exit 0) ⟨[(6, .dead)], 0⟩ sg)
def f89_i_allWithin.l0.F (n m : Nat) (v : Nat × List T × Int × Int × Nat × List T × Int × Int) := f89_i_allWithin.l0 n m v.1 v.2.1 v.2.2.1 v.2.2.2.1 v.2.2.2.2.1 v.2.2.2.2.2.1 v.2.2.2.2.2.2.1 v.2.2.2.2.2.2.2
def f89_i_allWithin.l0.W (n : Nat) : LpW := .of 32 f89_i_allWithin.l0.P sg_liilii f89_i_allWithin.l0.A (f89_i_allWithin.l0.F n n)
def f89_i_allWithin.P : List Arg := [⟨.val, ⟨false, [.sl .shr [.leaf]], [.lst 0 []]⟩⟩, ⟨.val, ⟨false, [.leaf], [.int .i64 0]⟩⟩, ⟨.val, ⟨false, [.leaf], [.int .i64 0]⟩⟩]
def f89_i_allWithin.A : RAlt (Bool) := .one ⟨[⟨false, [.leaf], [.bool false]⟩], [none, none, none]⟩ sg_b
def f89_i_allWithin.F (n : Nat) (v : Nat × List T × Int × Int) := f89_i_allWithin n v.1 v.2.1 v.2.2.1 v.2.2.2
noncomputable def f89_i_allWithin.O (n : Nat) : Orc := orcOf (E := E) [f83_i_within.w] [f89_i_allWithin.l0.W n] n
theorem f89_i_allWithin.l0.ok (n : Nat) : LpOk (f89_i_allWithin.O n) E (evalFn E n) n (keepAt 89) (.loop (loopAt c89 0)) :=
  lp_pure f89_i_allWithin.l0.P sg_liilii f89_i_allWithin.l0.A (f89_i_allWithin.l0.F n) (orcOf_cf _ _ n) (lpOk_of (bs := []) (by kernel_rfl) .nil) (fun _ => rfl) (fun _ _ => by kernel_rfl) (fun _ _ _ => by kernel_rfl)
theorem f89_i_allWithin.ok : ∀ n v x, f89_i_allWithin.F n v = some x → evalFn E n 89 (flAs f89_i_allWithin.P (sg_lii.pk v)) = some (f89_i_allWithin.A.enc x) :=
  fn_pure (modes := (fdAt 89).ms) (outs := (fdAt 89).os) (results := (fdAt 89).rs) f89_i_allWithin.O (c := c89) (keep := keepAt 89) (by kernel_rfl) (fun n => orcOf_cf _ _ n) (fun n => lpOk_of (bs := [loopAt c89 0]) (by kernel_rfl) (.cons (f89_i_allWithin.l0.ok n) .nil)) (fun _ => rfl) (fun _ _ => by kernel_rfl)
noncomputable def f89_i_allWithin.w : FnW E := fnW 89 f89_i_allWithin.P sg_lii f89_i_allWithin.A f89_i_allWithin.F f89_i_allWithin.ok

def f101_i_take : Nat → Nat → List T → Nat → Option (Nat × List T)
  | 0, _, _, _ => none
  | n + 1, n1, l2, x3 =>
    gd (decide (((0 : Int) ≤ (1 : Int)) ∧ (((1 : Int) ≤ ((n1 : Nat) : Int)) ∧ (((n1 : Nat) : Int) ≤ ((n1 : Nat) : Int))))) (
    bd (f95_i_copyNumbers n (n1 - 1) (List.take (n1 - 1) (List.drop 1 l2))) fun r4 =>
    let n5 : Nat := r4.1
    let l6 : List T := r4.2
    gd (Nat.ble (n5 + 1) 2147483648) (
    some ((n5 + 1), (l6 ++ (setN (reps 1 [(T.flt FloatKind.f32 0)]) 0 [(T.flt FloatKind.f32 x3)])))))
def sg_lf : Sig (Nat × List T × Nat) where
  pk := fun v => [.lst v.1 v.2.1, .flt v.2.2]
  up := fun ls => match ls with
    | [.lst a0 a1, .flt a2] => some (a0, a1, a2)
    | _ => none
  ok := by
    intro ls v h
    split at h
    · cases h; rfl
    · cases h

def f101_i_take.P : List Arg := [⟨.val, ⟨false, [.sl .shr [.leaf]], [.lst 0 []]⟩⟩, ⟨.val, ⟨false, [.leaf], [.flt .f32 0]⟩⟩]
def f101_i_take.A : RAlt (Nat × List T) := .one ⟨[⟨false, [.sl .own [.leaf]], [.lst 0 []]⟩], [none, none]⟩ sg_l
def f101_i_take.F (n : Nat) (v : Nat × List T × Nat) := f101_i_take n v.1 v.2.1 v.2.2
noncomputable def f101_i_take.O (n : Nat) : Orc := orcOf (E := E) [f95_i_copyNumbers.w] [] n
theorem f101_i_take.ok : ∀ n v x, f101_i_take.F n v = some x → evalFn E n 101 (flAs f101_i_take.P (sg_lf.pk v)) = some (f101_i_take.A.enc x) :=
  fn_pure (modes := (fdAt 101).ms) (outs := (fdAt 101).os) (results := (fdAt 101).rs) f101_i_take.O (c := c101) (keep := keepAt 101) (by kernel_rfl) (fun n => orcOf_cf _ _ n) (fun n => lpOk_of (bs := []) (by kernel_rfl) .nil) (fun _ => rfl) (fun _ _ => by kernel_rfl)
noncomputable def f101_i_take.w : FnW E := fnW 101 f101_i_take.P sg_lf f101_i_take.A f101_i_take.F f101_i_take.ok

def f39_i_RunChorus.l0 (n : Nat) : Nat → Nat → List T → Nat → Int → Nat → List T → Int → Nat → List T → Nat → List T → Nat → List T → Int → Int → Option (Nat × List T × Nat × List T)
  | 0, _, _, _, _, _, _, _, _, _, _, _, _, _, _, _ => none
  | m + 1, n1, l2, x3, i4, n5, l6, i7, n8, l9, n10, l11, n12, l13, i14, i15 =>
    br (decide (i15 < i14)) (
     gd ((decide (((0 : Int) ≤ i15) ∧ (i15 < ((n12 : Nat) : Int)))) && (okAt [(CK.flt FloatKind.f32)] l13 (Int.toNat i15))) (
     let x16 : Nat := (fAt l13 (Int.toNat i15))
     bd (f82_i_size n ((n1 : Nat) : Int)) fun r17 =>
     let i18 : Int := r17
     gd (!(decide (i18 = (0 : Int)))) (
     gd ((decide (((0 : Int) ≤ (Int.tmod (IntKind.i64.wrap (i4 + i15)) i18)) ∧ ((Int.tmod (IntKind.i64.wrap (i4 + i15)) i18) < ((n1 : Nat) : Int)))) && (okAt [(CK.int IntKind.i64)] l2 (Int.toNat (Int.tmod (IntKind.i64.wrap (i4 + i15)) i18)))) (
     let i19 : Int := (iAt l2 (Int.toNat (Int.tmod (IntKind.i64.wrap (i4 + i15)) i18)))
     gd (decide (((0 : Int) ≤ (IntKind.i64.wrap (i7 - i19))) ∧ ((IntKind.i64.wrap (i7 - i19)) < ((n8 : Nat) : Int)))) (
     gd (okAt [(CK.flt FloatKind.f32)] l9 (Int.toNat (IntKind.i64.wrap (i7 - i19)))) (
     gd (Nat.ble (n10 + 1) 2147483648) (
     let n20 : Nat := (n10 + 1)
     let l21 : List T := (l11 ++ (setN (reps 1 [(T.flt FloatKind.f32 0)]) 0 [(T.flt FloatKind.f32 (fadd FloatKind.f32 x16 (fmul FloatKind.f32 x3 (fAt l9 (Int.toNat (IntKind.i64.wrap (i7 - i19)))))))]))
     bd (f101_i_take n n8 l9 x16) fun r22 =>
     let n23 : Nat := r22.1
     let l24 : List T := r22.2
     f39_i_RunChorus.l0 n m n1 l2 x3 i4 n5 l6 i7 n23 l24 n20 l21 n12 l13 i14 (IntKind.i64.wrap (i15 + (1 : Int)))))))))) (
     some (n8, l9, n10, l11))
def f39_i_RunChorus : Nat → Nat → List T → Nat → Nat → List T → Int → Nat → List T → Option (Nat × List T × Nat × List T × Bool)
  | 0, _, _, _, _, _, _, _, _ => none
  | n + 1, n1, l2, x3, n4, l5, i6, n7, l8 =>
    bd (f82_i_size n ((n4 : Nat) : Int)) fun r9 =>
    let i10 : Int := r9
    bd (f100_i_isLength n i10) fun r11 =>
    let b12 : Bool := r11
    br (!b12) (
     some (0, [], 0, [], false)) (
     bd (f82_i_size n ((n1 : Nat) : Int)) fun r13 =>
     let i14 : Int := r13
     bd (f100_i_isLength n i14) fun r15 =>
     let b16 : Bool := r15
     br (!b16) (
      some (0, [], 0, [], false)) (
      bd (f89_i_allWithin n n1 l2 (1 : Int) i10) fun r17 =>
      let b18 : Bool := r17
      br (!b18) (
       some (0, [], 0, [], false)) (
       bd (f83_i_within n i6 (0 : Int) (1000000000000000 : Int)) fun r19 =>
       let b20 : Bool := r19
       br (!b20) (
        some (0, [], 0, [], false)) (
        bd (f94_i_areSamples n n7 l8) fun r21 =>
        let b22 : Bool := r21
        br (!b22) (
         some (0, [], 0, [], false)) (
         bd (f95_i_copyNumbers n n4 l5) fun r23 =>
         let n24 : Nat := r23.1
         let l25 : List T := r23.2
         bd (f39_i_RunChorus.l0 n n n1 l2 x3 i6 n7 l8 i10 n24 l25 0 [] n7 l8 ((n7 : Nat) : Int) (0 : Int)) fun r26 =>
         let n27 : Nat := r26.1
         let l28 : List T := r26.2.1
         let n29 : Nat := r26.2.2.1
         let l30 : List T := r26.2.2.2
         some (n29, l30, n27, l28, true))))))
def sg_lflil : Sig (Nat × List T × Nat × Nat × List T × Int × Nat × List T) where
  pk := fun v => [.lst v.1 v.2.1, .flt v.2.2.1, .lst v.2.2.2.1 v.2.2.2.2.1, .int v.2.2.2.2.2.1, .lst v.2.2.2.2.2.2.1 v.2.2.2.2.2.2.2]
  up := fun ls => match ls with
    | [.lst a0 a1, .flt a2, .lst a3 a4, .int a5, .lst a6 a7] => some (a0, a1, a2, a3, a4, a5, a6, a7)
    | _ => none
  ok := by
    intro ls v h
    split at h
    · cases h; rfl
    · cases h

def sg_lfililllii : Sig (Nat × List T × Nat × Int × Nat × List T × Int × Nat × List T × Nat × List T × Nat × List T × Int × Int) where
  pk := fun v => [.lst v.1 v.2.1, .flt v.2.2.1, .int v.2.2.2.1, .lst v.2.2.2.2.1 v.2.2.2.2.2.1, .int v.2.2.2.2.2.2.1, .lst v.2.2.2.2.2.2.2.1 v.2.2.2.2.2.2.2.2.1, .lst v.2.2.2.2.2.2.2.2.2.1 v.2.2.2.2.2.2.2.2.2.2.1, .lst v.2.2.2.2.2.2.2.2.2.2.2.1 v.2.2.2.2.2.2.2.2.2.2.2.2.1, .int v.2.2.2.2.2.2.2.2.2.2.2.2.2.1, .int v.2.2.2.2.2.2.2.2.2.2.2.2.2.2]
  up := fun ls => match ls with
    | [.lst a0 a1, .flt a2, .int a3, .lst a4 a5, .int a6, .lst a7 a8, .lst a9 a10, .lst a11 a12, .int a13, .int a14] => some (a0, a1, a2, a3, a4, a5, a6, a7, a8, a9, a10, a11, a12, a13, a14)
    | _ => none
  ok := by
    intro ls v h
    split at h
    · cases h; rfl
    · cases h

def f39_i_RunChorus.l0.P : AS := ⟨[(0, .val false [.sl .shr [.leaf]] [.lst 0 []] [] 0), (1, .val false [.leaf] [.flt .f32 0] [] 0), (3, .val false [.leaf] [.int .i64 0] [] 0), (4, .val false [.sl .shr [.leaf]] [.lst 0 []] [] 0), (13, .val false [.leaf] [.int .i64 0] [] 0), (14, .val false [.sl .own [.leaf]] [.lst 0 []] [] 0), (15, .val false [.sl .own [.leaf]] [.lst 0 []] [] 0), (50, .val false [.sl .shr [.leaf]] [.lst 0 []] [] 0), (51, .val false [.leaf] [.int .i64 0] [] 0), (52, .val false [.leaf] [.int .i64 0] [] 0)], 0⟩
def f39_i_RunChorus.l0.A : Alt (Nat × List T × Nat × List T) := .one (.exit 0) ⟨[(14, .val false [.sl .own [.leaf]] [.lst 0 []] [] 0), (15, .val false [.sl .own [.leaf]] [.lst 0 []] [] 0)], 0⟩ sg_ll
def f39_i_RunChorus.l0.F (n m : Nat) (v : Nat × List T × Nat × Int × Nat × List T × Int × Nat × List T × Nat × List T × Nat × List T × Int × Int) := f39_i_RunChorus.l0 n m v.1 v.2.1 v.2.2.1 v.2.2.2.1 v.2.2.2.2.1 v.2.2.2.2.2.1 v.2.2.2.2.2.2.1 v.2.2.2.2.2.2.2.1 v.2.2.2.2.2.2.2.2.1 v.2.2.2.2.2.2.2.2.2.1 v.2.2.2.2.2.2.2.2.2.2.1 v.2.2.2.2.2.2.2.2.2.2.2.1 v.2.2.2.2.2.2.2.2.2.2.2.2.1 v.2.2.2.2.2.2.2.2.2.2.2.2.2.1 v.2.2.2.2.2.2.2.2.2.2.2.2.2.2
def f39_i_RunChorus.l0.W (n : Nat) : LpW := .of 112 f39_i_RunChorus.l0.P sg_lfililllii f39_i_RunChorus.l0.A (f39_i_RunChorus.l0.F n n)
def f39_i_RunChorus.P : List Arg := [⟨.val, ⟨false, [.sl .shr [.leaf]], [.lst 0 []]⟩⟩, ⟨.val, ⟨false, [.leaf], [.flt .f32 0]⟩⟩, ⟨.val, ⟨false, [.sl .shr [.leaf]], [.lst 0 []]⟩⟩, ⟨.val, ⟨false, [.leaf], [.int .i64 0]⟩⟩, ⟨.val, ⟨false, [.sl .shr [.leaf]], [.lst 0 []]⟩⟩]
def f39_i_RunChorus.A : RAlt (Nat × List T × Nat × List T × Bool) := .one ⟨[⟨false, [.sl .own [.leaf]], [.lst 0 []]⟩, ⟨false, [.sl .own [.leaf]], [.lst 0 []]⟩, ⟨false, [.leaf], [.bool false]⟩], [none, none, none, none, none]⟩ sg_llb
def f39_i_RunChorus.F (n : Nat) (v : Nat × List T × Nat × Nat × List T × Int × Nat × List T) := f39_i_RunChorus n v.1 v.2.1 v.2.2.1 v.2.2.2.1 v.2.2.2.2.1 v.2.2.2.2.2.1 v.2.2.2.2.2.2.1 v.2.2.2.2.2.2.2
noncomputable def f39_i_RunChorus.O (n : Nat) : Orc := orcOf (E := E) [f83_i_within.w, f94_i_areSamples.w, f95_i_copyNumbers.w, f82_i_size.w, f100_i_isLength.w, f89_i_allWithin.w, f101_i_take.w] [f39_i_RunChorus.l0.W n] n
theorem f39_i_RunChorus.l0.ok (n : Nat) : LpOk (f39_i_RunChorus.O n) E (evalFn E n) n (keepAt 39) (.loop (loopAt c39 0)) :=
  lp_pure f39_i_RunChorus.l0.P sg_lfililllii f39_i_RunChorus.l0.A (f39_i_RunChorus.l0.F n) (orcOf_cf _ _ n) (lpOk_of (bs := []) (by kernel_rfl) .nil) (fun _ => rfl) (fun _ _ => by kernel_rfl) (fun _ _ _ => by kernel_rfl)
theorem f39_i_RunChorus.ok : ∀ n v x, f39_i_RunChorus.F n v = some x → evalFn E n 39 (flAs f39_i_RunChorus.P (sg_lflil.pk v)) = some (f39_i_RunChorus.A.enc x) :=
  fn_pure (modes := (fdAt 39).ms) (outs := (fdAt 39).os) (results := (fdAt 39).rs) f39_i_RunChorus.O (c := c39) (keep := keepAt 39) (by kernel_rfl) (fun n => orcOf_cf _ _ n) (fun n => lpOk_of (bs := [loopAt c39 0]) (by kernel_rfl) (.cons (f39_i_RunChorus.l0.ok n) .nil)) (fun _ => rfl) (fun _ _ => by kernel_rfl)
noncomputable def f39_i_RunChorus.w : FnW E := fnW 39 f39_i_RunChorus.P sg_lflil f39_i_RunChorus.A f39_i_RunChorus.F f39_i_RunChorus.ok

def f6_l_FnTaps.l0 (n : Nat) : Nat → Int → Nat → List T → Int → Nat → Nat → List T → Nat → List T → Nat → List T → Int → Option ((Bool) ⊕ (Int × Nat × List T × Nat × List T))
  | 0, _, _, _, _, _, _, _, _, _, _, _, _ => none
  | m + 1, i1, n2, l3, i4, x5, n6, l7, n8, l9, n10, l11, i12 =>
    br (decide (i12 < i1)) (
     gd (decide (((0 : Int) ≤ i12) ∧ (i12 < ((n6 : Nat) : Int)))) (
     gd (okAt [(CK.flt FloatKind.f32)] l7 (Int.toNat i12)) (
     gd (decide (((0 : Int) ≤ i12) ∧ (i12 < ((n2 : Nat) : Int)))) (
     gd (okAt [(CK.flt FloatKind.f32)] l3 (Int.toNat i12)) (
     gd (decide (((0 : Int) ≤ (IntKind.i64.wrap ((IntKind.i64.wrap ((6 : Int) + i12)) - i4))) ∧ ((IntKind.i64.wrap ((IntKind.i64.wrap ((6 : Int) + i12)) - i4)) < ((n10 : Nat) : Int)))) (
     gd (okAt [(CK.flt FloatKind.f32)] l11 (Int.toNat (IntKind.i64.wrap ((IntKind.i64.wrap ((6 : Int) + i12)) - i4)))) (
     bd (f23_s_SameNumber n (fAt l7 (Int.toNat i12)) (fadd FloatKind.f32 (fAt l3 (Int.toNat i12)) (fmul FloatKind.f32 x5 (fAt l11 (Int.toNat (IntKind.i64.wrap ((IntKind.i64.wrap ((6 : Int) + i12)) - i4))))))) fun r13 =>
     let b14 : Bool := r13
     br (!b14) (
      some (Sum.inl false)) (
      f6_l_FnTaps.l0 n m i1 n2 l3 i4 x5 n6 l7 n8 l9 n10 l11 (IntKind.i64.wrap (i12 + (1 : Int))))))))))) (
     some (Sum.inr (i1, n8, l9, n10, l11)))
def f6_l_FnTaps : Nat → Nat → List T → Nat → List T → Option (Bool)
  | 0, _, _, _, _ => none
  | n + 1, n1, l2, n3, l4 =>
    bd (f15_l_b10Long n n1 l2 n3 l4) fun r5 =>
    let b6 : Bool := r5
    br b6 (
     some true) (
     bd (f35_s_B10Taps n n1 l2) fun r7 =>
     let n8 : Nat := r7.1
     let l9 : List T := r7.2
     bd (f17_l_b10At n n3 l4 (0 : Int) (20 : Int)) fun r10 =>
     let i11 : Int := r10
     bd (f19_s_B10Numbers n n3 l4 i11) fun r12 =>
     let n13 : Nat := r12.1
     let l14 : List T := r12.2
     bd (f17_l_b10At n n3 l4 (1 : Int) (IntKind.i64.wrap (i11 + (1 : Int)))) fun r15 =>
     let i16 : Int := r15
     bd (f19_s_B10Numbers n n1 l2 (64 : Int)) fun r17 =>
     let n18 : Nat := r17.1
     let l19 : List T := r17.2
     bd (f36_i_RunTaps n n8 l9 n18 l19 n13 l14) fun r20 =>
     let n21 : Nat := r20.1
     let l22 : List T := r20.2.1
     let n23 : Nat := r20.2.2.1
     let l24 : List T := r20.2.2.2.1
     let b25 : Bool := r20.2.2.2.2
     gd (decide (((0 : Int) ≤ (0 : Int)) ∧ (((0 : Int) ≤ i16) ∧ (i16 ≤ ((n13 : Nat) : Int))))) (
     bd (f36_i_RunTaps n n8 l9 n18 l19 ((Int.toNat i16) - 0) (List.take ((Int.toNat i16) - 0) (List.drop 0 l14))) fun r26 =>
     let n27 : Nat := r26.1
     let l28 : List T := r26.2.1
     let n29 : Nat := r26.2.2.1
     let l30 : List T := r26.2.2.2.1
     let b31 : Bool := r26.2.2.2.2
     gd (decide (((0 : Int) ≤ i16) ∧ ((i16 ≤ ((n13 : Nat) : Int)) ∧ (((n13 : Nat) : Int) ≤ ((n13 : Nat) : Int))))) (
     bd (f36_i_RunTaps n n8 l9 n29 l30 (n13 - (Int.toNat i16)) (List.take (n13 - (Int.toNat i16)) (List.drop (Int.toNat i16) l14))) fun r32 =>
     let n33 : Nat := r32.1
     let l34 : List T := r32.2.1
     let n35 : Nat := r32.2.2.1
     let l36 : List T := r32.2.2.2.1
     let b37 : Bool := r32.2.2.2.2
     br (!b25) (
      some false) (
      br (!b31) (
       some false) (
       br (!b37) (
        some false) (
        bd (f37_i_ValidTaps n n8 l9) fun r38 =>
        let b39 : Bool := r38
        br (!b39) (
         some false) (
         gd (Nat.ble (0 + n27) 2147483648) (
         gd (Nat.ble ((0 + n27) + n33) 2147483648) (
         bd (f25_l_b10Same n ((0 + n27) + n33) (((reps 0 [(T.flt FloatKind.f32 0)]) ++ l28) ++ l34) n21 l22) fun r40 =>
         let b41 : Bool := r40
         br (!b41) (
          some false) (
          bd (f25_l_b10Same n n23 l24 n35 l36) fun r42 =>
          let b43 : Bool := r42
          br (!b43) (
           some false) (
           bd (f17_l_b10At n n3 l4 (2 : Int) (6 : Int)) fun r44 =>
           let i45 : Int := r44
           let i46 : Int := (IntKind.i64.wrap ((1 : Int) + i45))
           bd (f38_s_B10Plain n n3 l4) fun r47 =>
           let x48 : Nat := r47
           bd (f19_s_B10Numbers n n1 l2 (6 : Int)) fun r49 =>
           let n50 : Nat := r49.1
           let l51 : List T := r49.2
           bd (f39_i_RunChorus n 1 (setN (reps 1 [(T.int IntKind.i64 (0 : Int))]) 0 [(T.int IntKind.i64 i46)]) x48 n50 l51 (0 : Int) n13 l14) fun r52 =>
           let n53 : Nat := r52.1
           let l54 : List T := r52.2.1
           let n55 : Nat := r52.2.2.1
           let l56 : List T := r52.2.2.2.1
           let b57 : Bool := r52.2.2.2.2
           br (!b57) (
            some false) (
            br (((n53 : Nat) : Int) != i11) (
             some false) (
             br (((n55 : Nat) : Int) != (6 : Int)) (
              some false) (
              gd (Nat.ble (0 + n50) 2147483648) (
              gd (Nat.ble ((0 + n50) + n13) 2147483648) (
              let n58 : Nat := ((0 + n50) + n13)
              let l59 : List T := (((reps 0 [(T.flt FloatKind.f32 0)]) ++ l51) ++ l14)
              bd (f6_l_FnTaps.l0 n n i11 n13 l14 i46 x48 n53 l54 n55 l56 n58 l59 (0 : Int)) fun r60 =>
              sm r60 (fun u61 =>
               let b62 : Bool := u61
               some b62) (fun u63 =>
               let i64 : Int := u63.1
               let n65 : Nat := u63.2.1
               let l66 : List T := u63.2.2.1
               let n67 : Nat := u63.2.2.2.1
               let l68 : List T := u63.2.2.2.2
               gd (decide (((0 : Int) ≤ i64) ∧ ((i64 ≤ ((n67 : Nat) : Int)) ∧ (((n67 : Nat) : Int) ≤ ((n67 : Nat) : Int))))) (
               bd (f25_l_b10Same n n65 l66 (n67 - (Int.toNat i64)) (List.take (n67 - (Int.toNat i64)) (List.drop (Int.toNat i64) l68))) fun r69 =>
               let b70 : Bool := r69
               some b70))))))))))))))))))
def sg_ilifllli : Sig (Int × Nat × List T × Int × Nat × Nat × List T × Nat × List T × Nat × List T × Int) where
  pk := fun v => [.int v.1, .lst v.2.1 v.2.2.1, .int v.2.2.2.1, .flt v.2.2.2.2.1, .lst v.2.2.2.2.2.1 v.2.2.2.2.2.2.1, .lst v.2.2.2.2.2.2.2.1 v.2.2.2.2.2.2.2.2.1, .lst v.2.2.2.2.2.2.2.2.2.1 v.2.2.2.2.2.2.2.2.2.2.1, .int v.2.2.2.2.2.2.2.2.2.2.2]
  up := fun ls => match ls with
    | [.int a0, .lst a1 a2, .int a3, .flt a4, .lst a5 a6, .lst a7 a8, .lst a9 a10, .int a11] => some (a0, a1, a2, a3, a4, a5, a6, a7, a8, a9, a10, a11)
    | _ => none
  ok := by
    intro ls v h
    split at h
    · cases h; rfl
    · cases h

def sg_ill : Sig (Int × Nat × List T × Nat × List T) where
  pk := fun v => [.int v.1, .lst v.2.1 v.2.2.1, .lst v.2.2.2.1 v.2.2.2.2]
  up := fun ls => match ls with
    | [.int a0, .lst a1 a2, .lst a3 a4] => some (a0, a1, a2, a3, a4)
    | _ => none
  ok := by
    intro ls v h
    split at h
    · cases h; rfl
    · cases h

def f6_l_FnTaps.l0.P : AS := ⟨[(6, .val false [.leaf] [.int .i64 0] [] 0), (7, .val false [.sl .own [.leaf]] [.lst 0 []] [] 0), (19, .val false [.leaf] [.int .i64 0] [] 0), (20, .val false [.leaf] [.flt .f32 0] [] 0), (22, .val false [.sl .own [.leaf]] [.lst 0 []] [] 0), (23, .val false [.sl .own [.leaf]] [.lst 0 []] [] 0), (25, .val false [.sl .own [.leaf]] [.lst 0 []] [] 0), (26, .val false [.leaf] [.int .i64 0] [] 0)], 0⟩
def f6_l_FnTaps.l0.A : Alt ((Bool) ⊕ (Int × Nat × List T × Nat × List T)) := .or (.one .ret ⟨[(4, .val false [.leaf] [.bool false] [] 0), (6, .dead), (23, .dead), (25, .dead)], 0⟩ sg_b) (.one (.exit 0) ⟨[(4, .dead), (6, .val false [.leaf] [.int .i64 0] [] 0), (23, .val false [.sl .own [.leaf]] [.lst 0 []] [] 0), (25, .val false [.sl .own [.leaf]] [.lst 0 []] [] 0)], 0⟩ sg_ill)
def f6_l_FnTaps.l0.F (n m : Nat) (v : Int × Nat × List T × Int × Nat × Nat × List T × Nat × List T × Nat × List T × Int) := f6_l_FnTaps.l0 n m v.1 v.2.1 v.2.2.1 v.2.2.2.1 v.2.2.2.2.1 v.2.2.2.2.2.1 v.2.2.2.2.2.2.1 v.2.2.2.2.2.2.2.1 v.2.2.2.2.2.2.2.2.1 v.2.2.2.2.2.2.2.2.2.1 v.2.2.2.2.2.2.2.2.2.2.1 v.2.2.2.2.2.2.2.2.2.2.2
def f6_l_FnTaps.l0.W (n : Nat) : LpW := .of 336 f6_l_FnTaps.l0.P sg_ilifllli f6_l_FnTaps.l0.A (f6_l_FnTaps.l0.F n n)
def f6_l_FnTaps.P : List Arg := [⟨.val, ⟨false, [.sl .shr [.leaf]], [.lst 0 []]⟩⟩, ⟨.val, ⟨false, [.sl .shr [.leaf]], [.lst 0 []]⟩⟩]
def f6_l_FnTaps.A : RAlt (Bool) := .one ⟨[⟨false, [.leaf], [.bool false]⟩], [none, none]⟩ sg_b
def f6_l_FnTaps.F (n : Nat) (v : Nat × List T × Nat × List T) := f6_l_FnTaps n v.1 v.2.1 v.2.2.1 v.2.2.2
noncomputable def f6_l_FnTaps.O (n : Nat) : Orc := orcOf (E := E) [f15_l_b10Long.w, f35_s_B10Taps.w, f17_l_b10At.w, f19_s_B10Numbers.w, f37_i_ValidTaps.w, f36_i_RunTaps.w, f23_s_SameNumber.w, f25_l_b10Same.w, f38_s_B10Plain.w, f39_i_RunChorus.w] [f6_l_FnTaps.l0.W n] n
theorem f6_l_FnTaps.l0.ok (n : Nat) : LpOk (f6_l_FnTaps.O n) E (evalFn E n) n (keepAt 6) (.loop (loopAt c6 0)) :=
  lp_pure f6_l_FnTaps.l0.P sg_ilifllli f6_l_FnTaps.l0.A (f6_l_FnTaps.l0.F n) (orcOf_cf _ _ n) (lpOk_of (bs := []) (by kernel_rfl) .nil) (fun _ => rfl) (fun _ _ => by kernel_rfl) (fun _ _ _ => by kernel_rfl)
theorem f6_l_FnTaps.ok : ∀ n v x, f6_l_FnTaps.F n v = some x → evalFn E n 6 (flAs f6_l_FnTaps.P (sg_ll.pk v)) = some (f6_l_FnTaps.A.enc x) :=
  fn_pure (modes := (fdAt 6).ms) (outs := (fdAt 6).os) (results := (fdAt 6).rs) f6_l_FnTaps.O (c := c6) (keep := keepAt 6) (by kernel_rfl) (fun n => orcOf_cf _ _ n) (fun n => lpOk_of (bs := [loopAt c6 0]) (by kernel_rfl) (.cons (f6_l_FnTaps.l0.ok n) .nil)) (fun _ => rfl) (fun _ _ => by kernel_rfl)
noncomputable def f6_l_FnTaps.w : FnW E := fnW 6 f6_l_FnTaps.P sg_ll f6_l_FnTaps.A f6_l_FnTaps.F f6_l_FnTaps.ok
end Go.Proofs.Ytdejjalkfekjiaa.D
end
section
/- FnTaps, in plain Lean. -/
namespace Go.Proofs.Ytdejjalkfekjiaa.D
open Go Go.Desk
set_option linter.unusedVariables false
theorem s_from (n l : Nat) (c : List T) : f75_s_l00From (n + 1) l c = some (l, c, 0, 0) := by rw [f75_s_l00From]
theorem s_next (n : Nat) {bs : List Int} (hb : Bytes bs) {a : Int} (h0 : 0 ≤ a) (h1 : a ≤ 1125899906842624) (sd : Int) :
    ∃ r sd', (0 ≤ r ∧ r ≤ 255) ∧ f128_s_l00Srcnext (n + 1) bs.length (its .u8 bs) a sd = some (r, bs.length, its .u8 bs, a + 1, sd') := by
  rw [f128_s_l00Srcnext]
  rw [show IntKind.i64.wrap (a + 1) = a + 1 by rw [wrap64] <;> omega]
  cases h : decide (a < (bs.length : Int))
  · simp only [br_f]
    cases decide (a + 1 ≤ (bs.length : Int))
    · exact ⟨_, _, and255 _, rfl⟩
    · exact ⟨0, _, by omega, rfl⟩
  · simp only [decide_eq_true_eq] at h
    obtain ⟨i, rfl⟩ := Int.eq_ofNat_of_zero_le h0
    have hi : i < bs.length := by omega
    have hr := hb (bs[i]) (List.getElem_mem _)
    simp only [br_t, in_dec hi, Int.toNat_natCast, okAt_its hi, Bool.and_self, gd_t, iAt_its]
    rw [show bs.getD i 0 = bs[i] by simp [List.getD, hi], show IntKind.i64.wrap bs[i] = bs[i] by rw [wrap64] <;> omega]
    cases decide ((i : Int) + 1 ≤ (bs.length : Int))
    · exact ⟨_, _, and255 _, rfl⟩
    · exact ⟨_, _, hr, rfl⟩
theorem s_pick (n : Nat) {bs : List Int} (hb : Bytes bs) {a : Int} (h0 : 0 ≤ a) (h1 : a ≤ 1125899906842622) (sd k : Int) :
    ∃ r a' sd', (0 ≤ r ∧ (1 < k → r < k) ∧ (k ≤ 1 → r = 0)) ∧ (a ≤ a' ∧ a' ≤ a + 2) ∧ f76_s_l00Srcpick (n + 2) bs.length (its .u8 bs) a sd k = some (r, bs.length, its .u8 bs, a', sd') := by
  rw [f76_s_l00Srcpick]
  by_cases hk : k ≤ 1
  · rw [decide_eq_true hk]; exact ⟨0, a, sd, by omega, by omega, rfl⟩
  rw [decide_eq_false hk]
  obtain ⟨r, s1, hr, e1⟩ := s_next n hb h0 (by omega) sd
  simp only [br_f, e1, bd_s]
  have hk0 : (!decide (k = 0)) = true := by simp; omega
  by_cases hk2 : k > 200
  · rw [decide_eq_true hk2]
    obtain ⟨r', s2, hr', e2⟩ := s_next n hb (a := a + 1) (by omega) (by omega) s1
    simp only [br_t, e2, bd_s, hk0, gd_t]
    rw [show IntKind.i64.wrap (r * 256) = r * 256 by rw [wrap64] <;> omega, show IntKind.i64.wrap (r * 256 + r') = r * 256 + r' by rw [wrap64] <;> omega]
    refine ⟨_, _, _, ?_, ?_, rfl⟩
    · rw [Int.tmod_eq_emod_of_nonneg (by omega)]
      have := Int.emod_nonneg (r * 256 + r') (show k ≠ 0 by omega)
      have := Int.emod_lt_of_pos (r * 256 + r') (show 0 < k by omega)
      omega
    · omega
  · rw [decide_eq_false hk2]
    simp only [br_f, hk0, gd_t]
    refine ⟨_, _, _, ?_, ?_, rfl⟩
    · rw [Int.tmod_eq_emod_of_nonneg (by omega)]
      have := Int.emod_nonneg r (show k ≠ 0 by omega)
      have := Int.emod_lt_of_pos r (show 0 < k by omega)
      omega
    · omega
theorem s_one (n : Nat) {bs : List Int} (hb : Bytes bs) {a : Int} (h0 : 0 ≤ a) (h1 : a ≤ 1125899906842622) (sd k : Int) :
    ∃ r a' sd', (a ≤ a' ∧ a' ≤ a + 2) ∧ f129_s_l00Srcone (n + 3) bs.length (its .u8 bs) a sd k = some (r, bs.length, its .u8 bs, a', sd') := by
  obtain ⟨r, a', s', -, ha, e⟩ := s_pick n hb h0 h1 sd k
  rw [f129_s_l00Srcone, e]
  exact ⟨_, _, _, ha, rfl⟩
theorem s_plain (n : Nat) {bs : List Int} (hb : Bytes bs) {a : Int} (h0 : 0 ≤ a) (h1 : a ≤ 1125899906842620) (sd : Int) :
    ∃ x a' sd', Plain x ∧ (a ≤ a' ∧ a' ≤ a + 4) ∧ f77_s_l01DrawPlain (n + 4) bs.length (its .u8 bs) a sd = some (x, bs.length, its .u8 bs, a', sd') := by
  obtain ⟨r, a1, s1, hr, ha, e⟩ := s_pick (n + 1) hb h0 (by omega) sd 129
  obtain ⟨b, a2, s2, ha2, e2⟩ := s_one n hb (a := a1) (by omega) (by omega) s1 4
  rw [f77_s_l01DrawPlain, e]
  simp only [bd_s, e2]
  rw [show IntKind.i64.wrap (r - 64) = r - 64 by rw [wrap64] <;> omega]
  cases b
  · exact ⟨_, a2, s2, ⟨r - 64, by omega, .inr rfl⟩, by omega, rfl⟩
  · exact ⟨_, a2, s2, ⟨r - 64, by omega, .inl rfl⟩, by omega, rfl⟩
theorem s_among (n : Nat) {bs : List Int} (hb : Bytes bs) {a : Int} (h0 : 0 ≤ a) (h1 : a ≤ 1125899906842622) (sd : Int) (L : List Int) (hL : 0 < L.length) :
    ∃ r a' sd', r ∈ L ∧ (a ≤ a' ∧ a' ≤ a + 2) ∧ f132_s_l00Srcamong (n + 3) bs.length (its .u8 bs) a sd L.length (its .i64 L) = some (r, bs.length, its .u8 bs, a', sd', L.length, its .i64 L) := by
  obtain ⟨r, a1, s1, hr, ha, e⟩ := s_pick n hb h0 h1 sd (L.length : Int)
  rw [f132_s_l00Srcamong, e]
  obtain ⟨i, rfl⟩ := Int.eq_ofNat_of_zero_le hr.1
  have hi : i < L.length := by
    by_cases h : (L.length : Int) ≤ 1
    · have := hr.2.2 h; omega
    · have := hr.2.1 (by omega); omega
  simp only [bd_s, in_dec hi, Int.toNat_natCast, okAt_its hi, Bool.and_self, gd_t, iAt_its]
  refine ⟨_, _, _, ?_, ha, rfl⟩
  rw [show L.getD i 0 = L[i] by simp [List.getD, hi]]
  exact List.getElem_mem _
theorem s_from32 (n : Nat) {i : Int} (h0 : 0 ≤ i) (h1 : i < 4294967296) : ∃ x, W32 x ∧ f131_s_l01From (n + 2) i = some x := by
  rw [f131_s_l01From]
  refine ⟨canon .f32 i.toNat, w32_canon (by omega), ?_⟩
  rw [u32_wrap h0 h1]
  show bd (if 0 ≤ i then some (canon .f32 i.toNat) else none) _ = _
  rw [if_pos h0]; rfl
theorem s_float (n : Nat) {bs : List Int} (hb : Bytes bs) {a : Int} (h0 : 0 ≤ a) (h1 : a ≤ 1125899906842600) (sd : Int) :
    ∃ x a' sd', W32 x ∧ (a ≤ a' ∧ a' ≤ a + 16) ∧ f99_s_l01DrawFloat (n + 5) bs.length (its .u8 bs) a sd = some (x, bs.length, its .u8 bs, a', sd') := by
  obtain ⟨b, a1, s1, ha1, e1⟩ := s_one (n + 1) hb h0 (by omega) sd 12
  rw [f99_s_l01DrawFloat, e1]
  simp only [bd_s, br_not]
  cases b
  · obtain ⟨x, a2, s2, hx, ha2, e2⟩ := s_plain n hb (a := a1) (by omega) (by omega) s1
    simp only [br_f, e2, bd_s]
    exact ⟨_, _, _, hx.w32, by omega, rfl⟩
  obtain ⟨q, a2, s2, -, ha2, e2⟩ := s_pick (n + 2) hb (a := a1) (by omega) (by omega) s1 4
  simp only [br_t, e2, bd_s]
  cases q == 0
  case true =>
    obtain ⟨r, a3, s3, hr, ha3, e3⟩ := s_among (n + 1) hb (a := a2) (by omega) (by omega) s2 [0, 2147483648, 2139095040, 4286578688, 2143289344, 1, 2139095039, 8388608, 8388607, 2147483649] (by decide)
    have hr' : 0 ≤ r ∧ r < 4294967296 := by simp only [List.mem_cons, List.not_mem_nil, or_false] at hr; omega
    obtain ⟨x, hx, e4⟩ := s_from32 (n + 2) hr'.1 hr'.2
    rw [br_t]
    refine ⟨x, a3, s3, hx, by omega, ?_⟩
    refine Eq.trans (congrArg (fun o => bd o _) e3) ?_
    simp only [bd_s, e4]
  cases q == 1
  case true =>
    obtain ⟨r, a3, s3, hr, ha3, e3⟩ := s_pick (n + 2) hb (a := a2) (by omega) (by omega) s2 65536
    obtain ⟨r', a4, s4, hr', ha4, e4⟩ := s_pick (n + 2) hb (a := a3) (by omega) (by omega) s3 65536
    obtain ⟨x, hx, e5⟩ := s_from32 (n + 2) (i := r * 65536 + r') (by omega) (by omega)
    simp only [br_f, br_t, e3, e4, bd_s]
    rw [show IntKind.i64.wrap (r * 65536) = r * 65536 by rw [wrap64] <;> omega, show IntKind.i64.wrap (r * 65536 + r') = r * 65536 + r' by rw [wrap64] <;> omega, e5]
    exact ⟨x, _, _, hx, by omega, rfl⟩
  cases q == 2
  case true =>
    obtain ⟨r, a3, s3, hr, ha3, e3⟩ := s_pick (n + 2) hb (a := a2) (by omega) (by omega) s2 65536
    obtain ⟨x, hx, e5⟩ := s_from32 (n + 2) (i := r * 65536) (by omega) (by omega)
    simp only [br_f, br_t, e3, bd_s]
    rw [show IntKind.i64.wrap (r * 65536) = r * 65536 by rw [wrap64] <;> omega, e5]
    exact ⟨x, _, _, hx, by omega, rfl⟩
  obtain ⟨x, a3, s3, hx, ha3, e3⟩ := s_plain n hb (a := a2) (by omega) (by omega) s2
  obtain ⟨r, a4, s4, hr, ha4, e4⟩ := s_among (n + 1) hb (a := a3) (by omega) (by omega) s3 [8388608, 2130706432, 1610612736, 536870912] (by decide)
  have hr' : 0 ≤ r ∧ r < 4294967296 := by simp only [List.mem_cons, List.not_mem_nil, or_false] at hr; omega
  obtain ⟨y, hy, e5⟩ := s_from32 (n + 2) hr'.1 hr'.2
  simp only [br_f, e3, bd_s]
  refine ⟨_, a4, s4, w32_fmul x y, by omega, ?_⟩
  refine Eq.trans (congrArg (fun o => bd o _) e4) ?_
  simp only [bd_s, e5]
theorem s_floats_loop (n : Nat) {bs : List Int} (hb : Bytes bs) (str : Bool) : ∀ (j m : Nat) (a sd : Int) (acc : List Nat), 0 ≤ a → a + 16 * (j : Int) ≤ 1125899906842000 → acc.length + j ≤ 2147483647 → j < m → (∀ x ∈ acc, W32 x) →
    ∃ ys a' sd', ys.length = acc.length + j ∧ (∀ x ∈ ys, W32 x) ∧ (a ≤ a' ∧ a' ≤ a + 16 * (j : Int)) ∧
      f81_s_l01DrawFloats.l0 (n + 5) m bs.length (its .u8 bs) a sd (j : Int) acc.length (fls .f32 acc) str = some (bs.length, its .u8 bs, a', sd', ys.length, fls .f32 ys) := by
  intro j
  induction j with
  | zero =>
    intro m a sd acc h0 h1 hl hm hw
    obtain ⟨m, rfl⟩ : ∃ k, m = k + 1 := ⟨m - 1, by omega⟩
    rw [f81_s_l01DrawFloats.l0]
    exact ⟨acc, a, sd, by omega, hw, by omega, rfl⟩
  | succ j ih =>
    intro m a sd acc h0 h1 hl hm hw
    obtain ⟨m, rfl⟩ : ∃ k, m = k + 1 := ⟨m - 1, by omega⟩
    rw [f81_s_l01DrawFloats.l0, decide_eq_true (show (((j + 1 : Nat) : Int) > 0) by omega), show IntKind.i64.wrap (((j + 1 : Nat) : Int) - 1) = (j : Int) by rw [wrap64] <;> omega]
    have key : ∀ x a1 s1, W32 x → a ≤ a1 → a1 ≤ a + 16 → ∃ ys a' sd', ys.length = acc.length + (j + 1) ∧ (∀ x ∈ ys, W32 x) ∧ (a ≤ a' ∧ a' ≤ a + 16 * ((j + 1 : Nat) : Int)) ∧
        f81_s_l01DrawFloats.l0 (n + 5) m bs.length (its .u8 bs) a1 s1 (j : Int) (acc ++ [x]).length (fls .f32 (acc ++ [x])) str = some (bs.length, its .u8 bs, a', sd', ys.length, fls .f32 ys) := by
      intro x a1 s1 hx h2 h3
      obtain ⟨ys, a', sd', hy, hyw, ha, e⟩ := ih m a1 s1 (acc ++ [x]) (by omega) (by omega) (by simp; omega) (by omega) (by
        intro y hy; simp only [List.mem_append, List.mem_singleton] at hy; rcases hy with hy | rfl
        · exact hw y hy
        · exact hx)
      exact ⟨ys, a', sd', by simp at hy; omega, hyw, by omega, e⟩
    simp only [br_t]
    cases str
    · obtain ⟨x, a1, s1, hx, ha, e⟩ := s_plain (n + 1) hb h0 (by omega) sd
      simp only [br_f, e, bd_s, push_ok (show acc.length < 2147483648 by omega), gd_t, push_fls]
      rw [show acc.length + 1 = (acc ++ [x]).length by simp]
      exact key x a1 s1 hx.w32 (by omega) (by omega)
    · obtain ⟨x, a1, s1, hx, ha, e⟩ := s_float n hb h0 (by omega) sd
      simp only [br_t, e, bd_s, push_ok (show acc.length < 2147483648 by omega), gd_t, push_fls]
      rw [show acc.length + 1 = (acc ++ [x]).length by simp]
      exact key x a1 s1 hx (by omega) (by omega)
theorem s_floats (n : Nat) {bs : List Int} (hb : Bytes bs) {a : Int} (h0 : 0 ≤ a) (j : Nat) (h1 : a + 16 * (j : Int) ≤ 1125899906841000) (hj : j ≤ 2147483647) (hn : j < n) (sd : Int) :
    ∃ ys a' sd', ys.length = j ∧ (∀ x ∈ ys, W32 x) ∧ (a ≤ a' ∧ a' ≤ a + 2 + 16 * (j : Int)) ∧ f81_s_l01DrawFloats (n + 6) bs.length (its .u8 bs) a sd (j : Int) = some (ys.length, fls .f32 ys, bs.length, its .u8 bs, a', sd') := by
  obtain ⟨b, a1, s1, ha1, e1⟩ := s_one (n + 2) hb h0 (by omega) sd 4
  obtain ⟨ys, a2, s2, hy, hw, ha2, e2⟩ := s_floats_loop n hb b j (n + 5) a1 s1 [] (by omega) (by omega) (by simp; omega) (by omega) (by simp)
  rw [f81_s_l01DrawFloats, e1]
  refine ⟨ys, a2, s2, by simpa using hy, hw, by omega, ?_⟩
  have e2 : f81_s_l01DrawFloats.l0 (n + 5) (n + 5) bs.length (its .u8 bs) a1 s1 (j : Int) 0 (reps 0 [(T.flt FloatKind.f32 0)]) b = some (bs.length, its .u8 bs, a2, s2, ys.length, fls .f32 ys) := e2
  simp only [bd_s, e2]

theorem l_long10 (n : Nat) (bs cs : List Int) : f15_l_b10Long (n + 1) bs.length (its .u8 bs) cs.length (its .u8 cs) = some (decide (1048576 < bs.length ∨ 1048576 < cs.length)) := by
  rw [f15_l_b10Long]
  by_cases h : 1048576 < bs.length
  · rw [decide_eq_true (show (bs.length : Int) > 1048576 by omega), decide_eq_true (Or.inl h)]; rfl
  · rw [decide_eq_false (show ¬ (bs.length : Int) > 1048576 by omega), br_f]
    congr 1
    simp [h]; omega
theorem l_at10 (n : Nat) {bs : List Int} (hb : Bytes bs) {i k : Int} (hi : 0 ≤ i) (hi2 : i ≤ 1000000) (hk : 1 ≤ k) : ∃ r, (0 ≤ r ∧ r < k) ∧ f17_l_b10At (n + 1) bs.length (its .u8 bs) i k = some r := by
  rw [f17_l_b10At]
  by_cases h : k ≤ 1
  · rw [decide_eq_true h]; exact ⟨0, by omega, rfl⟩
  rw [decide_eq_false h]
  have hk0 : (!decide (k = 0)) = true := by simp; omega
  by_cases h2 : i < (bs.length : Int)
  · rw [decide_eq_true h2]
    obtain ⟨i, rfl⟩ := Int.eq_ofNat_of_zero_le hi
    have hi : i < bs.length := by omega
    have hr := hb (bs[i]) (List.getElem_mem _)
    simp only [br_f, br_t, in_dec hi, Int.toNat_natCast, okAt_its hi, Bool.and_self, gd_t, iAt_its, hk0]
    rw [show bs.getD i 0 = bs[i] by simp [List.getD, hi], show IntKind.i64.wrap bs[i] = bs[i] by rw [wrap64] <;> omega]
    refine ⟨_, ?_, rfl⟩
    rw [Int.tmod_eq_emod_of_nonneg (by omega)]
    have := Int.emod_nonneg bs[i] (show k ≠ 0 by omega)
    have := Int.emod_lt_of_pos bs[i] (show 0 < k by omega)
    omega
  · rw [decide_eq_false h2]
    simp only [br_f, hk0, gd_t]
    rw [show IntKind.i64.wrap (i * 37) = i * 37 by rw [wrap64] <;> omega, show IntKind.i64.wrap (i * 37 + 11) = i * 37 + 11 by rw [wrap64] <;> omega]
    refine ⟨_, ?_, rfl⟩
    rw [Int.tmod_eq_emod_of_nonneg (by omega)]
    have := Int.emod_nonneg (i * 37 + 11) (show k ≠ 0 by omega)
    have := Int.emod_lt_of_pos (i * 37 + 11) (show 0 < k by omega)
    omega
theorem s_bits (n : Nat) {x : Nat} (h : W32 x) : f130_s_l01Bits (n + 2) x = some (x : Int) := by
  rw [f130_s_l01Bits, fne_nan]
  cases hn : isNaN .f32 x
  · have : xF32bits (n + 1) x = some (x : Int) := by simp [xF32bits, hn]
    have hx := h.1
    simp only [br_f, this, bd_s]
    rw [wrap64] <;> omega
  · rw [br_t, ← h.2, canon_nan hn]; rfl
theorem s_same1 (n : Nat) {x y : Nat} (hx : W32 x) (hy : W32 y) : f84_s_l01Same (n + 3) x y = some (x == y) := by
  rw [f84_s_l01Same, s_bits n hx]
  simp only [bd_s, s_bits n hy]
  congr 1
  rw [Bool.eq_iff_iff]; simp; constructor <;> omega
theorem s_same (n : Nat) {x y : Nat} (hx : W32 x) (hy : W32 y) : f23_s_SameNumber (n + 4) x y = some (x == y) := by
  rw [f23_s_SameNumber, s_same1 n hx hy]; rfl
theorem l_same10_loop (n : Nat) : ∀ (zs ys p q : List Nat) (m : Nat), ys.length = zs.length → p.length = q.length → (∀ x ∈ zs, W32 x) → (∀ x ∈ ys, W32 x) → p.length + zs.length ≤ 1048576 → zs.length < m →
    f25_l_b10Same.l0 (n + 4) m (p ++ zs).length (fls .f32 (p ++ zs)) (q ++ ys).length (fls .f32 (q ++ ys)) (p.length : Int) = some (if zs = ys then .inr () else .inl false) := by
  intro zs
  induction zs with
  | nil =>
    intro ys p q m hl hpq _ _ _ hm
    obtain ⟨m, rfl⟩ : ∃ k, m = k + 1 := ⟨m - 1, by omega⟩
    obtain rfl : ys = [] := List.length_eq_zero_iff.1 (by simpa using hl)
    rw [f25_l_b10Same.l0, lt_end]
    rfl
  | cons z zs ih =>
    intro ys p q m hl hpq hz hy hb hm
    obtain ⟨m, rfl⟩ : ∃ k, m = k + 1 := ⟨m - 1, by omega⟩
    cases ys with
    | nil => simp at hl
    | cons y ys =>
      rw [f25_l_b10Same.l0, lt_mid, in_mid]
      simp only [hpq, in_mid, toNat_len, okAt_mid]
      rw [← hpq]
      simp only [okAt_mid, fAt_mid, Bool.and_self, gd_t, br_t]
      rw [hpq]
      simp only [fAt_mid]
      rw [s_same n (hz z (by simp)) (hy y (by simp)), ← hpq]
      simp only [bd_s, br_not]
      cases h : z == y
      · simp only [beq_eq_false_iff_ne, ne_eq] at h
        simp [br_f, h]
      · simp only [beq_iff_eq] at h
        subst h
        rw [br_t, wrap_len (z := z) (by simp at hb; omega)]
        have := ih ys (p ++ [z]) (q ++ [z]) m (by simpa using hl) (by simp [hpq]) (fun x hx => hz x (by simp [hx])) (fun x hx => hy x (by simp [hx])) (by simp at hb ⊢; omega) (by simp at hm; omega)
        simpa using this
/-- two lists of numbers -/
theorem l_same10 (n : Nat) (xs ys : List Nat) (hx : ∀ x ∈ xs, W32 x) (hy : ∀ x ∈ ys, W32 x) (hl : xs.length ≤ 1048576) (hn : xs.length < n) : f25_l_b10Same (n + 5) xs.length (fls .f32 xs) ys.length (fls .f32 ys) = some (decide (xs = ys)) := by
  rw [f25_l_b10Same]
  by_cases h : ys.length = xs.length
  · rw [show (((xs.length : Nat) : Int) != ((ys.length : Nat) : Int)) = false by simp [h], br_f]
    have := l_same10_loop n xs ys [] [] (n + 4) h rfl hx hy (by simpa using hl) (by omega)
    simp only [List.nil_append, List.length_nil] at this
    rw [show ((0 : Nat) : Int) = 0 from rfl] at this
    rw [this, bd_s]
    by_cases e : xs = ys
    · rw [if_pos e, decide_eq_true e]; rfl
    · rw [if_neg e, decide_eq_false e]; rfl
  · rw [show (((xs.length : Nat) : Int) != ((ys.length : Nat) : Int)) = true by simp; omega, decide_eq_false (fun e => h (by rw [e]))]
    rfl
theorem s_b10numbers (n : Nat) {bs : List Int} (hb : Bytes bs) (k : Nat) (hk : k ≤ 1000000) (hn : k < n) : ∃ xs, xs.length = k ∧ (∀ x ∈ xs, W32 x) ∧ f19_s_B10Numbers (n + 7) bs.length (its .u8 bs) (k : Int) = some (xs.length, fls .f32 xs) := by
  obtain ⟨ys, a2, s2, hy, hw, ha2, e2⟩ := s_floats n hb (a := 0) (by omega) k (by omega) (by omega) (by omega) 0
  rw [f19_s_B10Numbers, s_from]
  simp only [bd_s, e2]
  exact ⟨ys, by omega, hw, rfl⟩
theorem s_b10plain (n : Nat) {bs : List Int} (hb : Bytes bs) : ∃ x, Plain x ∧ f38_s_B10Plain (n + 5) bs.length (its .u8 bs) = some x := by
  obtain ⟨x, a2, s2, hx, ha2, e2⟩ := s_plain n hb (a := 0) (by omega) (by omega) 0
  rw [f38_s_B10Plain, s_from]
  simp only [bd_s, e2]
  exact ⟨x, hx, rfl⟩

theorem i_few (n k : Nat) (l : List T) : f94_i_areSamples (n + 1) k l = some (decide ((k : Int) ≤ 256)) := by rw [f94_i_areSamples]

theorem i_in (n : Nat) (a b c : Int) : f83_i_within (n + 1) a b c = some (decide (b ≤ a ∧ a ≤ c)) := by
  rw [f83_i_within]
  by_cases h : b ≤ a <;> simp [br, h]

theorem i_copy (n : Nat) (xs : List Nat) (h : xs.length ≤ 2147483648) : f95_i_copyNumbers (n + 1) xs.length (fls .f32 xs) = some (xs.length, fls .f32 xs) := by
  rw [f95_i_copyNumbers, Nat.zero_add, le_ble h]; rfl
theorem i_taken (n : Nat) (w : Nat) (ws : List Nat) (x : Nat) (h : ws.length < 2147483648) : f101_i_take (n + 2) (w :: ws).length (fls .f32 (w :: ws)) x = some ((ws ++ [x]).length, fls .f32 (ws ++ [x])) := by
  rw [f101_i_take, decide_eq_true (by simp; omega : (0 : Int) ≤ 1 ∧ (1 : Int) ≤ ((w :: ws).length : Int) ∧ ((w :: ws).length : Int) ≤ ((w :: ws).length : Int)), fls_drop, fls_take]
  rw [show (w :: ws).length - 1 = ws.length by simp, show ((w :: ws).drop 1).take ws.length = ws by simp, i_copy n ws (by omega)]
  simp only [gd_t, bd_s, push_ok h, push_fls]
  rw [push_len (z := x)]
theorem i_length (n : Nat) (k : Int) : f100_i_isLength (n + 2) k = some (decide (1 ≤ k ∧ k ≤ 64)) := by rw [f100_i_isLength, i_in]; rfl
theorem i_sized (n : Nat) (x : Int) : f82_i_size (n + 1) x = some x := by rw [f82_i_size]
theorem i_all_loop (n : Nat) (N : Nat) (cs : List T) (lo hi : Int) : ∀ (zs p : List Int) (m : Nat), (∀ z ∈ zs, lo ≤ z ∧ z ≤ hi) → p.length + zs.length < 1048576 → zs.length < m →
    f89_i_allWithin.l0 (n + 1) m N cs lo hi (p ++ zs).length (its .i64 (p ++ zs)) ((p ++ zs).length : Int) (p.length : Int) = some (.inr ()) := by
  intro zs
  induction zs with
  | nil =>
    intro p m _ _ hm
    obtain ⟨m, rfl⟩ : ∃ k, m = k + 1 := ⟨m - 1, by omega⟩
    rw [f89_i_allWithin.l0, lt_end]; rfl
  | cons z zs ih =>
    intro p m hz hp hm
    obtain ⟨m, rfl⟩ : ∃ k, m = k + 1 := ⟨m - 1, by omega⟩
    rw [f89_i_allWithin.l0, lt_mid, in_mid, toNat_len, okAt_midI, iAt_mid]
    have := ih (p ++ [z]) m (fun x hx => hz x (by simp [hx])) (by simp at hp ⊢; omega) (by simp at hm; omega)
    simp only [br_t, gd_t, Bool.and_self, i_in, decide_eq_true (hz z (by simp)), bd_s, br_not, wrap_len (z := z) (show p.length < 4611686018427387904 by simp at hp; omega)]
    simpa using this
theorem i_allin (n : Nat) (xs : List Int) (lo hi : Int) (h : ∀ z ∈ xs, lo ≤ z ∧ z ≤ hi) (hl : xs.length < 1048576) (hn : xs.length < n) : f89_i_allWithin (n + 2) xs.length (its .i64 xs) lo hi = some true := by
  rw [f89_i_allWithin]
  have e := i_all_loop n xs.length (its .i64 xs) lo hi xs [] (n + 1) h (by simpa using hl) (by omega)
  have e : f89_i_allWithin.l0 (n + 1) (n + 1) xs.length (its .i64 xs) lo hi xs.length (its .i64 xs) (xs.length : Int) 0 = some (.inr ()) := e
  rw [e]; rfl

theorem valid_loop (n : Nat) (N : Nat) (cs : List T) : ∀ (zs p : List (Int × Nat)) (m : Nat), (∀ t ∈ zs, 0 ≤ t.1 ∧ t.1 ≤ 64) → p.length + zs.length < 1048576 → zs.length < m →
    f37_i_ValidTaps.l0 (n + 1) m N cs (p ++ zs).length (tps (p ++ zs)) ((p ++ zs).length : Int) (p.length : Int) = some (.inr ()) := by
  intro zs
  induction zs with
  | nil =>
    intro p m _ _ hm
    obtain ⟨m, rfl⟩ : ∃ k, m = k + 1 := ⟨m - 1, by omega⟩
    rw [f37_i_ValidTaps.l0, lt_end]; rfl
  | cons z zs ih =>
    intro p m hz hp hm
    obtain ⟨m, rfl⟩ : ∃ k, m = k + 1 := ⟨m - 1, by omega⟩
    rw [f37_i_ValidTaps.l0, lt_mid, in_mid, toNat_len, okAt_tap, iAt_tap]
    have := ih (p ++ [z]) m (fun x hx => hz x (by simp [hx])) (by simp at hp ⊢; omega) (by simp at hm; omega)
    simp only [br_t, gd_t, Bool.and_self, i_in, decide_eq_true (hz z (by simp)), bd_s, br_not, wrap_len (z := z) (show p.length < 4611686018427387904 by simp at hp; omega)]
    simpa using this
theorem valid (n : Nat) (ts : List (Int × Nat)) (h : ∀ t ∈ ts, 0 ≤ t.1 ∧ t.1 ≤ 64) (hl : ts.length ≤ 8) (hn : ts.length < n) : f37_i_ValidTaps (n + 2) ts.length (tps ts) = some true := by
  rw [f37_i_ValidTaps, decide_eq_false (show ¬ (ts.length : Int) > 8 by omega)]
  have e := valid_loop n ts.length (tps ts) ts [] (n + 1) h (by simp; omega) (by omega)
  have e : f37_i_ValidTaps.l0 (n + 1) (n + 1) ts.length (tps ts) ts.length (tps ts) (ts.length : Int) 0 = some (.inr ()) := e
  rw [br_f, e]; rfl
theorem tap_loop (n : Nat) (N1 N2 N7 : Nat) (c1 c2 c7 : List T) (all line : List Nat) (i : Nat) (hi : i + 64 < all.length) (hi2 : all.length ≤ 1048576) (hline : ∀ j, j ≤ 64 → all.getD (i + j) 0 = line.getD j 0) (u v : Int) : ∀ (zs p : List (Int × Nat)) (s m : Nat), (∀ t ∈ zs, 0 ≤ t.1 ∧ t.1 ≤ 64) → p.length + zs.length < 1048576 → zs.length < m →
    f36_i_RunTaps.l1 n m N1 c1 N2 c2 all.length (fls .f32 all) N7 c7 (i : Int) s u v (p ++ zs).length (tps (p ++ zs)) ((p ++ zs).length : Int) (p.length : Int) = some (N1, c1, N2, c2, all.length, fls .f32 all, N7, c7, tapSum line s zs, u, v) := by
  intro zs
  induction zs with
  | nil =>
    intro p s m _ _ hm
    obtain ⟨m, rfl⟩ : ∃ k, m = k + 1 := ⟨m - 1, by omega⟩
    rw [f36_i_RunTaps.l1, lt_end]; rfl
  | cons z zs ih =>
    intro p s m hz hp hm
    obtain ⟨m, rfl⟩ : ∃ k, m = k + 1 := ⟨m - 1, by omega⟩
    obtain ⟨h0, h1⟩ := hz z (by simp)
    obtain ⟨b, hb⟩ := Int.eq_ofNat_of_zero_le h0
    have hb2 : b ≤ 64 := by omega
    have w1 : IntKind.i64.wrap (64 + (i : Int)) = 64 + (i : Int) := by rw [wrap64] <;> omega
    have w2 : IntKind.i64.wrap (64 + (i : Int) - z.1) = ((i + (64 - b) : Nat) : Int) := by rw [wrap64] <;> omega
    have hlt : i + (64 - b) < all.length := by omega
    rw [f36_i_RunTaps.l1, lt_mid, in_mid, toNat_len, okAt_tap, iAt_tap, fAt_tap]
    have := ih (p ++ [z]) (fadd .f32 s (fmul .f32 z.2 (line.getD (64 - b) 0))) m (fun x hx => hz x (by simp [hx])) (by simp at hp ⊢; omega) (by simp at hm; omega)
    simp only [br_t, gd_t, Bool.and_self, w1, w2, in_dec hlt, Int.toNat_natCast, okAt_fls hlt, fAt_fls, hline _ (show 64 - b ≤ 64 by omega), wrap_len (z := z) (show p.length < 4611686018427387904 by simp at hp; omega)]
    have e : tapSum line s (z :: zs) = tapSum line (fadd .f32 s (fmul .f32 z.2 (line.getD (64 - b) 0))) zs := by
      show tapSum line (fadd .f32 s (fmul .f32 z.2 (line.getD (64 - z.1.toNat) 0))) zs = _
      rw [hb]; rfl
    rw [e]
    simpa using this
theorem taps_loop (n : Nat) (ts : List (Int × Nat)) (ht : ∀ t ∈ ts, 0 ≤ t.1 ∧ t.1 ≤ 64) (htl : ts.length ≤ 8) (hn : ts.length < n) (xs all : List Nat) (hall : all.length = 64 + xs.length) (hx : xs.length ≤ 256) : ∀ (zs w acc : List Nat) (i m : Nat), i + zs.length = xs.length → w.length = 64 → all.drop i = w ++ zs → acc.length = i → zs.length < m →
    f36_i_RunTaps.l0 n m ts.length (tps ts) xs.length (fls .f32 xs) all.length (fls .f32 all) acc.length (fls .f32 acc) (xs.length : Int) (i : Int) =
      some (xs.length, fls .f32 xs, all.length, fls .f32 all, (acc ++ (scan (tapStep ts) w zs).1).length, fls .f32 (acc ++ (scan (tapStep ts) w zs).1)) := by
  intro zs
  induction zs with
  | nil =>
    intro w acc i m hi hw hd ha hm
    obtain ⟨m, rfl⟩ : ∃ k, m = k + 1 := ⟨m - 1, by omega⟩
    rw [f36_i_RunTaps.l0, nlt_dec (by simp at hi; omega)]
    simp [br_f, scan]
  | cons z zs ih =>
    intro w acc i m hi hw hd ha hm
    obtain ⟨m, rfl⟩ : ∃ k, m = k + 1 := ⟨m - 1, by omega⟩
    have hi' : i < xs.length := by simp at hi; omega
    have hline : ∀ j, j ≤ 64 → all.getD (i + j) 0 = (w ++ [z]).getD j 0 := by
      intro j hj
      rw [← getD_mid (zs := zs) (by omega), ← hd]
      simp [List.getD]
    have e := tap_loop n ts.length xs.length acc.length (tps ts) (fls .f32 xs) (fls .f32 acc) all (w ++ [z]) i (by omega) (by omega) hline (xs.length : Int) (i : Int) ts [] 0 n ht (by simp; omega) hn
    have e : f36_i_RunTaps.l1 n n ts.length (tps ts) xs.length (fls .f32 xs) all.length (fls .f32 all) acc.length (fls .f32 acc) (i : Int) 0 (xs.length : Int) (i : Int) ts.length (tps ts) (ts.length : Int) 0 = _ := e
    rw [f36_i_RunTaps.l0, lt_dec hi', e]
    simp only [br_t, bd_s, push_ok (show acc.length < 2147483648 by omega), gd_t, push_fls, wrap_succ (show i < 9223372036854775807 by omega)]
    rw [push_len (z := tapSum (w ++ [z]) 0 ts)]
    have hd' : all.drop (i + 1) = (w ++ [z]).drop 1 ++ zs := by rw [← drop_mid (by omega), ← hd, List.drop_drop]
    have := ih ((w ++ [z]).drop 1) (acc ++ [tapSum (w ++ [z]) 0 ts]) (i + 1) m (by simp at hi; omega) (by simp [hw]) hd' (by simp [ha]) (by simp at hm; omega)
    simpa [scan, tapStep] using this
theorem tap_line (ts : List (Int × Nat)) : ∀ (zs w : List Nat), 0 < w.length → (scan (tapStep ts) w zs).2 = (w ++ zs).drop zs.length := by
  intro zs
  induction zs with
  | nil => intro w _; simp [scan]
  | cons z zs ih =>
    intro w hw
    simp only [scan, tapStep]
    rw [ih _ (by simp; omega), ← drop_mid hw, List.drop_drop, Nat.add_comm 1]; rfl
theorem taps (n : Nat) (ts : List (Int × Nat)) (ht : ∀ t ∈ ts, 0 ≤ t.1 ∧ t.1 ≤ 64) (htl : ts.length ≤ 8) (past xs : List Nat) (hp : past.length = 64) (hx : xs.length ≤ 256) (hn : 300 < n) :
    f36_i_RunTaps (n + 3) ts.length (tps ts) past.length (fls .f32 past) xs.length (fls .f32 xs) = some ((scan (tapStep ts) past xs).1.length, fls .f32 (scan (tapStep ts) past xs).1, (scan (tapStep ts) past xs).2.length, fls .f32 (scan (tapStep ts) past xs).2, true) := by
  have hlast := tap_line ts xs past (by omega)
  rw [f36_i_RunTaps, valid n ts ht htl (by omega), i_few, decide_eq_true (show (xs.length : Int) ≤ 256 by omega), show (((past.length : Nat) : Int) != 64) = false by simp [hp], i_copy (n + 1) past (by omega)]
  have e := taps_loop (n + 2) ts ht htl (by omega) xs (past ++ xs) (by simp [hp]) hx xs past [] 0 (n + 2) (by simp) hp rfl rfl (by omega)
  have e : f36_i_RunTaps.l0 (n + 2) (n + 2) ts.length (tps ts) xs.length (fls .f32 xs) (past ++ xs).length (fls .f32 (past ++ xs)) 0 [] (xs.length : Int) 0 = some (xs.length, fls .f32 xs, (past ++ xs).length, fls .f32 (past ++ xs), (scan (tapStep ts) past xs).1.length, fls .f32 (scan (tapStep ts) past xs).1) := e
  have hl : (past ++ xs).length - xs.length = ((past ++ xs).drop xs.length).length := by simp
  simp only [bd_s, br_not, br_t, br_f, fls_append, ← List.length_append, e, le_ble (show (past ++ xs).length ≤ 2147483648 by simp; omega), gd_t]
  rw [decide_eq_true (show (0 : Int) ≤ (xs.length : Int) ∧ (xs.length : Int) ≤ ((past ++ xs).length : Int) ∧ ((past ++ xs).length : Int) ≤ ((past ++ xs).length : Int) by simp; omega), fls_drop, fls_take, hl, List.take_length]
  rw [← hl]
  rw [hl, i_copy (n + 1) _ (by simp; omega), hlast]; rfl
theorem drawn_loop (n : Nat) {bs : List Int} (hb : Bytes bs) : ∀ (j m : Nat) (a sd : Int) (acc : List (Int × Nat)), 0 ≤ a → a + 20 * (j : Int) ≤ 1125899906842000 → acc.length + j ≤ 8 → j < m → (∀ t ∈ acc, (0 ≤ t.1 ∧ t.1 ≤ 64) ∧ W32 t.2) →
    ∃ ts : List (Int × Nat), ts.length ≤ 8 ∧ (∀ t ∈ ts, (0 ≤ t.1 ∧ t.1 ≤ 64) ∧ W32 t.2) ∧ f35_s_B10Taps.l0 (n + 5) m bs.length (its .u8 bs) a sd acc.length (tps acc) (j : Int) = some (ts.length, tps ts) := by
  intro j
  induction j with
  | zero =>
    intro m a sd acc h0 h1 hl hm hw
    obtain ⟨m, rfl⟩ : ∃ k, m = k + 1 := ⟨m - 1, by omega⟩
    rw [f35_s_B10Taps.l0]
    exact ⟨acc, by omega, hw, rfl⟩
  | succ j ih =>
    intro m a sd acc h0 h1 hl hm hw
    obtain ⟨m, rfl⟩ : ∃ k, m = k + 1 := ⟨m - 1, by omega⟩
    obtain ⟨r, a1, s1, hr, ha1, e1⟩ := s_pick (n + 3) hb h0 (by omega) sd 8
    obtain ⟨x, a2, s2, hx, ha2, e2⟩ := s_float n hb (a := a1) (by omega) (by omega) s1
    rw [f35_s_B10Taps.l0, decide_eq_true (show (((j + 1 : Nat) : Int) > 0) by omega), show IntKind.i64.wrap (((j + 1 : Nat) : Int) - 1) = (j : Int) by rw [wrap64] <;> omega, e1]
    simp only [br_t, bd_s, e2, push_ok (show acc.length < 2147483648 by omega), gd_t, push_tap]
    rw [push_len (z := (r, x))]
    exact ih m a2 s2 (acc ++ [(r, x)]) (by omega) (by omega) (by simp; omega) (by omega) (by
      intro t ht; simp only [List.mem_append, List.mem_singleton] at ht
      rcases ht with ht | rfl
      · exact hw t ht
      · exact ⟨by simp; omega, hx⟩)
theorem drawn (n : Nat) {bs : List Int} (hb : Bytes bs) : ∃ ts : List (Int × Nat), ts.length ≤ 8 ∧ (∀ t ∈ ts, (0 ≤ t.1 ∧ t.1 ≤ 64) ∧ W32 t.2) ∧ f35_s_B10Taps (n + 16) bs.length (its .u8 bs) = some (ts.length, tps ts) := by
  obtain ⟨r, a1, s1, hr, ha1, e1⟩ := s_pick (n + 13) hb (a := 0) (by omega) (by omega) 0 5
  obtain ⟨j, rfl⟩ := Int.eq_ofNat_of_zero_le hr.1
  obtain ⟨ts, h1, h2, e2⟩ := drawn_loop (n + 10) hb j (n + 15) a1 s1 [] (by omega) (by omega) (by simp; omega) (by omega) (by simp)
  rw [f35_s_B10Taps, s_from]
  have e2 : f35_s_B10Taps.l0 (n + 15) (n + 15) bs.length (its .u8 bs) a1 s1 0 (reps 0 [T.int .i64 0, T.flt .f32 0]) (j : Int) = some (ts.length, tps ts) := e2
  simp only [bd_s, e1, e2]
  exact ⟨ts, h1, h2, rfl⟩
theorem chorus_loop (n : Nat) (k mix L N : Nat) (cs : List T) (hk : 1 ≤ k) (hkL : k ≤ L) (hL : L ≤ 64) : ∀ (zs p acc w : List Nat) (m : Nat), w.length = L → acc.length + zs.length < 1048576 → p.length + zs.length < 1048576 → zs.length < m →
    f39_i_RunChorus.l0 (n + 2) m 1 [T.int .i64 (k : Int)] mix 0 N cs (L : Int) w.length (fls .f32 w) acc.length (fls .f32 acc) (p ++ zs).length (fls .f32 (p ++ zs)) ((p ++ zs).length : Int) (p.length : Int) =
      some ((scan (backStep k mix) w zs).2.length, fls .f32 (scan (backStep k mix) w zs).2, (acc ++ (scan (backStep k mix) w zs).1).length, fls .f32 (acc ++ (scan (backStep k mix) w zs).1)) := by
  intro zs
  induction zs with
  | nil =>
    intro p acc w m hw _ _ hm
    obtain ⟨m, rfl⟩ : ∃ k, m = k + 1 := ⟨m - 1, by omega⟩
    rw [f39_i_RunChorus.l0, lt_end]; simp [br_f, scan]
  | cons z zs ih =>
    intro p acc w m hw ha hp hm
    obtain ⟨m, rfl⟩ : ∃ k, m = k + 1 := ⟨m - 1, by omega⟩
    have hp' : p.length < 1048576 := by simp at hp; omega
    have ha' : acc.length < 1048576 := by simp at ha; omega
    have hone : its .i64 [(k : Int)] = [T.int .i64 (k : Int)] := rfl
    have hlt : L - k < w.length := by omega
    have w1 : IntKind.i64.wrap ((L : Int) - (k : Int)) = ((L - k : Nat) : Int) := by rw [wrap64] <;> omega
    obtain ⟨v, vs, rfl⟩ : ∃ v vs, w = v :: vs := by cases w with
      | nil => simp at hlt
      | cons v vs => exact ⟨v, vs, rfl⟩
    have t0 : Int.tmod (IntKind.i64.wrap (0 + (p.length : Int))) ((1 : Nat) : Int) = 0 := by simp
    have c0 : iAt [T.int .i64 (k : Int)] (Int.toNat 0) = (k : Int) := rfl
    have c1 : okAt [.int .i64] [T.int .i64 (k : Int)] (Int.toNat 0) = true := rfl
    rw [f39_i_RunChorus.l0, lt_mid, in_mid, toNat_len, okAt_mid, fAt_mid, i_sized]
    simp only [br_t, gd_t, Bool.and_self, bd_s, t0, c0, c1, w1, in_dec hlt, Int.toNat_natCast, okAt_fls hlt, fAt_fls, push_ok (show acc.length < 2147483648 by omega), push_fls, i_taken n v vs z (by simp at hw; omega), wrap_len (z := z) (show p.length < 4611686018427387904 by omega)]
    have := ih (p ++ [z]) (acc ++ [fadd .f32 z (fmul .f32 mix ((v :: vs).getD (L - k) 0))]) (vs ++ [z]) m (by simpa using hw) (by simp at ha ⊢; omega) (by simp at hp ⊢; omega) (by simp at hm; omega)
    have e : backStep k mix (v :: vs) z = (fadd .f32 z (fmul .f32 mix ((v :: vs).getD (L - k) 0)), vs ++ [z]) := by unfold backStep tookM; rw [hw]; rfl
    simp only [scan, e]
    simpa [gd_t] using this
theorem back_length (k mix : Nat) : ∀ (zs w : List Nat), 0 < w.length → (scan (backStep k mix) w zs).2.length = w.length := by
  intro zs
  induction zs with
  | nil => intro w _; rfl
  | cons z zs ih =>
    intro w h
    have h1 : (tookM w z).length = w.length := took_length h
    simp only [scan, backStep]
    rw [ih _ (by omega)]; exact h1
theorem back_line (k mix : Nat) : ∀ (zs w : List Nat), 0 < w.length → (scan (backStep k mix) w zs).2 = (w ++ zs).drop zs.length := by
  intro zs
  induction zs with
  | nil => intro w _; simp [scan]
  | cons z zs ih =>
    intro w hw
    have h1 : (tookM w z).length = w.length := took_length hw
    have h2 : tookM w z = (w ++ [z]).drop 1 := by cases w with
      | nil => simp at hw
      | cons v vs => simp [tookM]
    simp only [scan, backStep]
    rw [ih _ (by omega), h2, ← drop_mid hw, List.drop_drop, Nat.add_comm 1]; rfl
theorem chorus (n : Nat) (k mix : Nat) (w xs : List Nat) (hk : 1 ≤ k) (hkL : k ≤ w.length) (hL : w.length ≤ 64) (hx : xs.length ≤ 256) (hn : 300 < n) :
    f39_i_RunChorus (n + 3) 1 (setN (reps 1 [T.int .i64 0]) 0 [T.int .i64 (k : Int)]) mix w.length (fls .f32 w) 0 xs.length (fls .f32 xs) = some ((scan (backStep k mix) w xs).1.length, fls .f32 (scan (backStep k mix) w xs).1, (scan (backStep k mix) w xs).2.length, fls .f32 (scan (backStep k mix) w xs).2, true) := by
  have hone : setN (reps 1 [T.int .i64 0]) 0 [T.int .i64 (k : Int)] = its .i64 [(k : Int)] := rfl
  have e := chorus_loop n k mix w.length xs.length (fls .f32 xs) hk hkL hL xs [] [] w (n + 2) rfl (by simp; omega) (by simp; omega) (by omega)
  have e : f39_i_RunChorus.l0 (n + 2) (n + 2) 1 (its .i64 [(k : Int)]) mix 0 xs.length (fls .f32 xs) (w.length : Int) w.length (fls .f32 w) 0 [] xs.length (fls .f32 xs) (xs.length : Int) 0 = some ((scan (backStep k mix) w xs).2.length, fls .f32 (scan (backStep k mix) w xs).2, (scan (backStep k mix) w xs).1.length, fls .f32 (scan (backStep k mix) w xs).1) := e
  have hall := i_allin n [(k : Int)] 1 (w.length : Int) (by intro z hz; simp at hz; omega) (by simp) (by simp; omega)
  have hall : f89_i_allWithin (n + 2) 1 (its .i64 [(k : Int)]) 1 (w.length : Int) = some true := hall
  rw [f39_i_RunChorus, hone, i_sized, i_sized, i_few, decide_eq_true (show (xs.length : Int) ≤ 256 by omega), i_copy (n + 1) w (by omega), i_in]
  simp only [bd_s, i_length, br_not, decide_eq_true (show 1 ≤ (w.length : Int) ∧ (w.length : Int) ≤ 64 by omega), decide_eq_true (show 1 ≤ ((1 : Nat) : Int) ∧ ((1 : Nat) : Int) ≤ 64 by omega), br_t, hall, e]
  rfl
theorem told_loop (n : Nat) (k mix : Nat) (hk : 1 ≤ k) (hk6 : k ≤ 6) (xs whole : List Nat) (hwl : whole.length = 6 + xs.length) (hx : xs.length ≤ 256) (hxw : ∀ x ∈ xs, W32 x) (N : Nat) (cs : List T) : ∀ (zs p q w : List Nat) (m : Nat), xs = p ++ zs → q.length = p.length → w.length = 6 → whole.drop p.length = w ++ zs → zs.length < m →
    f6_l_FnTaps.l0 (n + 4) m (xs.length : Int) xs.length (fls .f32 xs) (k : Int) mix (q ++ (scan (backStep k mix) w zs).1).length (fls .f32 (q ++ (scan (backStep k mix) w zs).1)) N cs whole.length (fls .f32 whole) (p.length : Int) = some (.inr ((xs.length : Int), N, cs, whole.length, fls .f32 whole)) := by
  intro zs
  induction zs with
  | nil =>
    intro p q w m hxs _ _ _ hm
    obtain ⟨m, rfl⟩ : ∃ k, m = k + 1 := ⟨m - 1, by omega⟩
    rw [f6_l_FnTaps.l0, nlt_dec (by rw [hxs]; simp)]; rfl
  | cons z zs ih =>
    intro p q w m hxs hq hw hd hm
    obtain ⟨m, rfl⟩ : ∃ k, m = k + 1 := ⟨m - 1, by omega⟩
    have hi : p.length < xs.length := by rw [hxs]; simp
    have e1 : okAt [.flt .f32] (fls .f32 (q ++ (scan (backStep k mix) w (z :: zs)).1)) p.length = true := by rw [← hq]; exact okAt_mid
    have e2 : fAt (fls .f32 (q ++ (scan (backStep k mix) w (z :: zs)).1)) p.length = (backStep k mix w z).1 := by rw [← hq]; exact fAt_mid
    have e3 : decide ((0 : Int) ≤ (p.length : Int) ∧ (p.length : Int) < ((q ++ (scan (backStep k mix) w (z :: zs)).1).length : Int)) = true := by rw [← hq]; exact in_mid
    have e4 : fAt (fls .f32 xs) p.length = z := by rw [hxs]; exact fAt_mid
    have w1 : IntKind.i64.wrap (6 + (p.length : Int)) = 6 + (p.length : Int) := by rw [wrap64] <;> omega
    have w2 : IntKind.i64.wrap (6 + (p.length : Int) - (k : Int)) = ((p.length + (6 - k) : Nat) : Int) := by rw [wrap64] <;> omega
    have hlt : p.length + (6 - k) < whole.length := by omega
    have e5 : whole.getD (p.length + (6 - k)) 0 = w.getD (6 - k) 0 := by
      have : whole.getD (p.length + (6 - k)) 0 = (whole.drop p.length).getD (6 - k) 0 := by simp [List.getD]
      rw [this, hd]
      simp only [List.getD]
      rw [List.getElem?_append_left (by omega)]
    have e6 : (backStep k mix w z).1 = fadd .f32 z (fmul .f32 mix (w.getD (6 - k) 0)) := by unfold backStep; rw [hw]
    have hd' : whole.drop (p ++ [z]).length = (tookM w z) ++ zs := by
      have h2 : tookM w z = (w ++ [z]).drop 1 := by cases w with
        | nil => simp at hw
        | cons v vs => simp [tookM]
      rw [h2, ← drop_mid (by omega), ← hd, List.drop_drop]; simp
    rw [f6_l_FnTaps.l0, lt_dec hi, e3, toNat_len, e1, e2, in_dec hi, okAt_fls hi, e4, w1, w2, in_dec hlt, Int.toNat_natCast, okAt_fls hlt, fAt_fls, e5, e6, s_same n (w32_fadd _ _) (w32_fadd _ _), wrap_succ (show p.length < 9223372036854775807 by omega)]
    simp only [br_t, gd_t, bd_s, br_not, beq_self_eq_true]
    have := ih (p ++ [z]) (q ++ [(backStep k mix w z).1]) (tookM w z) m (by simp [hxs]) (by simp [hq]) (by rw [took_length (by omega)]; exact hw) hd' (by simp at hm; omega)
    simpa [scan, backStep] using this
theorem exact_ (cs : List Int) (hc : ∀ b ∈ cs, GoodI .u8 b) (lc : cs.length ≤ maxLen) (ms : List Int) (hm : ∀ b ∈ ms, GoodI .u8 b) (lm : ms.length ≤ maxLen) : ∃ n, f6_l_FnTaps n cs.length (its .u8 cs) ms.length (its .u8 ms) = some true := by
  refine ⟨1000, ?_⟩
  suffices h : ∀ n, f6_l_FnTaps (n + 500) cs.length (its .u8 cs) ms.length (its .u8 ms) = some true from h 500
  intro n
  rw [f6_l_FnTaps, l_long10]
  cases hlong : decide (1048576 < cs.length ∨ 1048576 < ms.length)
  case true => rfl
  obtain ⟨ts, htl, ht, e1⟩ := drawn (n + 483) (bytes_of hc)
  have ht' : ∀ t ∈ ts, 0 ≤ t.1 ∧ t.1 ≤ 64 := fun t h => (ht t h).1
  obtain ⟨c, hc1, e2⟩ := l_at10 (n + 498) (bytes_of hm) (i := 0) (k := 20) (by omega) (by omega) (by omega)
  obtain ⟨c, rfl⟩ := Int.eq_ofNat_of_zero_le hc1.1
  obtain ⟨xs, hxl, hxw, e3⟩ := s_b10numbers (n + 492) (bytes_of hm) c (by omega) (by omega)
  obtain ⟨a, ha1, e4⟩ := l_at10 (n + 498) (bytes_of hm) (i := 1) (k := (c : Int) + 1) (by omega) (by omega) (by omega)
  obtain ⟨a, rfl⟩ := Int.eq_ofNat_of_zero_le ha1.1
  obtain ⟨past, hpl, hpw, e5⟩ := s_b10numbers (n + 492) (bytes_of hc) 64 (by omega) (by omega)
  have e5 : f19_s_B10Numbers (n + 499) cs.length (its .u8 cs) 64 = some (past.length, fls .f32 past) := e5
  obtain ⟨b, hb1, e6⟩ := l_at10 (n + 498) (bytes_of hm) (i := 2) (k := 6) (by omega) (by omega) (by omega)
  obtain ⟨b, rfl⟩ := Int.eq_ofNat_of_zero_le hb1.1
  obtain ⟨mix, hmix, e7⟩ := s_b10plain (n + 494) (bytes_of hm)
  obtain ⟨line, hll, hlw, e8⟩ := s_b10numbers (n + 492) (bytes_of hc) 6 (by omega) (by omega)
  have e8 : f19_s_B10Numbers (n + 499) cs.length (its .u8 cs) 6 = some (line.length, fls .f32 line) := e8
  have ha : a ≤ xs.length := by omega
  have hl2 : (xs.take a).length = a := by rw [List.length_take]; omega
  have hl3 : (xs.drop a).length = xs.length - a := List.length_drop
  have hpl1 : (scan (tapStep ts) past (xs.take a)).2.length = 64 := by rw [tap_line ts _ _ (by omega)]; simp [hpl]
  have g1 := taps (n + 496) ts ht' htl past xs hpl (by omega) (by omega)
  have g2 := taps (n + 496) ts ht' htl past (xs.take a) hpl (by omega) (by omega)
  have g3 := taps (n + 496) ts ht' htl _ (xs.drop a) hpl1 (by omega) (by omega)
  have gv := valid (n + 497) ts ht' htl (by omega)
  rw [hl2] at g2
  rw [hl3] at g3
  have hsplit := scan_append (tapStep ts) past (xs.take a) (xs.drop a)
  rw [List.take_append_drop] at hsplit
  have hlen := scan_length (tapStep ts) past xs
  have hlen2 := scan_length (tapStep ts) past (xs.take a)
  have hlen3 := scan_length (tapStep ts) (scan (tapStep ts) past (xs.take a)).2 (xs.drop a)
  have hw1 : ∀ y ∈ (scan (tapStep ts) past xs).1, W32 y := by
    have key : ∀ (ts : List (Int × Nat)) (l : List Nat) (s : Nat), W32 s → W32 (tapSum l s ts) := by
      intro ts
      induction ts with
      | nil => intro l s h; exact h
      | cons t ts ih => intro l s _; exact ih l _ (w32_fadd _ _)
    exact (scan_inv (f := tapStep ts) (P := fun _ => True) (Q := fun _ => True) (S := W32) (fun s x _ _ => ⟨key _ _ _ w32_zero, trivial⟩) xs past trivial (fun _ _ => trivial)).1
  have hw2 : ∀ y ∈ (scan (tapStep ts) past xs).2, W32 y := by
    rw [tap_line ts xs past (by omega)]
    intro y hy
    have := List.mem_of_mem_drop hy
    simp only [List.mem_append] at this
    rcases this with h | h
    · exact hpw y h
    · exact hxw y h
  have gc := chorus (n + 496) (b + 1) mix line xs (by omega) (by omega) (by omega) (by omega) (by omega)
  have hkept := back_line (b + 1) mix xs line (by omega)
  have hkl := back_length (b + 1) mix xs line (by omega)
  have hcl := scan_length (backStep (b + 1) mix) line xs
  have told := told_loop (n + 495) (b + 1) mix (by omega) (by omega) xs (line ++ xs) (by simp [hll]) (by omega) hxw line.length (fls .f32 (scan (backStep (b + 1) mix) line xs).2) xs [] [] line (n + 499) rfl rfl hll rfl (by omega)
  have told : f6_l_FnTaps.l0 (n + 499) (n + 499) (xs.length : Int) xs.length (fls .f32 xs) ((b + 1 : Nat) : Int) mix (scan (backStep (b + 1) mix) line xs).1.length (fls .f32 (scan (backStep (b + 1) mix) line xs).1) line.length (fls .f32 (scan (backStep (b + 1) mix) line xs).2) (line ++ xs).length (fls .f32 (line ++ xs)) 0 = _ := told
  have q1 : decide ((0 : Int) ≤ 0 ∧ (0 : Int) ≤ (a : Int) ∧ (a : Int) ≤ (xs.length : Int)) = true := decide_eq_true (by omega)
  have q2 : decide ((0 : Int) ≤ (a : Int) ∧ (a : Int) ≤ (xs.length : Int) ∧ (xs.length : Int) ≤ (xs.length : Int)) = true := decide_eq_true (by omega)
  have q3 : (fls .f32 xs).take a = fls .f32 (xs.take a) := fls_take _ _ _
  have q4 : ((fls .f32 xs).drop a).take (xs.length - a) = fls .f32 (xs.drop a) := by rw [fls_drop, fls_take, List.take_of_length_le (by omega)]
  have q5 : ∀ p q : List Nat, reps 0 [T.flt FloatKind.f32 0] ++ fls .f32 p ++ fls .f32 q = fls .f32 (p ++ q) := by intro p q; rw [← fls_append]; rfl
  have wb : IntKind.i64.wrap (1 + (b : Int)) = ((b + 1 : Nat) : Int) := by rw [wrap64] <;> omega
  have wc : IntKind.i64.wrap ((c : Int) + 1) = (c : Int) + 1 := by rw [wrap64] <;> omega
  rw [hkl, hcl] at gc
  rw [hcl] at told
  simp only [br_f, br_not, bd_s, e1, e2, e3, wc, e4, e5, g1, q1, gd_t, Int.toNat_natCast, List.drop_zero, Nat.sub_zero, q3, g2, q2, q4, g3, br_t, gv, q5, e6, wb, e7, e8, gc]
  have hwk : ∀ y ∈ (scan (backStep (b + 1) mix) line xs).2, W32 y := by
    rw [hkept]
    intro y hy
    have := List.mem_of_mem_drop hy
    simp only [List.mem_append] at this
    rcases this with h | h
    · exact hlw y h
    · exact hxw y h
  have s3 := l_same10 (n + 494) _ _ hwk hwk (by omega) (by omega)
  rw [hkl] at s3
  have s3 : f25_l_b10Same (n + 499) line.length _ line.length _ = _ := s3
  have q6 : ((fls .f32 (line ++ xs)).drop xs.length).take ((line ++ xs).length - xs.length) = fls .f32 (scan (backStep (b + 1) mix) line xs).2 := by
    rw [hkept, fls_drop, fls_take, List.take_of_length_le (by simp)]
  have q7 : (line ++ xs).length - xs.length = line.length := by simp
  have q8 : decide ((0 : Int) ≤ (xs.length : Int) ∧ (xs.length : Int) ≤ ((line ++ xs).length : Int) ∧ ((line ++ xs).length : Int) ≤ ((line ++ xs).length : Int)) = true := decide_eq_true (by simp; omega)
  rw [← hxl, Nat.zero_add, Nat.zero_add, show line.length + xs.length = (line ++ xs).length from List.length_append.symm, told]
  rw [hsplit] at hw1 hw2 hlen ⊢
  simp only at hw1 hw2 hlen ⊢
  have s1 := l_same10 (n + 494) _ _ hw1 hw1 (by omega) (by omega)
  rw [List.length_append] at hlen s1
  have s1 : f25_l_b10Same (n + 499) _ _ _ _ = _ := s1
  have hl64 : (scan (tapStep ts) (scan (tapStep ts) past (xs.take a)).2 (xs.drop a)).2.length ≤ 64 := by rw [tap_line ts _ _ (by omega)]; simp; omega
  have s2 := l_same10 (n + 494) _ _ hw2 hw2 (by omega) (by omega)
  have s2 : f25_l_b10Same (n + 499) _ _ _ _ = _ := s2
  rw [List.length_append, s1, s2, hll]
  rw [q7, hll] at q6
  simp only [bd_s, sm_r, q8, Int.toNat_natCast, q7, q6, hll, gd_t] at s3 ⊢
  rw [le_ble (show (scan (tapStep ts) past (xs.take a)).1.length ≤ 2147483648 by omega), le_ble (show (scan (tapStep ts) past (xs.take a)).1.length + (scan (tapStep ts) (scan (tapStep ts) past (xs.take a)).2 (xs.drop a)).1.length ≤ 2147483648 by omega), le_ble (show (line ++ xs).length ≤ 2147483648 by simp; omega)]
  simp [br, gd, bd, s3]
theorem law6 : ∀ args, LawArgs E Try.f6.params.toList args → ∃ N os, evalFn E N 6 args = some ⟨[⟨false, [.leaf], [.bool true]⟩], os⟩ := by
  intro args h0
  have hp : Try.f6.params.toList = [22, 22] := by kernel_rfl
  rw [hp] at h0
  obtain ⟨ts0, r0, rfl, hw0, h1⟩ := h0.cons_inv (d := ⟨false, 1, 24, [.sl .own [.leaf]], [.lst 0 []], .slc 5⟩) (by kernel_rfl)
  obtain ⟨n0, cs0, rfl, gl0, hs0⟩ := hw0.slc_inv (e := 5) (d := ⟨false, 1, 24, [.sl .own [.leaf]], [.lst 0 []], .slc 5⟩) (by kernel_rfl) rfl
  obtain ⟨a0, rfl, rfl, g0⟩ := hs0.ints (k := .u8) (d := ⟨false, 1, 1, [.leaf], [.int .u8 0], .int .u8⟩) (by kernel_rfl) rfl
  obtain ⟨ts1, r1, rfl, hw1, h2⟩ := h1.cons_inv (d := ⟨false, 1, 24, [.sl .own [.leaf]], [.lst 0 []], .slc 5⟩) (by kernel_rfl)
  obtain ⟨n1, cs1, rfl, gl1, hs1⟩ := hw1.slc_inv (e := 5) (d := ⟨false, 1, 24, [.sl .own [.leaf]], [.lst 0 []], .slc 5⟩) (by kernel_rfl) rfl
  obtain ⟨a1, rfl, rfl, g1⟩ := hs1.ints (k := .u8) (d := ⟨false, 1, 1, [.leaf], [.int .u8 0], .int .u8⟩) (by kernel_rfl) rfl
  obtain rfl := h2.nil_inv
  obtain ⟨N, hN⟩ := exact_ a0 g0 gl0 a1 g1 gl1
  exact ⟨N, _, f6_l_FnTaps.ok N (a0.length, its .u8 a0, a1.length, its .u8 a1) true hN⟩


end Go.Proofs.Ytdejjalkfekjiaa.D
end
section
/- FnTaps holds: for every input the law returns true, and its arguments read as before. -/
namespace Go.Proofs.Ytdejjalkfekjiaa.fnTaps
open Go Go.ChangeShapes Go.WideShapes Go.ChangeAt Go.RowKit Go.Desk
set_option linter.unusedVariables false
theorem own : ownKnob Try.prog.godebug = none := by kernel_rfl
theorem laidOut : laidOutB Try.prog = true := by kernel_rfl
set_option maxRecDepth 100000 in
theorem lifted (os : Os) (started : os.Started) (H : Type) (enc : TypeId × Value → H) :
    ReturnsInHanded {} Try.checked os 6 .any (Rows.fnTapsSpec.pre6 enc Try.prog Try.f6 Rows.fnTapsRow.domain false) (Rows.fnTapsSpec.post enc Try.prog Try.f6 false true false false) := by
  refine returnsInHanded_of_change (C := Try.checked) own started (by kernel_rfl) Try.func6
    (ChangeSpec.witness6 (enc := enc) (C := Try.checked) false ⟨#[], #[.slice none 0 0, .slice none 0 0], []⟩ 8 (by kernel_rfl) (by kernel_rfl) (by kernel_rfl) (by kernel_rfl)) ?_
  intro W base args ds gs before hval hW hcnd _
  exact law_contract (c := D.c6) Try.checked.mixed D.tysOk D.fnOk Try.func6 (by kernel_rfl) (by kernel_rfl) (by kernel_rfl) Try.underlying4 rfl
    (fun ds h => by
      rw [show Try.f6.params.toList.length = 2 by kernel_rfl] at h
      match ds, h with
      | [_, _], _ => rfl)
    laidOut (N := 8) (by kernel_rfl) (by kernel_rfl) D.law6 hval hW
theorem over : Rows.fnTapsRow.holds Try.pinned (OpenSpec.ofChange Rows.fnTapsSpec) :=
  OpenClaim.holds_of_wide 6 Try.f6 rfl rfl rfl rfl rfl rfl rfl ⟨rfl, rfl, rfl, rfl, rfl⟩ rfl rfl rfl rfl rfl (by kernel_rfl) Try.func6 (by kernel_rfl)
    (of_decide_eq_true (by kernel_rfl)) (by unfold Func.isWrapper; first | (rw [if_pos (by decide +kernel)]; kernel_rfl) | (rw [if_neg (by decide +kernel)]; exact ⟨rfl, rfl⟩))
    (fun os started H enc _ => lifted os started H enc)
theorem proved : Rows.FnTapsSaid := over
#print axioms proved
end Go.Proofs.Ytdejjalkfekjiaa.fnTaps
namespace Go.Proofs.Ytdejjalkfekjiaa
/-- The row, under a short name, for the claim. -/
theorem fnTaps_holds : Rows.FnTapsSaid := fnTaps.proved
end Go.Proofs.Ytdejjalkfekjiaa
end
