/- FnFolds holds: for every input the law returns true, and its arguments read as before. -/
import Derived.Test.YtdejjalkfekjiaaChecked
import Derived.Test.YtdejjalkfekjiaaDeskE
import Derived.KernelRfl
import Derived.Test.YtdejjalkfekjiaaRows
import Derived.WalkKit
import Derived.ProofKit
import Derived.OpenShut
import Derived.ShutString
import Derived.ChangeOld
import Derived.Below
import Derived.SizedLaws
set_option linter.all false
section
/- The tables of the reading: types and functions of the translation, with what is kept at each region's beginning (written by a program of this workplace). -/
namespace Go.Proofs.Ytdejjalkfekjiaa.D
open Go Go.Desk
def bodyOf (f : Func) : Code := match f.body with
  | some c => c
  | none => .skip
def tyTab : List (Nat × TD) := [
  (2, ⟨false, 1, 8, [.leaf], [.int .i64 0], .int .i64⟩),
  (3, ⟨false, 1, 8, [.leaf], [.int .i64 0], .int .i64⟩),
  (4, ⟨false, 1, 1, [.leaf], [.bool false], .bool⟩),
  (5, ⟨false, 1, 1, [.leaf], [.int .u8 0], .int .u8⟩),
  (22, ⟨false, 1, 24, [.sl .own [.leaf]], [.lst 0 []], .slc 5⟩),
  (27, ⟨false, 1, 24, [.sl .own [.leaf]], [.lst 0 []], .slc 33⟩),
  (33, ⟨false, 1, 4, [.leaf], [.flt .f32 0], .flt .f32⟩),
  (58, ⟨false, 1, 24, [.sl .own [.leaf]], [.lst 0 []], .slc 2⟩),
  (63, ⟨false, 1, 8, [.leaf], [.int .u64 0], .int .u64⟩),
  (108, ⟨false, 1, 8, [.leaf], [.nil], .ptr 153⟩),
  (127, ⟨false, 1, 4, [.leaf], [.int .u32 0], .int .u32⟩),
  (151, ⟨false, 1, 8, [.leaf], [.int .u64 0], .int .u64⟩),
  (153, ⟨true, 3, 40, [.sl .own [.leaf], .leaf, .leaf], [.lst 0 [], .int .i64 0, .int .u64 0], .st [(0, 22), (1, 3), (2, 151)]⟩)]
noncomputable def c8 : Code := bodyOf Try.f8
noncomputable def c27 : Code := bodyOf Try.f27
noncomputable def c28 : Code := bodyOf Try.f28
noncomputable def c30 : Code := bodyOf Try.f30
noncomputable def c32 : Code := bodyOf Try.f32
noncomputable def c33 : Code := bodyOf Try.f33
noncomputable def c44 : Code := bodyOf Try.f44
noncomputable def c45 : Code := bodyOf Try.f45
noncomputable def c46 : Code := bodyOf Try.f46
noncomputable def c47 : Code := bodyOf Try.f47
noncomputable def c48 : Code := bodyOf Try.f48
noncomputable def c49 : Code := bodyOf Try.f49
noncomputable def c50 : Code := bodyOf Try.f50
noncomputable def c75 : Code := bodyOf Try.f75
noncomputable def c76 : Code := bodyOf Try.f76
noncomputable def c77 : Code := bodyOf Try.f77
noncomputable def c81 : Code := bodyOf Try.f81
noncomputable def c82 : Code := bodyOf Try.f82
noncomputable def c83 : Code := bodyOf Try.f83
noncomputable def c93 : Code := bodyOf Try.f93
noncomputable def c94 : Code := bodyOf Try.f94
noncomputable def c95 : Code := bodyOf Try.f95
noncomputable def c99 : Code := bodyOf Try.f99
noncomputable def c106 : Code := bodyOf Try.f106
noncomputable def c107 : Code := bodyOf Try.f107
noncomputable def c108 : Code := bodyOf Try.f108
noncomputable def c109 : Code := bodyOf Try.f109
noncomputable def c128 : Code := bodyOf Try.f128
noncomputable def c129 : Code := bodyOf Try.f129
noncomputable def c131 : Code := bodyOf Try.f131
noncomputable def c132 : Code := bodyOf Try.f132
noncomputable def fnTab : List (Nat × FD) := [
  (8, .code c8 [.val, .val] [] [(4, none)] [(0, [0, 1]), (1, [0, 1]), (2, []), (3, [0, 1]), (4, [0, 1, 5]), (5, [0, 1, 5, 6]), (6, [0, 5, 6, 7]), (7, [0, 5, 6, 7, 8]), (8, [0, 5, 6, 7, 8, 9, 10, 11]), (9, [0, 5, 6, 7, 8, 9, 10, 11, 12, 13, 14]), (10, [0, 5, 6, 7, 9, 10, 11, 12, 14, 15, 16, 17]), (11, []), (12, [0, 5, 6, 7, 9]), (13, [0, 5, 6, 7, 9, 18]), (14, [0, 5, 6, 7, 9, 18, 19]), (15, [0, 5, 6, 7, 9, 18, 19]), (16, [0, 5, 6, 7, 9, 18, 19]), (17, [0, 5, 6, 7, 9, 18, 19, 20]), (18, [0, 5, 6, 7, 9, 18, 19, 20, 21]), (19, [0, 5, 6, 7, 9, 18, 19, 20, 21]), (20, [0, 5, 6, 7, 9, 18, 19, 20, 21]), (21, [0, 5, 6, 7, 9, 18, 19, 20]), (22, [0, 5, 6, 7, 9, 18, 19, 22, 23]), (23, []), (24, [0, 5, 6, 7]), (25, [5, 6, 7, 24]), (26, [5, 7, 24, 25]), (27, [5, 7, 24, 25, 26, 27]), (28, [5, 7, 24, 25, 26, 27, 28, 29]), (29, [5, 7, 24, 25, 26, 27, 28, 29, 30, 31]), (30, [5, 7, 24, 25, 26, 27, 28, 29, 30, 31, 32, 33]), (31, [5, 7, 24, 25, 27, 28, 29, 30, 31, 32, 33, 34, 36]), (32, [7, 24, 27, 28, 29, 30, 31, 32, 33, 34, 36, 37, 39]), (33, [7, 27, 28, 29, 30, 31, 32, 33, 34, 36, 39, 40, 41]), (1000014, [0, 4, 5, 6, 7]), (1000018, [0, 5, 6, 7, 9, 18, 19, 20])]),
  (27, .code c27 [.val, .val] [] [(4, none)] [(0, [0, 1]), (1, [0, 1])]),
  (28, .code c28 [.val, .val, .val] [] [(6, none)] [(0, [0, 1, 2]), (1, [0, 1, 2]), (2, []), (3, [0, 1, 2])]),
  (30, .code c30 [.val, .val] [] [(4, none)] [(0, [0, 1]), (1, [0, 1]), (2, [1, 5]), (3, [5, 6])]),
  (32, .code c32 [.val, .val] [] [(4, none)] [(0, [0, 1]), (1, [0, 1]), (2, []), (3, [0, 1]), (4, [0, 1, 5]), (5, [0, 1, 5]), (6, [0, 1, 5]), (7, []), (8, []), (1000004, [4])]),
  (33, .code c33 [.val, .val] [] [(4, none)] [(0, [0, 1]), (1, [0, 1]), (2, [0, 1]), (3, [0, 1])]),
  (44, .code c44 [.val, .val] [] [(4, none)] [(0, [0, 1]), (1, [0, 1]), (2, [1, 5]), (3, [1, 5, 6]), (4, [1, 5, 6, 7]), (5, [1, 5, 6, 7]), (6, [1, 5, 6, 7]), (7, [6]), (1000004, [6])]),
  (45, .code c45 [.val, .val, .val] [] [(6, none), (7, none), (8, none)] [(0, [0, 1, 2]), (1, [0, 1, 2]), (2, []), (3, [0, 1, 2]), (4, [9, 10])]),
  (46, .code c46 [.val, .val] [] [(4, none), (5, none)] [(0, [0, 1]), (1, [0, 1]), (2, []), (3, [0, 1])]),
  (47, .code c47 [.val, .val] [] [(4, none), (5, none)] [(0, [0, 1]), (1, [0, 1]), (2, []), (3, [0, 1]), (4, [0, 1, 6]), (5, [0, 1, 6, 25, 26, 27]), (6, [0, 1, 6, 25, 26, 27]), (7, [0, 1, 6, 8, 25, 26, 27]), (8, [0, 1, 6, 25, 26, 27]), (9, [6]), (1000005, [6])]),
  (48, .code c48 [.val, .val, .val] [] [(6, none), (7, none)] [(0, [0, 1, 2]), (1, [0, 1, 2]), (2, []), (3, [0, 1, 2]), (4, [0, 1, 2, 8]), (5, [0, 2, 8, 9]), (6, [0, 2, 8, 9]), (7, [0, 2, 8, 9]), (8, [8]), (1000005, [8])]),
  (49, .code c49 [.val, .val, .val] [] [(6, none), (7, none)] [(0, [0, 1, 2]), (1, [0, 1, 2]), (2, [1, 8, 9]), (3, []), (4, [1, 8]), (5, [10])]),
  (50, .code c50 [.val, .val, .val] [] [(6, none), (7, none)] [(0, [0, 1, 2]), (1, [0, 1, 2]), (2, []), (3, [0, 1, 2]), (4, [0, 8])]),
  (75, .code c75 [.val] [] [(2, none)] [(0, [0]), (1, [0])]),
  (76, .code c76 [.iop, .val] [0] [(4, none)] [(0, [0, 1]), (1, [0, 1]), (2, [0]), (3, [0, 1]), (4, [0, 1, 5]), (5, [0, 1, 5]), (6, [0, 1, 5])]),
  (77, .code c77 [.iop] [0] [(2, none)] [(0, [0]), (1, [0]), (2, [0, 3]), (3, [0, 3]), (4, [0, 3])]),
  (81, .code c81 [.iop, .val] [0] [(4, none)] [(0, [0, 1]), (1, [0, 1]), (2, [0, 1, 5]), (3, [0, 1, 5, 6]), (4, [0, 1, 5, 6]), (5, [0, 1, 5, 6]), (6, [0, 1, 5, 6]), (7, [0, 1, 5, 6]), (8, [0, 5]), (1000003, [0, 5])]),
  (82, .code c82 [.val] [] [(2, none)] [(0, [0]), (1, [0])]),
  (83, .code c83 [.val, .val, .val] [] [(6, none)] [(0, [0, 1, 2]), (1, [0, 1, 2])]),
  (93, .code c93 [.val] [] [(2, none)] [(0, [0]), (1, [0])]),
  (94, .code c94 [.val] [] [(2, none)] [(0, [0]), (1, [0])]),
  (95, .code c95 [.val] [] [(2, none)] [(0, [0]), (1, [0])]),
  (98, .ext (pF32bits)),
  (99, .code c99 [.iop] [0] [(2, none)] [(0, [0]), (1, [0]), (2, [0]), (3, [0]), (4, [0, 10]), (5, [0]), (6, [0, 10]), (7, [0]), (8, [0, 3]), (9, [0, 10]), (10, [0]), (11, [0])]),
  (106, .code c106 [.val] [] [(2, none)] [(0, [0]), (1, [0])]),
  (107, .code c107 [.val, .val, .val] [] [(6, none), (7, none)] [(0, [0, 1, 2]), (1, [0, 1, 2]), (2, [0, 1, 2, 8]), (3, [0, 1, 2, 8, 9]), (4, [0, 1, 2, 8, 9, 19, 20]), (5, [0, 1, 2, 8, 9, 19, 20]), (6, [0, 1, 2, 8, 9, 10, 19, 20]), (7, [0, 1, 2, 8, 9, 10, 11, 19, 20]), (8, [0, 1, 2, 8, 9, 10, 11, 19, 20, 23, 24, 25]), (9, [0, 1, 2, 8, 9, 10, 11, 19, 20, 23, 24, 25]), (10, [0, 1, 2, 8, 9, 10, 11, 12, 13, 19, 20, 23, 24, 25]), (11, [0, 1, 2, 8, 9, 10, 11, 19, 20, 23, 24, 25]), (12, [0, 1, 2, 8, 9, 11, 19, 20]), (13, [0, 1, 2, 8, 9, 19, 20]), (14, [2, 8, 9]), (1000004, [2, 8, 9]), (1000008, [0, 1, 2, 8, 9, 11, 19, 20, 43, 48])]),
  (108, .code c108 [.val, .val] [] [(4, none)] [(0, [0, 1]), (1, [0, 1]), (2, [0, 1, 5]), (3, [0, 1, 5, 8, 9]), (4, [0, 1, 5, 8, 9]), (5, [0, 1, 5, 6, 8, 9]), (6, [0, 1, 5, 8, 9]), (7, [5]), (1000003, [5])]),
  (109, .code c109 [.val] [] [(2, none)] [(0, [0]), (1, [0])]),
  (128, .code c128 [.iop] [0] [(2, none)] [(0, [0]), (1, [0]), (2, [0, 3]), (3, [0]), (4, [0, 3]), (5, [0, 3]), (6, [0, 3]), (7, [0, 3]), (8, [0])]),
  (129, .code c129 [.iop, .val] [0] [(4, none)] [(0, [0, 1]), (1, [0, 1])]),
  (131, .code c131 [.val] [] [(2, none)] [(0, [0]), (1, [0])]),
  (132, .code c132 [.iop, .io] [0, 1] [(4, none)] [(0, [0, 1]), (1, [0, 1])]),
  (140, .ext (pF32frombits))]
noncomputable def E : Env := ⟨fun t => lookT tyTab t, lookF fnTab⟩
noncomputable def fdAt (n : Nat) : FD := match lookF fnTab n with
  | some d => d
  | none => .ext fun _ => none
noncomputable def keepAt (n : Nat) : List (Nat × List Nat) := match lookF fnTab n with
  | some d => d.keep
  | none => []
theorem tysOk : TysOk Try.prog E := tysOk_of (l := tyTab) (fun _ => rfl) (by kernel_rfl)
theorem ft8 : FnTab Try.prog E 8 (fdAt 8) := fnTab_code (c := c8) (modes := (fdAt 8).ms) (outs := (fdAt 8).os) (results := (fdAt 8).rs) (keep := (fdAt 8).keep) Try.func8 (by kernel_rfl) (by kernel_rfl) (by kernel_rfl)
theorem ft27 : FnTab Try.prog E 27 (fdAt 27) := fnTab_code (c := c27) (modes := (fdAt 27).ms) (outs := (fdAt 27).os) (results := (fdAt 27).rs) (keep := (fdAt 27).keep) Try.func27 (by kernel_rfl) (by kernel_rfl) (by kernel_rfl)
theorem ft28 : FnTab Try.prog E 28 (fdAt 28) := fnTab_code (c := c28) (modes := (fdAt 28).ms) (outs := (fdAt 28).os) (results := (fdAt 28).rs) (keep := (fdAt 28).keep) Try.func28 (by kernel_rfl) (by kernel_rfl) (by kernel_rfl)
theorem ft30 : FnTab Try.prog E 30 (fdAt 30) := fnTab_code (c := c30) (modes := (fdAt 30).ms) (outs := (fdAt 30).os) (results := (fdAt 30).rs) (keep := (fdAt 30).keep) Try.func30 (by kernel_rfl) (by kernel_rfl) (by kernel_rfl)
theorem ft32 : FnTab Try.prog E 32 (fdAt 32) := fnTab_code (c := c32) (modes := (fdAt 32).ms) (outs := (fdAt 32).os) (results := (fdAt 32).rs) (keep := (fdAt 32).keep) Try.func32 (by kernel_rfl) (by kernel_rfl) (by kernel_rfl)
theorem ft33 : FnTab Try.prog E 33 (fdAt 33) := fnTab_code (c := c33) (modes := (fdAt 33).ms) (outs := (fdAt 33).os) (results := (fdAt 33).rs) (keep := (fdAt 33).keep) Try.func33 (by kernel_rfl) (by kernel_rfl) (by kernel_rfl)
theorem ft44 : FnTab Try.prog E 44 (fdAt 44) := fnTab_code (c := c44) (modes := (fdAt 44).ms) (outs := (fdAt 44).os) (results := (fdAt 44).rs) (keep := (fdAt 44).keep) Try.func44 (by kernel_rfl) (by kernel_rfl) (by kernel_rfl)
theorem ft45 : FnTab Try.prog E 45 (fdAt 45) := fnTab_code (c := c45) (modes := (fdAt 45).ms) (outs := (fdAt 45).os) (results := (fdAt 45).rs) (keep := (fdAt 45).keep) Try.func45 (by kernel_rfl) (by kernel_rfl) (by kernel_rfl)
theorem ft46 : FnTab Try.prog E 46 (fdAt 46) := fnTab_code (c := c46) (modes := (fdAt 46).ms) (outs := (fdAt 46).os) (results := (fdAt 46).rs) (keep := (fdAt 46).keep) Try.func46 (by kernel_rfl) (by kernel_rfl) (by kernel_rfl)
theorem ft47 : FnTab Try.prog E 47 (fdAt 47) := fnTab_code (c := c47) (modes := (fdAt 47).ms) (outs := (fdAt 47).os) (results := (fdAt 47).rs) (keep := (fdAt 47).keep) Try.func47 (by kernel_rfl) (by kernel_rfl) (by kernel_rfl)
theorem ft48 : FnTab Try.prog E 48 (fdAt 48) := fnTab_code (c := c48) (modes := (fdAt 48).ms) (outs := (fdAt 48).os) (results := (fdAt 48).rs) (keep := (fdAt 48).keep) Try.func48 (by kernel_rfl) (by kernel_rfl) (by kernel_rfl)
theorem ft49 : FnTab Try.prog E 49 (fdAt 49) := fnTab_code (c := c49) (modes := (fdAt 49).ms) (outs := (fdAt 49).os) (results := (fdAt 49).rs) (keep := (fdAt 49).keep) Try.func49 (by kernel_rfl) (by kernel_rfl) (by kernel_rfl)
theorem ft50 : FnTab Try.prog E 50 (fdAt 50) := fnTab_code (c := c50) (modes := (fdAt 50).ms) (outs := (fdAt 50).os) (results := (fdAt 50).rs) (keep := (fdAt 50).keep) Try.func50 (by kernel_rfl) (by kernel_rfl) (by kernel_rfl)
theorem ft75 : FnTab Try.prog E 75 (fdAt 75) := fnTab_code (c := c75) (modes := (fdAt 75).ms) (outs := (fdAt 75).os) (results := (fdAt 75).rs) (keep := (fdAt 75).keep) Try.func75 (by kernel_rfl) (by kernel_rfl) (by kernel_rfl)
theorem ft76 : FnTab Try.prog E 76 (fdAt 76) := fnTab_code (c := c76) (modes := (fdAt 76).ms) (outs := (fdAt 76).os) (results := (fdAt 76).rs) (keep := (fdAt 76).keep) Try.func76 (by kernel_rfl) (by kernel_rfl) (by kernel_rfl)
theorem ft77 : FnTab Try.prog E 77 (fdAt 77) := fnTab_code (c := c77) (modes := (fdAt 77).ms) (outs := (fdAt 77).os) (results := (fdAt 77).rs) (keep := (fdAt 77).keep) Try.func77 (by kernel_rfl) (by kernel_rfl) (by kernel_rfl)
theorem ft81 : FnTab Try.prog E 81 (fdAt 81) := fnTab_code (c := c81) (modes := (fdAt 81).ms) (outs := (fdAt 81).os) (results := (fdAt 81).rs) (keep := (fdAt 81).keep) Try.func81 (by kernel_rfl) (by kernel_rfl) (by kernel_rfl)
theorem ft82 : FnTab Try.prog E 82 (fdAt 82) := fnTab_code (c := c82) (modes := (fdAt 82).ms) (outs := (fdAt 82).os) (results := (fdAt 82).rs) (keep := (fdAt 82).keep) Try.func82 (by kernel_rfl) (by kernel_rfl) (by kernel_rfl)
theorem ft83 : FnTab Try.prog E 83 (fdAt 83) := fnTab_code (c := c83) (modes := (fdAt 83).ms) (outs := (fdAt 83).os) (results := (fdAt 83).rs) (keep := (fdAt 83).keep) Try.func83 (by kernel_rfl) (by kernel_rfl) (by kernel_rfl)
theorem ft93 : FnTab Try.prog E 93 (fdAt 93) := fnTab_code (c := c93) (modes := (fdAt 93).ms) (outs := (fdAt 93).os) (results := (fdAt 93).rs) (keep := (fdAt 93).keep) Try.func93 (by kernel_rfl) (by kernel_rfl) (by kernel_rfl)
theorem ft94 : FnTab Try.prog E 94 (fdAt 94) := fnTab_code (c := c94) (modes := (fdAt 94).ms) (outs := (fdAt 94).os) (results := (fdAt 94).rs) (keep := (fdAt 94).keep) Try.func94 (by kernel_rfl) (by kernel_rfl) (by kernel_rfl)
theorem ft95 : FnTab Try.prog E 95 (fdAt 95) := fnTab_code (c := c95) (modes := (fdAt 95).ms) (outs := (fdAt 95).os) (results := (fdAt 95).rs) (keep := (fdAt 95).keep) Try.func95 (by kernel_rfl) (by kernel_rfl) (by kernel_rfl)
theorem ft98 : FnTab Try.prog E 98 (.ext (pF32bits)) := ext_pF32bits Try.func98 (by kernel_rfl) (by kernel_rfl) (by kernel_rfl) (by kernel_rfl)
theorem ft99 : FnTab Try.prog E 99 (fdAt 99) := fnTab_code (c := c99) (modes := (fdAt 99).ms) (outs := (fdAt 99).os) (results := (fdAt 99).rs) (keep := (fdAt 99).keep) Try.func99 (by kernel_rfl) (by kernel_rfl) (by kernel_rfl)
theorem ft106 : FnTab Try.prog E 106 (fdAt 106) := fnTab_code (c := c106) (modes := (fdAt 106).ms) (outs := (fdAt 106).os) (results := (fdAt 106).rs) (keep := (fdAt 106).keep) Try.func106 (by kernel_rfl) (by kernel_rfl) (by kernel_rfl)
theorem ft107 : FnTab Try.prog E 107 (fdAt 107) := fnTab_code (c := c107) (modes := (fdAt 107).ms) (outs := (fdAt 107).os) (results := (fdAt 107).rs) (keep := (fdAt 107).keep) Try.func107 (by kernel_rfl) (by kernel_rfl) (by kernel_rfl)
theorem ft108 : FnTab Try.prog E 108 (fdAt 108) := fnTab_code (c := c108) (modes := (fdAt 108).ms) (outs := (fdAt 108).os) (results := (fdAt 108).rs) (keep := (fdAt 108).keep) Try.func108 (by kernel_rfl) (by kernel_rfl) (by kernel_rfl)
theorem ft109 : FnTab Try.prog E 109 (fdAt 109) := fnTab_code (c := c109) (modes := (fdAt 109).ms) (outs := (fdAt 109).os) (results := (fdAt 109).rs) (keep := (fdAt 109).keep) Try.func109 (by kernel_rfl) (by kernel_rfl) (by kernel_rfl)
theorem ft128 : FnTab Try.prog E 128 (fdAt 128) := fnTab_code (c := c128) (modes := (fdAt 128).ms) (outs := (fdAt 128).os) (results := (fdAt 128).rs) (keep := (fdAt 128).keep) Try.func128 (by kernel_rfl) (by kernel_rfl) (by kernel_rfl)
theorem ft129 : FnTab Try.prog E 129 (fdAt 129) := fnTab_code (c := c129) (modes := (fdAt 129).ms) (outs := (fdAt 129).os) (results := (fdAt 129).rs) (keep := (fdAt 129).keep) Try.func129 (by kernel_rfl) (by kernel_rfl) (by kernel_rfl)
theorem ft131 : FnTab Try.prog E 131 (fdAt 131) := fnTab_code (c := c131) (modes := (fdAt 131).ms) (outs := (fdAt 131).os) (results := (fdAt 131).rs) (keep := (fdAt 131).keep) Try.func131 (by kernel_rfl) (by kernel_rfl) (by kernel_rfl)
theorem ft132 : FnTab Try.prog E 132 (fdAt 132) := fnTab_code (c := c132) (modes := (fdAt 132).ms) (outs := (fdAt 132).os) (results := (fdAt 132).rs) (keep := (fdAt 132).keep) Try.func132 (by kernel_rfl) (by kernel_rfl) (by kernel_rfl)
theorem ft140 : FnTab Try.prog E 140 (.ext (pF32frombits)) := ext_pF32frombits Try.func140 (by kernel_rfl) (by kernel_rfl) (by kernel_rfl) (by kernel_rfl)
theorem allFns : AllFns Try.prog E fnTab := .cons ft8 (.cons ft27 (.cons ft28 (.cons ft30 (.cons ft32 (.cons ft33 (.cons ft44 (.cons ft45 (.cons ft46 (.cons ft47 (.cons ft48 (.cons ft49 (.cons ft50 (.cons ft75 (.cons ft76 (.cons ft77 (.cons ft81 (.cons ft82 (.cons ft83 (.cons ft93 (.cons ft94 (.cons ft95 (.cons ft98 (.cons ft99 (.cons ft106 (.cons ft107 (.cons ft108 (.cons ft109 (.cons ft128 (.cons ft129 (.cons ft131 (.cons ft132 (.cons ft140 (.nil)))))))))))))))))))))))))))))))))
theorem fnOk : ∀ f fd, E.fn f = some fd → FnTab Try.prog E f fd := fnTab_of (l := fnTab) (fun _ => rfl) allFns
end Go.Proofs.Ytdejjalkfekjiaa.D
end
section
/- Plain functions for the law's Go functions, each tied to the reading by the kernel (printed by a program of this workplace). -/
namespace Go.Proofs.Ytdejjalkfekjiaa.D
open Go Go.Desk
set_option linter.unusedVariables false
noncomputable def x140.w : FnW E := xF32frombits.w 140 (by kernel_rfl)

noncomputable def x98.w : FnW E := xF32bits.w 98 (by kernel_rfl)

def f27_l_r8Long : Nat → Nat → List T → Nat → List T → Option (Bool)
  | 0, _, _, _, _ => none
  | n + 1, n1, l2, n3, l4 =>
    br (decide (((n1 : Nat) : Int) > (48 : Int))) (
     some true) (
     some (decide (((n3 : Nat) : Int) > (48 : Int))))
def sg_ll : Sig (Nat × List T × Nat × List T) where
  pk := fun v => [.lst v.1 v.2.1, .lst v.2.2.1 v.2.2.2]
  up := fun ls => match ls with
    | [.lst a0 a1, .lst a2 a3] => some (a0, a1, a2, a3)
    | _ => none
  ok := by
    intro ls v h
    split at h
    · cases h; rfl
    · cases h

def sg_b : Sig (Bool) where
  pk := fun v => [.bool v]
  up := fun ls => match ls with
    | [.bool a0] => some a0
    | _ => none
  ok := by
    intro ls v h
    split at h
    · cases h; rfl
    · cases h

def f27_l_r8Long.P : List Arg := [⟨.val, ⟨false, [.sl .shr [.leaf]], [.lst 0 []]⟩⟩, ⟨.val, ⟨false, [.sl .shr [.leaf]], [.lst 0 []]⟩⟩]
def f27_l_r8Long.A : RAlt (Bool) := .one ⟨[⟨false, [.leaf], [.bool false]⟩], [none, none]⟩ sg_b
def f27_l_r8Long.F (n : Nat) (v : Nat × List T × Nat × List T) := f27_l_r8Long n v.1 v.2.1 v.2.2.1 v.2.2.2
noncomputable def f27_l_r8Long.O (n : Nat) : Orc := orcOf (E := E) [] [] n
theorem f27_l_r8Long.ok : ∀ n v x, f27_l_r8Long.F n v = some x → evalFn E n 27 (flAs f27_l_r8Long.P (sg_ll.pk v)) = some (f27_l_r8Long.A.enc x) :=
  fn_pure (modes := (fdAt 27).ms) (outs := (fdAt 27).os) (results := (fdAt 27).rs) f27_l_r8Long.O (c := c27) (keep := keepAt 27) (by kernel_rfl) (fun n => orcOf_cf _ _ n) (fun n => lpOk_of (bs := []) (by kernel_rfl) .nil) (fun _ => rfl) (fun _ _ => by kernel_rfl)
noncomputable def f27_l_r8Long.w : FnW E := fnW 27 f27_l_r8Long.P sg_ll f27_l_r8Long.A f27_l_r8Long.F f27_l_r8Long.ok

def f28_l_r8At : Nat → Nat → List T → Int → Int → Option (Int)
  | 0, _, _, _, _ => none
  | n + 1, n1, l2, i3, i4 =>
    br (decide (i4 ≤ (1 : Int))) (
     some (0 : Int)) (
     br (decide (i3 ≥ ((n1 : Nat) : Int))) (
      some (0 : Int)) (
      gd ((decide (((0 : Int) ≤ i3) ∧ (i3 < ((n1 : Nat) : Int)))) && (okAt [(CK.int IntKind.u8)] l2 (Int.toNat i3))) (
      gd (!(decide (i4 = (0 : Int)))) (
      some (Int.tmod (IntKind.i64.wrap (iAt l2 (Int.toNat i3))) i4)))))
def sg_lii : Sig (Nat × List T × Int × Int) where
  pk := fun v => [.lst v.1 v.2.1, .int v.2.2.1, .int v.2.2.2]
  up := fun ls => match ls with
    | [.lst a0 a1, .int a2, .int a3] => some (a0, a1, a2, a3)
    | _ => none
  ok := by
    intro ls v h
    split at h
    · cases h; rfl
    · cases h

def sg_i : Sig (Int) where
  pk := fun v => [.int v]
  up := fun ls => match ls with
    | [.int a0] => some a0
    | _ => none
  ok := by
    intro ls v h
    split at h
    · cases h; rfl
    · cases h

def f28_l_r8At.P : List Arg := [⟨.val, ⟨false, [.sl .shr [.leaf]], [.lst 0 []]⟩⟩, ⟨.val, ⟨false, [.leaf], [.int .i64 0]⟩⟩, ⟨.val, ⟨false, [.leaf], [.int .i64 0]⟩⟩]
def f28_l_r8At.A : RAlt (Int) := .one ⟨[⟨false, [.leaf], [.int .i64 0]⟩], [none, none, none]⟩ sg_i
def f28_l_r8At.F (n : Nat) (v : Nat × List T × Int × Int) := f28_l_r8At n v.1 v.2.1 v.2.2.1 v.2.2.2
noncomputable def f28_l_r8At.O (n : Nat) : Orc := orcOf (E := E) [] [] n
theorem f28_l_r8At.ok : ∀ n v x, f28_l_r8At.F n v = some x → evalFn E n 28 (flAs f28_l_r8At.P (sg_lii.pk v)) = some (f28_l_r8At.A.enc x) :=
  fn_pure (modes := (fdAt 28).ms) (outs := (fdAt 28).os) (results := (fdAt 28).rs) f28_l_r8At.O (c := c28) (keep := keepAt 28) (by kernel_rfl) (fun n => orcOf_cf _ _ n) (fun n => lpOk_of (bs := []) (by kernel_rfl) .nil) (fun _ => rfl) (fun _ _ => by kernel_rfl)
noncomputable def f28_l_r8At.w : FnW E := fnW 28 f28_l_r8At.P sg_lii f28_l_r8At.A f28_l_r8At.F f28_l_r8At.ok

def f75_s_l00From : Nat → Nat → List T → Option (Nat × List T × Int × Int)
  | 0, _, _ => none
  | n + 1, n1, l2 =>
    some (n1, l2, (0 : Int), (0 : Int))
def sg_l : Sig (Nat × List T) where
  pk := fun v => [.lst v.1 v.2]
  up := fun ls => match ls with
    | [.lst a0 a1] => some (a0, a1)
    | _ => none
  ok := by
    intro ls v h
    split at h
    · cases h; rfl
    · cases h

def f75_s_l00From.P : List Arg := [⟨.val, ⟨false, [.sl .shr [.leaf]], [.lst 0 []]⟩⟩]
def f75_s_l00From.A : RAlt (Nat × List T × Int × Int) := .one ⟨[⟨false, [.rf .own [.sl .shr [.leaf], .leaf, .leaf]], [.ref [.lst 0 [], .int .i64 0, .int .u64 0]]⟩], [none]⟩ sg_lii
def f75_s_l00From.F (n : Nat) (v : Nat × List T) := f75_s_l00From n v.1 v.2
noncomputable def f75_s_l00From.O (n : Nat) : Orc := orcOf (E := E) [] [] n
theorem f75_s_l00From.ok : ∀ n v x, f75_s_l00From.F n v = some x → evalFn E n 75 (flAs f75_s_l00From.P (sg_l.pk v)) = some (f75_s_l00From.A.enc x) :=
  fn_pure (modes := (fdAt 75).ms) (outs := (fdAt 75).os) (results := (fdAt 75).rs) f75_s_l00From.O (c := c75) (keep := keepAt 75) (by kernel_rfl) (fun n => orcOf_cf _ _ n) (fun n => lpOk_of (bs := []) (by kernel_rfl) .nil) (fun _ => rfl) (fun _ _ => by kernel_rfl)
noncomputable def f75_s_l00From.w : FnW E := fnW 75 f75_s_l00From.P sg_l f75_s_l00From.A f75_s_l00From.F f75_s_l00From.ok

def f128_s_l00Srcnext : Nat → Nat → List T → Int → Int → Option (Int × Nat × List T × Int × Int)
  | 0, _, _, _, _ => none
  | n + 1, n1, l2, i3, i4 =>
    br (decide (i3 < ((n1 : Nat) : Int))) (
     gd ((decide (((0 : Int) ≤ i3) ∧ (i3 < ((n1 : Nat) : Int)))) && (okAt [(CK.int IntKind.u8)] l2 (Int.toNat i3))) (
     let i5 : Int := (IntKind.i64.wrap (iAt l2 (Int.toNat i3)))
     let i6 : Int := (IntKind.i64.wrap (i3 + (1 : Int)))
     let i7 : Int := (IntKind.u64.wrap ((IntKind.u64.wrap ((IntKind.u64.wrap (i4 * (6364136223846793005 : Int))) + (IntKind.u64.wrap i5))) + (1442695040888963407 : Int)))
     br (decide (i6 ≤ ((n1 : Nat) : Int))) (
      some (i5, n1, l2, i6, i7)) (
      some ((IntKind.i64.wrap (intBits BinOp.and IntKind.u64 (Int.fdiv i7 (1099511627776 : Int)) (255 : Int))), n1, l2, i6, i7)))) (
     let i8 : Int := (IntKind.i64.wrap (i3 + (1 : Int)))
     let i9 : Int := (IntKind.u64.wrap ((IntKind.u64.wrap ((IntKind.u64.wrap (i4 * (6364136223846793005 : Int))) + (0 : Int))) + (1442695040888963407 : Int)))
     br (decide (i8 ≤ ((n1 : Nat) : Int))) (
      some ((0 : Int), n1, l2, i8, i9)) (
      some ((IntKind.i64.wrap (intBits BinOp.and IntKind.u64 (Int.fdiv i9 (1099511627776 : Int)) (255 : Int))), n1, l2, i8, i9)))
def sg_ilii : Sig (Int × Nat × List T × Int × Int) where
  pk := fun v => [.int v.1, .lst v.2.1 v.2.2.1, .int v.2.2.2.1, .int v.2.2.2.2]
  up := fun ls => match ls with
    | [.int a0, .lst a1 a2, .int a3, .int a4] => some (a0, a1, a2, a3, a4)
    | _ => none
  ok := by
    intro ls v h
    split at h
    · cases h; rfl
    · cases h

def f128_s_l00Srcnext.P : List Arg := [⟨.iop, ⟨false, [.rf .own [.sl .shr [.leaf], .leaf, .leaf]], [.ref [.lst 0 [], .int .i64 0, .int .u64 0]]⟩⟩]
def f128_s_l00Srcnext.A : RAlt (Int × Nat × List T × Int × Int) := .one ⟨[⟨false, [.leaf], [.int .i64 0]⟩], [some ⟨false, [.rf .own [.sl .shr [.leaf], .leaf, .leaf]], [.ref [.lst 0 [], .int .i64 0, .int .u64 0]]⟩]⟩ sg_ilii
def f128_s_l00Srcnext.F (n : Nat) (v : Nat × List T × Int × Int) := f128_s_l00Srcnext n v.1 v.2.1 v.2.2.1 v.2.2.2
noncomputable def f128_s_l00Srcnext.O (n : Nat) : Orc := orcOf (E := E) [] [] n
theorem f128_s_l00Srcnext.ok : ∀ n v x, f128_s_l00Srcnext.F n v = some x → evalFn E n 128 (flAs f128_s_l00Srcnext.P (sg_lii.pk v)) = some (f128_s_l00Srcnext.A.enc x) :=
  fn_pure (modes := (fdAt 128).ms) (outs := (fdAt 128).os) (results := (fdAt 128).rs) f128_s_l00Srcnext.O (c := c128) (keep := keepAt 128) (by kernel_rfl) (fun n => orcOf_cf _ _ n) (fun n => lpOk_of (bs := []) (by kernel_rfl) .nil) (fun _ => rfl) (fun _ _ => by kernel_rfl)
noncomputable def f128_s_l00Srcnext.w : FnW E := fnW 128 f128_s_l00Srcnext.P sg_lii f128_s_l00Srcnext.A f128_s_l00Srcnext.F f128_s_l00Srcnext.ok

def f76_s_l00Srcpick : Nat → Nat → List T → Int → Int → Int → Option (Int × Nat × List T × Int × Int)
  | 0, _, _, _, _, _ => none
  | n + 1, n1, l2, i3, i4, i5 =>
    br (decide (i5 ≤ (1 : Int))) (
     some ((0 : Int), n1, l2, i3, i4)) (
     bd (f128_s_l00Srcnext n n1 l2 i3 i4) fun r6 =>
     let i7 : Int := r6.1
     let n8 : Nat := r6.2.1
     let l9 : List T := r6.2.2.1
     let i10 : Int := r6.2.2.2.1
     let i11 : Int := r6.2.2.2.2
     br (decide (i5 > (200 : Int))) (
      bd (f128_s_l00Srcnext n n8 l9 i10 i11) fun r12 =>
      let i13 : Int := r12.1
      let n14 : Nat := r12.2.1
      let l15 : List T := r12.2.2.1
      let i16 : Int := r12.2.2.2.1
      let i17 : Int := r12.2.2.2.2
      let i18 : Int := (IntKind.i64.wrap ((IntKind.i64.wrap (i7 * (256 : Int))) + i13))
      gd (!(decide (i5 = (0 : Int)))) (
      some ((Int.tmod i18 i5), n14, l15, i16, i17))) (
      gd (!(decide (i5 = (0 : Int)))) (
      some ((Int.tmod i7 i5), n8, l9, i10, i11))))
def sg_liii : Sig (Nat × List T × Int × Int × Int) where
  pk := fun v => [.lst v.1 v.2.1, .int v.2.2.1, .int v.2.2.2.1, .int v.2.2.2.2]
  up := fun ls => match ls with
    | [.lst a0 a1, .int a2, .int a3, .int a4] => some (a0, a1, a2, a3, a4)
    | _ => none
  ok := by
    intro ls v h
    split at h
    · cases h; rfl
    · cases h

def f76_s_l00Srcpick.P : List Arg := [⟨.iop, ⟨false, [.rf .own [.sl .shr [.leaf], .leaf, .leaf]], [.ref [.lst 0 [], .int .i64 0, .int .u64 0]]⟩⟩, ⟨.val, ⟨false, [.leaf], [.int .i64 0]⟩⟩]
def f76_s_l00Srcpick.A : RAlt (Int × Nat × List T × Int × Int) := .one ⟨[⟨false, [.leaf], [.int .i64 0]⟩], [some ⟨false, [.rf .own [.sl .shr [.leaf], .leaf, .leaf]], [.ref [.lst 0 [], .int .i64 0, .int .u64 0]]⟩, none]⟩ sg_ilii
def f76_s_l00Srcpick.F (n : Nat) (v : Nat × List T × Int × Int × Int) := f76_s_l00Srcpick n v.1 v.2.1 v.2.2.1 v.2.2.2.1 v.2.2.2.2
noncomputable def f76_s_l00Srcpick.O (n : Nat) : Orc := orcOf (E := E) [f128_s_l00Srcnext.w] [] n
theorem f76_s_l00Srcpick.ok : ∀ n v x, f76_s_l00Srcpick.F n v = some x → evalFn E n 76 (flAs f76_s_l00Srcpick.P (sg_liii.pk v)) = some (f76_s_l00Srcpick.A.enc x) :=
  fn_pure (modes := (fdAt 76).ms) (outs := (fdAt 76).os) (results := (fdAt 76).rs) f76_s_l00Srcpick.O (c := c76) (keep := keepAt 76) (by kernel_rfl) (fun n => orcOf_cf _ _ n) (fun n => lpOk_of (bs := []) (by kernel_rfl) .nil) (fun _ => rfl) (fun _ _ => by kernel_rfl)
noncomputable def f76_s_l00Srcpick.w : FnW E := fnW 76 f76_s_l00Srcpick.P sg_liii f76_s_l00Srcpick.A f76_s_l00Srcpick.F f76_s_l00Srcpick.ok

def f129_s_l00Srcone : Nat → Nat → List T → Int → Int → Int → Option (Bool × Nat × List T × Int × Int)
  | 0, _, _, _, _, _ => none
  | n + 1, n1, l2, i3, i4, i5 =>
    bd (f76_s_l00Srcpick n n1 l2 i3 i4 i5) fun r6 =>
    let i7 : Int := r6.1
    let n8 : Nat := r6.2.1
    let l9 : List T := r6.2.2.1
    let i10 : Int := r6.2.2.2.1
    let i11 : Int := r6.2.2.2.2
    some ((i7 == (0 : Int)), n8, l9, i10, i11)
def sg_blii : Sig (Bool × Nat × List T × Int × Int) where
  pk := fun v => [.bool v.1, .lst v.2.1 v.2.2.1, .int v.2.2.2.1, .int v.2.2.2.2]
  up := fun ls => match ls with
    | [.bool a0, .lst a1 a2, .int a3, .int a4] => some (a0, a1, a2, a3, a4)
    | _ => none
  ok := by
    intro ls v h
    split at h
    · cases h; rfl
    · cases h

def f129_s_l00Srcone.P : List Arg := [⟨.iop, ⟨false, [.rf .own [.sl .shr [.leaf], .leaf, .leaf]], [.ref [.lst 0 [], .int .i64 0, .int .u64 0]]⟩⟩, ⟨.val, ⟨false, [.leaf], [.int .i64 0]⟩⟩]
def f129_s_l00Srcone.A : RAlt (Bool × Nat × List T × Int × Int) := .one ⟨[⟨false, [.leaf], [.bool false]⟩], [some ⟨false, [.rf .own [.sl .shr [.leaf], .leaf, .leaf]], [.ref [.lst 0 [], .int .i64 0, .int .u64 0]]⟩, none]⟩ sg_blii
def f129_s_l00Srcone.F (n : Nat) (v : Nat × List T × Int × Int × Int) := f129_s_l00Srcone n v.1 v.2.1 v.2.2.1 v.2.2.2.1 v.2.2.2.2
noncomputable def f129_s_l00Srcone.O (n : Nat) : Orc := orcOf (E := E) [f76_s_l00Srcpick.w] [] n
theorem f129_s_l00Srcone.ok : ∀ n v x, f129_s_l00Srcone.F n v = some x → evalFn E n 129 (flAs f129_s_l00Srcone.P (sg_liii.pk v)) = some (f129_s_l00Srcone.A.enc x) :=
  fn_pure (modes := (fdAt 129).ms) (outs := (fdAt 129).os) (results := (fdAt 129).rs) f129_s_l00Srcone.O (c := c129) (keep := keepAt 129) (by kernel_rfl) (fun n => orcOf_cf _ _ n) (fun n => lpOk_of (bs := []) (by kernel_rfl) .nil) (fun _ => rfl) (fun _ _ => by kernel_rfl)
noncomputable def f129_s_l00Srcone.w : FnW E := fnW 129 f129_s_l00Srcone.P sg_liii f129_s_l00Srcone.A f129_s_l00Srcone.F f129_s_l00Srcone.ok

def f77_s_l01DrawPlain : Nat → Nat → List T → Int → Int → Option (Nat × Nat × List T × Int × Int)
  | 0, _, _, _, _ => none
  | n + 1, n1, l2, i3, i4 =>
    bd (f76_s_l00Srcpick n n1 l2 i3 i4 (129 : Int)) fun r5 =>
    let i6 : Int := r5.1
    let n7 : Nat := r5.2.1
    let l8 : List T := r5.2.2.1
    let i9 : Int := r5.2.2.2.1
    let i10 : Int := r5.2.2.2.2
    let i11 : Int := (IntKind.i64.wrap (i6 - (64 : Int)))
    bd (f129_s_l00Srcone n n7 l8 i9 i10 (4 : Int)) fun r12 =>
    let b13 : Bool := r12.1
    let n14 : Nat := r12.2.1
    let l15 : List T := r12.2.2.1
    let i16 : Int := r12.2.2.2.1
    let i17 : Int := r12.2.2.2.2
    br b13 (
     some ((fdiv FloatKind.f32 (FloatKind.nearest FloatKind.f32 i11) 1088421888), n14, l15, i16, i17)) (
     some ((fdiv FloatKind.f32 (FloatKind.nearest FloatKind.f32 i11) 1098907648), n14, l15, i16, i17))
def sg_flii : Sig (Nat × Nat × List T × Int × Int) where
  pk := fun v => [.flt v.1, .lst v.2.1 v.2.2.1, .int v.2.2.2.1, .int v.2.2.2.2]
  up := fun ls => match ls with
    | [.flt a0, .lst a1 a2, .int a3, .int a4] => some (a0, a1, a2, a3, a4)
    | _ => none
  ok := by
    intro ls v h
    split at h
    · cases h; rfl
    · cases h

def f77_s_l01DrawPlain.P : List Arg := [⟨.iop, ⟨false, [.rf .own [.sl .shr [.leaf], .leaf, .leaf]], [.ref [.lst 0 [], .int .i64 0, .int .u64 0]]⟩⟩]
def f77_s_l01DrawPlain.A : RAlt (Nat × Nat × List T × Int × Int) := .one ⟨[⟨false, [.leaf], [.flt .f32 0]⟩], [some ⟨false, [.rf .own [.sl .shr [.leaf], .leaf, .leaf]], [.ref [.lst 0 [], .int .i64 0, .int .u64 0]]⟩]⟩ sg_flii
def f77_s_l01DrawPlain.F (n : Nat) (v : Nat × List T × Int × Int) := f77_s_l01DrawPlain n v.1 v.2.1 v.2.2.1 v.2.2.2
noncomputable def f77_s_l01DrawPlain.O (n : Nat) : Orc := orcOf (E := E) [f76_s_l00Srcpick.w, f129_s_l00Srcone.w] [] n
theorem f77_s_l01DrawPlain.ok : ∀ n v x, f77_s_l01DrawPlain.F n v = some x → evalFn E n 77 (flAs f77_s_l01DrawPlain.P (sg_lii.pk v)) = some (f77_s_l01DrawPlain.A.enc x) :=
  fn_pure (modes := (fdAt 77).ms) (outs := (fdAt 77).os) (results := (fdAt 77).rs) f77_s_l01DrawPlain.O (c := c77) (keep := keepAt 77) (by kernel_rfl) (fun n => orcOf_cf _ _ n) (fun n => lpOk_of (bs := []) (by kernel_rfl) .nil) (fun _ => rfl) (fun _ _ => by kernel_rfl)
noncomputable def f77_s_l01DrawPlain.w : FnW E := fnW 77 f77_s_l01DrawPlain.P sg_lii f77_s_l01DrawPlain.A f77_s_l01DrawPlain.F f77_s_l01DrawPlain.ok

def f44_s_R8Plain.l0 (n : Nat) : Nat → Int → Nat → List T → Int → Int → Nat → List T → Int → Option (Nat × List T)
  | 0, _, _, _, _, _, _, _, _ => none
  | m + 1, i1, n2, l3, i4, i5, n6, l7, i8 =>
    br (decide (i8 < i1)) (
     bd (f77_s_l01DrawPlain n n2 l3 i4 i5) fun r9 =>
     let x10 : Nat := r9.1
     let n11 : Nat := r9.2.1
     let l12 : List T := r9.2.2.1
     let i13 : Int := r9.2.2.2.1
     let i14 : Int := r9.2.2.2.2
     gd (Nat.ble (n6 + 1) 2147483648) (
     let n15 : Nat := (n6 + 1)
     let l16 : List T := (l7 ++ (setN (reps 1 [(T.flt FloatKind.f32 0)]) 0 [(T.flt FloatKind.f32 x10)]))
     f44_s_R8Plain.l0 n m i1 n11 l12 i13 i14 n15 l16 (IntKind.i64.wrap (i8 + (1 : Int))))) (
     some (n6, l7))
def f44_s_R8Plain : Nat → Nat → List T → Int → Option (Nat × List T)
  | 0, _, _, _ => none
  | n + 1, n1, l2, i3 =>
    bd (f75_s_l00From n n1 l2) fun r4 =>
    let n5 : Nat := r4.1
    let l6 : List T := r4.2.1
    let i7 : Int := r4.2.2.1
    let i8 : Int := r4.2.2.2
    bd (f44_s_R8Plain.l0 n n i3 n5 l6 i7 i8 0 (reps 0 [(T.flt FloatKind.f32 0)]) (0 : Int)) fun r9 =>
    let n10 : Nat := r9.1
    let l11 : List T := r9.2
    some (n10, l11)
def sg_li : Sig (Nat × List T × Int) where
  pk := fun v => [.lst v.1 v.2.1, .int v.2.2]
  up := fun ls => match ls with
    | [.lst a0 a1, .int a2] => some (a0, a1, a2)
    | _ => none
  ok := by
    intro ls v h
    split at h
    · cases h; rfl
    · cases h

def sg_iliili : Sig (Int × Nat × List T × Int × Int × Nat × List T × Int) where
  pk := fun v => [.int v.1, .lst v.2.1 v.2.2.1, .int v.2.2.2.1, .int v.2.2.2.2.1, .lst v.2.2.2.2.2.1 v.2.2.2.2.2.2.1, .int v.2.2.2.2.2.2.2]
  up := fun ls => match ls with
    | [.int a0, .lst a1 a2, .int a3, .int a4, .lst a5 a6, .int a7] => some (a0, a1, a2, a3, a4, a5, a6, a7)
    | _ => none
  ok := by
    intro ls v h
    split at h
    · cases h; rfl
    · cases h

def f44_s_R8Plain.l0.P : AS := ⟨[(1, .val false [.leaf] [.int .i64 0] [] 0), (5, .box [.sl .shr [.leaf], .leaf, .leaf] [.lst 0 [], .int .i64 0, .int .u64 0] [] 0), (6, .val false [.sl .own [.leaf]] [.lst 0 []] [] 0), (7, .val false [.leaf] [.int .i64 0] [] 0)], 0⟩
def f44_s_R8Plain.l0.A : Alt (Nat × List T) := .one (.exit 0) ⟨[(6, .val false [.sl .own [.leaf]] [.lst 0 []] [] 0)], 0⟩ sg_l
def f44_s_R8Plain.l0.F (n m : Nat) (v : Int × Nat × List T × Int × Int × Nat × List T × Int) := f44_s_R8Plain.l0 n m v.1 v.2.1 v.2.2.1 v.2.2.2.1 v.2.2.2.2.1 v.2.2.2.2.2.1 v.2.2.2.2.2.2.1 v.2.2.2.2.2.2.2
def f44_s_R8Plain.l0.W (n : Nat) : LpW := .of 64 f44_s_R8Plain.l0.P sg_iliili f44_s_R8Plain.l0.A (f44_s_R8Plain.l0.F n n)
def f44_s_R8Plain.P : List Arg := [⟨.val, ⟨false, [.sl .shr [.leaf]], [.lst 0 []]⟩⟩, ⟨.val, ⟨false, [.leaf], [.int .i64 0]⟩⟩]
def f44_s_R8Plain.A : RAlt (Nat × List T) := .one ⟨[⟨false, [.sl .own [.leaf]], [.lst 0 []]⟩], [none, none]⟩ sg_l
def f44_s_R8Plain.F (n : Nat) (v : Nat × List T × Int) := f44_s_R8Plain n v.1 v.2.1 v.2.2
noncomputable def f44_s_R8Plain.O (n : Nat) : Orc := orcOf (E := E) [f75_s_l00From.w, f77_s_l01DrawPlain.w] [f44_s_R8Plain.l0.W n] n
theorem f44_s_R8Plain.l0.ok (n : Nat) : LpOk (f44_s_R8Plain.O n) E (evalFn E n) n (keepAt 44) (.loop (loopAt c44 0)) :=
  lp_pure f44_s_R8Plain.l0.P sg_iliili f44_s_R8Plain.l0.A (f44_s_R8Plain.l0.F n) (orcOf_cf _ _ n) (lpOk_of (bs := []) (by kernel_rfl) .nil) (fun _ => rfl) (fun _ _ => by kernel_rfl) (fun _ _ _ => by kernel_rfl)
theorem f44_s_R8Plain.ok : ∀ n v x, f44_s_R8Plain.F n v = some x → evalFn E n 44 (flAs f44_s_R8Plain.P (sg_li.pk v)) = some (f44_s_R8Plain.A.enc x) :=
  fn_pure (modes := (fdAt 44).ms) (outs := (fdAt 44).os) (results := (fdAt 44).rs) f44_s_R8Plain.O (c := c44) (keep := keepAt 44) (by kernel_rfl) (fun n => orcOf_cf _ _ n) (fun n => lpOk_of (bs := [loopAt c44 0]) (by kernel_rfl) (.cons (f44_s_R8Plain.l0.ok n) .nil)) (fun _ => rfl) (fun _ _ => by kernel_rfl)
noncomputable def f44_s_R8Plain.w : FnW E := fnW 44 f44_s_R8Plain.P sg_li f44_s_R8Plain.A f44_s_R8Plain.F f44_s_R8Plain.ok

def f132_s_l00Srcamong : Nat → Nat → List T → Int → Int → Nat → List T → Option (Int × Nat × List T × Int × Int × Nat × List T)
  | 0, _, _, _, _, _, _ => none
  | n + 1, n1, l2, i3, i4, n5, l6 =>
    bd (f76_s_l00Srcpick n n1 l2 i3 i4 ((n5 : Nat) : Int)) fun r7 =>
    let i8 : Int := r7.1
    let n9 : Nat := r7.2.1
    let l10 : List T := r7.2.2.1
    let i11 : Int := r7.2.2.2.1
    let i12 : Int := r7.2.2.2.2
    gd (decide (((0 : Int) ≤ i8) ∧ (i8 < ((n5 : Nat) : Int)))) (
    gd (okAt [(CK.int IntKind.i64)] l6 (Int.toNat i8)) (
    some ((iAt l6 (Int.toNat i8)), n9, l10, i11, i12, n5, l6)))
def sg_liil : Sig (Nat × List T × Int × Int × Nat × List T) where
  pk := fun v => [.lst v.1 v.2.1, .int v.2.2.1, .int v.2.2.2.1, .lst v.2.2.2.2.1 v.2.2.2.2.2]
  up := fun ls => match ls with
    | [.lst a0 a1, .int a2, .int a3, .lst a4 a5] => some (a0, a1, a2, a3, a4, a5)
    | _ => none
  ok := by
    intro ls v h
    split at h
    · cases h; rfl
    · cases h

def sg_iliil : Sig (Int × Nat × List T × Int × Int × Nat × List T) where
  pk := fun v => [.int v.1, .lst v.2.1 v.2.2.1, .int v.2.2.2.1, .int v.2.2.2.2.1, .lst v.2.2.2.2.2.1 v.2.2.2.2.2.2]
  up := fun ls => match ls with
    | [.int a0, .lst a1 a2, .int a3, .int a4, .lst a5 a6] => some (a0, a1, a2, a3, a4, a5, a6)
    | _ => none
  ok := by
    intro ls v h
    split at h
    · cases h; rfl
    · cases h

def f132_s_l00Srcamong.P : List Arg := [⟨.iop, ⟨false, [.rf .own [.sl .shr [.leaf], .leaf, .leaf]], [.ref [.lst 0 [], .int .i64 0, .int .u64 0]]⟩⟩, ⟨.io, ⟨false, [.sl .own [.leaf]], [.lst 0 []]⟩⟩]
def f132_s_l00Srcamong.A : RAlt (Int × Nat × List T × Int × Int × Nat × List T) := .one ⟨[⟨false, [.leaf], [.int .i64 0]⟩], [some ⟨false, [.rf .own [.sl .shr [.leaf], .leaf, .leaf]], [.ref [.lst 0 [], .int .i64 0, .int .u64 0]]⟩, some ⟨false, [.sl .own [.leaf]], [.lst 0 []]⟩]⟩ sg_iliil
def f132_s_l00Srcamong.F (n : Nat) (v : Nat × List T × Int × Int × Nat × List T) := f132_s_l00Srcamong n v.1 v.2.1 v.2.2.1 v.2.2.2.1 v.2.2.2.2.1 v.2.2.2.2.2
noncomputable def f132_s_l00Srcamong.O (n : Nat) : Orc := orcOf (E := E) [f76_s_l00Srcpick.w] [] n
theorem f132_s_l00Srcamong.ok : ∀ n v x, f132_s_l00Srcamong.F n v = some x → evalFn E n 132 (flAs f132_s_l00Srcamong.P (sg_liil.pk v)) = some (f132_s_l00Srcamong.A.enc x) :=
  fn_pure (modes := (fdAt 132).ms) (outs := (fdAt 132).os) (results := (fdAt 132).rs) f132_s_l00Srcamong.O (c := c132) (keep := keepAt 132) (by kernel_rfl) (fun n => orcOf_cf _ _ n) (fun n => lpOk_of (bs := []) (by kernel_rfl) .nil) (fun _ => rfl) (fun _ _ => by kernel_rfl)
noncomputable def f132_s_l00Srcamong.w : FnW E := fnW 132 f132_s_l00Srcamong.P sg_liil f132_s_l00Srcamong.A f132_s_l00Srcamong.F f132_s_l00Srcamong.ok

def f131_s_l01From : Nat → Int → Option (Nat)
  | 0, _ => none
  | n + 1, i1 =>
    bd (xF32frombits n (IntKind.u32.wrap i1)) fun r2 =>
    let x3 : Nat := r2
    some x3
def sg_f : Sig (Nat) where
  pk := fun v => [.flt v]
  up := fun ls => match ls with
    | [.flt a0] => some a0
    | _ => none
  ok := by
    intro ls v h
    split at h
    · cases h; rfl
    · cases h

def f131_s_l01From.P : List Arg := [⟨.val, ⟨false, [.leaf], [.int .i64 0]⟩⟩]
def f131_s_l01From.A : RAlt (Nat) := .one ⟨[⟨false, [.leaf], [.flt .f32 0]⟩], [none]⟩ sg_f
def f131_s_l01From.F (n : Nat) (v : Int) := f131_s_l01From n v
noncomputable def f131_s_l01From.O (n : Nat) : Orc := orcOf (E := E) [x140.w] [] n
theorem f131_s_l01From.ok : ∀ n v x, f131_s_l01From.F n v = some x → evalFn E n 131 (flAs f131_s_l01From.P (sg_i.pk v)) = some (f131_s_l01From.A.enc x) :=
  fn_pure (modes := (fdAt 131).ms) (outs := (fdAt 131).os) (results := (fdAt 131).rs) f131_s_l01From.O (c := c131) (keep := keepAt 131) (by kernel_rfl) (fun n => orcOf_cf _ _ n) (fun n => lpOk_of (bs := []) (by kernel_rfl) .nil) (fun _ => rfl) (fun _ _ => by kernel_rfl)
noncomputable def f131_s_l01From.w : FnW E := fnW 131 f131_s_l01From.P sg_i f131_s_l01From.A f131_s_l01From.F f131_s_l01From.ok

def f99_s_l01DrawFloat : Nat → Nat → List T → Int → Int → Option (Nat × Nat × List T × Int × Int)
  | 0, _, _, _, _ => none
  | n + 1, n1, l2, i3, i4 =>
    bd (f129_s_l00Srcone n n1 l2 i3 i4 (12 : Int)) fun r5 =>
    let b6 : Bool := r5.1
    let n7 : Nat := r5.2.1
    let l8 : List T := r5.2.2.1
    let i9 : Int := r5.2.2.2.1
    let i10 : Int := r5.2.2.2.2
    br (!b6) (
     bd (f77_s_l01DrawPlain n n7 l8 i9 i10) fun r11 =>
     let x12 : Nat := r11.1
     let n13 : Nat := r11.2.1
     let l14 : List T := r11.2.2.1
     let i15 : Int := r11.2.2.2.1
     let i16 : Int := r11.2.2.2.2
     some (x12, n13, l14, i15, i16)) (
     bd (f76_s_l00Srcpick n n7 l8 i9 i10 (4 : Int)) fun r17 =>
     let i18 : Int := r17.1
     let n19 : Nat := r17.2.1
     let l20 : List T := r17.2.2.1
     let i21 : Int := r17.2.2.2.1
     let i22 : Int := r17.2.2.2.2
     br (i18 == (0 : Int)) (
      bd (f132_s_l00Srcamong n n19 l20 i21 i22 10 (setN (setN (setN (setN (setN (setN (setN (setN (setN (setN (reps 10 [(T.int IntKind.i64 (0 : Int))]) 0 [(T.int IntKind.i64 (0 : Int))]) 1 [(T.int IntKind.i64 (2147483648 : Int))]) 2 [(T.int IntKind.i64 (2139095040 : Int))]) 3 [(T.int IntKind.i64 (4286578688 : Int))]) 4 [(T.int IntKind.i64 (2143289344 : Int))]) 5 [(T.int IntKind.i64 (1 : Int))]) 6 [(T.int IntKind.i64 (2139095039 : Int))]) 7 [(T.int IntKind.i64 (8388608 : Int))]) 8 [(T.int IntKind.i64 (8388607 : Int))]) 9 [(T.int IntKind.i64 (2147483649 : Int))])) fun r23 =>
      let i24 : Int := r23.1
      let n25 : Nat := r23.2.1
      let l26 : List T := r23.2.2.1
      let i27 : Int := r23.2.2.2.1
      let i28 : Int := r23.2.2.2.2.1
      let n29 : Nat := r23.2.2.2.2.2.1
      let l30 : List T := r23.2.2.2.2.2.2
      bd (f131_s_l01From n i24) fun r31 =>
      let x32 : Nat := r31
      some (x32, n25, l26, i27, i28)) (
      br (i18 == (1 : Int)) (
       bd (f76_s_l00Srcpick n n19 l20 i21 i22 (65536 : Int)) fun r33 =>
       let i34 : Int := r33.1
       let n35 : Nat := r33.2.1
       let l36 : List T := r33.2.2.1
       let i37 : Int := r33.2.2.2.1
       let i38 : Int := r33.2.2.2.2
       let i39 : Int := (IntKind.i64.wrap (i34 * (65536 : Int)))
       bd (f76_s_l00Srcpick n n35 l36 i37 i38 (65536 : Int)) fun r40 =>
       let i41 : Int := r40.1
       let n42 : Nat := r40.2.1
       let l43 : List T := r40.2.2.1
       let i44 : Int := r40.2.2.2.1
       let i45 : Int := r40.2.2.2.2
       bd (f131_s_l01From n (IntKind.i64.wrap (i39 + i41))) fun r46 =>
       let x47 : Nat := r46
       some (x47, n42, l43, i44, i45)) (
       br (i18 == (2 : Int)) (
        bd (f76_s_l00Srcpick n n19 l20 i21 i22 (65536 : Int)) fun r48 =>
        let i49 : Int := r48.1
        let n50 : Nat := r48.2.1
        let l51 : List T := r48.2.2.1
        let i52 : Int := r48.2.2.2.1
        let i53 : Int := r48.2.2.2.2
        bd (f131_s_l01From n (IntKind.i64.wrap (i49 * (65536 : Int)))) fun r54 =>
        let x55 : Nat := r54
        some (x55, n50, l51, i52, i53)) (
        bd (f77_s_l01DrawPlain n n19 l20 i21 i22) fun r56 =>
        let x57 : Nat := r56.1
        let n58 : Nat := r56.2.1
        let l59 : List T := r56.2.2.1
        let i60 : Int := r56.2.2.2.1
        let i61 : Int := r56.2.2.2.2
        bd (f132_s_l00Srcamong n n58 l59 i60 i61 4 (setN (setN (setN (setN (reps 4 [(T.int IntKind.i64 (0 : Int))]) 0 [(T.int IntKind.i64 (8388608 : Int))]) 1 [(T.int IntKind.i64 (2130706432 : Int))]) 2 [(T.int IntKind.i64 (1610612736 : Int))]) 3 [(T.int IntKind.i64 (536870912 : Int))])) fun r62 =>
        let i63 : Int := r62.1
        let n64 : Nat := r62.2.1
        let l65 : List T := r62.2.2.1
        let i66 : Int := r62.2.2.2.1
        let i67 : Int := r62.2.2.2.2.1
        let n68 : Nat := r62.2.2.2.2.2.1
        let l69 : List T := r62.2.2.2.2.2.2
        bd (f131_s_l01From n i63) fun r70 =>
        let x71 : Nat := r70
        some ((fmul FloatKind.f32 x57 x71), n64, l65, i66, i67)))))
def f99_s_l01DrawFloat.P : List Arg := [⟨.iop, ⟨false, [.rf .own [.sl .shr [.leaf], .leaf, .leaf]], [.ref [.lst 0 [], .int .i64 0, .int .u64 0]]⟩⟩]
def f99_s_l01DrawFloat.A : RAlt (Nat × Nat × List T × Int × Int) := .one ⟨[⟨false, [.leaf], [.flt .f32 0]⟩], [some ⟨false, [.rf .own [.sl .shr [.leaf], .leaf, .leaf]], [.ref [.lst 0 [], .int .i64 0, .int .u64 0]]⟩]⟩ sg_flii
def f99_s_l01DrawFloat.F (n : Nat) (v : Nat × List T × Int × Int) := f99_s_l01DrawFloat n v.1 v.2.1 v.2.2.1 v.2.2.2
noncomputable def f99_s_l01DrawFloat.O (n : Nat) : Orc := orcOf (E := E) [f76_s_l00Srcpick.w, f129_s_l00Srcone.w, f77_s_l01DrawPlain.w, f132_s_l00Srcamong.w, f131_s_l01From.w] [] n
theorem f99_s_l01DrawFloat.ok : ∀ n v x, f99_s_l01DrawFloat.F n v = some x → evalFn E n 99 (flAs f99_s_l01DrawFloat.P (sg_lii.pk v)) = some (f99_s_l01DrawFloat.A.enc x) :=
  fn_pure (modes := (fdAt 99).ms) (outs := (fdAt 99).os) (results := (fdAt 99).rs) f99_s_l01DrawFloat.O (c := c99) (keep := keepAt 99) (by kernel_rfl) (fun n => orcOf_cf _ _ n) (fun n => lpOk_of (bs := []) (by kernel_rfl) .nil) (fun _ => rfl) (fun _ _ => by kernel_rfl)
noncomputable def f99_s_l01DrawFloat.w : FnW E := fnW 99 f99_s_l01DrawFloat.P sg_lii f99_s_l01DrawFloat.A f99_s_l01DrawFloat.F f99_s_l01DrawFloat.ok

def f81_s_l01DrawFloats.l0 (n : Nat) : Nat → Nat → List T → Int → Int → Int → Nat → List T → Bool → Option (Nat × List T × Int × Int × Nat × List T)
  | 0, _, _, _, _, _, _, _, _ => none
  | m + 1, n1, l2, i3, i4, i5, n6, l7, b8 =>
    br (decide (i5 > (0 : Int))) (
     br b8 (
      bd (f99_s_l01DrawFloat n n1 l2 i3 i4) fun r9 =>
      let x10 : Nat := r9.1
      let n11 : Nat := r9.2.1
      let l12 : List T := r9.2.2.1
      let i13 : Int := r9.2.2.2.1
      let i14 : Int := r9.2.2.2.2
      gd (Nat.ble (n6 + 1) 2147483648) (
      let n15 : Nat := (n6 + 1)
      let l16 : List T := (l7 ++ (setN (reps 1 [(T.flt FloatKind.f32 0)]) 0 [(T.flt FloatKind.f32 x10)]))
      f81_s_l01DrawFloats.l0 n m n11 l12 i13 i14 (IntKind.i64.wrap (i5 - (1 : Int))) n15 l16 b8)) (
      bd (f77_s_l01DrawPlain n n1 l2 i3 i4) fun r17 =>
      let x18 : Nat := r17.1
      let n19 : Nat := r17.2.1
      let l20 : List T := r17.2.2.1
      let i21 : Int := r17.2.2.2.1
      let i22 : Int := r17.2.2.2.2
      gd (Nat.ble (n6 + 1) 2147483648) (
      let n23 : Nat := (n6 + 1)
      let l24 : List T := (l7 ++ (setN (reps 1 [(T.flt FloatKind.f32 0)]) 0 [(T.flt FloatKind.f32 x18)]))
      f81_s_l01DrawFloats.l0 n m n19 l20 i21 i22 (IntKind.i64.wrap (i5 - (1 : Int))) n23 l24 b8))) (
     some (n1, l2, i3, i4, n6, l7))
def f81_s_l01DrawFloats : Nat → Nat → List T → Int → Int → Int → Option (Nat × List T × Nat × List T × Int × Int)
  | 0, _, _, _, _, _ => none
  | n + 1, n1, l2, i3, i4, i5 =>
    bd (f129_s_l00Srcone n n1 l2 i3 i4 (4 : Int)) fun r6 =>
    let b7 : Bool := r6.1
    let n8 : Nat := r6.2.1
    let l9 : List T := r6.2.2.1
    let i10 : Int := r6.2.2.2.1
    let i11 : Int := r6.2.2.2.2
    bd (f81_s_l01DrawFloats.l0 n n n8 l9 i10 i11 i5 0 (reps 0 [(T.flt FloatKind.f32 0)]) b7) fun r12 =>
    let n13 : Nat := r12.1
    let l14 : List T := r12.2.1
    let i15 : Int := r12.2.2.1
    let i16 : Int := r12.2.2.2.1
    let n17 : Nat := r12.2.2.2.2.1
    let l18 : List T := r12.2.2.2.2.2
    some (n17, l18, n13, l14, i15, i16)
def sg_llii : Sig (Nat × List T × Nat × List T × Int × Int) where
  pk := fun v => [.lst v.1 v.2.1, .lst v.2.2.1 v.2.2.2.1, .int v.2.2.2.2.1, .int v.2.2.2.2.2]
  up := fun ls => match ls with
    | [.lst a0 a1, .lst a2 a3, .int a4, .int a5] => some (a0, a1, a2, a3, a4, a5)
    | _ => none
  ok := by
    intro ls v h
    split at h
    · cases h; rfl
    · cases h

def sg_liiilb : Sig (Nat × List T × Int × Int × Int × Nat × List T × Bool) where
  pk := fun v => [.lst v.1 v.2.1, .int v.2.2.1, .int v.2.2.2.1, .int v.2.2.2.2.1, .lst v.2.2.2.2.2.1 v.2.2.2.2.2.2.1, .bool v.2.2.2.2.2.2.2]
  up := fun ls => match ls with
    | [.lst a0 a1, .int a2, .int a3, .int a4, .lst a5 a6, .bool a7] => some (a0, a1, a2, a3, a4, a5, a6, a7)
    | _ => none
  ok := by
    intro ls v h
    split at h
    · cases h; rfl
    · cases h

def f81_s_l01DrawFloats.l0.P : AS := ⟨[(0, .box [.sl .shr [.leaf], .leaf, .leaf] [.lst 0 [], .int .i64 0, .int .u64 0] [] 0), (1, .val false [.leaf] [.int .i64 0] [] 0), (5, .val false [.sl .own [.leaf]] [.lst 0 []] [] 0), (6, .val false [.leaf] [.bool false] [] 0)], 0⟩
def f81_s_l01DrawFloats.l0.A : Alt (Nat × List T × Int × Int × Nat × List T) := .one (.exit 0) ⟨[(0, .box [.sl .shr [.leaf], .leaf, .leaf] [.lst 0 [], .int .i64 0, .int .u64 0] [] 0), (5, .val false [.sl .own [.leaf]] [.lst 0 []] [] 0)], 0⟩ sg_liil
def f81_s_l01DrawFloats.l0.F (n m : Nat) (v : Nat × List T × Int × Int × Int × Nat × List T × Bool) := f81_s_l01DrawFloats.l0 n m v.1 v.2.1 v.2.2.1 v.2.2.2.1 v.2.2.2.2.1 v.2.2.2.2.2.1 v.2.2.2.2.2.2.1 v.2.2.2.2.2.2.2
def f81_s_l01DrawFloats.l0.W (n : Nat) : LpW := .of 48 f81_s_l01DrawFloats.l0.P sg_liiilb f81_s_l01DrawFloats.l0.A (f81_s_l01DrawFloats.l0.F n n)
def f81_s_l01DrawFloats.P : List Arg := [⟨.iop, ⟨false, [.rf .own [.sl .shr [.leaf], .leaf, .leaf]], [.ref [.lst 0 [], .int .i64 0, .int .u64 0]]⟩⟩, ⟨.val, ⟨false, [.leaf], [.int .i64 0]⟩⟩]
def f81_s_l01DrawFloats.A : RAlt (Nat × List T × Nat × List T × Int × Int) := .one ⟨[⟨false, [.sl .own [.leaf]], [.lst 0 []]⟩], [some ⟨false, [.rf .own [.sl .shr [.leaf], .leaf, .leaf]], [.ref [.lst 0 [], .int .i64 0, .int .u64 0]]⟩, none]⟩ sg_llii
def f81_s_l01DrawFloats.F (n : Nat) (v : Nat × List T × Int × Int × Int) := f81_s_l01DrawFloats n v.1 v.2.1 v.2.2.1 v.2.2.2.1 v.2.2.2.2
noncomputable def f81_s_l01DrawFloats.O (n : Nat) : Orc := orcOf (E := E) [f129_s_l00Srcone.w, f77_s_l01DrawPlain.w, f99_s_l01DrawFloat.w] [f81_s_l01DrawFloats.l0.W n] n
theorem f81_s_l01DrawFloats.l0.ok (n : Nat) : LpOk (f81_s_l01DrawFloats.O n) E (evalFn E n) n (keepAt 81) (.loop (loopAt c81 0)) :=
  lp_pure f81_s_l01DrawFloats.l0.P sg_liiilb f81_s_l01DrawFloats.l0.A (f81_s_l01DrawFloats.l0.F n) (orcOf_cf _ _ n) (lpOk_of (bs := []) (by kernel_rfl) .nil) (fun _ => rfl) (fun _ _ => by kernel_rfl) (fun _ _ _ => by kernel_rfl)
theorem f81_s_l01DrawFloats.ok : ∀ n v x, f81_s_l01DrawFloats.F n v = some x → evalFn E n 81 (flAs f81_s_l01DrawFloats.P (sg_liii.pk v)) = some (f81_s_l01DrawFloats.A.enc x) :=
  fn_pure (modes := (fdAt 81).ms) (outs := (fdAt 81).os) (results := (fdAt 81).rs) f81_s_l01DrawFloats.O (c := c81) (keep := keepAt 81) (by kernel_rfl) (fun n => orcOf_cf _ _ n) (fun n => lpOk_of (bs := [loopAt c81 0]) (by kernel_rfl) (.cons (f81_s_l01DrawFloats.l0.ok n) .nil)) (fun _ => rfl) (fun _ _ => by kernel_rfl)
noncomputable def f81_s_l01DrawFloats.w : FnW E := fnW 81 f81_s_l01DrawFloats.P sg_liii f81_s_l01DrawFloats.A f81_s_l01DrawFloats.F f81_s_l01DrawFloats.ok

def f30_s_R8Samples : Nat → Nat → List T → Int → Option (Nat × List T)
  | 0, _, _, _ => none
  | n + 1, n1, l2, i3 =>
    bd (f75_s_l00From n n1 l2) fun r4 =>
    let n5 : Nat := r4.1
    let l6 : List T := r4.2.1
    let i7 : Int := r4.2.2.1
    let i8 : Int := r4.2.2.2
    bd (f76_s_l00Srcpick n n5 l6 i7 i8 (IntKind.i64.wrap (i3 + (1 : Int)))) fun r9 =>
    let i10 : Int := r9.1
    let n11 : Nat := r9.2.1
    let l12 : List T := r9.2.2.1
    let i13 : Int := r9.2.2.2.1
    let i14 : Int := r9.2.2.2.2
    bd (f81_s_l01DrawFloats n n11 l12 i13 i14 i10) fun r15 =>
    let n16 : Nat := r15.1
    let l17 : List T := r15.2.1
    let n18 : Nat := r15.2.2.1
    let l19 : List T := r15.2.2.2.1
    let i20 : Int := r15.2.2.2.2.1
    let i21 : Int := r15.2.2.2.2.2
    some (n16, l17)
def f30_s_R8Samples.P : List Arg := [⟨.val, ⟨false, [.sl .shr [.leaf]], [.lst 0 []]⟩⟩, ⟨.val, ⟨false, [.leaf], [.int .i64 0]⟩⟩]
def f30_s_R8Samples.A : RAlt (Nat × List T) := .one ⟨[⟨false, [.sl .own [.leaf]], [.lst 0 []]⟩], [none, none]⟩ sg_l
def f30_s_R8Samples.F (n : Nat) (v : Nat × List T × Int) := f30_s_R8Samples n v.1 v.2.1 v.2.2
noncomputable def f30_s_R8Samples.O (n : Nat) : Orc := orcOf (E := E) [f75_s_l00From.w, f76_s_l00Srcpick.w, f81_s_l01DrawFloats.w] [] n
theorem f30_s_R8Samples.ok : ∀ n v x, f30_s_R8Samples.F n v = some x → evalFn E n 30 (flAs f30_s_R8Samples.P (sg_li.pk v)) = some (f30_s_R8Samples.A.enc x) :=
  fn_pure (modes := (fdAt 30).ms) (outs := (fdAt 30).os) (results := (fdAt 30).rs) f30_s_R8Samples.O (c := c30) (keep := keepAt 30) (by kernel_rfl) (fun n => orcOf_cf _ _ n) (fun n => lpOk_of (bs := []) (by kernel_rfl) .nil) (fun _ => rfl) (fun _ _ => by kernel_rfl)
noncomputable def f30_s_R8Samples.w : FnW E := fnW 30 f30_s_R8Samples.P sg_li f30_s_R8Samples.A f30_s_R8Samples.F f30_s_R8Samples.ok

def f82_i_size : Nat → Int → Option (Int)
  | 0, _ => none
  | n + 1, i1 =>
    some i1
def f82_i_size.P : List Arg := [⟨.val, ⟨false, [.leaf], [.int .i64 0]⟩⟩]
def f82_i_size.A : RAlt (Int) := .one ⟨[⟨false, [.leaf], [.int .i64 0]⟩], [none]⟩ sg_i
def f82_i_size.F (n : Nat) (v : Int) := f82_i_size n v
noncomputable def f82_i_size.O (n : Nat) : Orc := orcOf (E := E) [] [] n
theorem f82_i_size.ok : ∀ n v x, f82_i_size.F n v = some x → evalFn E n 82 (flAs f82_i_size.P (sg_i.pk v)) = some (f82_i_size.A.enc x) :=
  fn_pure (modes := (fdAt 82).ms) (outs := (fdAt 82).os) (results := (fdAt 82).rs) f82_i_size.O (c := c82) (keep := keepAt 82) (by kernel_rfl) (fun n => orcOf_cf _ _ n) (fun n => lpOk_of (bs := []) (by kernel_rfl) .nil) (fun _ => rfl) (fun _ _ => by kernel_rfl)
noncomputable def f82_i_size.w : FnW E := fnW 82 f82_i_size.P sg_i f82_i_size.A f82_i_size.F f82_i_size.ok

def f83_i_within : Nat → Int → Int → Int → Option (Bool)
  | 0, _, _, _ => none
  | n + 1, i1, i2, i3 =>
    br (decide (i2 ≤ i1)) (
     some (decide (i1 ≤ i3))) (
     some false)
def sg_iii : Sig (Int × Int × Int) where
  pk := fun v => [.int v.1, .int v.2.1, .int v.2.2]
  up := fun ls => match ls with
    | [.int a0, .int a1, .int a2] => some (a0, a1, a2)
    | _ => none
  ok := by
    intro ls v h
    split at h
    · cases h; rfl
    · cases h

def f83_i_within.P : List Arg := [⟨.val, ⟨false, [.leaf], [.int .i64 0]⟩⟩, ⟨.val, ⟨false, [.leaf], [.int .i64 0]⟩⟩, ⟨.val, ⟨false, [.leaf], [.int .i64 0]⟩⟩]
def f83_i_within.A : RAlt (Bool) := .one ⟨[⟨false, [.leaf], [.bool false]⟩], [none, none, none]⟩ sg_b
def f83_i_within.F (n : Nat) (v : Int × Int × Int) := f83_i_within n v.1 v.2.1 v.2.2
noncomputable def f83_i_within.O (n : Nat) : Orc := orcOf (E := E) [] [] n
theorem f83_i_within.ok : ∀ n v x, f83_i_within.F n v = some x → evalFn E n 83 (flAs f83_i_within.P (sg_iii.pk v)) = some (f83_i_within.A.enc x) :=
  fn_pure (modes := (fdAt 83).ms) (outs := (fdAt 83).os) (results := (fdAt 83).rs) f83_i_within.O (c := c83) (keep := keepAt 83) (by kernel_rfl) (fun n => orcOf_cf _ _ n) (fun n => lpOk_of (bs := []) (by kernel_rfl) .nil) (fun _ => rfl) (fun _ _ => by kernel_rfl)
noncomputable def f83_i_within.w : FnW E := fnW 83 f83_i_within.P sg_iii f83_i_within.A f83_i_within.F f83_i_within.ok

def f106_i_areTaps : Nat → Nat → List T → Option (Bool)
  | 0, _, _ => none
  | n + 1, n1, l2 =>
    bd (f82_i_size n ((n1 : Nat) : Int)) fun r3 =>
    let i4 : Int := r3
    bd (f83_i_within n i4 (1 : Int) (32 : Int)) fun r5 =>
    let b6 : Bool := r5
    some b6
def f106_i_areTaps.P : List Arg := [⟨.val, ⟨false, [.sl .shr [.leaf]], [.lst 0 []]⟩⟩]
def f106_i_areTaps.A : RAlt (Bool) := .one ⟨[⟨false, [.leaf], [.bool false]⟩], [none]⟩ sg_b
def f106_i_areTaps.F (n : Nat) (v : Nat × List T) := f106_i_areTaps n v.1 v.2
noncomputable def f106_i_areTaps.O (n : Nat) : Orc := orcOf (E := E) [f82_i_size.w, f83_i_within.w] [] n
theorem f106_i_areTaps.ok : ∀ n v x, f106_i_areTaps.F n v = some x → evalFn E n 106 (flAs f106_i_areTaps.P (sg_l.pk v)) = some (f106_i_areTaps.A.enc x) :=
  fn_pure (modes := (fdAt 106).ms) (outs := (fdAt 106).os) (results := (fdAt 106).rs) f106_i_areTaps.O (c := c106) (keep := keepAt 106) (by kernel_rfl) (fun n => orcOf_cf _ _ n) (fun n => lpOk_of (bs := []) (by kernel_rfl) .nil) (fun _ => rfl) (fun _ _ => by kernel_rfl)
noncomputable def f106_i_areTaps.w : FnW E := fnW 106 f106_i_areTaps.P sg_l f106_i_areTaps.A f106_i_areTaps.F f106_i_areTaps.ok

def f94_i_areSamples : Nat → Nat → List T → Option (Bool)
  | 0, _, _ => none
  | n + 1, n1, l2 =>
    some (decide (((n1 : Nat) : Int) ≤ (256 : Int)))
def f94_i_areSamples.P : List Arg := [⟨.val, ⟨false, [.sl .shr [.leaf]], [.lst 0 []]⟩⟩]
def f94_i_areSamples.A : RAlt (Bool) := .one ⟨[⟨false, [.leaf], [.bool false]⟩], [none]⟩ sg_b
def f94_i_areSamples.F (n : Nat) (v : Nat × List T) := f94_i_areSamples n v.1 v.2
noncomputable def f94_i_areSamples.O (n : Nat) : Orc := orcOf (E := E) [] [] n
theorem f94_i_areSamples.ok : ∀ n v x, f94_i_areSamples.F n v = some x → evalFn E n 94 (flAs f94_i_areSamples.P (sg_l.pk v)) = some (f94_i_areSamples.A.enc x) :=
  fn_pure (modes := (fdAt 94).ms) (outs := (fdAt 94).os) (results := (fdAt 94).rs) f94_i_areSamples.O (c := c94) (keep := keepAt 94) (by kernel_rfl) (fun n => orcOf_cf _ _ n) (fun n => lpOk_of (bs := []) (by kernel_rfl) .nil) (fun _ => rfl) (fun _ _ => by kernel_rfl)
noncomputable def f94_i_areSamples.w : FnW E := fnW 94 f94_i_areSamples.P sg_l f94_i_areSamples.A f94_i_areSamples.F f94_i_areSamples.ok

def f95_i_copyNumbers : Nat → Nat → List T → Option (Nat × List T)
  | 0, _, _ => none
  | n + 1, n1, l2 =>
    gd (Nat.ble (0 + n1) 2147483648) (
    some ((0 + n1), ((reps 0 [(T.flt FloatKind.f32 0)]) ++ l2)))
def f95_i_copyNumbers.P : List Arg := [⟨.val, ⟨false, [.sl .shr [.leaf]], [.lst 0 []]⟩⟩]
def f95_i_copyNumbers.A : RAlt (Nat × List T) := .one ⟨[⟨false, [.sl .own [.leaf]], [.lst 0 []]⟩], [none]⟩ sg_l
def f95_i_copyNumbers.F (n : Nat) (v : Nat × List T) := f95_i_copyNumbers n v.1 v.2
noncomputable def f95_i_copyNumbers.O (n : Nat) : Orc := orcOf (E := E) [] [] n
theorem f95_i_copyNumbers.ok : ∀ n v x, f95_i_copyNumbers.F n v = some x → evalFn E n 95 (flAs f95_i_copyNumbers.P (sg_l.pk v)) = some (f95_i_copyNumbers.A.enc x) :=
  fn_pure (modes := (fdAt 95).ms) (outs := (fdAt 95).os) (results := (fdAt 95).rs) f95_i_copyNumbers.O (c := c95) (keep := keepAt 95) (by kernel_rfl) (fun n => orcOf_cf _ _ n) (fun n => lpOk_of (bs := []) (by kernel_rfl) .nil) (fun _ => rfl) (fun _ _ => by kernel_rfl)
noncomputable def f95_i_copyNumbers.w : FnW E := fnW 95 f95_i_copyNumbers.P sg_l f95_i_copyNumbers.A f95_i_copyNumbers.F f95_i_copyNumbers.ok

def f107_i_fold.l1 (n : Nat) : Nat → Nat → List T → Nat → List T → Nat → List T → Nat → List T → Nat → List T → Int → Nat → Int → Int → Nat → List T → Int → Int → Option (Nat × List T × Nat × List T × Nat × List T × Nat × List T × Nat × List T × Nat × Int × Int)
  | 0, _, _, _, _, _, _, _, _, _, _, _, _, _, _, _, _, _, _ => none
  | m + 1, n1, l2, n3, l4, n5, l6, n7, l8, n9, l10, i11, x12, i13, i14, n15, l16, i17, i18 =>
    br (decide (i18 < i17)) (
     gd ((decide (((0 : Int) ≤ i18) ∧ (i18 < ((n15 : Nat) : Int)))) && (okAt [(CK.flt FloatKind.f32)] l16 (Int.toNat i18))) (
     let x19 : Nat := (fAt l16 (Int.toNat i18))
     gd (decide (((0 : Int) ≤ (IntKind.i64.wrap ((IntKind.i64.wrap (((n3 : Nat) : Int) + i11)) - i18))) ∧ ((IntKind.i64.wrap ((IntKind.i64.wrap (((n3 : Nat) : Int) + i11)) - i18)) < ((n7 : Nat) : Int)))) (
     gd (okAt [(CK.flt FloatKind.f32)] l8 (Int.toNat (IntKind.i64.wrap ((IntKind.i64.wrap (((n3 : Nat) : Int) + i11)) - i18)))) (
     let x20 : Nat := (fadd FloatKind.f32 x12 (fmul FloatKind.f32 x19 (fAt l8 (Int.toNat (IntKind.i64.wrap ((IntKind.i64.wrap (((n3 : Nat) : Int) + i11)) - i18))))))
     f107_i_fold.l1 n m n1 l2 n3 l4 n5 l6 n7 l8 n9 l10 i11 x20 i13 i14 n15 l16 i17 (IntKind.i64.wrap (i18 + (1 : Int))))))) (
     some (n1, l2, n3, l4, n5, l6, n7, l8, n9, l10, x12, i13, i14))
def f107_i_fold.l0 (n : Nat) : Nat → Nat → List T → Nat → List T → Nat → List T → Nat → List T → Nat → List T → Int → Int → Option (Nat × List T × Nat × List T × Nat × List T)
  | 0, _, _, _, _, _, _, _, _, _, _, _, _ => none
  | m + 1, n1, l2, n3, l4, n5, l6, n7, l8, n9, l10, i11, i12 =>
    br (decide (i12 < i11)) (
     bd (f107_i_fold.l1 n n n1 l2 n3 l4 n5 l6 n7 l8 n9 l10 i12 0 i11 i12 n1 l2 ((n1 : Nat) : Int) (0 : Int)) fun r13 =>
     let n14 : Nat := r13.1
     let l15 : List T := r13.2.1
     let n16 : Nat := r13.2.2.1
     let l17 : List T := r13.2.2.2.1
     let n18 : Nat := r13.2.2.2.2.1
     let l19 : List T := r13.2.2.2.2.2.1
     let n20 : Nat := r13.2.2.2.2.2.2.1
     let l21 : List T := r13.2.2.2.2.2.2.2.1
     let n22 : Nat := r13.2.2.2.2.2.2.2.2.1
     let l23 : List T := r13.2.2.2.2.2.2.2.2.2.1
     let x24 : Nat := r13.2.2.2.2.2.2.2.2.2.2.1
     let i25 : Int := r13.2.2.2.2.2.2.2.2.2.2.2.1
     let i26 : Int := r13.2.2.2.2.2.2.2.2.2.2.2.2
     gd (Nat.ble (n22 + 1) 2147483648) (
     let n27 : Nat := (n22 + 1)
     let l28 : List T := (l23 ++ (setN (reps 1 [(T.flt FloatKind.f32 0)]) 0 [(T.flt FloatKind.f32 x24)]))
     f107_i_fold.l0 n m n14 l15 n16 l17 n18 l19 n20 l21 n27 l28 i25 (IntKind.i64.wrap (i26 + (1 : Int))))) (
     some (n5, l6, n7, l8, n9, l10))
def f107_i_fold : Nat → Nat → List T → Nat → List T → Nat → List T → Option (Nat × List T × Nat × List T)
  | 0, _, _, _, _, _, _ => none
  | n + 1, n1, l2, n3, l4, n5, l6 =>
    bd (f95_i_copyNumbers n n3 l4) fun r7 =>
    let n8 : Nat := r7.1
    let l9 : List T := r7.2
    gd (Nat.ble (n8 + n5) 2147483648) (
    let n10 : Nat := (n8 + n5)
    let l11 : List T := (l9 ++ l6)
    bd (f107_i_fold.l0 n n n1 l2 n3 l4 n5 l6 n10 l11 0 [] ((n5 : Nat) : Int) (0 : Int)) fun r12 =>
    let n13 : Nat := r12.1
    let l14 : List T := r12.2.1
    let n15 : Nat := r12.2.2.1
    let l16 : List T := r12.2.2.2.1
    let n17 : Nat := r12.2.2.2.2.1
    let l18 : List T := r12.2.2.2.2.2
    gd (decide (((0 : Int) ≤ ((n13 : Nat) : Int)) ∧ ((((n13 : Nat) : Int) ≤ ((n15 : Nat) : Int)) ∧ (((n15 : Nat) : Int) ≤ ((n15 : Nat) : Int))))) (
    bd (f95_i_copyNumbers n (n15 - n13) (List.take (n15 - n13) (List.drop n13 l16))) fun r19 =>
    let n20 : Nat := r19.1
    let l21 : List T := r19.2
    some (n17, l18, n20, l21)))
def sg_lll : Sig (Nat × List T × Nat × List T × Nat × List T) where
  pk := fun v => [.lst v.1 v.2.1, .lst v.2.2.1 v.2.2.2.1, .lst v.2.2.2.2.1 v.2.2.2.2.2]
  up := fun ls => match ls with
    | [.lst a0 a1, .lst a2 a3, .lst a4 a5] => some (a0, a1, a2, a3, a4, a5)
    | _ => none
  ok := by
    intro ls v h
    split at h
    · cases h; rfl
    · cases h

def sg_lllllifiilii : Sig (Nat × List T × Nat × List T × Nat × List T × Nat × List T × Nat × List T × Int × Nat × Int × Int × Nat × List T × Int × Int) where
  pk := fun v => [.lst v.1 v.2.1, .lst v.2.2.1 v.2.2.2.1, .lst v.2.2.2.2.1 v.2.2.2.2.2.1, .lst v.2.2.2.2.2.2.1 v.2.2.2.2.2.2.2.1, .lst v.2.2.2.2.2.2.2.2.1 v.2.2.2.2.2.2.2.2.2.1, .int v.2.2.2.2.2.2.2.2.2.2.1, .flt v.2.2.2.2.2.2.2.2.2.2.2.1, .int v.2.2.2.2.2.2.2.2.2.2.2.2.1, .int v.2.2.2.2.2.2.2.2.2.2.2.2.2.1, .lst v.2.2.2.2.2.2.2.2.2.2.2.2.2.2.1 v.2.2.2.2.2.2.2.2.2.2.2.2.2.2.2.1, .int v.2.2.2.2.2.2.2.2.2.2.2.2.2.2.2.2.1, .int v.2.2.2.2.2.2.2.2.2.2.2.2.2.2.2.2.2]
  up := fun ls => match ls with
    | [.lst a0 a1, .lst a2 a3, .lst a4 a5, .lst a6 a7, .lst a8 a9, .int a10, .flt a11, .int a12, .int a13, .lst a14 a15, .int a16, .int a17] => some (a0, a1, a2, a3, a4, a5, a6, a7, a8, a9, a10, a11, a12, a13, a14, a15, a16, a17)
    | _ => none
  ok := by
    intro ls v h
    split at h
    · cases h; rfl
    · cases h

def sg_lllllfii : Sig (Nat × List T × Nat × List T × Nat × List T × Nat × List T × Nat × List T × Nat × Int × Int) where
  pk := fun v => [.lst v.1 v.2.1, .lst v.2.2.1 v.2.2.2.1, .lst v.2.2.2.2.1 v.2.2.2.2.2.1, .lst v.2.2.2.2.2.2.1 v.2.2.2.2.2.2.2.1, .lst v.2.2.2.2.2.2.2.2.1 v.2.2.2.2.2.2.2.2.2.1, .flt v.2.2.2.2.2.2.2.2.2.2.1, .int v.2.2.2.2.2.2.2.2.2.2.2.1, .int v.2.2.2.2.2.2.2.2.2.2.2.2]
  up := fun ls => match ls with
    | [.lst a0 a1, .lst a2 a3, .lst a4 a5, .lst a6 a7, .lst a8 a9, .flt a10, .int a11, .int a12] => some (a0, a1, a2, a3, a4, a5, a6, a7, a8, a9, a10, a11, a12)
    | _ => none
  ok := by
    intro ls v h
    split at h
    · cases h; rfl
    · cases h

def sg_lllllii : Sig (Nat × List T × Nat × List T × Nat × List T × Nat × List T × Nat × List T × Int × Int) where
  pk := fun v => [.lst v.1 v.2.1, .lst v.2.2.1 v.2.2.2.1, .lst v.2.2.2.2.1 v.2.2.2.2.2.1, .lst v.2.2.2.2.2.2.1 v.2.2.2.2.2.2.2.1, .lst v.2.2.2.2.2.2.2.2.1 v.2.2.2.2.2.2.2.2.2.1, .int v.2.2.2.2.2.2.2.2.2.2.1, .int v.2.2.2.2.2.2.2.2.2.2.2]
  up := fun ls => match ls with
    | [.lst a0 a1, .lst a2 a3, .lst a4 a5, .lst a6 a7, .lst a8 a9, .int a10, .int a11] => some (a0, a1, a2, a3, a4, a5, a6, a7, a8, a9, a10, a11)
    | _ => none
  ok := by
    intro ls v h
    split at h
    · cases h; rfl
    · cases h

def f107_i_fold.l1.P : AS := ⟨[(0, .val false [.sl .shr [.leaf]] [.lst 0 []] [] 0), (1, .val false [.sl .shr [.leaf]] [.lst 0 []] [] 0), (2, .val false [.sl .shr [.leaf]] [.lst 0 []] [] 0), (8, .val false [.sl .own [.leaf]] [.lst 0 []] [] 0), (9, .val false [.sl .own [.leaf]] [.lst 0 []] [] 0), (10, .val false [.leaf] [.int .i64 0] [] 0), (11, .val false [.leaf] [.flt .f32 0] [] 0), (19, .val false [.leaf] [.int .i64 0] [] 0), (20, .val false [.leaf] [.int .i64 0] [] 0), (23, .val false [.sl .shr [.leaf]] [.lst 0 []] [] 0), (24, .val false [.leaf] [.int .i64 0] [] 0), (25, .val false [.leaf] [.int .i64 0] [] 0)], 0⟩
def f107_i_fold.l1.A : Alt (Nat × List T × Nat × List T × Nat × List T × Nat × List T × Nat × List T × Nat × Int × Int) := .one (.exit 2) ⟨[(0, .val false [.sl .shr [.leaf]] [.lst 0 []] [] 0), (1, .val false [.sl .shr [.leaf]] [.lst 0 []] [] 0), (2, .val false [.sl .shr [.leaf]] [.lst 0 []] [] 0), (8, .val false [.sl .own [.leaf]] [.lst 0 []] [] 0), (9, .val false [.sl .own [.leaf]] [.lst 0 []] [] 0), (11, .val false [.leaf] [.flt .f32 0] [] 0), (19, .val false [.leaf] [.int .i64 0] [] 0), (20, .val false [.leaf] [.int .i64 0] [] 0), (43, .dead), (48, .dead)], 0⟩ sg_lllllfii
def f107_i_fold.l1.F (n m : Nat) (v : Nat × List T × Nat × List T × Nat × List T × Nat × List T × Nat × List T × Int × Nat × Int × Int × Nat × List T × Int × Int) := f107_i_fold.l1 n m v.1 v.2.1 v.2.2.1 v.2.2.2.1 v.2.2.2.2.1 v.2.2.2.2.2.1 v.2.2.2.2.2.2.1 v.2.2.2.2.2.2.2.1 v.2.2.2.2.2.2.2.2.1 v.2.2.2.2.2.2.2.2.2.1 v.2.2.2.2.2.2.2.2.2.2.1 v.2.2.2.2.2.2.2.2.2.2.2.1 v.2.2.2.2.2.2.2.2.2.2.2.2.1 v.2.2.2.2.2.2.2.2.2.2.2.2.2.1 v.2.2.2.2.2.2.2.2.2.2.2.2.2.2.1 v.2.2.2.2.2.2.2.2.2.2.2.2.2.2.2.1 v.2.2.2.2.2.2.2.2.2.2.2.2.2.2.2.2.1 v.2.2.2.2.2.2.2.2.2.2.2.2.2.2.2.2.2
def f107_i_fold.l1.W (n : Nat) : LpW := .of 128 f107_i_fold.l1.P sg_lllllifiilii f107_i_fold.l1.A (f107_i_fold.l1.F n n)
def f107_i_fold.l0.P : AS := ⟨[(0, .val false [.sl .shr [.leaf]] [.lst 0 []] [] 0), (1, .val false [.sl .shr [.leaf]] [.lst 0 []] [] 0), (2, .val false [.sl .shr [.leaf]] [.lst 0 []] [] 0), (8, .val false [.sl .own [.leaf]] [.lst 0 []] [] 0), (9, .val false [.sl .own [.leaf]] [.lst 0 []] [] 0), (19, .val false [.leaf] [.int .i64 0] [] 0), (20, .val false [.leaf] [.int .i64 0] [] 0)], 0⟩
def f107_i_fold.l0.A : Alt (Nat × List T × Nat × List T × Nat × List T) := .one (.exit 0) ⟨[(2, .val false [.sl .shr [.leaf]] [.lst 0 []] [] 0), (8, .val false [.sl .own [.leaf]] [.lst 0 []] [] 0), (9, .val false [.sl .own [.leaf]] [.lst 0 []] [] 0)], 0⟩ sg_lll
def f107_i_fold.l0.F (n m : Nat) (v : Nat × List T × Nat × List T × Nat × List T × Nat × List T × Nat × List T × Int × Int) := f107_i_fold.l0 n m v.1 v.2.1 v.2.2.1 v.2.2.2.1 v.2.2.2.2.1 v.2.2.2.2.2.1 v.2.2.2.2.2.2.1 v.2.2.2.2.2.2.2.1 v.2.2.2.2.2.2.2.2.1 v.2.2.2.2.2.2.2.2.2.1 v.2.2.2.2.2.2.2.2.2.2.1 v.2.2.2.2.2.2.2.2.2.2.2
def f107_i_fold.l0.W (n : Nat) : LpW := .of 64 f107_i_fold.l0.P sg_lllllii f107_i_fold.l0.A (f107_i_fold.l0.F n n)
def f107_i_fold.P : List Arg := [⟨.val, ⟨false, [.sl .shr [.leaf]], [.lst 0 []]⟩⟩, ⟨.val, ⟨false, [.sl .shr [.leaf]], [.lst 0 []]⟩⟩, ⟨.val, ⟨false, [.sl .shr [.leaf]], [.lst 0 []]⟩⟩]
def f107_i_fold.A : RAlt (Nat × List T × Nat × List T) := .one ⟨[⟨false, [.sl .own [.leaf]], [.lst 0 []]⟩, ⟨false, [.sl .own [.leaf]], [.lst 0 []]⟩], [none, none, none]⟩ sg_ll
def f107_i_fold.F (n : Nat) (v : Nat × List T × Nat × List T × Nat × List T) := f107_i_fold n v.1 v.2.1 v.2.2.1 v.2.2.2.1 v.2.2.2.2.1 v.2.2.2.2.2
noncomputable def f107_i_fold.O (n : Nat) : Orc := orcOf (E := E) [f95_i_copyNumbers.w] [f107_i_fold.l1.W n, f107_i_fold.l0.W n] n
theorem f107_i_fold.l1.ok (n : Nat) : LpOk (f107_i_fold.O n) E (evalFn E n) n (keepAt 107) (.loop (loopAt c107 1)) :=
  lp_pure f107_i_fold.l1.P sg_lllllifiilii f107_i_fold.l1.A (f107_i_fold.l1.F n) (orcOf_cf _ _ n) (lpOk_of (bs := []) (by kernel_rfl) .nil) (fun _ => rfl) (fun _ _ => by kernel_rfl) (fun _ _ _ => by kernel_rfl)
theorem f107_i_fold.l0.ok (n : Nat) : LpOk (f107_i_fold.O n) E (evalFn E n) n (keepAt 107) (.loop (loopAt c107 0)) :=
  lp_pure f107_i_fold.l0.P sg_lllllii f107_i_fold.l0.A (f107_i_fold.l0.F n) (orcOf_cf _ _ n) (lpOk_of (bs := [loopAt c107 1]) (by kernel_rfl) (.cons (f107_i_fold.l1.ok n) .nil)) (fun _ => rfl) (fun _ _ => by kernel_rfl) (fun _ _ _ => by kernel_rfl)
theorem f107_i_fold.ok : ∀ n v x, f107_i_fold.F n v = some x → evalFn E n 107 (flAs f107_i_fold.P (sg_lll.pk v)) = some (f107_i_fold.A.enc x) :=
  fn_pure (modes := (fdAt 107).ms) (outs := (fdAt 107).os) (results := (fdAt 107).rs) f107_i_fold.O (c := c107) (keep := keepAt 107) (by kernel_rfl) (fun n => orcOf_cf _ _ n) (fun n => lpOk_of (bs := [loopAt c107 0]) (by kernel_rfl) (.cons (f107_i_fold.l0.ok n) .nil)) (fun _ => rfl) (fun _ _ => by kernel_rfl)
noncomputable def f107_i_fold.w : FnW E := fnW 107 f107_i_fold.P sg_lll f107_i_fold.A f107_i_fold.F f107_i_fold.ok

def f45_i_FoldTaps : Nat → Nat → List T → Nat → List T → Nat → List T → Option (Nat × List T × Nat × List T × Bool)
  | 0, _, _, _, _, _, _ => none
  | n + 1, n1, l2, n3, l4, n5, l6 =>
    bd (f106_i_areTaps n n1 l2) fun r7 =>
    let b8 : Bool := r7
    br (!b8) (
     some (0, [], 0, [], false)) (
     br (((n3 : Nat) : Int) != (IntKind.i64.wrap (((n1 : Nat) : Int) - (1 : Int)))) (
      some (0, [], 0, [], false)) (
      bd (f94_i_areSamples n n5 l6) fun r9 =>
      let b10 : Bool := r9
      br (!b10) (
       some (0, [], 0, [], false)) (
       bd (f107_i_fold n n1 l2 n3 l4 n5 l6) fun r11 =>
       let n12 : Nat := r11.1
       let l13 : List T := r11.2.1
       let n14 : Nat := r11.2.2.1
       let l15 : List T := r11.2.2.2
       some (n12, l13, n14, l15, true))))
def sg_llb : Sig (Nat × List T × Nat × List T × Bool) where
  pk := fun v => [.lst v.1 v.2.1, .lst v.2.2.1 v.2.2.2.1, .bool v.2.2.2.2]
  up := fun ls => match ls with
    | [.lst a0 a1, .lst a2 a3, .bool a4] => some (a0, a1, a2, a3, a4)
    | _ => none
  ok := by
    intro ls v h
    split at h
    · cases h; rfl
    · cases h

def f45_i_FoldTaps.P : List Arg := [⟨.val, ⟨false, [.sl .shr [.leaf]], [.lst 0 []]⟩⟩, ⟨.val, ⟨false, [.sl .shr [.leaf]], [.lst 0 []]⟩⟩, ⟨.val, ⟨false, [.sl .shr [.leaf]], [.lst 0 []]⟩⟩]
def f45_i_FoldTaps.A : RAlt (Nat × List T × Nat × List T × Bool) := .one ⟨[⟨false, [.sl .own [.leaf]], [.lst 0 []]⟩, ⟨false, [.sl .own [.leaf]], [.lst 0 []]⟩, ⟨false, [.leaf], [.bool false]⟩], [none, none, none]⟩ sg_llb
def f45_i_FoldTaps.F (n : Nat) (v : Nat × List T × Nat × List T × Nat × List T) := f45_i_FoldTaps n v.1 v.2.1 v.2.2.1 v.2.2.2.1 v.2.2.2.2.1 v.2.2.2.2.2
noncomputable def f45_i_FoldTaps.O (n : Nat) : Orc := orcOf (E := E) [f106_i_areTaps.w, f94_i_areSamples.w, f107_i_fold.w] [] n
theorem f45_i_FoldTaps.ok : ∀ n v x, f45_i_FoldTaps.F n v = some x → evalFn E n 45 (flAs f45_i_FoldTaps.P (sg_lll.pk v)) = some (f45_i_FoldTaps.A.enc x) :=
  fn_pure (modes := (fdAt 45).ms) (outs := (fdAt 45).os) (results := (fdAt 45).rs) f45_i_FoldTaps.O (c := c45) (keep := keepAt 45) (by kernel_rfl) (fun n => orcOf_cf _ _ n) (fun n => lpOk_of (bs := []) (by kernel_rfl) .nil) (fun _ => rfl) (fun _ _ => by kernel_rfl)
noncomputable def f45_i_FoldTaps.w : FnW E := fnW 45 f45_i_FoldTaps.P sg_lll f45_i_FoldTaps.A f45_i_FoldTaps.F f45_i_FoldTaps.ok

def f33_i_SameNumber : Nat → Nat → Nat → Option (Bool)
  | 0, _, _ => none
  | n + 1, x1, x2 =>
    br (fne FloatKind.f32 x1 x1) (
     br (fne FloatKind.f32 x1 x1) (
      some (fne FloatKind.f32 x2 x2)) (
      some false)) (
     br (fne FloatKind.f32 x2 x2) (
      br (fne FloatKind.f32 x1 x1) (
       some (fne FloatKind.f32 x2 x2)) (
       some false)) (
      bd (xF32bits n x1) fun r3 =>
      let i4 : Int := r3
      bd (xF32bits n x2) fun r5 =>
      let i6 : Int := r5
      some (i4 == i6)))
def sg_ff : Sig (Nat × Nat) where
  pk := fun v => [.flt v.1, .flt v.2]
  up := fun ls => match ls with
    | [.flt a0, .flt a1] => some (a0, a1)
    | _ => none
  ok := by
    intro ls v h
    split at h
    · cases h; rfl
    · cases h

def f33_i_SameNumber.P : List Arg := [⟨.val, ⟨false, [.leaf], [.flt .f32 0]⟩⟩, ⟨.val, ⟨false, [.leaf], [.flt .f32 0]⟩⟩]
def f33_i_SameNumber.A : RAlt (Bool) := .one ⟨[⟨false, [.leaf], [.bool false]⟩], [none, none]⟩ sg_b
def f33_i_SameNumber.F (n : Nat) (v : Nat × Nat) := f33_i_SameNumber n v.1 v.2
noncomputable def f33_i_SameNumber.O (n : Nat) : Orc := orcOf (E := E) [x98.w] [] n
theorem f33_i_SameNumber.ok : ∀ n v x, f33_i_SameNumber.F n v = some x → evalFn E n 33 (flAs f33_i_SameNumber.P (sg_ff.pk v)) = some (f33_i_SameNumber.A.enc x) :=
  fn_pure (modes := (fdAt 33).ms) (outs := (fdAt 33).os) (results := (fdAt 33).rs) f33_i_SameNumber.O (c := c33) (keep := keepAt 33) (by kernel_rfl) (fun n => orcOf_cf _ _ n) (fun n => lpOk_of (bs := []) (by kernel_rfl) .nil) (fun _ => rfl) (fun _ _ => by kernel_rfl)
noncomputable def f33_i_SameNumber.w : FnW E := fnW 33 f33_i_SameNumber.P sg_ff f33_i_SameNumber.A f33_i_SameNumber.F f33_i_SameNumber.ok

def f32_l_r8Same.l0 (n : Nat) : Nat → Nat → List T → Nat → List T → Int → Option ((Bool) ⊕ (Unit))
  | 0, _, _, _, _, _ => none
  | m + 1, n1, l2, n3, l4, i5 =>
    br (decide (i5 < ((n1 : Nat) : Int))) (
     gd ((decide (((0 : Int) ≤ i5) ∧ (i5 < ((n1 : Nat) : Int)))) && (okAt [(CK.flt FloatKind.f32)] l2 (Int.toNat i5))) (
     gd ((decide (((0 : Int) ≤ i5) ∧ (i5 < ((n3 : Nat) : Int)))) && (okAt [(CK.flt FloatKind.f32)] l4 (Int.toNat i5))) (
     bd (f33_i_SameNumber n (fAt l2 (Int.toNat i5)) (fAt l4 (Int.toNat i5))) fun r6 =>
     let b7 : Bool := r6
     br (!b7) (
      some (Sum.inl false)) (
      f32_l_r8Same.l0 n m n1 l2 n3 l4 (IntKind.i64.wrap (i5 + (1 : Int))))))) (
     some (Sum.inr ()))
def f32_l_r8Same : Nat → Nat → List T → Nat → List T → Option (Bool)
  | 0, _, _, _, _ => none
  | n + 1, n1, l2, n3, l4 =>
    br (((n1 : Nat) : Int) != ((n3 : Nat) : Int)) (
     some false) (
     bd (f32_l_r8Same.l0 n n n1 l2 n3 l4 (0 : Int)) fun r5 =>
     sm r5 (fun u6 =>
      let b7 : Bool := u6
      some b7) (fun u8 =>
      some true))
def sg_lli : Sig (Nat × List T × Nat × List T × Int) where
  pk := fun v => [.lst v.1 v.2.1, .lst v.2.2.1 v.2.2.2.1, .int v.2.2.2.2]
  up := fun ls => match ls with
    | [.lst a0 a1, .lst a2 a3, .int a4] => some (a0, a1, a2, a3, a4)
    | _ => none
  ok := by
    intro ls v h
    split at h
    · cases h; rfl
    · cases h

def sg : Sig (Unit) where
  pk := fun v => []
  up := fun ls => match ls with
    | [] => some ()
    | _ => none
  ok := by
    intro ls v h
    split at h
    · cases h; rfl
    · cases h

def f32_l_r8Same.l0.P : AS := ⟨[(0, .val false [.sl .shr [.leaf]] [.lst 0 []] [] 0), (1, .val false [.sl .shr [.leaf]] [.lst 0 []] [] 0), (5, .val false [.leaf] [.int .i64 0] [] 0)], 0⟩
def f32_l_r8Same.l0.A : Alt ((Bool) ⊕ (Unit)) := .or (.one .ret ⟨[(4, .val false [.leaf] [.bool false] [] 0)], 0⟩ sg_b) (.one (.exit 0) ⟨[(4, .dead)], 0⟩ sg)
def f32_l_r8Same.l0.F (n m : Nat) (v : Nat × List T × Nat × List T × Int) := f32_l_r8Same.l0 n m v.1 v.2.1 v.2.2.1 v.2.2.2.1 v.2.2.2.2
def f32_l_r8Same.l0.W (n : Nat) : LpW := .of 64 f32_l_r8Same.l0.P sg_lli f32_l_r8Same.l0.A (f32_l_r8Same.l0.F n n)
def f32_l_r8Same.P : List Arg := [⟨.val, ⟨false, [.sl .shr [.leaf]], [.lst 0 []]⟩⟩, ⟨.val, ⟨false, [.sl .shr [.leaf]], [.lst 0 []]⟩⟩]
def f32_l_r8Same.A : RAlt (Bool) := .one ⟨[⟨false, [.leaf], [.bool false]⟩], [none, none]⟩ sg_b
def f32_l_r8Same.F (n : Nat) (v : Nat × List T × Nat × List T) := f32_l_r8Same n v.1 v.2.1 v.2.2.1 v.2.2.2
noncomputable def f32_l_r8Same.O (n : Nat) : Orc := orcOf (E := E) [f33_i_SameNumber.w] [f32_l_r8Same.l0.W n] n
theorem f32_l_r8Same.l0.ok (n : Nat) : LpOk (f32_l_r8Same.O n) E (evalFn E n) n (keepAt 32) (.loop (loopAt c32 0)) :=
  lp_pure f32_l_r8Same.l0.P sg_lli f32_l_r8Same.l0.A (f32_l_r8Same.l0.F n) (orcOf_cf _ _ n) (lpOk_of (bs := []) (by kernel_rfl) .nil) (fun _ => rfl) (fun _ _ => by kernel_rfl) (fun _ _ _ => by kernel_rfl)
theorem f32_l_r8Same.ok : ∀ n v x, f32_l_r8Same.F n v = some x → evalFn E n 32 (flAs f32_l_r8Same.P (sg_ll.pk v)) = some (f32_l_r8Same.A.enc x) :=
  fn_pure (modes := (fdAt 32).ms) (outs := (fdAt 32).os) (results := (fdAt 32).rs) f32_l_r8Same.O (c := c32) (keep := keepAt 32) (by kernel_rfl) (fun n => orcOf_cf _ _ n) (fun n => lpOk_of (bs := [loopAt c32 0]) (by kernel_rfl) (.cons (f32_l_r8Same.l0.ok n) .nil)) (fun _ => rfl) (fun _ _ => by kernel_rfl)
noncomputable def f32_l_r8Same.w : FnW E := fnW 32 f32_l_r8Same.P sg_ll f32_l_r8Same.A f32_l_r8Same.F f32_l_r8Same.ok

def f8_l_FnFolds.l1 (n : Nat) : Nat → Nat → List T → Nat → List T → Nat → List T → Nat → List T → Nat → List T → Nat → List T → Int → Nat → List T → Int → Option (Nat × List T × Nat × List T × Nat × List T × Nat × List T × Nat × List T × Nat × List T × Int × Nat × List T)
  | 0, _, _, _, _, _, _, _, _, _, _, _, _, _, _, _, _ => none
  | m + 1, n1, l2, n3, l4, n5, l6, n7, l8, n9, l10, n11, l12, i13, n14, l15, i16 =>
    br (decide (i16 < ((n3 : Nat) : Int))) (
     gd (decide (((0 : Int) ≤ (IntKind.i64.wrap ((IntKind.i64.wrap (((n5 : Nat) : Int) + i13)) - i16))) ∧ ((IntKind.i64.wrap ((IntKind.i64.wrap (((n5 : Nat) : Int) + i13)) - i16)) < ((n11 : Nat) : Int)))) (
     gd (okAt [(CK.flt FloatKind.f32)] l12 (Int.toNat (IntKind.i64.wrap ((IntKind.i64.wrap (((n5 : Nat) : Int) + i13)) - i16)))) (
     gd (Nat.ble (n14 + 1) 2147483648) (
     let n17 : Nat := (n14 + 1)
     let l18 : List T := (l15 ++ (setN (reps 1 [(T.flt FloatKind.f32 0)]) 0 [(T.flt FloatKind.f32 (fAt l12 (Int.toNat (IntKind.i64.wrap ((IntKind.i64.wrap (((n5 : Nat) : Int) + i13)) - i16)))))]))
     f8_l_FnFolds.l1 n m n1 l2 n3 l4 n5 l6 n7 l8 n9 l10 n11 l12 i13 n17 l18 (IntKind.i64.wrap (i16 + (1 : Int))))))) (
     some (n1, l2, n3, l4, n5, l6, n7, l8, n9, l10, n11, l12, i13, n14, l15))
def f108_i_dot.l0 (n : Nat) : Nat → Nat → List T → Nat → List T → Nat → Int → Int → Option (Nat)
  | 0, _, _, _, _, _, _, _ => none
  | m + 1, n1, l2, n3, l4, x5, i6, i7 =>
    br (decide (i7 < i6)) (
     gd ((decide (((0 : Int) ≤ i7) ∧ (i7 < ((n1 : Nat) : Int)))) && (okAt [(CK.flt FloatKind.f32)] l2 (Int.toNat i7))) (
     gd ((decide (((0 : Int) ≤ i7) ∧ (i7 < ((n3 : Nat) : Int)))) && (okAt [(CK.flt FloatKind.f32)] l4 (Int.toNat i7))) (
     let x8 : Nat := (fadd FloatKind.f32 x5 (fmul FloatKind.f32 (fAt l2 (Int.toNat i7)) (fAt l4 (Int.toNat i7))))
     f108_i_dot.l0 n m n1 l2 n3 l4 x8 i6 (IntKind.i64.wrap (i7 + (1 : Int)))))) (
     some x5)
def f108_i_dot : Nat → Nat → List T → Nat → List T → Option (Nat)
  | 0, _, _, _, _ => none
  | n + 1, n1, l2, n3, l4 =>
    bd (f108_i_dot.l0 n n n1 l2 n3 l4 0 ((n1 : Nat) : Int) (0 : Int)) fun r5 =>
    let x6 : Nat := r5
    some x6
def sg_llfii : Sig (Nat × List T × Nat × List T × Nat × Int × Int) where
  pk := fun v => [.lst v.1 v.2.1, .lst v.2.2.1 v.2.2.2.1, .flt v.2.2.2.2.1, .int v.2.2.2.2.2.1, .int v.2.2.2.2.2.2]
  up := fun ls => match ls with
    | [.lst a0 a1, .lst a2 a3, .flt a4, .int a5, .int a6] => some (a0, a1, a2, a3, a4, a5, a6)
    | _ => none
  ok := by
    intro ls v h
    split at h
    · cases h; rfl
    · cases h

def f108_i_dot.l0.P : AS := ⟨[(0, .val false [.sl .shr [.leaf]] [.lst 0 []] [] 0), (1, .val false [.sl .shr [.leaf]] [.lst 0 []] [] 0), (5, .val false [.leaf] [.flt .f32 0] [] 0), (8, .val false [.leaf] [.int .i64 0] [] 0), (9, .val false [.leaf] [.int .i64 0] [] 0)], 0⟩
def f108_i_dot.l0.A : Alt (Nat) := .one (.exit 0) ⟨[(5, .val false [.leaf] [.flt .f32 0] [] 0)], 0⟩ sg_f
def f108_i_dot.l0.F (n m : Nat) (v : Nat × List T × Nat × List T × Nat × Int × Int) := f108_i_dot.l0 n m v.1 v.2.1 v.2.2.1 v.2.2.2.1 v.2.2.2.2.1 v.2.2.2.2.2.1 v.2.2.2.2.2.2
def f108_i_dot.l0.W (n : Nat) : LpW := .of 48 f108_i_dot.l0.P sg_llfii f108_i_dot.l0.A (f108_i_dot.l0.F n n)
def f108_i_dot.P : List Arg := [⟨.val, ⟨false, [.sl .shr [.leaf]], [.lst 0 []]⟩⟩, ⟨.val, ⟨false, [.sl .shr [.leaf]], [.lst 0 []]⟩⟩]
def f108_i_dot.A : RAlt (Nat) := .one ⟨[⟨false, [.leaf], [.flt .f32 0]⟩], [none, none]⟩ sg_f
def f108_i_dot.F (n : Nat) (v : Nat × List T × Nat × List T) := f108_i_dot n v.1 v.2.1 v.2.2.1 v.2.2.2
noncomputable def f108_i_dot.O (n : Nat) : Orc := orcOf (E := E) [] [f108_i_dot.l0.W n] n
theorem f108_i_dot.l0.ok (n : Nat) : LpOk (f108_i_dot.O n) E (evalFn E n) n (keepAt 108) (.loop (loopAt c108 0)) :=
  lp_pure f108_i_dot.l0.P sg_llfii f108_i_dot.l0.A (f108_i_dot.l0.F n) (orcOf_cf _ _ n) (lpOk_of (bs := []) (by kernel_rfl) .nil) (fun _ => rfl) (fun _ _ => by kernel_rfl) (fun _ _ _ => by kernel_rfl)
theorem f108_i_dot.ok : ∀ n v x, f108_i_dot.F n v = some x → evalFn E n 108 (flAs f108_i_dot.P (sg_ll.pk v)) = some (f108_i_dot.A.enc x) :=
  fn_pure (modes := (fdAt 108).ms) (outs := (fdAt 108).os) (results := (fdAt 108).rs) f108_i_dot.O (c := c108) (keep := keepAt 108) (by kernel_rfl) (fun n => orcOf_cf _ _ n) (fun n => lpOk_of (bs := [loopAt c108 0]) (by kernel_rfl) (.cons (f108_i_dot.l0.ok n) .nil)) (fun _ => rfl) (fun _ _ => by kernel_rfl)
noncomputable def f108_i_dot.w : FnW E := fnW 108 f108_i_dot.P sg_ll f108_i_dot.A f108_i_dot.F f108_i_dot.ok

def f46_i_DotNumbers : Nat → Nat → List T → Nat → List T → Option (Nat × Bool)
  | 0, _, _, _, _ => none
  | n + 1, n1, l2, n3, l4 =>
    bd (f94_i_areSamples n n1 l2) fun r5 =>
    let b6 : Bool := r5
    br (!b6) (
     some (0, false)) (
     br (((n1 : Nat) : Int) != ((n3 : Nat) : Int)) (
      some (0, false)) (
      bd (f108_i_dot n n1 l2 n3 l4) fun r7 =>
      let x8 : Nat := r7
      some (x8, true)))
def sg_fb : Sig (Nat × Bool) where
  pk := fun v => [.flt v.1, .bool v.2]
  up := fun ls => match ls with
    | [.flt a0, .bool a1] => some (a0, a1)
    | _ => none
  ok := by
    intro ls v h
    split at h
    · cases h; rfl
    · cases h

def f46_i_DotNumbers.P : List Arg := [⟨.val, ⟨false, [.sl .shr [.leaf]], [.lst 0 []]⟩⟩, ⟨.val, ⟨false, [.sl .shr [.leaf]], [.lst 0 []]⟩⟩]
def f46_i_DotNumbers.A : RAlt (Nat × Bool) := .one ⟨[⟨false, [.leaf], [.flt .f32 0]⟩, ⟨false, [.leaf], [.bool false]⟩], [none, none]⟩ sg_fb
def f46_i_DotNumbers.F (n : Nat) (v : Nat × List T × Nat × List T) := f46_i_DotNumbers n v.1 v.2.1 v.2.2.1 v.2.2.2
noncomputable def f46_i_DotNumbers.O (n : Nat) : Orc := orcOf (E := E) [f94_i_areSamples.w, f108_i_dot.w] [] n
theorem f46_i_DotNumbers.ok : ∀ n v x, f46_i_DotNumbers.F n v = some x → evalFn E n 46 (flAs f46_i_DotNumbers.P (sg_ll.pk v)) = some (f46_i_DotNumbers.A.enc x) :=
  fn_pure (modes := (fdAt 46).ms) (outs := (fdAt 46).os) (results := (fdAt 46).rs) f46_i_DotNumbers.O (c := c46) (keep := keepAt 46) (by kernel_rfl) (fun n => orcOf_cf _ _ n) (fun n => lpOk_of (bs := []) (by kernel_rfl) .nil) (fun _ => rfl) (fun _ _ => by kernel_rfl)
noncomputable def f46_i_DotNumbers.w : FnW E := fnW 46 f46_i_DotNumbers.P sg_ll f46_i_DotNumbers.A f46_i_DotNumbers.F f46_i_DotNumbers.ok

def f8_l_FnFolds.l0 (n : Nat) : Nat → Nat → List T → Nat → List T → Nat → List T → Nat → List T → Nat → List T → Nat → List T → Int → Option ((Bool) ⊕ (Nat × List T × Nat × List T × Nat × List T × Nat × List T))
  | 0, _, _, _, _, _, _, _, _, _, _, _, _, _ => none
  | m + 1, n1, l2, n3, l4, n5, l6, n7, l8, n9, l10, n11, l12, i13 =>
    br (decide (i13 < ((n7 : Nat) : Int))) (
     bd (f8_l_FnFolds.l1 n n n1 l2 n3 l4 n5 l6 n7 l8 n9 l10 n11 l12 i13 0 (reps 0 [(T.flt FloatKind.f32 0)]) (0 : Int)) fun r14 =>
     let n15 : Nat := r14.1
     let l16 : List T := r14.2.1
     let n17 : Nat := r14.2.2.1
     let l18 : List T := r14.2.2.2.1
     let n19 : Nat := r14.2.2.2.2.1
     let l20 : List T := r14.2.2.2.2.2.1
     let n21 : Nat := r14.2.2.2.2.2.2.1
     let l22 : List T := r14.2.2.2.2.2.2.2.1
     let n23 : Nat := r14.2.2.2.2.2.2.2.2.1
     let l24 : List T := r14.2.2.2.2.2.2.2.2.2.1
     let n25 : Nat := r14.2.2.2.2.2.2.2.2.2.2.1
     let l26 : List T := r14.2.2.2.2.2.2.2.2.2.2.2.1
     let i27 : Int := r14.2.2.2.2.2.2.2.2.2.2.2.2.1
     let n28 : Nat := r14.2.2.2.2.2.2.2.2.2.2.2.2.2.1
     let l29 : List T := r14.2.2.2.2.2.2.2.2.2.2.2.2.2.2
     bd (f46_i_DotNumbers n n17 l18 n28 l29) fun r30 =>
     let x31 : Nat := r30.1
     let b32 : Bool := r30.2
     br (!b32) (
      some (Sum.inl false)) (
      gd (decide (((0 : Int) ≤ i27) ∧ (i27 < ((n23 : Nat) : Int)))) (
      gd (okAt [(CK.flt FloatKind.f32)] l24 (Int.toNat i27)) (
      bd (f33_i_SameNumber n x31 (fAt l24 (Int.toNat i27))) fun r33 =>
      let b34 : Bool := r33
      br (!b34) (
       some (Sum.inl false)) (
       f8_l_FnFolds.l0 n m n15 l16 n17 l18 n19 l20 n21 l22 n23 l24 n25 l26 (IntKind.i64.wrap (i27 + (1 : Int)))))))) (
     some (Sum.inr (n1, l2, n3, l4, n5, l6, n7, l8)))
def f109_i_isFactor : Nat → Int → Option (Bool)
  | 0, _ => none
  | n + 1, i1 =>
    bd (f83_i_within n i1 (1 : Int) (8 : Int)) fun r2 =>
    let b3 : Bool := r2
    some b3
def f109_i_isFactor.P : List Arg := [⟨.val, ⟨false, [.leaf], [.int .i64 0]⟩⟩]
def f109_i_isFactor.A : RAlt (Bool) := .one ⟨[⟨false, [.leaf], [.bool false]⟩], [none]⟩ sg_b
def f109_i_isFactor.F (n : Nat) (v : Int) := f109_i_isFactor n v
noncomputable def f109_i_isFactor.O (n : Nat) : Orc := orcOf (E := E) [f83_i_within.w] [] n
theorem f109_i_isFactor.ok : ∀ n v x, f109_i_isFactor.F n v = some x → evalFn E n 109 (flAs f109_i_isFactor.P (sg_i.pk v)) = some (f109_i_isFactor.A.enc x) :=
  fn_pure (modes := (fdAt 109).ms) (outs := (fdAt 109).os) (results := (fdAt 109).rs) f109_i_isFactor.O (c := c109) (keep := keepAt 109) (by kernel_rfl) (fun n => orcOf_cf _ _ n) (fun n => lpOk_of (bs := []) (by kernel_rfl) .nil) (fun _ => rfl) (fun _ _ => by kernel_rfl)
noncomputable def f109_i_isFactor.w : FnW E := fnW 109 f109_i_isFactor.P sg_i f109_i_isFactor.A f109_i_isFactor.F f109_i_isFactor.ok

def f93_i_zeros : Nat → Int → Option (Nat × List T)
  | 0, _ => none
  | n + 1, i1 =>
    gd (decide (((0 : Int) ≤ i1) ∧ (i1 ≤ (2147483648 : Int)))) (
    some ((Int.toNat i1), (reps (Int.toNat i1) [(T.flt FloatKind.f32 0)])))
def f93_i_zeros.P : List Arg := [⟨.val, ⟨false, [.leaf], [.int .i64 0]⟩⟩]
def f93_i_zeros.A : RAlt (Nat × List T) := .one ⟨[⟨false, [.sl .own [.leaf]], [.lst 0 []]⟩], [none]⟩ sg_l
def f93_i_zeros.F (n : Nat) (v : Int) := f93_i_zeros n v
noncomputable def f93_i_zeros.O (n : Nat) : Orc := orcOf (E := E) [] [] n
theorem f93_i_zeros.ok : ∀ n v x, f93_i_zeros.F n v = some x → evalFn E n 93 (flAs f93_i_zeros.P (sg_i.pk v)) = some (f93_i_zeros.A.enc x) :=
  fn_pure (modes := (fdAt 93).ms) (outs := (fdAt 93).os) (results := (fdAt 93).rs) f93_i_zeros.O (c := c93) (keep := keepAt 93) (by kernel_rfl) (fun n => orcOf_cf _ _ n) (fun n => lpOk_of (bs := []) (by kernel_rfl) .nil) (fun _ => rfl) (fun _ _ => by kernel_rfl)
noncomputable def f93_i_zeros.w : FnW E := fnW 93 f93_i_zeros.P sg_i f93_i_zeros.A f93_i_zeros.F f93_i_zeros.ok

def f47_i_SpreadBy.l0 (n : Nat) : Nat → Int → Nat → List T → Nat → List T → Nat → List T → Int → Int → Option (Nat × List T)
  | 0, _, _, _, _, _, _, _, _, _ => none
  | m + 1, i1, n2, l3, n4, l5, n6, l7, i8, i9 =>
    br (decide (i9 < i8)) (
     gd ((decide (((0 : Int) ≤ i9) ∧ (i9 < ((n6 : Nat) : Int)))) && (okAt [(CK.flt FloatKind.f32)] l7 (Int.toNat i9))) (
     let x10 : Nat := (fAt l7 (Int.toNat i9))
     gd (Nat.ble (n4 + 1) 2147483648) (
     bd (f93_i_zeros n (IntKind.i64.wrap (i1 - (1 : Int)))) fun r11 =>
     let n12 : Nat := r11.1
     let l13 : List T := r11.2
     gd (Nat.ble ((n4 + 1) + n12) 2147483648) (
     let n14 : Nat := ((n4 + 1) + n12)
     let l15 : List T := ((l5 ++ (setN (reps 1 [(T.flt FloatKind.f32 0)]) 0 [(T.flt FloatKind.f32 x10)])) ++ l13)
     f47_i_SpreadBy.l0 n m i1 n2 l3 n14 l15 n6 l7 i8 (IntKind.i64.wrap (i9 + (1 : Int))))))) (
     some (n4, l5))
def f47_i_SpreadBy : Nat → Int → Nat → List T → Option (Nat × List T × Bool)
  | 0, _, _, _ => none
  | n + 1, i1, n2, l3 =>
    bd (f109_i_isFactor n i1) fun r4 =>
    let b5 : Bool := r4
    br (!b5) (
     some (0, [], false)) (
     bd (f94_i_areSamples n n2 l3) fun r6 =>
     let b7 : Bool := r6
     br (!b7) (
      some (0, [], false)) (
      bd (f82_i_size n ((n2 : Nat) : Int)) fun r8 =>
      let i9 : Int := r8
      br (decide ((IntKind.i64.wrap (i9 * i1)) > (256 : Int))) (
       some (0, [], false)) (
       bd (f47_i_SpreadBy.l0 n n i1 n2 l3 0 [] n2 l3 ((n2 : Nat) : Int) (0 : Int)) fun r10 =>
       let n11 : Nat := r10.1
       let l12 : List T := r10.2
       some (n11, l12, true))))
def sg_il : Sig (Int × Nat × List T) where
  pk := fun v => [.int v.1, .lst v.2.1 v.2.2]
  up := fun ls => match ls with
    | [.int a0, .lst a1 a2] => some (a0, a1, a2)
    | _ => none
  ok := by
    intro ls v h
    split at h
    · cases h; rfl
    · cases h

def sg_lb : Sig (Nat × List T × Bool) where
  pk := fun v => [.lst v.1 v.2.1, .bool v.2.2]
  up := fun ls => match ls with
    | [.lst a0 a1, .bool a2] => some (a0, a1, a2)
    | _ => none
  ok := by
    intro ls v h
    split at h
    · cases h; rfl
    · cases h

def sg_illlii : Sig (Int × Nat × List T × Nat × List T × Nat × List T × Int × Int) where
  pk := fun v => [.int v.1, .lst v.2.1 v.2.2.1, .lst v.2.2.2.1 v.2.2.2.2.1, .lst v.2.2.2.2.2.1 v.2.2.2.2.2.2.1, .int v.2.2.2.2.2.2.2.1, .int v.2.2.2.2.2.2.2.2]
  up := fun ls => match ls with
    | [.int a0, .lst a1 a2, .lst a3 a4, .lst a5 a6, .int a7, .int a8] => some (a0, a1, a2, a3, a4, a5, a6, a7, a8)
    | _ => none
  ok := by
    intro ls v h
    split at h
    · cases h; rfl
    · cases h

def f47_i_SpreadBy.l0.P : AS := ⟨[(0, .val false [.leaf] [.int .i64 0] [] 0), (1, .val false [.sl .shr [.leaf]] [.lst 0 []] [] 0), (6, .val false [.sl .own [.leaf]] [.lst 0 []] [] 0), (25, .val false [.sl .shr [.leaf]] [.lst 0 []] [] 0), (26, .val false [.leaf] [.int .i64 0] [] 0), (27, .val false [.leaf] [.int .i64 0] [] 0)], 0⟩
def f47_i_SpreadBy.l0.A : Alt (Nat × List T) := .one (.exit 0) ⟨[(6, .val false [.sl .own [.leaf]] [.lst 0 []] [] 0)], 0⟩ sg_l
def f47_i_SpreadBy.l0.F (n m : Nat) (v : Int × Nat × List T × Nat × List T × Nat × List T × Int × Int) := f47_i_SpreadBy.l0 n m v.1 v.2.1 v.2.2.1 v.2.2.2.1 v.2.2.2.2.1 v.2.2.2.2.2.1 v.2.2.2.2.2.2.1 v.2.2.2.2.2.2.2.1 v.2.2.2.2.2.2.2.2
def f47_i_SpreadBy.l0.W (n : Nat) : LpW := .of 80 f47_i_SpreadBy.l0.P sg_illlii f47_i_SpreadBy.l0.A (f47_i_SpreadBy.l0.F n n)
def f47_i_SpreadBy.P : List Arg := [⟨.val, ⟨false, [.leaf], [.int .i64 0]⟩⟩, ⟨.val, ⟨false, [.sl .shr [.leaf]], [.lst 0 []]⟩⟩]
def f47_i_SpreadBy.A : RAlt (Nat × List T × Bool) := .one ⟨[⟨false, [.sl .own [.leaf]], [.lst 0 []]⟩, ⟨false, [.leaf], [.bool false]⟩], [none, none]⟩ sg_lb
def f47_i_SpreadBy.F (n : Nat) (v : Int × Nat × List T) := f47_i_SpreadBy n v.1 v.2.1 v.2.2
noncomputable def f47_i_SpreadBy.O (n : Nat) : Orc := orcOf (E := E) [f82_i_size.w, f94_i_areSamples.w, f109_i_isFactor.w, f93_i_zeros.w] [f47_i_SpreadBy.l0.W n] n
theorem f47_i_SpreadBy.l0.ok (n : Nat) : LpOk (f47_i_SpreadBy.O n) E (evalFn E n) n (keepAt 47) (.loop (loopAt c47 0)) :=
  lp_pure f47_i_SpreadBy.l0.P sg_illlii f47_i_SpreadBy.l0.A (f47_i_SpreadBy.l0.F n) (orcOf_cf _ _ n) (lpOk_of (bs := []) (by kernel_rfl) .nil) (fun _ => rfl) (fun _ _ => by kernel_rfl) (fun _ _ _ => by kernel_rfl)
theorem f47_i_SpreadBy.ok : ∀ n v x, f47_i_SpreadBy.F n v = some x → evalFn E n 47 (flAs f47_i_SpreadBy.P (sg_il.pk v)) = some (f47_i_SpreadBy.A.enc x) :=
  fn_pure (modes := (fdAt 47).ms) (outs := (fdAt 47).os) (results := (fdAt 47).rs) f47_i_SpreadBy.O (c := c47) (keep := keepAt 47) (by kernel_rfl) (fun n => orcOf_cf _ _ n) (fun n => lpOk_of (bs := [loopAt c47 0]) (by kernel_rfl) (.cons (f47_i_SpreadBy.l0.ok n) .nil)) (fun _ => rfl) (fun _ _ => by kernel_rfl)
noncomputable def f47_i_SpreadBy.w : FnW E := fnW 47 f47_i_SpreadBy.P sg_il f47_i_SpreadBy.A f47_i_SpreadBy.F f47_i_SpreadBy.ok

def f48_i_PickBy.l0 (n : Nat) : Nat → Int → Nat → List T → Nat → List T → Int → Option (Nat × List T)
  | 0, _, _, _, _, _, _ => none
  | m + 1, i1, n2, l3, n4, l5, i6 =>
    bd (f82_i_size n ((n2 : Nat) : Int)) fun r7 =>
    let i8 : Int := r7
    br (decide (i6 < i8)) (
     gd ((decide (((0 : Int) ≤ i6) ∧ (i6 < ((n2 : Nat) : Int)))) && (okAt [(CK.flt FloatKind.f32)] l3 (Int.toNat i6))) (
     gd (Nat.ble (n4 + 1) 2147483648) (
     let n9 : Nat := (n4 + 1)
     let l10 : List T := (l5 ++ (setN (reps 1 [(T.flt FloatKind.f32 0)]) 0 [(T.flt FloatKind.f32 (fAt l3 (Int.toNat i6)))]))
     f48_i_PickBy.l0 n m i1 n2 l3 n9 l10 (IntKind.i64.wrap (i6 + i1))))) (
     some (n4, l5))
def f48_i_PickBy : Nat → Int → Int → Nat → List T → Option (Nat × List T × Bool)
  | 0, _, _, _, _ => none
  | n + 1, i1, i2, n3, l4 =>
    bd (f109_i_isFactor n i1) fun r5 =>
    let b6 : Bool := r5
    br (!b6) (
     some (0, [], false)) (
     bd (f83_i_within n i2 (0 : Int) (IntKind.i64.wrap (i1 - (1 : Int)))) fun r7 =>
     let b8 : Bool := r7
     br (!b8) (
      some (0, [], false)) (
      bd (f94_i_areSamples n n3 l4) fun r9 =>
      let b10 : Bool := r9
      br (!b10) (
       some (0, [], false)) (
       bd (f48_i_PickBy.l0 n n i1 n3 l4 0 [] i2) fun r11 =>
       let n12 : Nat := r11.1
       let l13 : List T := r11.2
       some (n12, l13, true))))
def sg_iil : Sig (Int × Int × Nat × List T) where
  pk := fun v => [.int v.1, .int v.2.1, .lst v.2.2.1 v.2.2.2]
  up := fun ls => match ls with
    | [.int a0, .int a1, .lst a2 a3] => some (a0, a1, a2, a3)
    | _ => none
  ok := by
    intro ls v h
    split at h
    · cases h; rfl
    · cases h

def sg_illi : Sig (Int × Nat × List T × Nat × List T × Int) where
  pk := fun v => [.int v.1, .lst v.2.1 v.2.2.1, .lst v.2.2.2.1 v.2.2.2.2.1, .int v.2.2.2.2.2]
  up := fun ls => match ls with
    | [.int a0, .lst a1 a2, .lst a3 a4, .int a5] => some (a0, a1, a2, a3, a4, a5)
    | _ => none
  ok := by
    intro ls v h
    split at h
    · cases h; rfl
    · cases h

def f48_i_PickBy.l0.P : AS := ⟨[(0, .val false [.leaf] [.int .i64 0] [] 0), (2, .val false [.sl .shr [.leaf]] [.lst 0 []] [] 0), (8, .val false [.sl .own [.leaf]] [.lst 0 []] [] 0), (9, .val false [.leaf] [.int .i64 0] [] 0)], 0⟩
def f48_i_PickBy.l0.A : Alt (Nat × List T) := .one (.exit 0) ⟨[(8, .val false [.sl .own [.leaf]] [.lst 0 []] [] 0)], 0⟩ sg_l
def f48_i_PickBy.l0.F (n m : Nat) (v : Int × Nat × List T × Nat × List T × Int) := f48_i_PickBy.l0 n m v.1 v.2.1 v.2.2.1 v.2.2.2.1 v.2.2.2.2.1 v.2.2.2.2.2
def f48_i_PickBy.l0.W (n : Nat) : LpW := .of 80 f48_i_PickBy.l0.P sg_illi f48_i_PickBy.l0.A (f48_i_PickBy.l0.F n n)
def f48_i_PickBy.P : List Arg := [⟨.val, ⟨false, [.leaf], [.int .i64 0]⟩⟩, ⟨.val, ⟨false, [.leaf], [.int .i64 0]⟩⟩, ⟨.val, ⟨false, [.sl .shr [.leaf]], [.lst 0 []]⟩⟩]
def f48_i_PickBy.A : RAlt (Nat × List T × Bool) := .one ⟨[⟨false, [.sl .own [.leaf]], [.lst 0 []]⟩, ⟨false, [.leaf], [.bool false]⟩], [none, none, none]⟩ sg_lb
def f48_i_PickBy.F (n : Nat) (v : Int × Int × Nat × List T) := f48_i_PickBy n v.1 v.2.1 v.2.2.1 v.2.2.2
noncomputable def f48_i_PickBy.O (n : Nat) : Orc := orcOf (E := E) [f82_i_size.w, f83_i_within.w, f94_i_areSamples.w, f109_i_isFactor.w] [f48_i_PickBy.l0.W n] n
theorem f48_i_PickBy.l0.ok (n : Nat) : LpOk (f48_i_PickBy.O n) E (evalFn E n) n (keepAt 48) (.loop (loopAt c48 0)) :=
  lp_pure f48_i_PickBy.l0.P sg_illi f48_i_PickBy.l0.A (f48_i_PickBy.l0.F n) (orcOf_cf _ _ n) (lpOk_of (bs := []) (by kernel_rfl) .nil) (fun _ => rfl) (fun _ _ => by kernel_rfl) (fun _ _ _ => by kernel_rfl)
theorem f48_i_PickBy.ok : ∀ n v x, f48_i_PickBy.F n v = some x → evalFn E n 48 (flAs f48_i_PickBy.P (sg_iil.pk v)) = some (f48_i_PickBy.A.enc x) :=
  fn_pure (modes := (fdAt 48).ms) (outs := (fdAt 48).os) (results := (fdAt 48).rs) f48_i_PickBy.O (c := c48) (keep := keepAt 48) (by kernel_rfl) (fun n => orcOf_cf _ _ n) (fun n => lpOk_of (bs := [loopAt c48 0]) (by kernel_rfl) (.cons (f48_i_PickBy.l0.ok n) .nil)) (fun _ => rfl) (fun _ _ => by kernel_rfl)
noncomputable def f48_i_PickBy.w : FnW E := fnW 48 f48_i_PickBy.P sg_iil f48_i_PickBy.A f48_i_PickBy.F f48_i_PickBy.ok

def f49_i_RaiseBy : Nat → Int → Nat → List T → Nat → List T → Option (Nat × List T × Bool)
  | 0, _, _, _, _, _ => none
  | n + 1, i1, n2, l3, n4, l5 =>
    bd (f47_i_SpreadBy n i1 n4 l5) fun r6 =>
    let n7 : Nat := r6.1
    let l8 : List T := r6.2.1
    let b9 : Bool := r6.2.2
    br (!b9) (
     some (0, [], false)) (
     bd (f106_i_areTaps n n2 l3) fun r10 =>
     let b11 : Bool := r10
     br (!b11) (
      some (0, [], false)) (
      bd (f82_i_size n ((n2 : Nat) : Int)) fun r12 =>
      let i13 : Int := r12
      bd (f93_i_zeros n (IntKind.i64.wrap (i13 - (1 : Int)))) fun r14 =>
      let n15 : Nat := r14.1
      let l16 : List T := r14.2
      bd (f107_i_fold n n2 l3 n15 l16 n7 l8) fun r17 =>
      let n18 : Nat := r17.1
      let l19 : List T := r17.2.1
      let n20 : Nat := r17.2.2.1
      let l21 : List T := r17.2.2.2
      some (n18, l19, true)))
def sg_ill : Sig (Int × Nat × List T × Nat × List T) where
  pk := fun v => [.int v.1, .lst v.2.1 v.2.2.1, .lst v.2.2.2.1 v.2.2.2.2]
  up := fun ls => match ls with
    | [.int a0, .lst a1 a2, .lst a3 a4] => some (a0, a1, a2, a3, a4)
    | _ => none
  ok := by
    intro ls v h
    split at h
    · cases h; rfl
    · cases h

def f49_i_RaiseBy.P : List Arg := [⟨.val, ⟨false, [.leaf], [.int .i64 0]⟩⟩, ⟨.val, ⟨false, [.sl .shr [.leaf]], [.lst 0 []]⟩⟩, ⟨.val, ⟨false, [.sl .shr [.leaf]], [.lst 0 []]⟩⟩]
def f49_i_RaiseBy.A : RAlt (Nat × List T × Bool) := .one ⟨[⟨false, [.sl .own [.leaf]], [.lst 0 []]⟩, ⟨false, [.leaf], [.bool false]⟩], [none, none, none]⟩ sg_lb
def f49_i_RaiseBy.F (n : Nat) (v : Int × Nat × List T × Nat × List T) := f49_i_RaiseBy n v.1 v.2.1 v.2.2.1 v.2.2.2.1 v.2.2.2.2
noncomputable def f49_i_RaiseBy.O (n : Nat) : Orc := orcOf (E := E) [f82_i_size.w, f106_i_areTaps.w, f107_i_fold.w, f93_i_zeros.w, f47_i_SpreadBy.w] [] n
theorem f49_i_RaiseBy.ok : ∀ n v x, f49_i_RaiseBy.F n v = some x → evalFn E n 49 (flAs f49_i_RaiseBy.P (sg_ill.pk v)) = some (f49_i_RaiseBy.A.enc x) :=
  fn_pure (modes := (fdAt 49).ms) (outs := (fdAt 49).os) (results := (fdAt 49).rs) f49_i_RaiseBy.O (c := c49) (keep := keepAt 49) (by kernel_rfl) (fun n => orcOf_cf _ _ n) (fun n => lpOk_of (bs := []) (by kernel_rfl) .nil) (fun _ => rfl) (fun _ _ => by kernel_rfl)
noncomputable def f49_i_RaiseBy.w : FnW E := fnW 49 f49_i_RaiseBy.P sg_ill f49_i_RaiseBy.A f49_i_RaiseBy.F f49_i_RaiseBy.ok

def f50_i_LowerBy : Nat → Int → Nat → List T → Nat → List T → Option (Nat × List T × Bool)
  | 0, _, _, _, _, _ => none
  | n + 1, i1, n2, l3, n4, l5 =>
    bd (f106_i_areTaps n n2 l3) fun r6 =>
    let b7 : Bool := r6
    br (!b7) (
     some (0, [], false)) (
     bd (f94_i_areSamples n n4 l5) fun r8 =>
     let b9 : Bool := r8
     br (!b9) (
      some (0, [], false)) (
      bd (f82_i_size n ((n2 : Nat) : Int)) fun r10 =>
      let i11 : Int := r10
      bd (f93_i_zeros n (IntKind.i64.wrap (i11 - (1 : Int)))) fun r12 =>
      let n13 : Nat := r12.1
      let l14 : List T := r12.2
      bd (f107_i_fold n n2 l3 n13 l14 n4 l5) fun r15 =>
      let n16 : Nat := r15.1
      let l17 : List T := r15.2.1
      let n18 : Nat := r15.2.2.1
      let l19 : List T := r15.2.2.2
      bd (f48_i_PickBy n i1 (0 : Int) n16 l17) fun r20 =>
      let n21 : Nat := r20.1
      let l22 : List T := r20.2.1
      let b23 : Bool := r20.2.2
      some (n21, l22, b23)))
def f50_i_LowerBy.P : List Arg := [⟨.val, ⟨false, [.leaf], [.int .i64 0]⟩⟩, ⟨.val, ⟨false, [.sl .shr [.leaf]], [.lst 0 []]⟩⟩, ⟨.val, ⟨false, [.sl .shr [.leaf]], [.lst 0 []]⟩⟩]
def f50_i_LowerBy.A : RAlt (Nat × List T × Bool) := .one ⟨[⟨false, [.sl .own [.leaf]], [.lst 0 []]⟩, ⟨false, [.leaf], [.bool false]⟩], [none, none, none]⟩ sg_lb
def f50_i_LowerBy.F (n : Nat) (v : Int × Nat × List T × Nat × List T) := f50_i_LowerBy n v.1 v.2.1 v.2.2.1 v.2.2.2.1 v.2.2.2.2
noncomputable def f50_i_LowerBy.O (n : Nat) : Orc := orcOf (E := E) [f82_i_size.w, f106_i_areTaps.w, f94_i_areSamples.w, f107_i_fold.w, f93_i_zeros.w, f48_i_PickBy.w] [] n
theorem f50_i_LowerBy.ok : ∀ n v x, f50_i_LowerBy.F n v = some x → evalFn E n 50 (flAs f50_i_LowerBy.P (sg_ill.pk v)) = some (f50_i_LowerBy.A.enc x) :=
  fn_pure (modes := (fdAt 50).ms) (outs := (fdAt 50).os) (results := (fdAt 50).rs) f50_i_LowerBy.O (c := c50) (keep := keepAt 50) (by kernel_rfl) (fun n => orcOf_cf _ _ n) (fun n => lpOk_of (bs := []) (by kernel_rfl) .nil) (fun _ => rfl) (fun _ _ => by kernel_rfl)
noncomputable def f50_i_LowerBy.w : FnW E := fnW 50 f50_i_LowerBy.P sg_ill f50_i_LowerBy.A f50_i_LowerBy.F f50_i_LowerBy.ok

def f8_l_FnFolds : Nat → Nat → List T → Nat → List T → Option (Bool)
  | 0, _, _, _, _ => none
  | n + 1, n1, l2, n3, l4 =>
    bd (f27_l_r8Long n n1 l2 n3 l4) fun r5 =>
    let b6 : Bool := r5
    br b6 (
     some true) (
     bd (f28_l_r8At n n1 l2 (40 : Int) (6 : Int)) fun r7 =>
     let i8 : Int := r7
     bd (f44_s_R8Plain n n1 l2 (IntKind.i64.wrap ((1 : Int) + i8))) fun r9 =>
     let n10 : Nat := r9.1
     let l11 : List T := r9.2
     bd (f44_s_R8Plain n n3 l4 (IntKind.i64.wrap (((n10 : Nat) : Int) - (1 : Int)))) fun r12 =>
     let n13 : Nat := r12.1
     let l14 : List T := r12.2
     bd (f30_s_R8Samples n n3 l4 (12 : Int)) fun r15 =>
     let n16 : Nat := r15.1
     let l17 : List T := r15.2
     bd (f28_l_r8At n n1 l2 (41 : Int) (IntKind.i64.wrap (((n16 : Nat) : Int) + (1 : Int)))) fun r18 =>
     let i19 : Int := r18
     bd (f45_i_FoldTaps n n10 l11 n13 l14 n16 l17) fun r20 =>
     let n21 : Nat := r20.1
     let l22 : List T := r20.2.1
     let n23 : Nat := r20.2.2.1
     let l24 : List T := r20.2.2.2.1
     let b25 : Bool := r20.2.2.2.2
     gd (decide (((0 : Int) ≤ (0 : Int)) ∧ (((0 : Int) ≤ i19) ∧ (i19 ≤ ((n16 : Nat) : Int))))) (
     bd (f45_i_FoldTaps n n10 l11 n13 l14 ((Int.toNat i19) - 0) (List.take ((Int.toNat i19) - 0) (List.drop 0 l17))) fun r26 =>
     let n27 : Nat := r26.1
     let l28 : List T := r26.2.1
     let n29 : Nat := r26.2.2.1
     let l30 : List T := r26.2.2.2.1
     let b31 : Bool := r26.2.2.2.2
     gd (decide (((0 : Int) ≤ i19) ∧ ((i19 ≤ ((n16 : Nat) : Int)) ∧ (((n16 : Nat) : Int) ≤ ((n16 : Nat) : Int))))) (
     bd (f45_i_FoldTaps n n10 l11 n29 l30 (n16 - (Int.toNat i19)) (List.take (n16 - (Int.toNat i19)) (List.drop (Int.toNat i19) l17))) fun r32 =>
     let n33 : Nat := r32.1
     let l34 : List T := r32.2.1
     let n35 : Nat := r32.2.2.1
     let l36 : List T := r32.2.2.2.1
     let b37 : Bool := r32.2.2.2.2
     br (!b25) (
      some false) (
      br (!b31) (
       some false) (
       br (!b37) (
        some false) (
        br (((n21 : Nat) : Int) != ((n16 : Nat) : Int)) (
         some false) (
         br (((n23 : Nat) : Int) != ((n13 : Nat) : Int)) (
          some false) (
          gd (Nat.ble (0 + n27) 2147483648) (
          gd (Nat.ble ((0 + n27) + n33) 2147483648) (
          bd (f32_l_r8Same n ((0 + n27) + n33) (((reps 0 [(T.flt FloatKind.f32 0)]) ++ l28) ++ l34) n21 l22) fun r38 =>
          let b39 : Bool := r38
          br (!b39) (
           some false) (
           bd (f32_l_r8Same n n23 l24 n35 l36) fun r40 =>
           let b41 : Bool := r40
           br (!b41) (
            some false) (
            gd (Nat.ble (0 + n13) 2147483648) (
            gd (Nat.ble ((0 + n13) + n16) 2147483648) (
            let n42 : Nat := ((0 + n13) + n16)
            let l43 : List T := (((reps 0 [(T.flt FloatKind.f32 0)]) ++ l14) ++ l17)
            bd (f8_l_FnFolds.l0 n n n1 l2 n10 l11 n13 l14 n16 l17 n21 l22 n42 l43 (0 : Int)) fun r44 =>
            sm r44 (fun u45 =>
             let b46 : Bool := u45
             some b46) (fun u47 =>
             let n48 : Nat := u47.1
             let l49 : List T := u47.2.1
             let n50 : Nat := u47.2.2.1
             let l51 : List T := u47.2.2.2.1
             let n52 : Nat := u47.2.2.2.2.1
             let l53 : List T := u47.2.2.2.2.2.1
             let n54 : Nat := u47.2.2.2.2.2.2.1
             let l55 : List T := u47.2.2.2.2.2.2.2
             bd (f28_l_r8At n n48 l49 (42 : Int) (4 : Int)) fun r56 =>
             let i57 : Int := r56
             let i58 : Int := (IntKind.i64.wrap ((1 : Int) + i57))
             gd (decide (((0 : Int) ≤ ((n52 : Nat) : Int)) ∧ (((n52 : Nat) : Int) ≤ (2147483648 : Int)))) (
             let l59 : List T := (reps n52 [(T.flt FloatKind.f32 0)])
             bd (f47_i_SpreadBy n i58 n54 l55) fun r60 =>
             let n61 : Nat := r60.1
             let l62 : List T := r60.2.1
             let b63 : Bool := r60.2.2
             bd (f48_i_PickBy n i58 (0 : Int) n61 l62) fun r64 =>
             let n65 : Nat := r64.1
             let l66 : List T := r64.2.1
             let b67 : Bool := r64.2.2
             bd (f49_i_RaiseBy n i58 n50 l51 n54 l55) fun r68 =>
             let n69 : Nat := r68.1
             let l70 : List T := r68.2.1
             let b71 : Bool := r68.2.2
             bd (f50_i_LowerBy n i58 n50 l51 n54 l55) fun r72 =>
             let n73 : Nat := r72.1
             let l74 : List T := r72.2.1
             let b75 : Bool := r72.2.2
             bd (f45_i_FoldTaps n n50 l51 n52 l59 n61 l62) fun r76 =>
             let n77 : Nat := r76.1
             let l78 : List T := r76.2.1
             let n79 : Nat := r76.2.2.1
             let l80 : List T := r76.2.2.2.1
             let b81 : Bool := r76.2.2.2.2
             bd (f45_i_FoldTaps n n50 l51 n52 l59 n54 l55) fun r82 =>
             let n83 : Nat := r82.1
             let l84 : List T := r82.2.1
             let n85 : Nat := r82.2.2.1
             let l86 : List T := r82.2.2.2.1
             let b87 : Bool := r82.2.2.2.2
             bd (f48_i_PickBy n i58 (0 : Int) n83 l84) fun r88 =>
             let n89 : Nat := r88.1
             let l90 : List T := r88.2.1
             let b91 : Bool := r88.2.2
             br b63 (
              br b67 (
               br b71 (
                br b75 (
                 br b81 (
                  br b87 (
                   br b91 (
                    bd (f32_l_r8Same n n65 l66 n54 l55) fun r92 =>
                    let b93 : Bool := r92
                    br b93 (
                     bd (f32_l_r8Same n n69 l70 n77 l78) fun r94 =>
                     let b95 : Bool := r94
                     br b95 (
                      bd (f32_l_r8Same n n73 l74 n89 l90) fun r96 =>
                      let b97 : Bool := r96
                      some b97) (
                      some false)) (
                     some false)) (
                    some false)) (
                   some false)) (
                  some false)) (
                 some false)) (
                some false)) (
               some false)) (
              some false)))))))))))))))))
def sg_llllllili : Sig (Nat × List T × Nat × List T × Nat × List T × Nat × List T × Nat × List T × Nat × List T × Int × Nat × List T × Int) where
  pk := fun v => [.lst v.1 v.2.1, .lst v.2.2.1 v.2.2.2.1, .lst v.2.2.2.2.1 v.2.2.2.2.2.1, .lst v.2.2.2.2.2.2.1 v.2.2.2.2.2.2.2.1, .lst v.2.2.2.2.2.2.2.2.1 v.2.2.2.2.2.2.2.2.2.1, .lst v.2.2.2.2.2.2.2.2.2.2.1 v.2.2.2.2.2.2.2.2.2.2.2.1, .int v.2.2.2.2.2.2.2.2.2.2.2.2.1, .lst v.2.2.2.2.2.2.2.2.2.2.2.2.2.1 v.2.2.2.2.2.2.2.2.2.2.2.2.2.2.1, .int v.2.2.2.2.2.2.2.2.2.2.2.2.2.2.2]
  up := fun ls => match ls with
    | [.lst a0 a1, .lst a2 a3, .lst a4 a5, .lst a6 a7, .lst a8 a9, .lst a10 a11, .int a12, .lst a13 a14, .int a15] => some (a0, a1, a2, a3, a4, a5, a6, a7, a8, a9, a10, a11, a12, a13, a14, a15)
    | _ => none
  ok := by
    intro ls v h
    split at h
    · cases h; rfl
    · cases h

def sg_llllllil : Sig (Nat × List T × Nat × List T × Nat × List T × Nat × List T × Nat × List T × Nat × List T × Int × Nat × List T) where
  pk := fun v => [.lst v.1 v.2.1, .lst v.2.2.1 v.2.2.2.1, .lst v.2.2.2.2.1 v.2.2.2.2.2.1, .lst v.2.2.2.2.2.2.1 v.2.2.2.2.2.2.2.1, .lst v.2.2.2.2.2.2.2.2.1 v.2.2.2.2.2.2.2.2.2.1, .lst v.2.2.2.2.2.2.2.2.2.2.1 v.2.2.2.2.2.2.2.2.2.2.2.1, .int v.2.2.2.2.2.2.2.2.2.2.2.2.1, .lst v.2.2.2.2.2.2.2.2.2.2.2.2.2.1 v.2.2.2.2.2.2.2.2.2.2.2.2.2.2]
  up := fun ls => match ls with
    | [.lst a0 a1, .lst a2 a3, .lst a4 a5, .lst a6 a7, .lst a8 a9, .lst a10 a11, .int a12, .lst a13 a14] => some (a0, a1, a2, a3, a4, a5, a6, a7, a8, a9, a10, a11, a12, a13, a14)
    | _ => none
  ok := by
    intro ls v h
    split at h
    · cases h; rfl
    · cases h

def sg_lllllli : Sig (Nat × List T × Nat × List T × Nat × List T × Nat × List T × Nat × List T × Nat × List T × Int) where
  pk := fun v => [.lst v.1 v.2.1, .lst v.2.2.1 v.2.2.2.1, .lst v.2.2.2.2.1 v.2.2.2.2.2.1, .lst v.2.2.2.2.2.2.1 v.2.2.2.2.2.2.2.1, .lst v.2.2.2.2.2.2.2.2.1 v.2.2.2.2.2.2.2.2.2.1, .lst v.2.2.2.2.2.2.2.2.2.2.1 v.2.2.2.2.2.2.2.2.2.2.2.1, .int v.2.2.2.2.2.2.2.2.2.2.2.2]
  up := fun ls => match ls with
    | [.lst a0 a1, .lst a2 a3, .lst a4 a5, .lst a6 a7, .lst a8 a9, .lst a10 a11, .int a12] => some (a0, a1, a2, a3, a4, a5, a6, a7, a8, a9, a10, a11, a12)
    | _ => none
  ok := by
    intro ls v h
    split at h
    · cases h; rfl
    · cases h

def sg_llll : Sig (Nat × List T × Nat × List T × Nat × List T × Nat × List T) where
  pk := fun v => [.lst v.1 v.2.1, .lst v.2.2.1 v.2.2.2.1, .lst v.2.2.2.2.1 v.2.2.2.2.2.1, .lst v.2.2.2.2.2.2.1 v.2.2.2.2.2.2.2]
  up := fun ls => match ls with
    | [.lst a0 a1, .lst a2 a3, .lst a4 a5, .lst a6 a7] => some (a0, a1, a2, a3, a4, a5, a6, a7)
    | _ => none
  ok := by
    intro ls v h
    split at h
    · cases h; rfl
    · cases h

def f8_l_FnFolds.l1.P : AS := ⟨[(0, .val false [.sl .shr [.leaf]] [.lst 0 []] [] 0), (5, .val false [.sl .own [.leaf]] [.lst 0 []] [] 0), (6, .val false [.sl .own [.leaf]] [.lst 0 []] [] 0), (7, .val false [.sl .own [.leaf]] [.lst 0 []] [] 0), (9, .val false [.sl .own [.leaf]] [.lst 0 []] [] 0), (18, .val false [.sl .own [.leaf]] [.lst 0 []] [] 0), (19, .val false [.leaf] [.int .i64 0] [] 0), (20, .val false [.sl .own [.leaf]] [.lst 0 []] [] 0), (21, .val false [.leaf] [.int .i64 0] [] 0)], 0⟩
def f8_l_FnFolds.l1.A : Alt (Nat × List T × Nat × List T × Nat × List T × Nat × List T × Nat × List T × Nat × List T × Int × Nat × List T) := .one (.exit 2) ⟨[(0, .val false [.sl .shr [.leaf]] [.lst 0 []] [] 0), (5, .val false [.sl .own [.leaf]] [.lst 0 []] [] 0), (6, .val false [.sl .own [.leaf]] [.lst 0 []] [] 0), (7, .val false [.sl .own [.leaf]] [.lst 0 []] [] 0), (9, .val false [.sl .own [.leaf]] [.lst 0 []] [] 0), (18, .val false [.sl .own [.leaf]] [.lst 0 []] [] 0), (19, .val false [.leaf] [.int .i64 0] [] 0), (20, .val false [.sl .own [.leaf]] [.lst 0 []] [] 0)], 0⟩ sg_llllllil
def f8_l_FnFolds.l1.F (n m : Nat) (v : Nat × List T × Nat × List T × Nat × List T × Nat × List T × Nat × List T × Nat × List T × Int × Nat × List T × Int) := f8_l_FnFolds.l1 n m v.1 v.2.1 v.2.2.1 v.2.2.2.1 v.2.2.2.2.1 v.2.2.2.2.2.1 v.2.2.2.2.2.2.1 v.2.2.2.2.2.2.2.1 v.2.2.2.2.2.2.2.2.1 v.2.2.2.2.2.2.2.2.2.1 v.2.2.2.2.2.2.2.2.2.2.1 v.2.2.2.2.2.2.2.2.2.2.2.1 v.2.2.2.2.2.2.2.2.2.2.2.2.1 v.2.2.2.2.2.2.2.2.2.2.2.2.2.1 v.2.2.2.2.2.2.2.2.2.2.2.2.2.2.1 v.2.2.2.2.2.2.2.2.2.2.2.2.2.2.2
def f8_l_FnFolds.l1.W (n : Nat) : LpW := .of 288 f8_l_FnFolds.l1.P sg_llllllili f8_l_FnFolds.l1.A (f8_l_FnFolds.l1.F n n)
def f8_l_FnFolds.l0.P : AS := ⟨[(0, .val false [.sl .shr [.leaf]] [.lst 0 []] [] 0), (5, .val false [.sl .own [.leaf]] [.lst 0 []] [] 0), (6, .val false [.sl .own [.leaf]] [.lst 0 []] [] 0), (7, .val false [.sl .own [.leaf]] [.lst 0 []] [] 0), (9, .val false [.sl .own [.leaf]] [.lst 0 []] [] 0), (18, .val false [.sl .own [.leaf]] [.lst 0 []] [] 0), (19, .val false [.leaf] [.int .i64 0] [] 0)], 0⟩
def f8_l_FnFolds.l0.A : Alt ((Bool) ⊕ (Nat × List T × Nat × List T × Nat × List T × Nat × List T)) := .or (.one .ret ⟨[(0, .dead), (4, .val false [.leaf] [.bool false] [] 0), (5, .dead), (6, .dead), (7, .dead)], 0⟩ sg_b) (.one (.exit 0) ⟨[(0, .val false [.sl .shr [.leaf]] [.lst 0 []] [] 0), (4, .dead), (5, .val false [.sl .own [.leaf]] [.lst 0 []] [] 0), (6, .val false [.sl .own [.leaf]] [.lst 0 []] [] 0), (7, .val false [.sl .own [.leaf]] [.lst 0 []] [] 0)], 0⟩ sg_llll)
def f8_l_FnFolds.l0.F (n m : Nat) (v : Nat × List T × Nat × List T × Nat × List T × Nat × List T × Nat × List T × Nat × List T × Int) := f8_l_FnFolds.l0 n m v.1 v.2.1 v.2.2.1 v.2.2.2.1 v.2.2.2.2.1 v.2.2.2.2.2.1 v.2.2.2.2.2.2.1 v.2.2.2.2.2.2.2.1 v.2.2.2.2.2.2.2.2.1 v.2.2.2.2.2.2.2.2.2.1 v.2.2.2.2.2.2.2.2.2.2.1 v.2.2.2.2.2.2.2.2.2.2.2.1 v.2.2.2.2.2.2.2.2.2.2.2.2
def f8_l_FnFolds.l0.W (n : Nat) : LpW := .of 224 f8_l_FnFolds.l0.P sg_lllllli f8_l_FnFolds.l0.A (f8_l_FnFolds.l0.F n n)
def f8_l_FnFolds.P : List Arg := [⟨.val, ⟨false, [.sl .shr [.leaf]], [.lst 0 []]⟩⟩, ⟨.val, ⟨false, [.sl .shr [.leaf]], [.lst 0 []]⟩⟩]
def f8_l_FnFolds.A : RAlt (Bool) := .one ⟨[⟨false, [.leaf], [.bool false]⟩], [none, none]⟩ sg_b
def f8_l_FnFolds.F (n : Nat) (v : Nat × List T × Nat × List T) := f8_l_FnFolds n v.1 v.2.1 v.2.2.1 v.2.2.2
noncomputable def f8_l_FnFolds.O (n : Nat) : Orc := orcOf (E := E) [f27_l_r8Long.w, f28_l_r8At.w, f44_s_R8Plain.w, f30_s_R8Samples.w, f45_i_FoldTaps.w, f33_i_SameNumber.w, f32_l_r8Same.w, f46_i_DotNumbers.w, f47_i_SpreadBy.w, f48_i_PickBy.w, f49_i_RaiseBy.w, f50_i_LowerBy.w] [f8_l_FnFolds.l1.W n, f8_l_FnFolds.l0.W n] n
theorem f8_l_FnFolds.l1.ok (n : Nat) : LpOk (f8_l_FnFolds.O n) E (evalFn E n) n (keepAt 8) (.loop (loopAt c8 1)) :=
  lp_pure f8_l_FnFolds.l1.P sg_llllllili f8_l_FnFolds.l1.A (f8_l_FnFolds.l1.F n) (orcOf_cf _ _ n) (lpOk_of (bs := []) (by kernel_rfl) .nil) (fun _ => rfl) (fun _ _ => by kernel_rfl) (fun _ _ _ => by kernel_rfl)
theorem f8_l_FnFolds.l0.ok (n : Nat) : LpOk (f8_l_FnFolds.O n) E (evalFn E n) n (keepAt 8) (.loop (loopAt c8 0)) :=
  lp_pure f8_l_FnFolds.l0.P sg_lllllli f8_l_FnFolds.l0.A (f8_l_FnFolds.l0.F n) (orcOf_cf _ _ n) (lpOk_of (bs := [loopAt c8 1]) (by kernel_rfl) (.cons (f8_l_FnFolds.l1.ok n) .nil)) (fun _ => rfl) (fun _ _ => by kernel_rfl) (fun _ _ _ => by kernel_rfl)
theorem f8_l_FnFolds.ok : ∀ n v x, f8_l_FnFolds.F n v = some x → evalFn E n 8 (flAs f8_l_FnFolds.P (sg_ll.pk v)) = some (f8_l_FnFolds.A.enc x) :=
  fn_pure (modes := (fdAt 8).ms) (outs := (fdAt 8).os) (results := (fdAt 8).rs) f8_l_FnFolds.O (c := c8) (keep := keepAt 8) (by kernel_rfl) (fun n => orcOf_cf _ _ n) (fun n => lpOk_of (bs := [loopAt c8 0]) (by kernel_rfl) (.cons (f8_l_FnFolds.l0.ok n) .nil)) (fun _ => rfl) (fun _ _ => by kernel_rfl)
noncomputable def f8_l_FnFolds.w : FnW E := fnW 8 f8_l_FnFolds.P sg_ll f8_l_FnFolds.A f8_l_FnFolds.F f8_l_FnFolds.ok
end Go.Proofs.Ytdejjalkfekjiaa.D
end
section
/- FnFolds, in plain Lean. -/
namespace Go.Proofs.Ytdejjalkfekjiaa.D
open Go Go.Desk
set_option linter.unusedVariables false
theorem s_from (n l : Nat) (c : List T) : f75_s_l00From (n + 1) l c = some (l, c, 0, 0) := by rw [f75_s_l00From]
theorem s_next (n : Nat) {bs : List Int} (hb : Bytes bs) {a : Int} (h0 : 0 ≤ a) (h1 : a ≤ 1125899906842624) (sd : Int) :
    ∃ r sd', (0 ≤ r ∧ r ≤ 255) ∧ f128_s_l00Srcnext (n + 1) bs.length (its .u8 bs) a sd = some (r, bs.length, its .u8 bs, a + 1, sd') := by
  rw [f128_s_l00Srcnext]
  rw [show IntKind.i64.wrap (a + 1) = a + 1 by rw [wrap64] <;> omega]
  cases h : decide (a < (bs.length : Int))
  · simp only [br_f]
    cases decide (a + 1 ≤ (bs.length : Int))
    · exact ⟨_, _, and255 _, rfl⟩
    · exact ⟨0, _, by omega, rfl⟩
  · simp only [decide_eq_true_eq] at h
    obtain ⟨i, rfl⟩ := Int.eq_ofNat_of_zero_le h0
    have hi : i < bs.length := by omega
    have hr := hb (bs[i]) (List.getElem_mem _)
    simp only [br_t, in_dec hi, Int.toNat_natCast, okAt_its hi, Bool.and_self, gd_t, iAt_its]
    rw [show bs.getD i 0 = bs[i] by simp [List.getD, hi], show IntKind.i64.wrap bs[i] = bs[i] by rw [wrap64] <;> omega]
    cases decide ((i : Int) + 1 ≤ (bs.length : Int))
    · exact ⟨_, _, and255 _, rfl⟩
    · exact ⟨_, _, hr, rfl⟩
theorem s_pick (n : Nat) {bs : List Int} (hb : Bytes bs) {a : Int} (h0 : 0 ≤ a) (h1 : a ≤ 1125899906842622) (sd k : Int) :
    ∃ r a' sd', (0 ≤ r ∧ (1 < k → r < k) ∧ (k ≤ 1 → r = 0)) ∧ (a ≤ a' ∧ a' ≤ a + 2) ∧ f76_s_l00Srcpick (n + 2) bs.length (its .u8 bs) a sd k = some (r, bs.length, its .u8 bs, a', sd') := by
  rw [f76_s_l00Srcpick]
  by_cases hk : k ≤ 1
  · rw [decide_eq_true hk]; exact ⟨0, a, sd, by omega, by omega, rfl⟩
  rw [decide_eq_false hk]
  obtain ⟨r, s1, hr, e1⟩ := s_next n hb h0 (by omega) sd
  simp only [br_f, e1, bd_s]
  have hk0 : (!decide (k = 0)) = true := by simp; omega
  by_cases hk2 : k > 200
  · rw [decide_eq_true hk2]
    obtain ⟨r', s2, hr', e2⟩ := s_next n hb (a := a + 1) (by omega) (by omega) s1
    simp only [br_t, e2, bd_s, hk0, gd_t]
    rw [show IntKind.i64.wrap (r * 256) = r * 256 by rw [wrap64] <;> omega, show IntKind.i64.wrap (r * 256 + r') = r * 256 + r' by rw [wrap64] <;> omega]
    refine ⟨_, _, _, ?_, ?_, rfl⟩
    · rw [Int.tmod_eq_emod_of_nonneg (by omega)]
      have := Int.emod_nonneg (r * 256 + r') (show k ≠ 0 by omega)
      have := Int.emod_lt_of_pos (r * 256 + r') (show 0 < k by omega)
      omega
    · omega
  · rw [decide_eq_false hk2]
    simp only [br_f, hk0, gd_t]
    refine ⟨_, _, _, ?_, ?_, rfl⟩
    · rw [Int.tmod_eq_emod_of_nonneg (by omega)]
      have := Int.emod_nonneg r (show k ≠ 0 by omega)
      have := Int.emod_lt_of_pos r (show 0 < k by omega)
      omega
    · omega
theorem s_one (n : Nat) {bs : List Int} (hb : Bytes bs) {a : Int} (h0 : 0 ≤ a) (h1 : a ≤ 1125899906842622) (sd k : Int) :
    ∃ r a' sd', (a ≤ a' ∧ a' ≤ a + 2) ∧ f129_s_l00Srcone (n + 3) bs.length (its .u8 bs) a sd k = some (r, bs.length, its .u8 bs, a', sd') := by
  obtain ⟨r, a', s', -, ha, e⟩ := s_pick n hb h0 h1 sd k
  rw [f129_s_l00Srcone, e]
  exact ⟨_, _, _, ha, rfl⟩
theorem s_plain (n : Nat) {bs : List Int} (hb : Bytes bs) {a : Int} (h0 : 0 ≤ a) (h1 : a ≤ 1125899906842620) (sd : Int) :
    ∃ x a' sd', Plain x ∧ (a ≤ a' ∧ a' ≤ a + 4) ∧ f77_s_l01DrawPlain (n + 4) bs.length (its .u8 bs) a sd = some (x, bs.length, its .u8 bs, a', sd') := by
  obtain ⟨r, a1, s1, hr, ha, e⟩ := s_pick (n + 1) hb h0 (by omega) sd 129
  obtain ⟨b, a2, s2, ha2, e2⟩ := s_one n hb (a := a1) (by omega) (by omega) s1 4
  rw [f77_s_l01DrawPlain, e]
  simp only [bd_s, e2]
  rw [show IntKind.i64.wrap (r - 64) = r - 64 by rw [wrap64] <;> omega]
  cases b
  · exact ⟨_, a2, s2, ⟨r - 64, by omega, .inr rfl⟩, by omega, rfl⟩
  · exact ⟨_, a2, s2, ⟨r - 64, by omega, .inl rfl⟩, by omega, rfl⟩
theorem s_among (n : Nat) {bs : List Int} (hb : Bytes bs) {a : Int} (h0 : 0 ≤ a) (h1 : a ≤ 1125899906842622) (sd : Int) (L : List Int) (hL : 0 < L.length) :
    ∃ r a' sd', r ∈ L ∧ (a ≤ a' ∧ a' ≤ a + 2) ∧ f132_s_l00Srcamong (n + 3) bs.length (its .u8 bs) a sd L.length (its .i64 L) = some (r, bs.length, its .u8 bs, a', sd', L.length, its .i64 L) := by
  obtain ⟨r, a1, s1, hr, ha, e⟩ := s_pick n hb h0 h1 sd (L.length : Int)
  rw [f132_s_l00Srcamong, e]
  obtain ⟨i, rfl⟩ := Int.eq_ofNat_of_zero_le hr.1
  have hi : i < L.length := by
    by_cases h : (L.length : Int) ≤ 1
    · have := hr.2.2 h; omega
    · have := hr.2.1 (by omega); omega
  simp only [bd_s, in_dec hi, Int.toNat_natCast, okAt_its hi, Bool.and_self, gd_t, iAt_its]
  refine ⟨_, _, _, ?_, ha, rfl⟩
  rw [show L.getD i 0 = L[i] by simp [List.getD, hi]]
  exact List.getElem_mem _
theorem s_from32 (n : Nat) {i : Int} (h0 : 0 ≤ i) (h1 : i < 4294967296) : ∃ x, W32 x ∧ f131_s_l01From (n + 2) i = some x := by
  rw [f131_s_l01From]
  refine ⟨canon .f32 i.toNat, w32_canon (by omega), ?_⟩
  rw [u32_wrap h0 h1]
  show bd (if 0 ≤ i then some (canon .f32 i.toNat) else none) _ = _
  rw [if_pos h0]; rfl
theorem s_float (n : Nat) {bs : List Int} (hb : Bytes bs) {a : Int} (h0 : 0 ≤ a) (h1 : a ≤ 1125899906842600) (sd : Int) :
    ∃ x a' sd', W32 x ∧ (a ≤ a' ∧ a' ≤ a + 16) ∧ f99_s_l01DrawFloat (n + 5) bs.length (its .u8 bs) a sd = some (x, bs.length, its .u8 bs, a', sd') := by
  obtain ⟨b, a1, s1, ha1, e1⟩ := s_one (n + 1) hb h0 (by omega) sd 12
  rw [f99_s_l01DrawFloat, e1]
  simp only [bd_s, br_not]
  cases b
  · obtain ⟨x, a2, s2, hx, ha2, e2⟩ := s_plain n hb (a := a1) (by omega) (by omega) s1
    simp only [br_f, e2, bd_s]
    exact ⟨_, _, _, hx.w32, by omega, rfl⟩
  obtain ⟨q, a2, s2, -, ha2, e2⟩ := s_pick (n + 2) hb (a := a1) (by omega) (by omega) s1 4
  simp only [br_t, e2, bd_s]
  cases q == 0
  case true =>
    obtain ⟨r, a3, s3, hr, ha3, e3⟩ := s_among (n + 1) hb (a := a2) (by omega) (by omega) s2 [0, 2147483648, 2139095040, 4286578688, 2143289344, 1, 2139095039, 8388608, 8388607, 2147483649] (by decide)
    have hr' : 0 ≤ r ∧ r < 4294967296 := by simp only [List.mem_cons, List.not_mem_nil, or_false] at hr; omega
    obtain ⟨x, hx, e4⟩ := s_from32 (n + 2) hr'.1 hr'.2
    rw [br_t]
    refine ⟨x, a3, s3, hx, by omega, ?_⟩
    refine Eq.trans (congrArg (fun o => bd o _) e3) ?_
    simp only [bd_s, e4]
  cases q == 1
  case true =>
    obtain ⟨r, a3, s3, hr, ha3, e3⟩ := s_pick (n + 2) hb (a := a2) (by omega) (by omega) s2 65536
    obtain ⟨r', a4, s4, hr', ha4, e4⟩ := s_pick (n + 2) hb (a := a3) (by omega) (by omega) s3 65536
    obtain ⟨x, hx, e5⟩ := s_from32 (n + 2) (i := r * 65536 + r') (by omega) (by omega)
    simp only [br_f, br_t, e3, e4, bd_s]
    rw [show IntKind.i64.wrap (r * 65536) = r * 65536 by rw [wrap64] <;> omega, show IntKind.i64.wrap (r * 65536 + r') = r * 65536 + r' by rw [wrap64] <;> omega, e5]
    exact ⟨x, _, _, hx, by omega, rfl⟩
  cases q == 2
  case true =>
    obtain ⟨r, a3, s3, hr, ha3, e3⟩ := s_pick (n + 2) hb (a := a2) (by omega) (by omega) s2 65536
    obtain ⟨x, hx, e5⟩ := s_from32 (n + 2) (i := r * 65536) (by omega) (by omega)
    simp only [br_f, br_t, e3, bd_s]
    rw [show IntKind.i64.wrap (r * 65536) = r * 65536 by rw [wrap64] <;> omega, e5]
    exact ⟨x, _, _, hx, by omega, rfl⟩
  obtain ⟨x, a3, s3, hx, ha3, e3⟩ := s_plain n hb (a := a2) (by omega) (by omega) s2
  obtain ⟨r, a4, s4, hr, ha4, e4⟩ := s_among (n + 1) hb (a := a3) (by omega) (by omega) s3 [8388608, 2130706432, 1610612736, 536870912] (by decide)
  have hr' : 0 ≤ r ∧ r < 4294967296 := by simp only [List.mem_cons, List.not_mem_nil, or_false] at hr; omega
  obtain ⟨y, hy, e5⟩ := s_from32 (n + 2) hr'.1 hr'.2
  simp only [br_f, e3, bd_s]
  refine ⟨_, a4, s4, w32_fmul x y, by omega, ?_⟩
  refine Eq.trans (congrArg (fun o => bd o _) e4) ?_
  simp only [bd_s, e5]
theorem s_floats_loop (n : Nat) {bs : List Int} (hb : Bytes bs) (str : Bool) : ∀ (j m : Nat) (a sd : Int) (acc : List Nat), 0 ≤ a → a + 16 * (j : Int) ≤ 1125899906842000 → acc.length + j ≤ 2147483647 → j < m → (∀ x ∈ acc, W32 x) →
    ∃ ys a' sd', ys.length = acc.length + j ∧ (∀ x ∈ ys, W32 x) ∧ (a ≤ a' ∧ a' ≤ a + 16 * (j : Int)) ∧
      f81_s_l01DrawFloats.l0 (n + 5) m bs.length (its .u8 bs) a sd (j : Int) acc.length (fls .f32 acc) str = some (bs.length, its .u8 bs, a', sd', ys.length, fls .f32 ys) := by
  intro j
  induction j with
  | zero =>
    intro m a sd acc h0 h1 hl hm hw
    obtain ⟨m, rfl⟩ : ∃ k, m = k + 1 := ⟨m - 1, by omega⟩
    rw [f81_s_l01DrawFloats.l0]
    exact ⟨acc, a, sd, by omega, hw, by omega, rfl⟩
  | succ j ih =>
    intro m a sd acc h0 h1 hl hm hw
    obtain ⟨m, rfl⟩ : ∃ k, m = k + 1 := ⟨m - 1, by omega⟩
    rw [f81_s_l01DrawFloats.l0, decide_eq_true (show (((j + 1 : Nat) : Int) > 0) by omega), show IntKind.i64.wrap (((j + 1 : Nat) : Int) - 1) = (j : Int) by rw [wrap64] <;> omega]
    have key : ∀ x a1 s1, W32 x → a ≤ a1 → a1 ≤ a + 16 → ∃ ys a' sd', ys.length = acc.length + (j + 1) ∧ (∀ x ∈ ys, W32 x) ∧ (a ≤ a' ∧ a' ≤ a + 16 * ((j + 1 : Nat) : Int)) ∧
        f81_s_l01DrawFloats.l0 (n + 5) m bs.length (its .u8 bs) a1 s1 (j : Int) (acc ++ [x]).length (fls .f32 (acc ++ [x])) str = some (bs.length, its .u8 bs, a', sd', ys.length, fls .f32 ys) := by
      intro x a1 s1 hx h2 h3
      obtain ⟨ys, a', sd', hy, hyw, ha, e⟩ := ih m a1 s1 (acc ++ [x]) (by omega) (by omega) (by simp; omega) (by omega) (by
        intro y hy; simp only [List.mem_append, List.mem_singleton] at hy; rcases hy with hy | rfl
        · exact hw y hy
        · exact hx)
      exact ⟨ys, a', sd', by simp at hy; omega, hyw, by omega, e⟩
    simp only [br_t]
    cases str
    · obtain ⟨x, a1, s1, hx, ha, e⟩ := s_plain (n + 1) hb h0 (by omega) sd
      simp only [br_f, e, bd_s, push_ok (show acc.length < 2147483648 by omega), gd_t, push_fls]
      rw [show acc.length + 1 = (acc ++ [x]).length by simp]
      exact key x a1 s1 hx.w32 (by omega) (by omega)
    · obtain ⟨x, a1, s1, hx, ha, e⟩ := s_float n hb h0 (by omega) sd
      simp only [br_t, e, bd_s, push_ok (show acc.length < 2147483648 by omega), gd_t, push_fls]
      rw [show acc.length + 1 = (acc ++ [x]).length by simp]
      exact key x a1 s1 hx (by omega) (by omega)
theorem s_floats (n : Nat) {bs : List Int} (hb : Bytes bs) {a : Int} (h0 : 0 ≤ a) (j : Nat) (h1 : a + 16 * (j : Int) ≤ 1125899906841000) (hj : j ≤ 2147483647) (hn : j < n) (sd : Int) :
    ∃ ys a' sd', ys.length = j ∧ (∀ x ∈ ys, W32 x) ∧ (a ≤ a' ∧ a' ≤ a + 2 + 16 * (j : Int)) ∧ f81_s_l01DrawFloats (n + 6) bs.length (its .u8 bs) a sd (j : Int) = some (ys.length, fls .f32 ys, bs.length, its .u8 bs, a', sd') := by
  obtain ⟨b, a1, s1, ha1, e1⟩ := s_one (n + 2) hb h0 (by omega) sd 4
  obtain ⟨ys, a2, s2, hy, hw, ha2, e2⟩ := s_floats_loop n hb b j (n + 5) a1 s1 [] (by omega) (by omega) (by simp; omega) (by omega) (by simp)
  rw [f81_s_l01DrawFloats, e1]
  refine ⟨ys, a2, s2, by simpa using hy, hw, by omega, ?_⟩
  have e2 : f81_s_l01DrawFloats.l0 (n + 5) (n + 5) bs.length (its .u8 bs) a1 s1 (j : Int) 0 (reps 0 [(T.flt FloatKind.f32 0)]) b = some (bs.length, its .u8 bs, a2, s2, ys.length, fls .f32 ys) := e2
  simp only [bd_s, e2]
theorem s_r8samples (n : Nat) {bs : List Int} (hb : Bytes bs) (k : Nat) (hk : k ≤ 1000) (hn : k < n) : ∃ xs, xs.length ≤ k ∧ (∀ x ∈ xs, W32 x) ∧ f30_s_R8Samples (n + 7) bs.length (its .u8 bs) (k : Int) = some (xs.length, fls .f32 xs) := by
  obtain ⟨r, a1, s1, hr, ha1, e1⟩ := s_pick (n + 4) hb (a := 0) (by omega) (by omega) 0 ((k : Int) + 1)
  obtain ⟨j, rfl⟩ := Int.eq_ofNat_of_zero_le hr.1
  have hj : j ≤ k := by omega
  obtain ⟨ys, a2, s2, hy, hw, ha2, e2⟩ := s_floats n hb (a := a1) (by omega) j (by omega) (by omega) (by omega) s1
  rw [f30_s_R8Samples, s_from, show IntKind.i64.wrap ((k : Int) + 1) = (k : Int) + 1 by rw [wrap64] <;> omega]
  simp only [bd_s, e1, e2]
  exact ⟨ys, by omega, hw, rfl⟩
theorem s_r8plain_loop (n : Nat) {bs : List Int} (hb : Bytes bs) (k : Nat) : ∀ (j m : Nat) (a sd : Int) (acc : List Nat), 0 ≤ a → a + 4 * (j : Int) ≤ 1125899906842000 → k = acc.length + j → k ≤ 1000 → j < m → (∀ x ∈ acc, Plain x) →
    ∃ ys, ys.length = k ∧ (∀ x ∈ ys, Plain x) ∧
      (∃ u, f44_s_R8Plain.l0 (n + 4) m (k : Int) bs.length (its .u8 bs) a sd acc.length (fls .f32 acc) (acc.length : Int) = some u ∧ u = (ys.length, fls .f32 ys)) := by
  intro j
  induction j with
  | zero =>
    intro m a sd acc h0 h1 hl hk hm hw
    obtain ⟨m, rfl⟩ : ∃ k, m = k + 1 := ⟨m - 1, by omega⟩
    rw [f44_s_R8Plain.l0, decide_eq_false (show ¬ ((acc.length : Int) < (k : Int)) by omega)]
    exact ⟨acc, by omega, hw, _, rfl, rfl⟩
  | succ j ih =>
    intro m a sd acc h0 h1 hl hk hm hw
    obtain ⟨m, rfl⟩ : ∃ k, m = k + 1 := ⟨m - 1, by omega⟩
    obtain ⟨x, a1, s1, hx, ha, e⟩ := s_plain n hb h0 (by omega) sd
    rw [f44_s_R8Plain.l0, decide_eq_true (show ((acc.length : Int) < (k : Int)) by omega)]
    simp only [br_t, e, bd_s, push_ok (show acc.length < 2147483648 by omega), gd_t, push_fls]
    rw [wrap_len (z := x) (by omega), show acc.length + 1 = (acc ++ [x]).length by simp]
    exact ih m a1 s1 (acc ++ [x]) (by omega) (by omega) (by simp; omega) hk (by omega) (by
        intro y hy; simp only [List.mem_append, List.mem_singleton] at hy; rcases hy with hy | rfl
        · exact hw y hy
        · exact hx)
theorem s_r8plain (n : Nat) {bs : List Int} (hb : Bytes bs) (k : Nat) (hk : k ≤ 1000) (hn : k < n) : ∃ xs, xs.length = k ∧ (∀ x ∈ xs, Plain x) ∧ f44_s_R8Plain (n + 5) bs.length (its .u8 bs) (k : Int) = some (xs.length, fls .f32 xs) := by
  obtain ⟨ys, hy, hw, u, e, rfl⟩ := s_r8plain_loop n hb k k (n + 4) 0 0 [] (by omega) (by omega) (by simp) hk (by omega) (by simp)
  rw [f44_s_R8Plain, s_from]
  have e : f44_s_R8Plain.l0 (n + 4) (n + 4) (k : Int) bs.length (its .u8 bs) 0 0 0 (reps 0 [(T.flt FloatKind.f32 0)]) 0 = some (ys.length, fls .f32 ys) := e
  refine ⟨ys, hy, hw, ?_⟩
  simp only [bd_s, e]

theorem l_long (n : Nat) (bs cs : List Int) : f27_l_r8Long (n + 1) bs.length (its .u8 bs) cs.length (its .u8 cs) = some (decide (48 < bs.length ∨ 48 < cs.length)) := by
  rw [f27_l_r8Long]
  by_cases h : 48 < bs.length
  · rw [decide_eq_true (show (bs.length : Int) > 48 by omega), decide_eq_true (Or.inl h)]; rfl
  · rw [decide_eq_false (show ¬ (bs.length : Int) > 48 by omega), br_f]
    congr 1
    simp [h]; omega
theorem l_at (n : Nat) {bs : List Int} (hb : Bytes bs) {i k : Int} (hi : 0 ≤ i) (hk : 1 ≤ k) : ∃ r, (0 ≤ r ∧ r < k) ∧ f28_l_r8At (n + 1) bs.length (its .u8 bs) i k = some r := by
  rw [f28_l_r8At]
  by_cases h : k ≤ 1
  · rw [decide_eq_true h]; exact ⟨0, by omega, rfl⟩
  rw [decide_eq_false h]
  by_cases h2 : i ≥ (bs.length : Int)
  · rw [decide_eq_true h2]; exact ⟨0, by omega, rfl⟩
  rw [decide_eq_false h2]
  obtain ⟨i, rfl⟩ := Int.eq_ofNat_of_zero_le hi
  have hi : i < bs.length := by omega
  have hr := hb (bs[i]) (List.getElem_mem _)
  have hk0 : (!decide (k = 0)) = true := by simp; omega
  simp only [br_f, in_dec hi, Int.toNat_natCast, okAt_its hi, Bool.and_self, gd_t, iAt_its, hk0]
  rw [show bs.getD i 0 = bs[i] by simp [List.getD, hi], show IntKind.i64.wrap bs[i] = bs[i] by rw [wrap64] <;> omega]
  refine ⟨_, ?_, rfl⟩
  rw [Int.tmod_eq_emod_of_nonneg (by omega)]
  have := Int.emod_nonneg bs[i] (show k ≠ 0 by omega)
  have := Int.emod_lt_of_pos bs[i] (show 0 < k by omega)
  omega
theorem i_same (n : Nat) {x y : Nat} (hx : W32 x) (hy : W32 y) : f33_i_SameNumber (n + 2) x y = some (x == y) := by
  rw [f33_i_SameNumber]
  simp only [fne_nan]
  cases hn : isNaN .f32 x
  · cases hm : isNaN .f32 y
    · simp only [br_f]
      have e1 : ∀ z, isNaN .f32 z = false → xF32bits (n + 1) z = some (z : Int) := fun z hz => by simp [xF32bits, hz]
      simp only [e1 x hn, e1 y hm, bd_s, Option.some.injEq]
      rw [Bool.eq_iff_iff]; simp; constructor <;> omega
    · simp only [br_f, br_t]
      have : x ≠ y := fun e => by rw [e, hm] at hn; cases hn
      simp [this]
  · cases hm : isNaN .f32 y
    · simp only [br_f, br_t]
      have : x ≠ y := fun e => by rw [e, hm] at hn; cases hn
      simp [this]
    · simp only [br_t]
      have : x = y := by rw [← hx.2, ← hy.2, canon_nan hn, canon_nan hm]
      simp [this]
theorem l_same_loop (n : Nat) : ∀ (zs ys p q : List Nat) (m : Nat), ys.length = zs.length → p.length = q.length → (∀ x ∈ zs, W32 x) → (∀ x ∈ ys, W32 x) → p.length + zs.length ≤ 1048576 → zs.length < m →
    f32_l_r8Same.l0 (n + 2) m (p ++ zs).length (fls .f32 (p ++ zs)) (q ++ ys).length (fls .f32 (q ++ ys)) (p.length : Int) = some (if zs = ys then .inr () else .inl false) := by
  intro zs
  induction zs with
  | nil =>
    intro ys p q m hl hpq _ _ _ hm
    obtain ⟨m, rfl⟩ : ∃ k, m = k + 1 := ⟨m - 1, by omega⟩
    obtain rfl : ys = [] := List.length_eq_zero_iff.1 (by simpa using hl)
    rw [f32_l_r8Same.l0, lt_end]
    rfl
  | cons z zs ih =>
    intro ys p q m hl hpq hz hy hb hm
    obtain ⟨m, rfl⟩ : ∃ k, m = k + 1 := ⟨m - 1, by omega⟩
    cases ys with
    | nil => simp at hl
    | cons y ys =>
      rw [f32_l_r8Same.l0, lt_mid, in_mid]
      simp only [hpq, in_mid, toNat_len, okAt_mid]
      rw [← hpq]
      simp only [okAt_mid, fAt_mid, Bool.and_self, gd_t, br_t]
      rw [hpq]
      simp only [fAt_mid]
      rw [i_same n (hz z (by simp)) (hy y (by simp)), ← hpq]
      simp only [bd_s, br_not]
      cases h : z == y
      · simp only [beq_eq_false_iff_ne, ne_eq] at h
        simp [br_f, h]
      · simp only [beq_iff_eq] at h
        subst h
        rw [br_t, wrap_len (z := z) (by simp at hb; omega)]
        have := ih ys (p ++ [z]) (q ++ [z]) m (by simpa using hl) (by simp [hpq]) (fun x hx => hz x (by simp [hx])) (fun x hx => hy x (by simp [hx])) (by simp at hb ⊢; omega) (by simp at hm; omega)
        simpa using this
/-- two lists of numbers -/
theorem l_same (n : Nat) (xs ys : List Nat) (hx : ∀ x ∈ xs, W32 x) (hy : ∀ x ∈ ys, W32 x) (hl : xs.length ≤ 1048576) (hn : xs.length < n) : f32_l_r8Same (n + 3) xs.length (fls .f32 xs) ys.length (fls .f32 ys) = some (decide (xs = ys)) := by
  rw [f32_l_r8Same]
  by_cases h : ys.length = xs.length
  · rw [show (((xs.length : Nat) : Int) != ((ys.length : Nat) : Int)) = false by simp [h], br_f]
    have := l_same_loop n xs ys [] [] (n + 2) h rfl hx hy (by simpa using hl) (by omega)
    simp only [List.nil_append, List.length_nil] at this
    rw [show ((0 : Nat) : Int) = 0 from rfl] at this
    rw [this, bd_s]
    by_cases e : xs = ys
    · rw [if_pos e, decide_eq_true e]; rfl
    · rw [if_neg e, decide_eq_false e]; rfl
  · rw [show (((xs.length : Nat) : Int) != ((ys.length : Nat) : Int)) = true by simp; omega, decide_eq_false (fun e => h (by rw [e]))]
    rfl

theorem i_few (n k : Nat) (l : List T) : f94_i_areSamples (n + 1) k l = some (decide ((k : Int) ≤ 256)) := by rw [f94_i_areSamples]

theorem i_in (n : Nat) (a b c : Int) : f83_i_within (n + 1) a b c = some (decide (b ≤ a ∧ a ≤ c)) := by
  rw [f83_i_within]
  by_cases h : b ≤ a <;> simp [br, h]

theorem i_copy (n : Nat) (xs : List Nat) (h : xs.length ≤ 2147483648) : f95_i_copyNumbers (n + 1) xs.length (fls .f32 xs) = some (xs.length, fls .f32 xs) := by
  rw [f95_i_copyNumbers, Nat.zero_add, le_ble h]; rfl
theorem i_sized (n : Nat) (x : Int) : f82_i_size (n + 1) x = some x := by rw [f82_i_size]

theorem i_dot_loop (n : Nat) (N : Nat) (cs : List T) : ∀ (zs ys p q : List Nat) (s m : Nat), ys.length = zs.length → q.length = p.length → p.length + zs.length < 1048576 → zs.length < m →
    f108_i_dot.l0 n m (p ++ zs).length (fls .f32 (p ++ zs)) (q ++ ys).length (fls .f32 (q ++ ys)) s ((p ++ zs).length : Int) (p.length : Int) = some (dotM s zs ys) := by
  intro zs
  induction zs with
  | nil =>
    intro ys p q s m _ _ _ hm
    obtain ⟨m, rfl⟩ : ∃ k, m = k + 1 := ⟨m - 1, by omega⟩
    rw [f108_i_dot.l0, lt_end]
    simp [br_f, dotM]
  | cons z zs ih =>
    intro ys p q s m hl hq hp hm
    obtain ⟨m, rfl⟩ : ∃ k, m = k + 1 := ⟨m - 1, by omega⟩
    cases ys with
    | nil => simp at hl
    | cons y ys =>
      have e1 : okAt [.flt .f32] (fls .f32 (q ++ y :: ys)) p.length = true := by rw [← hq]; exact okAt_mid
      have e2 : fAt (fls .f32 (q ++ y :: ys)) p.length = y := by rw [← hq]; exact fAt_mid
      have e3 : decide ((0 : Int) ≤ (p.length : Int) ∧ (p.length : Int) < ((q ++ y :: ys).length : Int)) = true := by rw [← hq]; exact in_mid
      rw [f108_i_dot.l0, lt_mid, in_mid, toNat_len, okAt_mid, fAt_mid, e1, e2, e3]
      have := ih ys (p ++ [z]) (q ++ [y]) (fadd .f32 s (fmul .f32 z y)) m (by simpa using hl) (by simp [hq]) (by simp at hp ⊢; omega) (by simp at hm; omega)
      simp only [br_t, gd_t, Bool.and_self, wrap_len (z := z) (show p.length < 4611686018427387904 by simp at hp; omega)]
      simpa [dotM] using this
theorem i_dotted (n : Nat) (xs ys : List Nat) (hl : ys.length = xs.length) (hx : xs.length < 1048576) (hn : xs.length < n) : f108_i_dot (n + 1) xs.length (fls .f32 xs) ys.length (fls .f32 ys) = some (dotM 0 xs ys) := by
  rw [f108_i_dot]
  have e := i_dot_loop n xs.length (fls .f32 xs) xs ys [] [] 0 n hl rfl (by simpa using hx) (by omega)
  have e : f108_i_dot.l0 n n xs.length (fls .f32 xs) ys.length (fls .f32 ys) 0 (xs.length : Int) 0 = some (dotM 0 xs ys) := e
  rw [e]; rfl
theorem i_dotnumbers (n : Nat) (xs ys : List Nat) (hl : ys.length = xs.length) (hx : xs.length ≤ 256) (hn : xs.length < n) : f46_i_DotNumbers (n + 2) xs.length (fls .f32 xs) ys.length (fls .f32 ys) = some (dotM 0 xs ys, true) := by
  rw [f46_i_DotNumbers, i_few, decide_eq_true (show (xs.length : Int) ≤ 256 by omega), show (((xs.length : Nat) : Int) != ((ys.length : Nat) : Int)) = false by simp [hl]]
  simp only [bd_s, br_not, br_t, br_f, i_dotted n xs ys hl (by omega) hn]
theorem i_zeroed (n k : Nat) (h : k ≤ 2147483648) : f93_i_zeros (n + 1) (k : Int) = some (k, fls .f32 (List.replicate k 0)) := by
  rw [f93_i_zeros, decide_eq_true (show (0 : Int) ≤ (k : Int) ∧ (k : Int) ≤ 2147483648 by omega), Int.toNat_natCast, reps_fls]; rfl
theorem i_aretaps (n k : Nat) (l : List T) : f106_i_areTaps (n + 2) k l = some (decide (1 ≤ (k : Int) ∧ (k : Int) ≤ 32)) := by
  rw [f106_i_areTaps, i_sized]
  simp only [bd_s, i_in]
theorem i_fold_loop1 (n : Nat) (N1 N2 N3 N5 : Nat) (c1 c2 c3 c5 : List T) (all : List Nat) (i : Nat) (hall : all.length ≤ 1048576) (hi : i ≤ 1048576) (hN : N2 ≤ 1048576) (hlt0 : N2 + i < all.length) (u v : Int) : ∀ (zs rs p : List Nat) (s m : Nat), rs.length = zs.length → (∀ j, j < rs.length → p.length + j ≤ N2 + i ∧ all.getD (N2 + i - (p.length + j)) 0 = rs.getD j 0) → p.length + zs.length < 1048576 → zs.length < m →
    f107_i_fold.l1 n m N1 c1 N2 c2 N3 c3 all.length (fls .f32 all) N5 c5 (i : Int) s u v (p ++ zs).length (fls .f32 (p ++ zs)) ((p ++ zs).length : Int) (p.length : Int) = some (N1, c1, N2, c2, N3, c3, all.length, fls .f32 all, N5, c5, dotM s zs rs, u, v) := by
  intro zs
  induction zs with
  | nil =>
    intro rs p s m _ _ _ hm
    obtain ⟨m, rfl⟩ : ∃ k, m = k + 1 := ⟨m - 1, by omega⟩
    rw [f107_i_fold.l1, lt_end]
    simp [br_f, dotM]
  | cons z zs ih =>
    intro rs p s m hl hr hp hm
    obtain ⟨m, rfl⟩ : ∃ k, m = k + 1 := ⟨m - 1, by omega⟩
    cases rs with
    | nil => simp at hl
    | cons r rs =>
      obtain ⟨h1, h2⟩ := hr 0 (by simp)
      rw [Nat.add_zero] at h1 h2
      have w1 : IntKind.i64.wrap ((N2 : Int) + (i : Int)) = (N2 : Int) + (i : Int) := by rw [wrap64] <;> omega
      have w2 : IntKind.i64.wrap ((N2 : Int) + (i : Int) - (p.length : Int)) = ((N2 + i - p.length : Nat) : Int) := by rw [wrap64] <;> omega
      have hlt : N2 + i - p.length < all.length := by omega
      rw [f107_i_fold.l1, lt_mid, in_mid, toNat_len, okAt_mid, fAt_mid]
      have := ih rs (p ++ [z]) (fadd .f32 s (fmul .f32 z r)) m (by simpa using hl) (fun j hj => by
        have := hr (j + 1) (by simp; omega)
        simp only [List.length_append, List.length_singleton, List.getD_cons_succ] at this ⊢
        rw [show p.length + 1 + j = p.length + (j + 1) by omega]; exact this) (by simp at hp ⊢; omega) (by simp at hm; omega)
      simp only [br_t, gd_t, Bool.and_self, w1, w2, in_dec hlt, Int.toNat_natCast, okAt_fls hlt, fAt_fls, h2, List.getD_cons_zero, wrap_len (z := z) (show p.length < 4611686018427387904 by simp at hp; omega)]
      simpa [dotM] using this
theorem i_fold_loop (n : Nat) (taps last : List Nat) (htl : taps.length = last.length + 1) (ht32 : taps.length ≤ 32) (hn : taps.length < n) (xs all : List Nat) (hall : all.length = last.length + xs.length) (hx : xs.length ≤ 256) : ∀ (zs w acc : List Nat) (i m : Nat), i + zs.length = xs.length → w.length = last.length → all.drop i = w ++ zs → acc.length = i → zs.length < m →
    f107_i_fold.l0 n m taps.length (fls .f32 taps) last.length (fls .f32 last) xs.length (fls .f32 xs) all.length (fls .f32 all) acc.length (fls .f32 acc) (xs.length : Int) (i : Int) =
      some (xs.length, fls .f32 xs, all.length, fls .f32 all, (acc ++ (scan (foldStep taps) w zs).1).length, fls .f32 (acc ++ (scan (foldStep taps) w zs).1)) := by
  intro zs
  induction zs with
  | nil =>
    intro w acc i m hi hw hd ha hm
    obtain ⟨m, rfl⟩ : ∃ k, m = k + 1 := ⟨m - 1, by omega⟩
    rw [f107_i_fold.l0, nlt_dec (by simp at hi; omega)]
    simp [br_f, scan]
  | cons z zs ih =>
    intro w acc i m hi hw hd ha hm
    obtain ⟨m, rfl⟩ : ∃ k, m = k + 1 := ⟨m - 1, by omega⟩
    have hi' : i < xs.length := by simp at hi; omega
    have hrl : ((w ++ [z]).reverse).length = taps.length := by simp [hw, htl]
    have e := i_fold_loop1 n taps.length last.length xs.length acc.length (fls .f32 taps) (fls .f32 last) (fls .f32 xs) (fls .f32 acc) all i (by omega) (by omega) (by omega) (by omega) (xs.length : Int) (i : Int) taps (w ++ [z]).reverse [] 0 n hrl (fun j hj => by
      rw [hrl] at hj
      refine ⟨by simp; omega, ?_⟩
      simp only [List.length_nil, Nat.zero_add]
      have h1 : all.getD (last.length + i - j) 0 = (all.drop i).getD (last.length - j) 0 := by
        simp only [List.getD, List.getElem?_drop]
        rw [show i + (last.length - j) = last.length + i - j by omega]
      rw [h1, hd, getD_mid (by omega)]
      simp only [List.getD]
      rw [List.getElem?_reverse (by simp; omega)]
      rw [show (w ++ [z]).length - 1 - j = last.length - j by simp; omega]) (by simp; omega) hn
    have e : f107_i_fold.l1 n n taps.length (fls .f32 taps) last.length (fls .f32 last) xs.length (fls .f32 xs) all.length (fls .f32 all) acc.length (fls .f32 acc) (i : Int) 0 (xs.length : Int) (i : Int) taps.length (fls .f32 taps) (taps.length : Int) 0 = _ := e
    rw [f107_i_fold.l0, lt_dec hi', e]
    simp only [br_t, bd_s, push_ok (show acc.length < 2147483648 by omega), gd_t, push_fls, wrap_succ (show i < 9223372036854775807 by omega)]
    rw [push_len (z := dotM 0 taps (w ++ [z]).reverse)]
    have hd' : all.drop (i + 1) = (w ++ [z]).drop 1 ++ zs := by
      rw [← List.drop_append_of_le_length (show 1 ≤ (w ++ [z]).length by simp), List.append_assoc, List.singleton_append, ← hd, List.drop_drop]
    have := ih ((w ++ [z]).drop 1) (acc ++ [dotM 0 taps (w ++ [z]).reverse]) (i + 1) m (by simp at hi; omega) (by simp [hw]) hd' (by simp [ha]) (by simp at hm; omega)
    simpa [scan, foldStep] using this
theorem i_folded (n : Nat) (taps last xs : List Nat) (htl : taps.length = last.length + 1) (ht32 : taps.length ≤ 32) (hx : xs.length ≤ 256) (hn : 300 < n) :
    f107_i_fold (n + 2) taps.length (fls .f32 taps) last.length (fls .f32 last) xs.length (fls .f32 xs) = some ((scan (foldStep taps) last xs).1.length, fls .f32 (scan (foldStep taps) last xs).1, (scan (foldStep taps) last xs).2.length, fls .f32 (scan (foldStep taps) last xs).2) := by
  have hlast := fold_line taps xs last
  rw [f107_i_fold, i_copy n last (by omega)]
  have e := i_fold_loop (n + 1) taps last htl ht32 (by omega) xs (last ++ xs) (by simp) hx xs last [] 0 (n + 1) (by simp) rfl rfl rfl (by omega)
  have e : f107_i_fold.l0 (n + 1) (n + 1) taps.length (fls .f32 taps) last.length (fls .f32 last) xs.length (fls .f32 xs) (last ++ xs).length (fls .f32 (last ++ xs)) 0 [] (xs.length : Int) 0 = some (xs.length, fls .f32 xs, (last ++ xs).length, fls .f32 (last ++ xs), (scan (foldStep taps) last xs).1.length, fls .f32 (scan (foldStep taps) last xs).1) := e
  have hl : (last ++ xs).length - xs.length = ((last ++ xs).drop xs.length).length := by simp
  simp only [bd_s, fls_append, ← List.length_append, e, le_ble (show (last ++ xs).length ≤ 2147483648 by simp; omega), gd_t]
  rw [decide_eq_true (show (0 : Int) ≤ (xs.length : Int) ∧ (xs.length : Int) ≤ ((last ++ xs).length : Int) ∧ ((last ++ xs).length : Int) ≤ ((last ++ xs).length : Int) by simp; omega), fls_drop, fls_take, hl, List.take_length]
  rw [i_copy n _ (by simp; omega), hlast]; rfl
theorem i_foldtaps (n : Nat) (taps last xs : List Nat) (htl : taps.length = last.length + 1) (ht32 : taps.length ≤ 32) (hx : xs.length ≤ 256) (hn : 300 < n) :
    f45_i_FoldTaps (n + 3) taps.length (fls .f32 taps) last.length (fls .f32 last) xs.length (fls .f32 xs) = some ((scan (foldStep taps) last xs).1.length, fls .f32 (scan (foldStep taps) last xs).1, (scan (foldStep taps) last xs).2.length, fls .f32 (scan (foldStep taps) last xs).2, true) := by
  rw [f45_i_FoldTaps, i_aretaps, i_few, decide_eq_true (show 1 ≤ (taps.length : Int) ∧ (taps.length : Int) ≤ 32 by omega), decide_eq_true (show (xs.length : Int) ≤ 256 by omega), show IntKind.i64.wrap ((taps.length : Int) - 1) = (last.length : Int) by rw [wrap64] <;> omega]
  simp only [bd_s, br_not, br_t, bne_self_eq_false, br_f, i_folded n taps last xs htl ht32 hx hn]
theorem i_factor (n : Nat) (k : Int) : f109_i_isFactor (n + 2) k = some (decide (1 ≤ k ∧ k ≤ 8)) := by rw [f109_i_isFactor, i_in]; rfl
theorem i_spread_loop (n : Nat) (f : Nat) (hf : 1 ≤ f ∧ f ≤ 8) (N : Nat) (cs : List T) : ∀ (zs p acc : List Nat) (m : Nat), acc.length + 8 * zs.length < 1048576 → p.length + zs.length < 1048576 → zs.length < m →
    f47_i_SpreadBy.l0 (n + 1) m (f : Int) N cs acc.length (fls .f32 acc) (p ++ zs).length (fls .f32 (p ++ zs)) ((p ++ zs).length : Int) (p.length : Int) = some ((acc ++ spreadM f zs).length, fls .f32 (acc ++ spreadM f zs)) := by
  intro zs
  induction zs with
  | nil =>
    intro p acc m _ _ hm
    obtain ⟨m, rfl⟩ : ∃ k, m = k + 1 := ⟨m - 1, by omega⟩
    rw [f47_i_SpreadBy.l0, lt_end]; simp [br_f, spreadM]
  | cons z zs ih =>
    intro p acc m ha hp hm
    obtain ⟨m, rfl⟩ : ∃ k, m = k + 1 := ⟨m - 1, by omega⟩
    have w1 : IntKind.i64.wrap ((f : Int) - 1) = ((f - 1 : Nat) : Int) := by rw [wrap64] <;> omega
    have ha' : acc.length < 1048576 := by simp at ha; omega
    rw [f47_i_SpreadBy.l0, lt_mid, in_mid, toNat_len, okAt_mid, fAt_mid, w1, i_zeroed n (f - 1) (by omega)]
    simp only [br_t, gd_t, Bool.and_self, bd_s, push_ok (show acc.length < 2147483648 by omega), push_fls, fls_append, le_ble (show acc.length + 1 + (f - 1) ≤ 2147483648 by omega), wrap_len (z := z) (show p.length < 4611686018427387904 by simp at hp; omega)]
    have := ih (p ++ [z]) (acc ++ [z] ++ List.replicate (f - 1) 0) m (by simp at ha ⊢; omega) (by simp at hp ⊢; omega) (by simp at hm; omega)
    have e : spreadM f (z :: zs) = z :: (List.replicate (f - 1) 0 ++ spreadM f zs) := by simp [spreadM]
    rw [e, show acc.length + 1 + (f - 1) = (acc ++ [z] ++ List.replicate (f - 1) 0).length by simp; omega]
    simpa using this
theorem i_spread (n : Nat) (f : Nat) (hf : 1 ≤ f ∧ f ≤ 8) (xs : List Nat) (hx : f * xs.length ≤ 256) (hn : 300 < n) : f47_i_SpreadBy (n + 2) (f : Int) xs.length (fls .f32 xs) = some ((spreadM f xs).length, fls .f32 (spreadM f xs), true) := by
  have hx2 : xs.length ≤ 256 := Nat.le_trans (Nat.le_mul_of_pos_left _ (by omega)) hx
  have e0 : (xs.length : Int) * (f : Int) = ((f * xs.length : Nat) : Int) := by rw [Nat.mul_comm]; simp
  rw [f47_i_SpreadBy, i_few, decide_eq_true (show (xs.length : Int) ≤ 256 by omega), i_sized]
  have e := i_spread_loop n f hf xs.length (fls .f32 xs) xs [] [] (n + 1) (by simp; omega) (by simp; omega) (by omega)
  have e : f47_i_SpreadBy.l0 (n + 1) (n + 1) (f : Int) xs.length (fls .f32 xs) 0 [] xs.length (fls .f32 xs) (xs.length : Int) 0 = some ((spreadM f xs).length, fls .f32 (spreadM f xs)) := e
  have hfac : f109_i_isFactor (n + 1) (f : Int) = some true := by
    obtain ⟨k, rfl⟩ : ∃ k, n = k + 1 := ⟨n - 1, by omega⟩
    rw [i_factor, decide_eq_true (show 1 ≤ (f : Int) ∧ (f : Int) ≤ 8 by omega)]
  rw [hfac]
  simp only [bd_s, br_not, br_t, e0]
  rw [show IntKind.i64.wrap ((f * xs.length : Nat) : Int) = ((f * xs.length : Nat) : Int) by rw [wrap64] <;> omega, decide_eq_false (show ¬ (((f * xs.length : Nat) : Int) > 256) by omega), br_f, e]; rfl
theorem i_pick_loop (n : Nat) (f : Nat) (hf : 1 ≤ f ∧ f ≤ 8) (xs : List Nat) (hx : xs.length ≤ 1048576) : ∀ (j i m : Nat) (acc : List Nat), xs.length ≤ i + j → i ≤ 2097152 → acc.length ≤ i → j < m →
    f48_i_PickBy.l0 (n + 1) m (f : Int) xs.length (fls .f32 xs) acc.length (fls .f32 acc) (i : Int) = some ((acc ++ pickN j f (xs.drop i)).length, fls .f32 (acc ++ pickN j f (xs.drop i))) := by
  intro j
  induction j with
  | zero =>
    intro i m acc hj hi ha hm
    obtain ⟨m, rfl⟩ : ∃ k, m = k + 1 := ⟨m - 1, by omega⟩
    rw [f48_i_PickBy.l0, i_sized]
    simp only [bd_s, nlt_dec (show xs.length ≤ i by omega), br_f, pickN, List.append_nil]
  | succ j ih =>
    intro i m acc hj hi ha hm
    obtain ⟨m, rfl⟩ : ∃ k, m = k + 1 := ⟨m - 1, by omega⟩
    rw [f48_i_PickBy.l0, i_sized]
    rcases Nat.lt_or_ge i xs.length with hlt | hge
    · have hd : xs.drop i = xs[i] :: xs.drop (i + 1) := (List.getElem_cons_drop hlt).symm
      simp only [bd_s, lt_dec hlt, br_t, in_dec hlt, Int.toNat_natCast, okAt_fls hlt, Bool.and_self, gd_t, fAt_fls, push_ok (show acc.length < 2147483648 by omega), push_fls]
      rw [show IntKind.i64.wrap ((i : Int) + (f : Int)) = ((i + f : Nat) : Int) by rw [wrap64] <;> omega, show xs.getD i 0 = xs[i] by simp [List.getD, hlt], push_len (z := xs[i]), ih (i + f) m (acc ++ [xs[i]]) (by omega) (by omega) (by simp; omega) (by omega), hd]
      simp only [pickN, List.drop_drop]
      rw [show i + 1 + (f - 1) = i + f by omega]
      simp
    · have hd : xs.drop i = [] := List.drop_eq_nil_of_le hge
      simp only [bd_s, nlt_dec hge, br_f, hd, pickN, List.append_nil]
theorem i_picked (n : Nat) (f : Nat) (hf : 1 ≤ f ∧ f ≤ 8) (xs : List Nat) (hx : xs.length ≤ 256) (hn : 300 < n) : f48_i_PickBy (n + 2) (f : Int) 0 xs.length (fls .f32 xs) = some ((pickN xs.length f xs).length, fls .f32 (pickN xs.length f xs), true) := by
  rw [f48_i_PickBy, i_few, decide_eq_true (show (xs.length : Int) ≤ 256 by omega), show IntKind.i64.wrap ((f : Int) - 1) = (f : Int) - 1 by rw [wrap64] <;> omega]
  have e := i_pick_loop n f hf xs (by omega) xs.length 0 (n + 1) [] (by omega) (by omega) (by simp) (by omega)
  have e : f48_i_PickBy.l0 (n + 1) (n + 1) (f : Int) xs.length (fls .f32 xs) 0 [] 0 = some ((pickN xs.length f xs).length, fls .f32 (pickN xs.length f xs)) := e
  have hfac : f109_i_isFactor (n + 1) (f : Int) = some true := by
    obtain ⟨k, rfl⟩ : ∃ k, n = k + 1 := ⟨n - 1, by omega⟩
    rw [i_factor, decide_eq_true (show 1 ≤ (f : Int) ∧ (f : Int) ≤ 8 by omega)]
  rw [hfac]
  simp only [bd_s, br_not, br_t, i_in, decide_eq_true (show (0 : Int) ≤ 0 ∧ (0 : Int) ≤ (f : Int) - 1 by omega), e]
theorem i_raised (n : Nat) (f : Nat) (hf : 1 ≤ f ∧ f ≤ 8) (taps xs : List Nat) (ht : 1 ≤ taps.length ∧ taps.length ≤ 32) (hx : f * xs.length ≤ 256) (hn : 300 < n) : f49_i_RaiseBy (n + 3) (f : Int) taps.length (fls .f32 taps) xs.length (fls .f32 xs) = some ((scan (foldStep taps) (List.replicate (taps.length - 1) 0) (spreadM f xs)).1.length, fls .f32 (scan (foldStep taps) (List.replicate (taps.length - 1) 0) (spreadM f xs)).1, true) := by
  have hs := spread_length hf.1 xs
  have hz := i_zeroed (n + 1) (taps.length - 1) (by omega)
  have hfo := i_folded n taps (List.replicate (taps.length - 1) 0) (spreadM f xs) (by simp; omega) ht.2 (by omega) hn
  rw [List.length_replicate] at hfo
  rw [f49_i_RaiseBy, i_spread n f hf xs hx hn]
  simp only [bd_s, br_not, br_t, i_aretaps, decide_eq_true (show 1 ≤ (taps.length : Int) ∧ (taps.length : Int) ≤ 32 by omega), i_sized]
  rw [show IntKind.i64.wrap ((taps.length : Int) - 1) = ((taps.length - 1 : Nat) : Int) by rw [wrap64] <;> omega, hz]
  simp only [bd_s, hfo]
theorem i_lowered (n : Nat) (f : Nat) (hf : 1 ≤ f ∧ f ≤ 8) (taps xs : List Nat) (ht : 1 ≤ taps.length ∧ taps.length ≤ 32) (hx : xs.length ≤ 256) (hn : 300 < n) : f50_i_LowerBy (n + 3) (f : Int) taps.length (fls .f32 taps) xs.length (fls .f32 xs) =
    some ((pickN xs.length f (scan (foldStep taps) (List.replicate (taps.length - 1) 0) xs).1).length, fls .f32 (pickN xs.length f (scan (foldStep taps) (List.replicate (taps.length - 1) 0) xs).1), true) := by
  have hz := i_zeroed (n + 1) (taps.length - 1) (by omega)
  have hfo := i_folded n taps (List.replicate (taps.length - 1) 0) xs (by simp; omega) ht.2 (by omega) hn
  have hlen := scan_length (foldStep taps) (List.replicate (taps.length - 1) 0) xs
  have hp := i_picked n f hf (scan (foldStep taps) (List.replicate (taps.length - 1) 0) xs).1 (by omega) hn
  rw [List.length_replicate] at hfo
  rw [hlen] at hfo hp
  rw [f50_i_LowerBy, i_few, decide_eq_true (show (xs.length : Int) ≤ 256 by omega), i_aretaps]
  simp only [bd_s, br_not, br_t, decide_eq_true (show 1 ≤ (taps.length : Int) ∧ (taps.length : Int) ≤ 32 by omega), i_sized]
  rw [show IntKind.i64.wrap ((taps.length : Int) - 1) = ((taps.length - 1 : Nat) : Int) by rw [wrap64] <;> omega, hz]
  simp only [bd_s, hfo, hp]

theorem part_loop (n : Nat) (N1 N7 N9 : Nat) (c1 c7 c9 : List T) (taps last all rev : List Nat) (htl : taps.length = last.length + 1) (ht32 : taps.length ≤ 32) (i : Nat) (hi : i ≤ 256) (hall : last.length + i < all.length) (hall2 : all.length ≤ 1048576) (hrl : rev.length = taps.length) (hr : ∀ j, j < taps.length → all.getD (last.length + i - j) 0 = rev.getD j 0) : ∀ (j k m : Nat), k + j = taps.length → j < m →
    f8_l_FnFolds.l1 n m N1 c1 taps.length (fls .f32 taps) last.length (fls .f32 last) N7 c7 N9 c9 all.length (fls .f32 all) (i : Int) (rev.take k).length (fls .f32 (rev.take k)) (k : Int) = some (N1, c1, taps.length, fls .f32 taps, last.length, fls .f32 last, N7, c7, N9, c9, all.length, fls .f32 all, (i : Int), rev.length, fls .f32 rev) := by
  intro j
  induction j with
  | zero =>
    intro k m hk hm
    obtain ⟨m, rfl⟩ : ∃ k, m = k + 1 := ⟨m - 1, by omega⟩
    rw [f8_l_FnFolds.l1, nlt_dec (by omega), List.take_of_length_le (by omega)]; rfl
  | succ j ih =>
    intro k m hk hm
    obtain ⟨m, rfl⟩ : ∃ k, m = k + 1 := ⟨m - 1, by omega⟩
    have w1 : IntKind.i64.wrap ((last.length : Int) + (i : Int)) = (last.length : Int) + (i : Int) := by rw [wrap64] <;> omega
    have w2 : IntKind.i64.wrap ((last.length : Int) + (i : Int) - (k : Int)) = ((last.length + i - k : Nat) : Int) := by rw [wrap64] <;> omega
    have hlt : last.length + i - k < all.length := by omega
    have hkl : k < rev.length := by omega
    have htk : (rev.take k).length = k := by rw [List.length_take]; omega
    rw [f8_l_FnFolds.l1, lt_dec (show k < taps.length by omega), w1, w2, in_dec hlt, Int.toNat_natCast, okAt_fls hlt, fAt_fls, hr k (by omega), push_fls]
    simp only [br_t, gd_t, push_ok (show (rev.take k).length < 2147483648 by omega), wrap_succ (show k < 9223372036854775807 by omega)]
    have e : rev.take k ++ [rev.getD k 0] = rev.take (k + 1) := by
      rw [show rev.getD k 0 = rev[k] by simp [List.getD, hkl]]; simp
    rw [e, show (rev.take k).length + 1 = (rev.take (k + 1)).length by rw [List.length_take, List.length_take]; omega]
    exact ih (k + 1) m (by omega) (by omega)
theorem told_loop (n : Nat) (N1 : Nat) (c1 : List T) (taps last all xs : List Nat) (htl : taps.length = last.length + 1) (ht32 : taps.length ≤ 32) (hn : 100 < n) (hall : all.length = last.length + xs.length) (hx : xs.length ≤ 256) : ∀ (zs w q : List Nat) (i m : Nat), i + zs.length = xs.length → q.length = i → w.length = last.length → all.drop i = w ++ zs → zs.length < m →
    f8_l_FnFolds.l0 (n + 3) m N1 c1 taps.length (fls .f32 taps) last.length (fls .f32 last) xs.length (fls .f32 xs) (q ++ (scan (foldStep taps) w zs).1).length (fls .f32 (q ++ (scan (foldStep taps) w zs).1)) all.length (fls .f32 all) (i : Int) = some (.inr (N1, c1, taps.length, fls .f32 taps, last.length, fls .f32 last, xs.length, fls .f32 xs)) := by
  intro zs
  induction zs with
  | nil =>
    intro w q i m hi hq hw hd hm
    obtain ⟨m, rfl⟩ : ∃ k, m = k + 1 := ⟨m - 1, by omega⟩
    rw [f8_l_FnFolds.l0, nlt_dec (by simp at hi; omega)]; rfl
  | cons z zs ih =>
    intro w q i m hi hq hw hd hm
    obtain ⟨m, rfl⟩ : ∃ k, m = k + 1 := ⟨m - 1, by omega⟩
    have hi' : i < xs.length := by simp at hi; omega
    have hrl : ((w ++ [z]).reverse).length = taps.length := by simp [hw, htl]
    have e := part_loop (n + 3) N1 xs.length (q ++ (scan (foldStep taps) w (z :: zs)).1).length c1 (fls .f32 xs) (fls .f32 (q ++ (scan (foldStep taps) w (z :: zs)).1)) taps last all (w ++ [z]).reverse htl ht32 i (by omega) (by omega) (by omega) hrl (fun j hj => by
      have h1 : all.getD (last.length + i - j) 0 = (all.drop i).getD (last.length - j) 0 := by
        simp only [List.getD, List.getElem?_drop]
        rw [show i + (last.length - j) = last.length + i - j by omega]
      rw [h1, hd, getD_mid (by omega)]
      simp only [List.getD]
      rw [List.getElem?_reverse (by simp; omega)]
      rw [show (w ++ [z]).length - 1 - j = last.length - j by simp; omega]) taps.length 0 (n + 3) (by omega) (by omega)
    have e : f8_l_FnFolds.l1 (n + 3) (n + 3) N1 c1 taps.length (fls .f32 taps) last.length (fls .f32 last) xs.length (fls .f32 xs) (q ++ (scan (foldStep taps) w (z :: zs)).1).length (fls .f32 (q ++ (scan (foldStep taps) w (z :: zs)).1)) all.length (fls .f32 all) (i : Int) 0 (reps 0 [T.flt .f32 0]) 0 = _ := e
    have hdot := i_dotnumbers (n + 1) taps (w ++ [z]).reverse hrl (by omega) (by omega)
    have hwd : W32 (dotM 0 taps (w ++ [z]).reverse) := w32_dot _ _ _ w32_zero
    have e1 : okAt [.flt .f32] (fls .f32 (q ++ (scan (foldStep taps) w (z :: zs)).1)) i = true := by rw [← hq]; exact okAt_mid
    have e2 : fAt (fls .f32 (q ++ (scan (foldStep taps) w (z :: zs)).1)) i = dotM 0 taps (w ++ [z]).reverse := by rw [← hq]; exact fAt_mid
    have e3 : decide ((0 : Int) ≤ (i : Int) ∧ (i : Int) < ((q ++ (scan (foldStep taps) w (z :: zs)).1).length : Int)) = true := by rw [← hq]; exact in_mid
    have hd' : all.drop (i + 1) = (w ++ [z]).drop 1 ++ zs := by
      rw [← List.drop_append_of_le_length (show 1 ≤ (w ++ [z]).length by simp), List.append_assoc, List.singleton_append, ← hd, List.drop_drop]
    have := ih ((w ++ [z]).drop 1) (q ++ [dotM 0 taps (w ++ [z]).reverse]) (i + 1) m (by simp at hi; omega) (by simp [hq]) (by simp [hw]) hd' (by simp at hm; omega)
    rw [f8_l_FnFolds.l0, lt_dec hi', e]
    simp only [br_t, bd_s, hdot, br_not, e3, Int.toNat_natCast, e1, e2, gd_t, i_same (n + 1) hwd hwd, beq_self_eq_true, wrap_succ (show i < 9223372036854775807 by omega)]
    simpa [scan, foldStep] using this
theorem exact_ (cs : List Int) (hc : ∀ b ∈ cs, GoodI .u8 b) (lc : cs.length ≤ maxLen) (ms : List Int) (hm : ∀ b ∈ ms, GoodI .u8 b) (lm : ms.length ≤ maxLen) : ∃ n, f8_l_FnFolds n cs.length (its .u8 cs) ms.length (its .u8 ms) = some true := by
  refine ⟨1000, ?_⟩
  suffices h : ∀ n, f8_l_FnFolds (n + 500) cs.length (its .u8 cs) ms.length (its .u8 ms) = some true from h 500
  intro n
  rw [f8_l_FnFolds, l_long]
  cases hlong : decide (48 < cs.length ∨ 48 < ms.length)
  case true => rfl
  obtain ⟨c, hc1, e1⟩ := l_at (n + 498) (bytes_of hc) (i := 40) (k := 6) (by omega) (by omega)
  obtain ⟨c, rfl⟩ := Int.eq_ofNat_of_zero_le hc1.1
  obtain ⟨taps, htl, htw, e2⟩ := s_r8plain (n + 494) (bytes_of hc) (1 + c) (by omega) (by omega)
  obtain ⟨last, hll, hlw, e3⟩ := s_r8plain (n + 494) (bytes_of hm) c (by omega) (by omega)
  obtain ⟨xs, hxl, hxw, e4⟩ := s_r8samples (n + 492) (bytes_of hm) 12 (by omega) (by omega)
  have e4 : f30_s_R8Samples (n + 499) ms.length (its .u8 ms) 12 = some (xs.length, fls .f32 xs) := e4
  obtain ⟨a, ha1, e5⟩ := l_at (n + 498) (bytes_of hc) (i := 41) (k := (xs.length : Int) + 1) (by omega) (by omega)
  obtain ⟨a, rfl⟩ := Int.eq_ofNat_of_zero_le ha1.1
  obtain ⟨f, hf1, e6⟩ := l_at (n + 498) (bytes_of hc) (i := 42) (k := 4) (by omega) (by omega)
  obtain ⟨f, rfl⟩ := Int.eq_ofNat_of_zero_le hf1.1
  have wc : IntKind.i64.wrap (1 + (c : Int)) = ((1 + c : Nat) : Int) := by rw [wrap64] <;> omega
  have wl : IntKind.i64.wrap ((taps.length : Int) - 1) = (c : Int) := by rw [wrap64] <;> omega
  have wx : IntKind.i64.wrap ((xs.length : Int) + 1) = (xs.length : Int) + 1 := by rw [wrap64] <;> omega
  have wf : IntKind.i64.wrap (1 + (f : Int)) = ((1 + f : Nat) : Int) := by rw [wrap64] <;> omega
  have ha : a ≤ xs.length := by omega
  have hl2 : (xs.take a).length = a := by rw [List.length_take]; omega
  have hl3 : (xs.drop a).length = xs.length - a := List.length_drop
  have htl' : taps.length = last.length + 1 := by omega
  have hll1 := fold_line_length taps (xs.take a) last
  have g1 := i_foldtaps (n + 496) taps last xs htl' (by omega) (by omega) (by omega)
  have g2 := i_foldtaps (n + 496) taps last (xs.take a) htl' (by omega) (by omega) (by omega)
  have g3 := i_foldtaps (n + 496) taps (scan (foldStep taps) last (xs.take a)).2 (xs.drop a) (by omega) (by omega) (by omega) (by omega)
  rw [hl2] at g2
  rw [hl3] at g3
  have hsplit := scan_append (foldStep taps) last (xs.take a) (xs.drop a)
  rw [List.take_append_drop] at hsplit
  have hlen := scan_length (foldStep taps) last xs
  have hlen2 := scan_length (foldStep taps) last (xs.take a)
  have hlen3 := scan_length (foldStep taps) (scan (foldStep taps) last (xs.take a)).2 (xs.drop a)
  have hlx := fold_line_length taps xs last
  have winv := fun l xs => (scan_inv (f := foldStep taps) (P := fun _ => True) (Q := fun _ => True) (S := W32) (fun s x _ _ => ⟨w32_dot _ _ _ w32_zero, trivial⟩) xs l trivial (fun _ _ => trivial)).1
  have hw1 := winv last xs
  have hw2 : ∀ y ∈ (scan (foldStep taps) last xs).2, W32 y := by
    rw [fold_line]
    intro y hy
    have := List.mem_of_mem_drop hy
    simp only [List.mem_append] at this
    rcases this with h | h
    · exact (hlw y h).w32
    · exact hxw y h
  have q1 : decide ((0 : Int) ≤ 0 ∧ (0 : Int) ≤ (a : Int) ∧ (a : Int) ≤ (xs.length : Int)) = true := decide_eq_true (by omega)
  have q2 : decide ((0 : Int) ≤ (a : Int) ∧ (a : Int) ≤ (xs.length : Int) ∧ (xs.length : Int) ≤ (xs.length : Int)) = true := decide_eq_true (by omega)
  have q3 : (fls .f32 xs).take a = fls .f32 (xs.take a) := fls_take _ _ _
  have q4 : ((fls .f32 xs).drop a).take (xs.length - a) = fls .f32 (xs.drop a) := by rw [fls_drop, fls_take, List.take_of_length_le (by omega)]
  have q5 : ∀ p q : List Nat, reps 0 [T.flt FloatKind.f32 0] ++ fls .f32 p ++ fls .f32 q = fls .f32 (p ++ q) := by intro p q; rw [← fls_append]; rfl
  have told := told_loop (n + 496) cs.length (its .u8 cs) taps last (last ++ xs) xs htl' (by omega) (by omega) (by simp) (by omega) xs last [] 0 (n + 499) (by omega) rfl rfl rfl (by omega)
  have told : f8_l_FnFolds.l0 (n + 499) (n + 499) cs.length (its .u8 cs) taps.length (fls .f32 taps) last.length (fls .f32 last) xs.length (fls .f32 xs) (scan (foldStep taps) last xs).1.length (fls .f32 (scan (foldStep taps) last xs).1) (last ++ xs).length (fls .f32 (last ++ xs)) 0 = _ := told
  -- spread and picked
  have hF : 1 ≤ 1 + f ∧ 1 + f ≤ 8 := by omega
  have hsl := spread_length (f := 1 + f) hF.1 xs
  have hfx : (1 + f) * xs.length ≤ 256 := Nat.le_trans (Nat.mul_le_mul (show 1 + f ≤ 8 by omega) hxl) (by decide)
  have hz : List.replicate last.length 0 = List.replicate (taps.length - 1) 0 := by rw [show taps.length - 1 = last.length by omega]
  have s1 := i_spread (n + 497) (1 + f) hF xs hfx (by omega)
  have s2 := i_picked (n + 497) (1 + f) hF (spreadM (1 + f) xs) (by omega) (by omega)
  rw [pick_spread (1 + f) hF.1 xs _ (Nat.le_refl _)] at s2
  have s3 := i_raised (n + 496) (1 + f) hF taps xs (by omega) hfx (by omega)
  have s4 := i_lowered (n + 496) (1 + f) hF taps xs (by omega) (by omega) (by omega)
  have s5 := i_foldtaps (n + 496) taps (List.replicate last.length 0) (spreadM (1 + f) xs) (by simp; omega) (by omega) (by omega) (by omega)
  have s6 := i_foldtaps (n + 496) taps (List.replicate last.length 0) xs (by simp; omega) (by omega) (by omega) (by omega)
  have hl6 := scan_length (foldStep taps) (List.replicate last.length 0) xs
  have s7 := i_picked (n + 497) (1 + f) hF (scan (foldStep taps) (List.replicate last.length 0) xs).1 (by omega) (by omega)
  rw [List.length_replicate] at s5 s6
  rw [← hz] at s3 s4
  rw [hl6] at s6 s7
  have v1 := l_same (n + 496) xs xs hxw hxw (by omega) (by omega)
  have v2 := l_same (n + 496) _ _ (winv (List.replicate last.length 0) (spreadM (1 + f) xs)) (winv (List.replicate last.length 0) (spreadM (1 + f) xs)) (by rw [scan_length]; omega) (by rw [scan_length]; omega)
  have wp : ∀ y ∈ pickN xs.length (1 + f) (scan (foldStep taps) (List.replicate last.length 0) xs).1, W32 y := fun y hy => winv _ _ y (pick_mem _ _ _ y hy)
  have hpl := pick_length xs.length (1 + f) (scan (foldStep taps) (List.replicate last.length 0) xs).1
  have v3 := l_same (n + 496) _ _ wp wp (by omega) (by omega)
  have rz : decide ((0 : Int) ≤ (last.length : Int) ∧ (last.length : Int) ≤ 2147483648) = true := decide_eq_true (by omega)
  simp only [br_f, br_not, bd_s, e1, wc, e2, wl, e3, e4, wx, e5, g1, q1, gd_t, Int.toNat_natCast, List.drop_zero, Nat.sub_zero, q3, g2, q2, q4, g3, br_t, q5, told, show last.length + xs.length = (last ++ xs).length from List.length_append.symm, Nat.zero_add, sm_r, e6, wf, rz, reps_fls, s1, s2, s3, s4, s5, s6, s7]
  have q6 : ∀ p q : List Nat, fls .f32 (List.replicate 0 0) ++ fls .f32 p ++ fls .f32 q = fls .f32 (p ++ q) := by intro p q; rw [← fls_append]; rfl
  simp only [q6, told, bd_s, sm_r, e6, wf, rz, gd_t, s1, s2, s3, s4, s5, s6, s7, br_t]
  rw [hlx]
  have hw2l : (scan (foldStep taps) last xs).2.length = last.length := hlx
  rw [hsplit] at hw1 hw2 hlen hw2l ⊢
  simp only at hw1 hw2 hlen hw2l ⊢
  have t1 := l_same (n + 496) _ _ hw1 hw1 (by omega) (by omega)
  rw [List.length_append] at hlen t1
  have t1 : f32_l_r8Same (n + 499) _ _ _ _ = _ := t1
  have t2 := l_same (n + 496) _ _ hw2 hw2 (by omega) (by omega)
  rw [hw2l] at t2
  have t2 : f32_l_r8Same (n + 499) _ _ _ _ = _ := t2
  have v1 : f32_l_r8Same (n + 499) _ _ _ _ = _ := v1
  have v2 : f32_l_r8Same (n + 499) _ _ _ _ = _ := v2
  have v3 : f32_l_r8Same (n + 499) _ _ _ _ = _ := v3
  rw [List.length_append, t1, hw2l, t2]
  rw [le_ble (show (scan (foldStep taps) last (xs.take a)).1.length ≤ 2147483648 by omega), le_ble (show (scan (foldStep taps) last (xs.take a)).1.length + (scan (foldStep taps) (scan (foldStep taps) last (xs.take a)).2 (xs.drop a)).1.length ≤ 2147483648 by omega), le_ble (show (last ++ xs).length ≤ 2147483648 by simp; omega), le_ble (show last.length ≤ 2147483648 by omega), hlen]
  simp [br, gd, bd, v1, v2, v3]
theorem law8 : ∀ args, LawArgs E Try.f8.params.toList args → ∃ N os, evalFn E N 8 args = some ⟨[⟨false, [.leaf], [.bool true]⟩], os⟩ := by
  intro args h0
  have hp : Try.f8.params.toList = [22, 22] := by kernel_rfl
  rw [hp] at h0
  obtain ⟨ts0, r0, rfl, hw0, h1⟩ := h0.cons_inv (d := ⟨false, 1, 24, [.sl .own [.leaf]], [.lst 0 []], .slc 5⟩) (by kernel_rfl)
  obtain ⟨n0, cs0, rfl, gl0, hs0⟩ := hw0.slc_inv (e := 5) (d := ⟨false, 1, 24, [.sl .own [.leaf]], [.lst 0 []], .slc 5⟩) (by kernel_rfl) rfl
  obtain ⟨a0, rfl, rfl, g0⟩ := hs0.ints (k := .u8) (d := ⟨false, 1, 1, [.leaf], [.int .u8 0], .int .u8⟩) (by kernel_rfl) rfl
  obtain ⟨ts1, r1, rfl, hw1, h2⟩ := h1.cons_inv (d := ⟨false, 1, 24, [.sl .own [.leaf]], [.lst 0 []], .slc 5⟩) (by kernel_rfl)
  obtain ⟨n1, cs1, rfl, gl1, hs1⟩ := hw1.slc_inv (e := 5) (d := ⟨false, 1, 24, [.sl .own [.leaf]], [.lst 0 []], .slc 5⟩) (by kernel_rfl) rfl
  obtain ⟨a1, rfl, rfl, g1⟩ := hs1.ints (k := .u8) (d := ⟨false, 1, 1, [.leaf], [.int .u8 0], .int .u8⟩) (by kernel_rfl) rfl
  obtain rfl := h2.nil_inv
  obtain ⟨N, hN⟩ := exact_ a0 g0 gl0 a1 g1 gl1
  exact ⟨N, _, f8_l_FnFolds.ok N (a0.length, its .u8 a0, a1.length, its .u8 a1) true hN⟩


end Go.Proofs.Ytdejjalkfekjiaa.D
end
section
/- FnFolds holds: for every input the law returns true, and its arguments read as before. -/
namespace Go.Proofs.Ytdejjalkfekjiaa.fnFolds
open Go Go.ChangeShapes Go.WideShapes Go.ChangeAt Go.RowKit Go.Desk
set_option linter.unusedVariables false
theorem own : ownKnob Try.prog.godebug = none := by kernel_rfl
theorem laidOut : laidOutB Try.prog = true := by kernel_rfl
set_option maxRecDepth 100000 in
theorem lifted (os : Os) (started : os.Started) (H : Type) (enc : TypeId × Value → H) :
    ReturnsInHanded {} Try.checked os 8 .any (Rows.fnFoldsSpec.pre6 enc Try.prog Try.f8 Rows.fnFoldsRow.domain false) (Rows.fnFoldsSpec.post enc Try.prog Try.f8 false true false false) := by
  refine returnsInHanded_of_change (C := Try.checked) own started (by kernel_rfl) Try.func8
    (ChangeSpec.witness6 (enc := enc) (C := Try.checked) false ⟨#[], #[.slice none 0 0, .slice none 0 0], []⟩ 8 (by kernel_rfl) (by kernel_rfl) (by kernel_rfl) (by kernel_rfl)) ?_
  intro W base args ds gs before hval hW hcnd _
  exact law_contract (c := D.c8) Try.checked.mixed D.tysOk D.fnOk Try.func8 (by kernel_rfl) (by kernel_rfl) (by kernel_rfl) Try.underlying4 rfl
    (fun ds h => by
      rw [show Try.f8.params.toList.length = 2 by kernel_rfl] at h
      match ds, h with
      | [_, _], _ => rfl)
    laidOut (N := 8) (by kernel_rfl) (by kernel_rfl) D.law8 hval hW
theorem over : Rows.fnFoldsRow.holds Try.pinned (OpenSpec.ofChange Rows.fnFoldsSpec) :=
  OpenClaim.holds_of_wide 8 Try.f8 rfl rfl rfl rfl rfl rfl rfl ⟨rfl, rfl, rfl, rfl, rfl⟩ rfl rfl rfl rfl rfl (by kernel_rfl) Try.func8 (by kernel_rfl)
    (of_decide_eq_true (by kernel_rfl)) (by unfold Func.isWrapper; first | (rw [if_pos (by decide +kernel)]; kernel_rfl) | (rw [if_neg (by decide +kernel)]; exact ⟨rfl, rfl⟩))
    (fun os started H enc _ => lifted os started H enc)
theorem proved : Rows.FnFoldsSaid := over
#print axioms proved
end Go.Proofs.Ytdejjalkfekjiaa.fnFolds
namespace Go.Proofs.Ytdejjalkfekjiaa
/-- The row, under a short name, for the claim. -/
theorem fnFolds_holds : Rows.FnFoldsSaid := fnFolds.proved
end Go.Proofs.Ytdejjalkfekjiaa
end
