/- FnNoise holds: for every input the law returns true, and its arguments read as before. -/
import Derived.Test.YtdejjalkfekjiaaChecked
import Derived.Test.YtdejjalkfekjiaaDeskE
import Derived.KernelRfl
import Derived.Test.YtdejjalkfekjiaaRows
import Derived.WalkKit
import Derived.ProofKit
import Derived.OpenShut
import Derived.ShutString
import Derived.ChangeOld
import Derived.Below
import Derived.SizedLaws
set_option linter.all false
section
/- The tables of the reading: types and functions of the translation, with what is kept at each region's beginning (written by a program of this workplace). -/
namespace Go.Proofs.Ytdejjalkfekjiaa.D
open Go Go.Desk
def bodyOf (f : Func) : Code := match f.body with
  | some c => c
  | none => .skip
def tyTab : List (Nat × TD) := [
  (2, ⟨false, 1, 8, [.leaf], [.int .i64 0], .int .i64⟩),
  (3, ⟨false, 1, 8, [.leaf], [.int .i64 0], .int .i64⟩),
  (4, ⟨false, 1, 1, [.leaf], [.bool false], .bool⟩),
  (5, ⟨false, 1, 1, [.leaf], [.int .u8 0], .int .u8⟩),
  (22, ⟨false, 1, 24, [.sl .own [.leaf]], [.lst 0 []], .slc 5⟩),
  (27, ⟨false, 1, 24, [.sl .own [.leaf]], [.lst 0 []], .slc 33⟩),
  (33, ⟨false, 1, 4, [.leaf], [.flt .f32 0], .flt .f32⟩),
  (39, ⟨false, 1, 8, [.leaf], [.flt .f64 0], .flt .f64⟩),
  (58, ⟨false, 1, 24, [.sl .own [.leaf]], [.lst 0 []], .slc 2⟩),
  (63, ⟨false, 1, 8, [.leaf], [.int .u64 0], .int .u64⟩),
  (108, ⟨false, 1, 8, [.leaf], [.nil], .ptr 153⟩),
  (127, ⟨false, 1, 4, [.leaf], [.int .u32 0], .int .u32⟩),
  (151, ⟨false, 1, 8, [.leaf], [.int .u64 0], .int .u64⟩),
  (153, ⟨true, 3, 40, [.sl .own [.leaf], .leaf, .leaf], [.lst 0 [], .int .i64 0, .int .u64 0], .st [(0, 22), (1, 3), (2, 151)]⟩)]
noncomputable def c7 : Code := bodyOf Try.f7
noncomputable def c27 : Code := bodyOf Try.f27
noncomputable def c28 : Code := bodyOf Try.f28
noncomputable def c30 : Code := bodyOf Try.f30
noncomputable def c40 : Code := bodyOf Try.f40
noncomputable def c41 : Code := bodyOf Try.f41
noncomputable def c42 : Code := bodyOf Try.f42
noncomputable def c43 : Code := bodyOf Try.f43
noncomputable def c75 : Code := bodyOf Try.f75
noncomputable def c76 : Code := bodyOf Try.f76
noncomputable def c77 : Code := bodyOf Try.f77
noncomputable def c81 : Code := bodyOf Try.f81
noncomputable def c83 : Code := bodyOf Try.f83
noncomputable def c89 : Code := bodyOf Try.f89
noncomputable def c94 : Code := bodyOf Try.f94
noncomputable def c99 : Code := bodyOf Try.f99
noncomputable def c102 : Code := bodyOf Try.f102
noncomputable def c103 : Code := bodyOf Try.f103
noncomputable def c104 : Code := bodyOf Try.f104
noncomputable def c105 : Code := bodyOf Try.f105
noncomputable def c128 : Code := bodyOf Try.f128
noncomputable def c129 : Code := bodyOf Try.f129
noncomputable def c131 : Code := bodyOf Try.f131
noncomputable def c132 : Code := bodyOf Try.f132
noncomputable def fnTab : List (Nat × FD) := [
  (7, .code c7 [.val, .val] [] [(4, none)] [(0, [0, 1]), (1, [0, 1]), (2, []), (3, [0, 1]), (4, [0, 1, 5]), (5, [0, 1, 5, 6]), (6, [0, 1, 5, 6, 7]), (7, [0, 1, 5, 6, 7, 8]), (8, [0, 1, 5, 6, 7, 8]), (9, [0, 1, 5, 6, 7, 8]), (10, [0, 1, 5, 6, 7, 8, 9]), (11, [0, 1, 5, 6, 7, 8, 9, 10]), (12, [0, 1, 5, 6, 7, 8, 9]), (13, [0, 1, 5, 6, 7, 8, 9, 10]), (14, [0, 1, 5, 6, 7, 8, 10]), (15, [1, 5, 6, 7]), (16, [1, 5, 6, 7, 11, 12]), (17, [1, 5, 6, 11, 12, 13, 14]), (18, []), (19, [1, 5, 11, 13]), (20, [1, 5, 11, 13, 15]), (21, [1, 5, 11, 13, 15]), (22, [1, 5, 11, 13, 15]), (23, []), (24, [1, 5]), (25, [5, 16]), (26, [5, 16, 17]), (27, [5, 16, 17, 18]), (28, [5, 16, 17, 18]), (29, [5, 16, 17, 18]), (30, [5, 16, 17, 18]), (31, [5, 16, 17]), (32, [17, 19, 20, 21]), (33, []), (34, [17, 19, 20]), (35, [17, 19, 20, 22]), (36, [17, 19, 20, 22, 23]), (37, [17, 19, 20, 22, 23]), (38, [17, 19, 20, 22, 23]), (39, [17, 20, 22]), (1000007, [1, 5, 6, 7]), (1000020, [1, 4, 5]), (1000027, [5, 16, 17]), (1000036, [17, 20, 22])]),
  (27, .code c27 [.val, .val] [] [(4, none)] [(0, [0, 1]), (1, [0, 1])]),
  (28, .code c28 [.val, .val, .val] [] [(6, none)] [(0, [0, 1, 2]), (1, [0, 1, 2]), (2, []), (3, [0, 1, 2])]),
  (30, .code c30 [.val, .val] [] [(4, none)] [(0, [0, 1]), (1, [0, 1]), (2, [1, 5]), (3, [5, 6])]),
  (40, .code c40 [.val, .val] [] [(4, none), (5, none)] [(0, [0, 1]), (1, [0, 1]), (2, []), (3, [0, 1]), (4, [0, 1, 6]), (5, [0, 1, 6, 17, 18, 19]), (6, [0, 1, 6, 17, 18, 19]), (7, [0, 1, 6, 8, 17, 18, 19]), (8, [0, 1, 6, 17, 18, 19]), (9, [6]), (1000005, [6])]),
  (41, .code c41 [.val, .val, .val] [] [(6, none), (7, none)] [(0, [0, 1, 2]), (1, [0, 1, 2]), (2, []), (3, [0, 1, 2]), (4, [0, 1, 2, 8]), (5, [0, 1, 2, 8, 32, 33, 34]), (6, [0, 1, 2, 8, 32, 33, 34]), (7, [0, 1, 2, 8, 9, 10, 32, 33, 34]), (8, [0, 1, 2, 8, 32, 33, 34]), (9, [8]), (1000005, [8])]),
  (42, .code c42 [.val, .val, .val] [] [(6, none)] [(0, [0, 1, 2]), (1, [0, 1, 2]), (2, [1, 2, 7]), (3, [1, 2, 7, 8]), (4, [1, 2, 7, 8, 9]), (5, [1, 2, 7, 8, 9]), (6, [1, 2, 7, 8, 9]), (7, [8]), (1000004, [8])]),
  (43, .code c43 [.val, .val, .val] [] [(6, none), (7, none), (8, none)] [(0, [0, 1, 2]), (1, [0, 1, 2]), (2, []), (3, [0, 1, 2]), (4, [0, 1, 2, 9]), (5, [0, 1, 2, 9, 10]), (6, [0, 1, 2, 9, 10, 23, 24, 25]), (7, [0, 1, 2, 9, 10, 23, 24, 25]), (8, [0, 1, 2, 9, 10, 12, 23, 24, 25]), (9, [0, 1, 2, 9, 13, 23, 24, 25]), (10, [0, 1, 2, 9, 13, 14, 23, 24, 25]), (11, [0, 1, 2, 9, 13, 14, 23, 24, 25]), (12, [0, 1, 2, 9, 10, 23, 24, 25]), (13, [0, 1, 2, 9, 23, 24, 25]), (14, [0, 1, 2, 9, 10, 23, 24, 25]), (15, [9, 10]), (1000006, [9, 10])]),
  (75, .code c75 [.val] [] [(2, none)] [(0, [0]), (1, [0])]),
  (76, .code c76 [.iop, .val] [0] [(4, none)] [(0, [0, 1]), (1, [0, 1]), (2, [0]), (3, [0, 1]), (4, [0, 1, 5]), (5, [0, 1, 5]), (6, [0, 1, 5])]),
  (77, .code c77 [.iop] [0] [(2, none)] [(0, [0]), (1, [0]), (2, [0, 3]), (3, [0, 3]), (4, [0, 3])]),
  (81, .code c81 [.iop, .val] [0] [(4, none)] [(0, [0, 1]), (1, [0, 1]), (2, [0, 1, 5]), (3, [0, 1, 5, 6]), (4, [0, 1, 5, 6]), (5, [0, 1, 5, 6]), (6, [0, 1, 5, 6]), (7, [0, 1, 5, 6]), (8, [0, 5]), (1000003, [0, 5])]),
  (83, .code c83 [.val, .val, .val] [] [(6, none)] [(0, [0, 1, 2]), (1, [0, 1, 2])]),
  (89, .code c89 [.val, .val, .val] [] [(6, none)] [(0, [0, 1, 2]), (1, [0, 1, 2]), (2, [0, 1, 2, 9, 10, 11]), (3, [0, 1, 2, 9, 10, 11]), (4, [0, 1, 2, 8, 9, 10, 11]), (5, []), (6, [0, 1, 2, 9, 10, 11]), (7, []), (1000002, [6])]),
  (94, .code c94 [.val] [] [(2, none)] [(0, [0]), (1, [0])]),
  (99, .code c99 [.iop] [0] [(2, none)] [(0, [0]), (1, [0]), (2, [0]), (3, [0]), (4, [0, 10]), (5, [0]), (6, [0, 10]), (7, [0]), (8, [0, 3]), (9, [0, 10]), (10, [0]), (11, [0])]),
  (102, .code c102 [.val] [] [(2, none)] [(0, [0]), (1, [0])]),
  (103, .code c103 [.val, .val] [] [(4, none)] [(0, [0, 1]), (1, [0, 1]), (2, [1, 5]), (3, []), (4, [1, 5])]),
  (104, .code c104 [.val, .val] [] [(4, none)] [(0, [0, 1]), (1, [0, 1])]),
  (105, .code c105 [.val] [] [(2, none)] [(0, [0]), (1, [0])]),
  (112, .ext (pIntegral .even)),
  (128, .code c128 [.iop] [0] [(2, none)] [(0, [0]), (1, [0]), (2, [0, 3]), (3, [0]), (4, [0, 3]), (5, [0, 3]), (6, [0, 3]), (7, [0, 3]), (8, [0])]),
  (129, .code c129 [.iop, .val] [0] [(4, none)] [(0, [0, 1]), (1, [0, 1])]),
  (131, .code c131 [.val] [] [(2, none)] [(0, [0]), (1, [0])]),
  (132, .code c132 [.iop, .io] [0, 1] [(4, none)] [(0, [0, 1]), (1, [0, 1])]),
  (140, .ext (pF32frombits))]
noncomputable def E : Env := ⟨fun t => lookT tyTab t, lookF fnTab⟩
noncomputable def fdAt (n : Nat) : FD := match lookF fnTab n with
  | some d => d
  | none => .ext fun _ => none
noncomputable def keepAt (n : Nat) : List (Nat × List Nat) := match lookF fnTab n with
  | some d => d.keep
  | none => []
theorem tysOk : TysOk Try.prog E := tysOk_of (l := tyTab) (fun _ => rfl) (by kernel_rfl)
theorem ft7 : FnTab Try.prog E 7 (fdAt 7) := fnTab_code (c := c7) (modes := (fdAt 7).ms) (outs := (fdAt 7).os) (results := (fdAt 7).rs) (keep := (fdAt 7).keep) Try.func7 (by kernel_rfl) (by kernel_rfl) (by kernel_rfl)
theorem ft27 : FnTab Try.prog E 27 (fdAt 27) := fnTab_code (c := c27) (modes := (fdAt 27).ms) (outs := (fdAt 27).os) (results := (fdAt 27).rs) (keep := (fdAt 27).keep) Try.func27 (by kernel_rfl) (by kernel_rfl) (by kernel_rfl)
theorem ft28 : FnTab Try.prog E 28 (fdAt 28) := fnTab_code (c := c28) (modes := (fdAt 28).ms) (outs := (fdAt 28).os) (results := (fdAt 28).rs) (keep := (fdAt 28).keep) Try.func28 (by kernel_rfl) (by kernel_rfl) (by kernel_rfl)
theorem ft30 : FnTab Try.prog E 30 (fdAt 30) := fnTab_code (c := c30) (modes := (fdAt 30).ms) (outs := (fdAt 30).os) (results := (fdAt 30).rs) (keep := (fdAt 30).keep) Try.func30 (by kernel_rfl) (by kernel_rfl) (by kernel_rfl)
theorem ft40 : FnTab Try.prog E 40 (fdAt 40) := fnTab_code (c := c40) (modes := (fdAt 40).ms) (outs := (fdAt 40).os) (results := (fdAt 40).rs) (keep := (fdAt 40).keep) Try.func40 (by kernel_rfl) (by kernel_rfl) (by kernel_rfl)
theorem ft41 : FnTab Try.prog E 41 (fdAt 41) := fnTab_code (c := c41) (modes := (fdAt 41).ms) (outs := (fdAt 41).os) (results := (fdAt 41).rs) (keep := (fdAt 41).keep) Try.func41 (by kernel_rfl) (by kernel_rfl) (by kernel_rfl)
theorem ft42 : FnTab Try.prog E 42 (fdAt 42) := fnTab_code (c := c42) (modes := (fdAt 42).ms) (outs := (fdAt 42).os) (results := (fdAt 42).rs) (keep := (fdAt 42).keep) Try.func42 (by kernel_rfl) (by kernel_rfl) (by kernel_rfl)
theorem ft43 : FnTab Try.prog E 43 (fdAt 43) := fnTab_code (c := c43) (modes := (fdAt 43).ms) (outs := (fdAt 43).os) (results := (fdAt 43).rs) (keep := (fdAt 43).keep) Try.func43 (by kernel_rfl) (by kernel_rfl) (by kernel_rfl)
theorem ft75 : FnTab Try.prog E 75 (fdAt 75) := fnTab_code (c := c75) (modes := (fdAt 75).ms) (outs := (fdAt 75).os) (results := (fdAt 75).rs) (keep := (fdAt 75).keep) Try.func75 (by kernel_rfl) (by kernel_rfl) (by kernel_rfl)
theorem ft76 : FnTab Try.prog E 76 (fdAt 76) := fnTab_code (c := c76) (modes := (fdAt 76).ms) (outs := (fdAt 76).os) (results := (fdAt 76).rs) (keep := (fdAt 76).keep) Try.func76 (by kernel_rfl) (by kernel_rfl) (by kernel_rfl)
theorem ft77 : FnTab Try.prog E 77 (fdAt 77) := fnTab_code (c := c77) (modes := (fdAt 77).ms) (outs := (fdAt 77).os) (results := (fdAt 77).rs) (keep := (fdAt 77).keep) Try.func77 (by kernel_rfl) (by kernel_rfl) (by kernel_rfl)
theorem ft81 : FnTab Try.prog E 81 (fdAt 81) := fnTab_code (c := c81) (modes := (fdAt 81).ms) (outs := (fdAt 81).os) (results := (fdAt 81).rs) (keep := (fdAt 81).keep) Try.func81 (by kernel_rfl) (by kernel_rfl) (by kernel_rfl)
theorem ft83 : FnTab Try.prog E 83 (fdAt 83) := fnTab_code (c := c83) (modes := (fdAt 83).ms) (outs := (fdAt 83).os) (results := (fdAt 83).rs) (keep := (fdAt 83).keep) Try.func83 (by kernel_rfl) (by kernel_rfl) (by kernel_rfl)
theorem ft89 : FnTab Try.prog E 89 (fdAt 89) := fnTab_code (c := c89) (modes := (fdAt 89).ms) (outs := (fdAt 89).os) (results := (fdAt 89).rs) (keep := (fdAt 89).keep) Try.func89 (by kernel_rfl) (by kernel_rfl) (by kernel_rfl)
theorem ft94 : FnTab Try.prog E 94 (fdAt 94) := fnTab_code (c := c94) (modes := (fdAt 94).ms) (outs := (fdAt 94).os) (results := (fdAt 94).rs) (keep := (fdAt 94).keep) Try.func94 (by kernel_rfl) (by kernel_rfl) (by kernel_rfl)
theorem ft99 : FnTab Try.prog E 99 (fdAt 99) := fnTab_code (c := c99) (modes := (fdAt 99).ms) (outs := (fdAt 99).os) (results := (fdAt 99).rs) (keep := (fdAt 99).keep) Try.func99 (by kernel_rfl) (by kernel_rfl) (by kernel_rfl)
theorem ft102 : FnTab Try.prog E 102 (fdAt 102) := fnTab_code (c := c102) (modes := (fdAt 102).ms) (outs := (fdAt 102).os) (results := (fdAt 102).rs) (keep := (fdAt 102).keep) Try.func102 (by kernel_rfl) (by kernel_rfl) (by kernel_rfl)
theorem ft103 : FnTab Try.prog E 103 (fdAt 103) := fnTab_code (c := c103) (modes := (fdAt 103).ms) (outs := (fdAt 103).os) (results := (fdAt 103).rs) (keep := (fdAt 103).keep) Try.func103 (by kernel_rfl) (by kernel_rfl) (by kernel_rfl)
theorem ft104 : FnTab Try.prog E 104 (fdAt 104) := fnTab_code (c := c104) (modes := (fdAt 104).ms) (outs := (fdAt 104).os) (results := (fdAt 104).rs) (keep := (fdAt 104).keep) Try.func104 (by kernel_rfl) (by kernel_rfl) (by kernel_rfl)
theorem ft105 : FnTab Try.prog E 105 (fdAt 105) := fnTab_code (c := c105) (modes := (fdAt 105).ms) (outs := (fdAt 105).os) (results := (fdAt 105).rs) (keep := (fdAt 105).keep) Try.func105 (by kernel_rfl) (by kernel_rfl) (by kernel_rfl)
theorem ft112 : FnTab Try.prog E 112 (.ext (pIntegral .even)) := ext_pIntegral_even Try.func112 (by kernel_rfl) (by kernel_rfl) (by kernel_rfl) (by kernel_rfl)
theorem ft128 : FnTab Try.prog E 128 (fdAt 128) := fnTab_code (c := c128) (modes := (fdAt 128).ms) (outs := (fdAt 128).os) (results := (fdAt 128).rs) (keep := (fdAt 128).keep) Try.func128 (by kernel_rfl) (by kernel_rfl) (by kernel_rfl)
theorem ft129 : FnTab Try.prog E 129 (fdAt 129) := fnTab_code (c := c129) (modes := (fdAt 129).ms) (outs := (fdAt 129).os) (results := (fdAt 129).rs) (keep := (fdAt 129).keep) Try.func129 (by kernel_rfl) (by kernel_rfl) (by kernel_rfl)
theorem ft131 : FnTab Try.prog E 131 (fdAt 131) := fnTab_code (c := c131) (modes := (fdAt 131).ms) (outs := (fdAt 131).os) (results := (fdAt 131).rs) (keep := (fdAt 131).keep) Try.func131 (by kernel_rfl) (by kernel_rfl) (by kernel_rfl)
theorem ft132 : FnTab Try.prog E 132 (fdAt 132) := fnTab_code (c := c132) (modes := (fdAt 132).ms) (outs := (fdAt 132).os) (results := (fdAt 132).rs) (keep := (fdAt 132).keep) Try.func132 (by kernel_rfl) (by kernel_rfl) (by kernel_rfl)
theorem ft140 : FnTab Try.prog E 140 (.ext (pF32frombits)) := ext_pF32frombits Try.func140 (by kernel_rfl) (by kernel_rfl) (by kernel_rfl) (by kernel_rfl)
theorem allFns : AllFns Try.prog E fnTab := .cons ft7 (.cons ft27 (.cons ft28 (.cons ft30 (.cons ft40 (.cons ft41 (.cons ft42 (.cons ft43 (.cons ft75 (.cons ft76 (.cons ft77 (.cons ft81 (.cons ft83 (.cons ft89 (.cons ft94 (.cons ft99 (.cons ft102 (.cons ft103 (.cons ft104 (.cons ft105 (.cons ft112 (.cons ft128 (.cons ft129 (.cons ft131 (.cons ft132 (.cons ft140 (.nil))))))))))))))))))))))))))
theorem fnOk : ∀ f fd, E.fn f = some fd → FnTab Try.prog E f fd := fnTab_of (l := fnTab) (fun _ => rfl) allFns
end Go.Proofs.Ytdejjalkfekjiaa.D
end
section
/- Plain functions for the law's Go functions, each tied to the reading by the kernel (printed by a program of this workplace). -/
namespace Go.Proofs.Ytdejjalkfekjiaa.D
open Go Go.Desk
set_option linter.unusedVariables false
noncomputable def x140.w : FnW E := xF32frombits.w 140 (by kernel_rfl)

noncomputable def x112.w : FnW E := xIntegral_even.w 112 (by kernel_rfl)

def f27_l_r8Long : Nat → Nat → List T → Nat → List T → Option (Bool)
  | 0, _, _, _, _ => none
  | n + 1, n1, l2, n3, l4 =>
    br (decide (((n1 : Nat) : Int) > (48 : Int))) (
     some true) (
     some (decide (((n3 : Nat) : Int) > (48 : Int))))
def sg_ll : Sig (Nat × List T × Nat × List T) where
  pk := fun v => [.lst v.1 v.2.1, .lst v.2.2.1 v.2.2.2]
  up := fun ls => match ls with
    | [.lst a0 a1, .lst a2 a3] => some (a0, a1, a2, a3)
    | _ => none
  ok := by
    intro ls v h
    split at h
    · cases h; rfl
    · cases h

def sg_b : Sig (Bool) where
  pk := fun v => [.bool v]
  up := fun ls => match ls with
    | [.bool a0] => some a0
    | _ => none
  ok := by
    intro ls v h
    split at h
    · cases h; rfl
    · cases h

def f27_l_r8Long.P : List Arg := [⟨.val, ⟨false, [.sl .shr [.leaf]], [.lst 0 []]⟩⟩, ⟨.val, ⟨false, [.sl .shr [.leaf]], [.lst 0 []]⟩⟩]
def f27_l_r8Long.A : RAlt (Bool) := .one ⟨[⟨false, [.leaf], [.bool false]⟩], [none, none]⟩ sg_b
def f27_l_r8Long.F (n : Nat) (v : Nat × List T × Nat × List T) := f27_l_r8Long n v.1 v.2.1 v.2.2.1 v.2.2.2
noncomputable def f27_l_r8Long.O (n : Nat) : Orc := orcOf (E := E) [] [] n
theorem f27_l_r8Long.ok : ∀ n v x, f27_l_r8Long.F n v = some x → evalFn E n 27 (flAs f27_l_r8Long.P (sg_ll.pk v)) = some (f27_l_r8Long.A.enc x) :=
  fn_pure (modes := (fdAt 27).ms) (outs := (fdAt 27).os) (results := (fdAt 27).rs) f27_l_r8Long.O (c := c27) (keep := keepAt 27) (by kernel_rfl) (fun n => orcOf_cf _ _ n) (fun n => lpOk_of (bs := []) (by kernel_rfl) .nil) (fun _ => rfl) (fun _ _ => by kernel_rfl)
noncomputable def f27_l_r8Long.w : FnW E := fnW 27 f27_l_r8Long.P sg_ll f27_l_r8Long.A f27_l_r8Long.F f27_l_r8Long.ok

def f28_l_r8At : Nat → Nat → List T → Int → Int → Option (Int)
  | 0, _, _, _, _ => none
  | n + 1, n1, l2, i3, i4 =>
    br (decide (i4 ≤ (1 : Int))) (
     some (0 : Int)) (
     br (decide (i3 ≥ ((n1 : Nat) : Int))) (
      some (0 : Int)) (
      gd ((decide (((0 : Int) ≤ i3) ∧ (i3 < ((n1 : Nat) : Int)))) && (okAt [(CK.int IntKind.u8)] l2 (Int.toNat i3))) (
      gd (!(decide (i4 = (0 : Int)))) (
      some (Int.tmod (IntKind.i64.wrap (iAt l2 (Int.toNat i3))) i4)))))
def sg_lii : Sig (Nat × List T × Int × Int) where
  pk := fun v => [.lst v.1 v.2.1, .int v.2.2.1, .int v.2.2.2]
  up := fun ls => match ls with
    | [.lst a0 a1, .int a2, .int a3] => some (a0, a1, a2, a3)
    | _ => none
  ok := by
    intro ls v h
    split at h
    · cases h; rfl
    · cases h

def sg_i : Sig (Int) where
  pk := fun v => [.int v]
  up := fun ls => match ls with
    | [.int a0] => some a0
    | _ => none
  ok := by
    intro ls v h
    split at h
    · cases h; rfl
    · cases h

def f28_l_r8At.P : List Arg := [⟨.val, ⟨false, [.sl .shr [.leaf]], [.lst 0 []]⟩⟩, ⟨.val, ⟨false, [.leaf], [.int .i64 0]⟩⟩, ⟨.val, ⟨false, [.leaf], [.int .i64 0]⟩⟩]
def f28_l_r8At.A : RAlt (Int) := .one ⟨[⟨false, [.leaf], [.int .i64 0]⟩], [none, none, none]⟩ sg_i
def f28_l_r8At.F (n : Nat) (v : Nat × List T × Int × Int) := f28_l_r8At n v.1 v.2.1 v.2.2.1 v.2.2.2
noncomputable def f28_l_r8At.O (n : Nat) : Orc := orcOf (E := E) [] [] n
theorem f28_l_r8At.ok : ∀ n v x, f28_l_r8At.F n v = some x → evalFn E n 28 (flAs f28_l_r8At.P (sg_lii.pk v)) = some (f28_l_r8At.A.enc x) :=
  fn_pure (modes := (fdAt 28).ms) (outs := (fdAt 28).os) (results := (fdAt 28).rs) f28_l_r8At.O (c := c28) (keep := keepAt 28) (by kernel_rfl) (fun n => orcOf_cf _ _ n) (fun n => lpOk_of (bs := []) (by kernel_rfl) .nil) (fun _ => rfl) (fun _ _ => by kernel_rfl)
noncomputable def f28_l_r8At.w : FnW E := fnW 28 f28_l_r8At.P sg_lii f28_l_r8At.A f28_l_r8At.F f28_l_r8At.ok

def f75_s_l00From : Nat → Nat → List T → Option (Nat × List T × Int × Int)
  | 0, _, _ => none
  | n + 1, n1, l2 =>
    some (n1, l2, (0 : Int), (0 : Int))
def sg_l : Sig (Nat × List T) where
  pk := fun v => [.lst v.1 v.2]
  up := fun ls => match ls with
    | [.lst a0 a1] => some (a0, a1)
    | _ => none
  ok := by
    intro ls v h
    split at h
    · cases h; rfl
    · cases h

def f75_s_l00From.P : List Arg := [⟨.val, ⟨false, [.sl .shr [.leaf]], [.lst 0 []]⟩⟩]
def f75_s_l00From.A : RAlt (Nat × List T × Int × Int) := .one ⟨[⟨false, [.rf .own [.sl .shr [.leaf], .leaf, .leaf]], [.ref [.lst 0 [], .int .i64 0, .int .u64 0]]⟩], [none]⟩ sg_lii
def f75_s_l00From.F (n : Nat) (v : Nat × List T) := f75_s_l00From n v.1 v.2
noncomputable def f75_s_l00From.O (n : Nat) : Orc := orcOf (E := E) [] [] n
theorem f75_s_l00From.ok : ∀ n v x, f75_s_l00From.F n v = some x → evalFn E n 75 (flAs f75_s_l00From.P (sg_l.pk v)) = some (f75_s_l00From.A.enc x) :=
  fn_pure (modes := (fdAt 75).ms) (outs := (fdAt 75).os) (results := (fdAt 75).rs) f75_s_l00From.O (c := c75) (keep := keepAt 75) (by kernel_rfl) (fun n => orcOf_cf _ _ n) (fun n => lpOk_of (bs := []) (by kernel_rfl) .nil) (fun _ => rfl) (fun _ _ => by kernel_rfl)
noncomputable def f75_s_l00From.w : FnW E := fnW 75 f75_s_l00From.P sg_l f75_s_l00From.A f75_s_l00From.F f75_s_l00From.ok

def f128_s_l00Srcnext : Nat → Nat → List T → Int → Int → Option (Int × Nat × List T × Int × Int)
  | 0, _, _, _, _ => none
  | n + 1, n1, l2, i3, i4 =>
    br (decide (i3 < ((n1 : Nat) : Int))) (
     gd ((decide (((0 : Int) ≤ i3) ∧ (i3 < ((n1 : Nat) : Int)))) && (okAt [(CK.int IntKind.u8)] l2 (Int.toNat i3))) (
     let i5 : Int := (IntKind.i64.wrap (iAt l2 (Int.toNat i3)))
     let i6 : Int := (IntKind.i64.wrap (i3 + (1 : Int)))
     let i7 : Int := (IntKind.u64.wrap ((IntKind.u64.wrap ((IntKind.u64.wrap (i4 * (6364136223846793005 : Int))) + (IntKind.u64.wrap i5))) + (1442695040888963407 : Int)))
     br (decide (i6 ≤ ((n1 : Nat) : Int))) (
      some (i5, n1, l2, i6, i7)) (
      some ((IntKind.i64.wrap (intBits BinOp.and IntKind.u64 (Int.fdiv i7 (1099511627776 : Int)) (255 : Int))), n1, l2, i6, i7)))) (
     let i8 : Int := (IntKind.i64.wrap (i3 + (1 : Int)))
     let i9 : Int := (IntKind.u64.wrap ((IntKind.u64.wrap ((IntKind.u64.wrap (i4 * (6364136223846793005 : Int))) + (0 : Int))) + (1442695040888963407 : Int)))
     br (decide (i8 ≤ ((n1 : Nat) : Int))) (
      some ((0 : Int), n1, l2, i8, i9)) (
      some ((IntKind.i64.wrap (intBits BinOp.and IntKind.u64 (Int.fdiv i9 (1099511627776 : Int)) (255 : Int))), n1, l2, i8, i9)))
def sg_ilii : Sig (Int × Nat × List T × Int × Int) where
  pk := fun v => [.int v.1, .lst v.2.1 v.2.2.1, .int v.2.2.2.1, .int v.2.2.2.2]
  up := fun ls => match ls with
    | [.int a0, .lst a1 a2, .int a3, .int a4] => some (a0, a1, a2, a3, a4)
    | _ => none
  ok := by
    intro ls v h
    split at h
    · cases h; rfl
    · cases h

def f128_s_l00Srcnext.P : List Arg := [⟨.iop, ⟨false, [.rf .own [.sl .shr [.leaf], .leaf, .leaf]], [.ref [.lst 0 [], .int .i64 0, .int .u64 0]]⟩⟩]
def f128_s_l00Srcnext.A : RAlt (Int × Nat × List T × Int × Int) := .one ⟨[⟨false, [.leaf], [.int .i64 0]⟩], [some ⟨false, [.rf .own [.sl .shr [.leaf], .leaf, .leaf]], [.ref [.lst 0 [], .int .i64 0, .int .u64 0]]⟩]⟩ sg_ilii
def f128_s_l00Srcnext.F (n : Nat) (v : Nat × List T × Int × Int) := f128_s_l00Srcnext n v.1 v.2.1 v.2.2.1 v.2.2.2
noncomputable def f128_s_l00Srcnext.O (n : Nat) : Orc := orcOf (E := E) [] [] n
theorem f128_s_l00Srcnext.ok : ∀ n v x, f128_s_l00Srcnext.F n v = some x → evalFn E n 128 (flAs f128_s_l00Srcnext.P (sg_lii.pk v)) = some (f128_s_l00Srcnext.A.enc x) :=
  fn_pure (modes := (fdAt 128).ms) (outs := (fdAt 128).os) (results := (fdAt 128).rs) f128_s_l00Srcnext.O (c := c128) (keep := keepAt 128) (by kernel_rfl) (fun n => orcOf_cf _ _ n) (fun n => lpOk_of (bs := []) (by kernel_rfl) .nil) (fun _ => rfl) (fun _ _ => by kernel_rfl)
noncomputable def f128_s_l00Srcnext.w : FnW E := fnW 128 f128_s_l00Srcnext.P sg_lii f128_s_l00Srcnext.A f128_s_l00Srcnext.F f128_s_l00Srcnext.ok

def f76_s_l00Srcpick : Nat → Nat → List T → Int → Int → Int → Option (Int × Nat × List T × Int × Int)
  | 0, _, _, _, _, _ => none
  | n + 1, n1, l2, i3, i4, i5 =>
    br (decide (i5 ≤ (1 : Int))) (
     some ((0 : Int), n1, l2, i3, i4)) (
     bd (f128_s_l00Srcnext n n1 l2 i3 i4) fun r6 =>
     let i7 : Int := r6.1
     let n8 : Nat := r6.2.1
     let l9 : List T := r6.2.2.1
     let i10 : Int := r6.2.2.2.1
     let i11 : Int := r6.2.2.2.2
     br (decide (i5 > (200 : Int))) (
      bd (f128_s_l00Srcnext n n8 l9 i10 i11) fun r12 =>
      let i13 : Int := r12.1
      let n14 : Nat := r12.2.1
      let l15 : List T := r12.2.2.1
      let i16 : Int := r12.2.2.2.1
      let i17 : Int := r12.2.2.2.2
      let i18 : Int := (IntKind.i64.wrap ((IntKind.i64.wrap (i7 * (256 : Int))) + i13))
      gd (!(decide (i5 = (0 : Int)))) (
      some ((Int.tmod i18 i5), n14, l15, i16, i17))) (
      gd (!(decide (i5 = (0 : Int)))) (
      some ((Int.tmod i7 i5), n8, l9, i10, i11))))
def sg_liii : Sig (Nat × List T × Int × Int × Int) where
  pk := fun v => [.lst v.1 v.2.1, .int v.2.2.1, .int v.2.2.2.1, .int v.2.2.2.2]
  up := fun ls => match ls with
    | [.lst a0 a1, .int a2, .int a3, .int a4] => some (a0, a1, a2, a3, a4)
    | _ => none
  ok := by
    intro ls v h
    split at h
    · cases h; rfl
    · cases h

def f76_s_l00Srcpick.P : List Arg := [⟨.iop, ⟨false, [.rf .own [.sl .shr [.leaf], .leaf, .leaf]], [.ref [.lst 0 [], .int .i64 0, .int .u64 0]]⟩⟩, ⟨.val, ⟨false, [.leaf], [.int .i64 0]⟩⟩]
def f76_s_l00Srcpick.A : RAlt (Int × Nat × List T × Int × Int) := .one ⟨[⟨false, [.leaf], [.int .i64 0]⟩], [some ⟨false, [.rf .own [.sl .shr [.leaf], .leaf, .leaf]], [.ref [.lst 0 [], .int .i64 0, .int .u64 0]]⟩, none]⟩ sg_ilii
def f76_s_l00Srcpick.F (n : Nat) (v : Nat × List T × Int × Int × Int) := f76_s_l00Srcpick n v.1 v.2.1 v.2.2.1 v.2.2.2.1 v.2.2.2.2
noncomputable def f76_s_l00Srcpick.O (n : Nat) : Orc := orcOf (E := E) [f128_s_l00Srcnext.w] [] n
theorem f76_s_l00Srcpick.ok : ∀ n v x, f76_s_l00Srcpick.F n v = some x → evalFn E n 76 (flAs f76_s_l00Srcpick.P (sg_liii.pk v)) = some (f76_s_l00Srcpick.A.enc x) :=
  fn_pure (modes := (fdAt 76).ms) (outs := (fdAt 76).os) (results := (fdAt 76).rs) f76_s_l00Srcpick.O (c := c76) (keep := keepAt 76) (by kernel_rfl) (fun n => orcOf_cf _ _ n) (fun n => lpOk_of (bs := []) (by kernel_rfl) .nil) (fun _ => rfl) (fun _ _ => by kernel_rfl)
noncomputable def f76_s_l00Srcpick.w : FnW E := fnW 76 f76_s_l00Srcpick.P sg_liii f76_s_l00Srcpick.A f76_s_l00Srcpick.F f76_s_l00Srcpick.ok

def f129_s_l00Srcone : Nat → Nat → List T → Int → Int → Int → Option (Bool × Nat × List T × Int × Int)
  | 0, _, _, _, _, _ => none
  | n + 1, n1, l2, i3, i4, i5 =>
    bd (f76_s_l00Srcpick n n1 l2 i3 i4 i5) fun r6 =>
    let i7 : Int := r6.1
    let n8 : Nat := r6.2.1
    let l9 : List T := r6.2.2.1
    let i10 : Int := r6.2.2.2.1
    let i11 : Int := r6.2.2.2.2
    some ((i7 == (0 : Int)), n8, l9, i10, i11)
def sg_blii : Sig (Bool × Nat × List T × Int × Int) where
  pk := fun v => [.bool v.1, .lst v.2.1 v.2.2.1, .int v.2.2.2.1, .int v.2.2.2.2]
  up := fun ls => match ls with
    | [.bool a0, .lst a1 a2, .int a3, .int a4] => some (a0, a1, a2, a3, a4)
    | _ => none
  ok := by
    intro ls v h
    split at h
    · cases h; rfl
    · cases h

def f129_s_l00Srcone.P : List Arg := [⟨.iop, ⟨false, [.rf .own [.sl .shr [.leaf], .leaf, .leaf]], [.ref [.lst 0 [], .int .i64 0, .int .u64 0]]⟩⟩, ⟨.val, ⟨false, [.leaf], [.int .i64 0]⟩⟩]
def f129_s_l00Srcone.A : RAlt (Bool × Nat × List T × Int × Int) := .one ⟨[⟨false, [.leaf], [.bool false]⟩], [some ⟨false, [.rf .own [.sl .shr [.leaf], .leaf, .leaf]], [.ref [.lst 0 [], .int .i64 0, .int .u64 0]]⟩, none]⟩ sg_blii
def f129_s_l00Srcone.F (n : Nat) (v : Nat × List T × Int × Int × Int) := f129_s_l00Srcone n v.1 v.2.1 v.2.2.1 v.2.2.2.1 v.2.2.2.2
noncomputable def f129_s_l00Srcone.O (n : Nat) : Orc := orcOf (E := E) [f76_s_l00Srcpick.w] [] n
theorem f129_s_l00Srcone.ok : ∀ n v x, f129_s_l00Srcone.F n v = some x → evalFn E n 129 (flAs f129_s_l00Srcone.P (sg_liii.pk v)) = some (f129_s_l00Srcone.A.enc x) :=
  fn_pure (modes := (fdAt 129).ms) (outs := (fdAt 129).os) (results := (fdAt 129).rs) f129_s_l00Srcone.O (c := c129) (keep := keepAt 129) (by kernel_rfl) (fun n => orcOf_cf _ _ n) (fun n => lpOk_of (bs := []) (by kernel_rfl) .nil) (fun _ => rfl) (fun _ _ => by kernel_rfl)
noncomputable def f129_s_l00Srcone.w : FnW E := fnW 129 f129_s_l00Srcone.P sg_liii f129_s_l00Srcone.A f129_s_l00Srcone.F f129_s_l00Srcone.ok

def f77_s_l01DrawPlain : Nat → Nat → List T → Int → Int → Option (Nat × Nat × List T × Int × Int)
  | 0, _, _, _, _ => none
  | n + 1, n1, l2, i3, i4 =>
    bd (f76_s_l00Srcpick n n1 l2 i3 i4 (129 : Int)) fun r5 =>
    let i6 : Int := r5.1
    let n7 : Nat := r5.2.1
    let l8 : List T := r5.2.2.1
    let i9 : Int := r5.2.2.2.1
    let i10 : Int := r5.2.2.2.2
    let i11 : Int := (IntKind.i64.wrap (i6 - (64 : Int)))
    bd (f129_s_l00Srcone n n7 l8 i9 i10 (4 : Int)) fun r12 =>
    let b13 : Bool := r12.1
    let n14 : Nat := r12.2.1
    let l15 : List T := r12.2.2.1
    let i16 : Int := r12.2.2.2.1
    let i17 : Int := r12.2.2.2.2
    br b13 (
     some ((fdiv FloatKind.f32 (FloatKind.nearest FloatKind.f32 i11) 1088421888), n14, l15, i16, i17)) (
     some ((fdiv FloatKind.f32 (FloatKind.nearest FloatKind.f32 i11) 1098907648), n14, l15, i16, i17))
def sg_flii : Sig (Nat × Nat × List T × Int × Int) where
  pk := fun v => [.flt v.1, .lst v.2.1 v.2.2.1, .int v.2.2.2.1, .int v.2.2.2.2]
  up := fun ls => match ls with
    | [.flt a0, .lst a1 a2, .int a3, .int a4] => some (a0, a1, a2, a3, a4)
    | _ => none
  ok := by
    intro ls v h
    split at h
    · cases h; rfl
    · cases h

def f77_s_l01DrawPlain.P : List Arg := [⟨.iop, ⟨false, [.rf .own [.sl .shr [.leaf], .leaf, .leaf]], [.ref [.lst 0 [], .int .i64 0, .int .u64 0]]⟩⟩]
def f77_s_l01DrawPlain.A : RAlt (Nat × Nat × List T × Int × Int) := .one ⟨[⟨false, [.leaf], [.flt .f32 0]⟩], [some ⟨false, [.rf .own [.sl .shr [.leaf], .leaf, .leaf]], [.ref [.lst 0 [], .int .i64 0, .int .u64 0]]⟩]⟩ sg_flii
def f77_s_l01DrawPlain.F (n : Nat) (v : Nat × List T × Int × Int) := f77_s_l01DrawPlain n v.1 v.2.1 v.2.2.1 v.2.2.2
noncomputable def f77_s_l01DrawPlain.O (n : Nat) : Orc := orcOf (E := E) [f76_s_l00Srcpick.w, f129_s_l00Srcone.w] [] n
theorem f77_s_l01DrawPlain.ok : ∀ n v x, f77_s_l01DrawPlain.F n v = some x → evalFn E n 77 (flAs f77_s_l01DrawPlain.P (sg_lii.pk v)) = some (f77_s_l01DrawPlain.A.enc x) :=
  fn_pure (modes := (fdAt 77).ms) (outs := (fdAt 77).os) (results := (fdAt 77).rs) f77_s_l01DrawPlain.O (c := c77) (keep := keepAt 77) (by kernel_rfl) (fun n => orcOf_cf _ _ n) (fun n => lpOk_of (bs := []) (by kernel_rfl) .nil) (fun _ => rfl) (fun _ _ => by kernel_rfl)
noncomputable def f77_s_l01DrawPlain.w : FnW E := fnW 77 f77_s_l01DrawPlain.P sg_lii f77_s_l01DrawPlain.A f77_s_l01DrawPlain.F f77_s_l01DrawPlain.ok

def f132_s_l00Srcamong : Nat → Nat → List T → Int → Int → Nat → List T → Option (Int × Nat × List T × Int × Int × Nat × List T)
  | 0, _, _, _, _, _, _ => none
  | n + 1, n1, l2, i3, i4, n5, l6 =>
    bd (f76_s_l00Srcpick n n1 l2 i3 i4 ((n5 : Nat) : Int)) fun r7 =>
    let i8 : Int := r7.1
    let n9 : Nat := r7.2.1
    let l10 : List T := r7.2.2.1
    let i11 : Int := r7.2.2.2.1
    let i12 : Int := r7.2.2.2.2
    gd (decide (((0 : Int) ≤ i8) ∧ (i8 < ((n5 : Nat) : Int)))) (
    gd (okAt [(CK.int IntKind.i64)] l6 (Int.toNat i8)) (
    some ((iAt l6 (Int.toNat i8)), n9, l10, i11, i12, n5, l6)))
def sg_liil : Sig (Nat × List T × Int × Int × Nat × List T) where
  pk := fun v => [.lst v.1 v.2.1, .int v.2.2.1, .int v.2.2.2.1, .lst v.2.2.2.2.1 v.2.2.2.2.2]
  up := fun ls => match ls with
    | [.lst a0 a1, .int a2, .int a3, .lst a4 a5] => some (a0, a1, a2, a3, a4, a5)
    | _ => none
  ok := by
    intro ls v h
    split at h
    · cases h; rfl
    · cases h

def sg_iliil : Sig (Int × Nat × List T × Int × Int × Nat × List T) where
  pk := fun v => [.int v.1, .lst v.2.1 v.2.2.1, .int v.2.2.2.1, .int v.2.2.2.2.1, .lst v.2.2.2.2.2.1 v.2.2.2.2.2.2]
  up := fun ls => match ls with
    | [.int a0, .lst a1 a2, .int a3, .int a4, .lst a5 a6] => some (a0, a1, a2, a3, a4, a5, a6)
    | _ => none
  ok := by
    intro ls v h
    split at h
    · cases h; rfl
    · cases h

def f132_s_l00Srcamong.P : List Arg := [⟨.iop, ⟨false, [.rf .own [.sl .shr [.leaf], .leaf, .leaf]], [.ref [.lst 0 [], .int .i64 0, .int .u64 0]]⟩⟩, ⟨.io, ⟨false, [.sl .own [.leaf]], [.lst 0 []]⟩⟩]
def f132_s_l00Srcamong.A : RAlt (Int × Nat × List T × Int × Int × Nat × List T) := .one ⟨[⟨false, [.leaf], [.int .i64 0]⟩], [some ⟨false, [.rf .own [.sl .shr [.leaf], .leaf, .leaf]], [.ref [.lst 0 [], .int .i64 0, .int .u64 0]]⟩, some ⟨false, [.sl .own [.leaf]], [.lst 0 []]⟩]⟩ sg_iliil
def f132_s_l00Srcamong.F (n : Nat) (v : Nat × List T × Int × Int × Nat × List T) := f132_s_l00Srcamong n v.1 v.2.1 v.2.2.1 v.2.2.2.1 v.2.2.2.2.1 v.2.2.2.2.2
noncomputable def f132_s_l00Srcamong.O (n : Nat) : Orc := orcOf (E := E) [f76_s_l00Srcpick.w] [] n
theorem f132_s_l00Srcamong.ok : ∀ n v x, f132_s_l00Srcamong.F n v = some x → evalFn E n 132 (flAs f132_s_l00Srcamong.P (sg_liil.pk v)) = some (f132_s_l00Srcamong.A.enc x) :=
  fn_pure (modes := (fdAt 132).ms) (outs := (fdAt 132).os) (results := (fdAt 132).rs) f132_s_l00Srcamong.O (c := c132) (keep := keepAt 132) (by kernel_rfl) (fun n => orcOf_cf _ _ n) (fun n => lpOk_of (bs := []) (by kernel_rfl) .nil) (fun _ => rfl) (fun _ _ => by kernel_rfl)
noncomputable def f132_s_l00Srcamong.w : FnW E := fnW 132 f132_s_l00Srcamong.P sg_liil f132_s_l00Srcamong.A f132_s_l00Srcamong.F f132_s_l00Srcamong.ok

def f131_s_l01From : Nat → Int → Option (Nat)
  | 0, _ => none
  | n + 1, i1 =>
    bd (xF32frombits n (IntKind.u32.wrap i1)) fun r2 =>
    let x3 : Nat := r2
    some x3
def sg_f : Sig (Nat) where
  pk := fun v => [.flt v]
  up := fun ls => match ls with
    | [.flt a0] => some a0
    | _ => none
  ok := by
    intro ls v h
    split at h
    · cases h; rfl
    · cases h

def f131_s_l01From.P : List Arg := [⟨.val, ⟨false, [.leaf], [.int .i64 0]⟩⟩]
def f131_s_l01From.A : RAlt (Nat) := .one ⟨[⟨false, [.leaf], [.flt .f32 0]⟩], [none]⟩ sg_f
def f131_s_l01From.F (n : Nat) (v : Int) := f131_s_l01From n v
noncomputable def f131_s_l01From.O (n : Nat) : Orc := orcOf (E := E) [x140.w] [] n
theorem f131_s_l01From.ok : ∀ n v x, f131_s_l01From.F n v = some x → evalFn E n 131 (flAs f131_s_l01From.P (sg_i.pk v)) = some (f131_s_l01From.A.enc x) :=
  fn_pure (modes := (fdAt 131).ms) (outs := (fdAt 131).os) (results := (fdAt 131).rs) f131_s_l01From.O (c := c131) (keep := keepAt 131) (by kernel_rfl) (fun n => orcOf_cf _ _ n) (fun n => lpOk_of (bs := []) (by kernel_rfl) .nil) (fun _ => rfl) (fun _ _ => by kernel_rfl)
noncomputable def f131_s_l01From.w : FnW E := fnW 131 f131_s_l01From.P sg_i f131_s_l01From.A f131_s_l01From.F f131_s_l01From.ok

def f99_s_l01DrawFloat : Nat → Nat → List T → Int → Int → Option (Nat × Nat × List T × Int × Int)
  | 0, _, _, _, _ => none
  | n + 1, n1, l2, i3, i4 =>
    bd (f129_s_l00Srcone n n1 l2 i3 i4 (12 : Int)) fun r5 =>
    let b6 : Bool := r5.1
    let n7 : Nat := r5.2.1
    let l8 : List T := r5.2.2.1
    let i9 : Int := r5.2.2.2.1
    let i10 : Int := r5.2.2.2.2
    br (!b6) (
     bd (f77_s_l01DrawPlain n n7 l8 i9 i10) fun r11 =>
     let x12 : Nat := r11.1
     let n13 : Nat := r11.2.1
     let l14 : List T := r11.2.2.1
     let i15 : Int := r11.2.2.2.1
     let i16 : Int := r11.2.2.2.2
     some (x12, n13, l14, i15, i16)) (
     bd (f76_s_l00Srcpick n n7 l8 i9 i10 (4 : Int)) fun r17 =>
     let i18 : Int := r17.1
     let n19 : Nat := r17.2.1
     let l20 : List T := r17.2.2.1
     let i21 : Int := r17.2.2.2.1
     let i22 : Int := r17.2.2.2.2
     br (i18 == (0 : Int)) (
      bd (f132_s_l00Srcamong n n19 l20 i21 i22 10 (setN (setN (setN (setN (setN (setN (setN (setN (setN (setN (reps 10 [(T.int IntKind.i64 (0 : Int))]) 0 [(T.int IntKind.i64 (0 : Int))]) 1 [(T.int IntKind.i64 (2147483648 : Int))]) 2 [(T.int IntKind.i64 (2139095040 : Int))]) 3 [(T.int IntKind.i64 (4286578688 : Int))]) 4 [(T.int IntKind.i64 (2143289344 : Int))]) 5 [(T.int IntKind.i64 (1 : Int))]) 6 [(T.int IntKind.i64 (2139095039 : Int))]) 7 [(T.int IntKind.i64 (8388608 : Int))]) 8 [(T.int IntKind.i64 (8388607 : Int))]) 9 [(T.int IntKind.i64 (2147483649 : Int))])) fun r23 =>
      let i24 : Int := r23.1
      let n25 : Nat := r23.2.1
      let l26 : List T := r23.2.2.1
      let i27 : Int := r23.2.2.2.1
      let i28 : Int := r23.2.2.2.2.1
      let n29 : Nat := r23.2.2.2.2.2.1
      let l30 : List T := r23.2.2.2.2.2.2
      bd (f131_s_l01From n i24) fun r31 =>
      let x32 : Nat := r31
      some (x32, n25, l26, i27, i28)) (
      br (i18 == (1 : Int)) (
       bd (f76_s_l00Srcpick n n19 l20 i21 i22 (65536 : Int)) fun r33 =>
       let i34 : Int := r33.1
       let n35 : Nat := r33.2.1
       let l36 : List T := r33.2.2.1
       let i37 : Int := r33.2.2.2.1
       let i38 : Int := r33.2.2.2.2
       let i39 : Int := (IntKind.i64.wrap (i34 * (65536 : Int)))
       bd (f76_s_l00Srcpick n n35 l36 i37 i38 (65536 : Int)) fun r40 =>
       let i41 : Int := r40.1
       let n42 : Nat := r40.2.1
       let l43 : List T := r40.2.2.1
       let i44 : Int := r40.2.2.2.1
       let i45 : Int := r40.2.2.2.2
       bd (f131_s_l01From n (IntKind.i64.wrap (i39 + i41))) fun r46 =>
       let x47 : Nat := r46
       some (x47, n42, l43, i44, i45)) (
       br (i18 == (2 : Int)) (
        bd (f76_s_l00Srcpick n n19 l20 i21 i22 (65536 : Int)) fun r48 =>
        let i49 : Int := r48.1
        let n50 : Nat := r48.2.1
        let l51 : List T := r48.2.2.1
        let i52 : Int := r48.2.2.2.1
        let i53 : Int := r48.2.2.2.2
        bd (f131_s_l01From n (IntKind.i64.wrap (i49 * (65536 : Int)))) fun r54 =>
        let x55 : Nat := r54
        some (x55, n50, l51, i52, i53)) (
        bd (f77_s_l01DrawPlain n n19 l20 i21 i22) fun r56 =>
        let x57 : Nat := r56.1
        let n58 : Nat := r56.2.1
        let l59 : List T := r56.2.2.1
        let i60 : Int := r56.2.2.2.1
        let i61 : Int := r56.2.2.2.2
        bd (f132_s_l00Srcamong n n58 l59 i60 i61 4 (setN (setN (setN (setN (reps 4 [(T.int IntKind.i64 (0 : Int))]) 0 [(T.int IntKind.i64 (8388608 : Int))]) 1 [(T.int IntKind.i64 (2130706432 : Int))]) 2 [(T.int IntKind.i64 (1610612736 : Int))]) 3 [(T.int IntKind.i64 (536870912 : Int))])) fun r62 =>
        let i63 : Int := r62.1
        let n64 : Nat := r62.2.1
        let l65 : List T := r62.2.2.1
        let i66 : Int := r62.2.2.2.1
        let i67 : Int := r62.2.2.2.2.1
        let n68 : Nat := r62.2.2.2.2.2.1
        let l69 : List T := r62.2.2.2.2.2.2
        bd (f131_s_l01From n i63) fun r70 =>
        let x71 : Nat := r70
        some ((fmul FloatKind.f32 x57 x71), n64, l65, i66, i67)))))
def f99_s_l01DrawFloat.P : List Arg := [⟨.iop, ⟨false, [.rf .own [.sl .shr [.leaf], .leaf, .leaf]], [.ref [.lst 0 [], .int .i64 0, .int .u64 0]]⟩⟩]
def f99_s_l01DrawFloat.A : RAlt (Nat × Nat × List T × Int × Int) := .one ⟨[⟨false, [.leaf], [.flt .f32 0]⟩], [some ⟨false, [.rf .own [.sl .shr [.leaf], .leaf, .leaf]], [.ref [.lst 0 [], .int .i64 0, .int .u64 0]]⟩]⟩ sg_flii
def f99_s_l01DrawFloat.F (n : Nat) (v : Nat × List T × Int × Int) := f99_s_l01DrawFloat n v.1 v.2.1 v.2.2.1 v.2.2.2
noncomputable def f99_s_l01DrawFloat.O (n : Nat) : Orc := orcOf (E := E) [f76_s_l00Srcpick.w, f129_s_l00Srcone.w, f77_s_l01DrawPlain.w, f132_s_l00Srcamong.w, f131_s_l01From.w] [] n
theorem f99_s_l01DrawFloat.ok : ∀ n v x, f99_s_l01DrawFloat.F n v = some x → evalFn E n 99 (flAs f99_s_l01DrawFloat.P (sg_lii.pk v)) = some (f99_s_l01DrawFloat.A.enc x) :=
  fn_pure (modes := (fdAt 99).ms) (outs := (fdAt 99).os) (results := (fdAt 99).rs) f99_s_l01DrawFloat.O (c := c99) (keep := keepAt 99) (by kernel_rfl) (fun n => orcOf_cf _ _ n) (fun n => lpOk_of (bs := []) (by kernel_rfl) .nil) (fun _ => rfl) (fun _ _ => by kernel_rfl)
noncomputable def f99_s_l01DrawFloat.w : FnW E := fnW 99 f99_s_l01DrawFloat.P sg_lii f99_s_l01DrawFloat.A f99_s_l01DrawFloat.F f99_s_l01DrawFloat.ok

def f81_s_l01DrawFloats.l0 (n : Nat) : Nat → Nat → List T → Int → Int → Int → Nat → List T → Bool → Option (Nat × List T × Int × Int × Nat × List T)
  | 0, _, _, _, _, _, _, _, _ => none
  | m + 1, n1, l2, i3, i4, i5, n6, l7, b8 =>
    br (decide (i5 > (0 : Int))) (
     br b8 (
      bd (f99_s_l01DrawFloat n n1 l2 i3 i4) fun r9 =>
      let x10 : Nat := r9.1
      let n11 : Nat := r9.2.1
      let l12 : List T := r9.2.2.1
      let i13 : Int := r9.2.2.2.1
      let i14 : Int := r9.2.2.2.2
      gd (Nat.ble (n6 + 1) 2147483648) (
      let n15 : Nat := (n6 + 1)
      let l16 : List T := (l7 ++ (setN (reps 1 [(T.flt FloatKind.f32 0)]) 0 [(T.flt FloatKind.f32 x10)]))
      f81_s_l01DrawFloats.l0 n m n11 l12 i13 i14 (IntKind.i64.wrap (i5 - (1 : Int))) n15 l16 b8)) (
      bd (f77_s_l01DrawPlain n n1 l2 i3 i4) fun r17 =>
      let x18 : Nat := r17.1
      let n19 : Nat := r17.2.1
      let l20 : List T := r17.2.2.1
      let i21 : Int := r17.2.2.2.1
      let i22 : Int := r17.2.2.2.2
      gd (Nat.ble (n6 + 1) 2147483648) (
      let n23 : Nat := (n6 + 1)
      let l24 : List T := (l7 ++ (setN (reps 1 [(T.flt FloatKind.f32 0)]) 0 [(T.flt FloatKind.f32 x18)]))
      f81_s_l01DrawFloats.l0 n m n19 l20 i21 i22 (IntKind.i64.wrap (i5 - (1 : Int))) n23 l24 b8))) (
     some (n1, l2, i3, i4, n6, l7))
def f81_s_l01DrawFloats : Nat → Nat → List T → Int → Int → Int → Option (Nat × List T × Nat × List T × Int × Int)
  | 0, _, _, _, _, _ => none
  | n + 1, n1, l2, i3, i4, i5 =>
    bd (f129_s_l00Srcone n n1 l2 i3 i4 (4 : Int)) fun r6 =>
    let b7 : Bool := r6.1
    let n8 : Nat := r6.2.1
    let l9 : List T := r6.2.2.1
    let i10 : Int := r6.2.2.2.1
    let i11 : Int := r6.2.2.2.2
    bd (f81_s_l01DrawFloats.l0 n n n8 l9 i10 i11 i5 0 (reps 0 [(T.flt FloatKind.f32 0)]) b7) fun r12 =>
    let n13 : Nat := r12.1
    let l14 : List T := r12.2.1
    let i15 : Int := r12.2.2.1
    let i16 : Int := r12.2.2.2.1
    let n17 : Nat := r12.2.2.2.2.1
    let l18 : List T := r12.2.2.2.2.2
    some (n17, l18, n13, l14, i15, i16)
def sg_llii : Sig (Nat × List T × Nat × List T × Int × Int) where
  pk := fun v => [.lst v.1 v.2.1, .lst v.2.2.1 v.2.2.2.1, .int v.2.2.2.2.1, .int v.2.2.2.2.2]
  up := fun ls => match ls with
    | [.lst a0 a1, .lst a2 a3, .int a4, .int a5] => some (a0, a1, a2, a3, a4, a5)
    | _ => none
  ok := by
    intro ls v h
    split at h
    · cases h; rfl
    · cases h

def sg_liiilb : Sig (Nat × List T × Int × Int × Int × Nat × List T × Bool) where
  pk := fun v => [.lst v.1 v.2.1, .int v.2.2.1, .int v.2.2.2.1, .int v.2.2.2.2.1, .lst v.2.2.2.2.2.1 v.2.2.2.2.2.2.1, .bool v.2.2.2.2.2.2.2]
  up := fun ls => match ls with
    | [.lst a0 a1, .int a2, .int a3, .int a4, .lst a5 a6, .bool a7] => some (a0, a1, a2, a3, a4, a5, a6, a7)
    | _ => none
  ok := by
    intro ls v h
    split at h
    · cases h; rfl
    · cases h

def f81_s_l01DrawFloats.l0.P : AS := ⟨[(0, .box [.sl .shr [.leaf], .leaf, .leaf] [.lst 0 [], .int .i64 0, .int .u64 0] [] 0), (1, .val false [.leaf] [.int .i64 0] [] 0), (5, .val false [.sl .own [.leaf]] [.lst 0 []] [] 0), (6, .val false [.leaf] [.bool false] [] 0)], 0⟩
def f81_s_l01DrawFloats.l0.A : Alt (Nat × List T × Int × Int × Nat × List T) := .one (.exit 0) ⟨[(0, .box [.sl .shr [.leaf], .leaf, .leaf] [.lst 0 [], .int .i64 0, .int .u64 0] [] 0), (5, .val false [.sl .own [.leaf]] [.lst 0 []] [] 0)], 0⟩ sg_liil
def f81_s_l01DrawFloats.l0.F (n m : Nat) (v : Nat × List T × Int × Int × Int × Nat × List T × Bool) := f81_s_l01DrawFloats.l0 n m v.1 v.2.1 v.2.2.1 v.2.2.2.1 v.2.2.2.2.1 v.2.2.2.2.2.1 v.2.2.2.2.2.2.1 v.2.2.2.2.2.2.2
def f81_s_l01DrawFloats.l0.W (n : Nat) : LpW := .of 48 f81_s_l01DrawFloats.l0.P sg_liiilb f81_s_l01DrawFloats.l0.A (f81_s_l01DrawFloats.l0.F n n)
def f81_s_l01DrawFloats.P : List Arg := [⟨.iop, ⟨false, [.rf .own [.sl .shr [.leaf], .leaf, .leaf]], [.ref [.lst 0 [], .int .i64 0, .int .u64 0]]⟩⟩, ⟨.val, ⟨false, [.leaf], [.int .i64 0]⟩⟩]
def f81_s_l01DrawFloats.A : RAlt (Nat × List T × Nat × List T × Int × Int) := .one ⟨[⟨false, [.sl .own [.leaf]], [.lst 0 []]⟩], [some ⟨false, [.rf .own [.sl .shr [.leaf], .leaf, .leaf]], [.ref [.lst 0 [], .int .i64 0, .int .u64 0]]⟩, none]⟩ sg_llii
def f81_s_l01DrawFloats.F (n : Nat) (v : Nat × List T × Int × Int × Int) := f81_s_l01DrawFloats n v.1 v.2.1 v.2.2.1 v.2.2.2.1 v.2.2.2.2
noncomputable def f81_s_l01DrawFloats.O (n : Nat) : Orc := orcOf (E := E) [f129_s_l00Srcone.w, f77_s_l01DrawPlain.w, f99_s_l01DrawFloat.w] [f81_s_l01DrawFloats.l0.W n] n
theorem f81_s_l01DrawFloats.l0.ok (n : Nat) : LpOk (f81_s_l01DrawFloats.O n) E (evalFn E n) n (keepAt 81) (.loop (loopAt c81 0)) :=
  lp_pure f81_s_l01DrawFloats.l0.P sg_liiilb f81_s_l01DrawFloats.l0.A (f81_s_l01DrawFloats.l0.F n) (orcOf_cf _ _ n) (lpOk_of (bs := []) (by kernel_rfl) .nil) (fun _ => rfl) (fun _ _ => by kernel_rfl) (fun _ _ _ => by kernel_rfl)
theorem f81_s_l01DrawFloats.ok : ∀ n v x, f81_s_l01DrawFloats.F n v = some x → evalFn E n 81 (flAs f81_s_l01DrawFloats.P (sg_liii.pk v)) = some (f81_s_l01DrawFloats.A.enc x) :=
  fn_pure (modes := (fdAt 81).ms) (outs := (fdAt 81).os) (results := (fdAt 81).rs) f81_s_l01DrawFloats.O (c := c81) (keep := keepAt 81) (by kernel_rfl) (fun n => orcOf_cf _ _ n) (fun n => lpOk_of (bs := [loopAt c81 0]) (by kernel_rfl) (.cons (f81_s_l01DrawFloats.l0.ok n) .nil)) (fun _ => rfl) (fun _ _ => by kernel_rfl)
noncomputable def f81_s_l01DrawFloats.w : FnW E := fnW 81 f81_s_l01DrawFloats.P sg_liii f81_s_l01DrawFloats.A f81_s_l01DrawFloats.F f81_s_l01DrawFloats.ok

def f30_s_R8Samples : Nat → Nat → List T → Int → Option (Nat × List T)
  | 0, _, _, _ => none
  | n + 1, n1, l2, i3 =>
    bd (f75_s_l00From n n1 l2) fun r4 =>
    let n5 : Nat := r4.1
    let l6 : List T := r4.2.1
    let i7 : Int := r4.2.2.1
    let i8 : Int := r4.2.2.2
    bd (f76_s_l00Srcpick n n5 l6 i7 i8 (IntKind.i64.wrap (i3 + (1 : Int)))) fun r9 =>
    let i10 : Int := r9.1
    let n11 : Nat := r9.2.1
    let l12 : List T := r9.2.2.1
    let i13 : Int := r9.2.2.2.1
    let i14 : Int := r9.2.2.2.2
    bd (f81_s_l01DrawFloats n n11 l12 i13 i14 i10) fun r15 =>
    let n16 : Nat := r15.1
    let l17 : List T := r15.2.1
    let n18 : Nat := r15.2.2.1
    let l19 : List T := r15.2.2.2.1
    let i20 : Int := r15.2.2.2.2.1
    let i21 : Int := r15.2.2.2.2.2
    some (n16, l17)
def sg_li : Sig (Nat × List T × Int) where
  pk := fun v => [.lst v.1 v.2.1, .int v.2.2]
  up := fun ls => match ls with
    | [.lst a0 a1, .int a2] => some (a0, a1, a2)
    | _ => none
  ok := by
    intro ls v h
    split at h
    · cases h; rfl
    · cases h

def f30_s_R8Samples.P : List Arg := [⟨.val, ⟨false, [.sl .shr [.leaf]], [.lst 0 []]⟩⟩, ⟨.val, ⟨false, [.leaf], [.int .i64 0]⟩⟩]
def f30_s_R8Samples.A : RAlt (Nat × List T) := .one ⟨[⟨false, [.sl .own [.leaf]], [.lst 0 []]⟩], [none, none]⟩ sg_l
def f30_s_R8Samples.F (n : Nat) (v : Nat × List T × Int) := f30_s_R8Samples n v.1 v.2.1 v.2.2
noncomputable def f30_s_R8Samples.O (n : Nat) : Orc := orcOf (E := E) [f75_s_l00From.w, f76_s_l00Srcpick.w, f81_s_l01DrawFloats.w] [] n
theorem f30_s_R8Samples.ok : ∀ n v x, f30_s_R8Samples.F n v = some x → evalFn E n 30 (flAs f30_s_R8Samples.P (sg_li.pk v)) = some (f30_s_R8Samples.A.enc x) :=
  fn_pure (modes := (fdAt 30).ms) (outs := (fdAt 30).os) (results := (fdAt 30).rs) f30_s_R8Samples.O (c := c30) (keep := keepAt 30) (by kernel_rfl) (fun n => orcOf_cf _ _ n) (fun n => lpOk_of (bs := []) (by kernel_rfl) .nil) (fun _ => rfl) (fun _ _ => by kernel_rfl)
noncomputable def f30_s_R8Samples.w : FnW E := fnW 30 f30_s_R8Samples.P sg_li f30_s_R8Samples.A f30_s_R8Samples.F f30_s_R8Samples.ok

def f7_l_FnNoise.l0 (n : Nat) : Nat → Nat → List T → Nat → List T → Int → Nat → List T → Nat → List T → Int → Option (Nat × List T × Int × Nat × List T × Nat × List T)
  | 0, _, _, _, _, _, _, _, _, _, _ => none
  | m + 1, n1, l2, n3, l4, i5, n6, l7, n8, l9, i10 =>
    br (decide (i10 < ((n6 : Nat) : Int))) (
     bd (f28_l_r8At n n1 l2 i10 (256 : Int)) fun r11 =>
     let i12 : Int := r11
     bd (f28_l_r8At n n1 l2 (IntKind.i64.wrap (i10 + (10 : Int))) (256 : Int)) fun r13 =>
     let i14 : Int := r13
     br ((Int.tmod i10 (2 : Int)) == (0 : Int)) (
      gd (Nat.ble (n8 + 1) 2147483648) (
      let n15 : Nat := (n8 + 1)
      let l16 : List T := (l9 ++ (setN (reps 1 [(T.int IntKind.i64 (0 : Int))]) 0 [(T.int IntKind.i64 i12)]))
      gd (Nat.ble (n15 + 1) 2147483648) (
      let n17 : Nat := (n15 + 1)
      let l18 : List T := (l16 ++ (setN (reps 1 [(T.int IntKind.i64 (0 : Int))]) 0 [(T.int IntKind.i64 i12)]))
      f7_l_FnNoise.l0 n m n1 l2 n3 l4 i5 n6 l7 n17 l18 (IntKind.i64.wrap (i10 + (1 : Int)))))) (
      gd (Nat.ble (n8 + 1) 2147483648) (
      let n19 : Nat := (n8 + 1)
      let l20 : List T := (l9 ++ (setN (reps 1 [(T.int IntKind.i64 (0 : Int))]) 0 [(T.int IntKind.i64 i12)]))
      gd (Nat.ble (n19 + 1) 2147483648) (
      let n21 : Nat := (n19 + 1)
      let l22 : List T := (l20 ++ (setN (reps 1 [(T.int IntKind.i64 (0 : Int))]) 0 [(T.int IntKind.i64 i14)]))
      f7_l_FnNoise.l0 n m n1 l2 n3 l4 i5 n6 l7 n21 l22 (IntKind.i64.wrap (i10 + (1 : Int))))))) (
     some (n3, l4, i5, n6, l7, n8, l9))
def f83_i_within : Nat → Int → Int → Int → Option (Bool)
  | 0, _, _, _ => none
  | n + 1, i1, i2, i3 =>
    br (decide (i2 ≤ i1)) (
     some (decide (i1 ≤ i3))) (
     some false)
def sg_iii : Sig (Int × Int × Int) where
  pk := fun v => [.int v.1, .int v.2.1, .int v.2.2]
  up := fun ls => match ls with
    | [.int a0, .int a1, .int a2] => some (a0, a1, a2)
    | _ => none
  ok := by
    intro ls v h
    split at h
    · cases h; rfl
    · cases h

def f83_i_within.P : List Arg := [⟨.val, ⟨false, [.leaf], [.int .i64 0]⟩⟩, ⟨.val, ⟨false, [.leaf], [.int .i64 0]⟩⟩, ⟨.val, ⟨false, [.leaf], [.int .i64 0]⟩⟩]
def f83_i_within.A : RAlt (Bool) := .one ⟨[⟨false, [.leaf], [.bool false]⟩], [none, none, none]⟩ sg_b
def f83_i_within.F (n : Nat) (v : Int × Int × Int) := f83_i_within n v.1 v.2.1 v.2.2
noncomputable def f83_i_within.O (n : Nat) : Orc := orcOf (E := E) [] [] n
theorem f83_i_within.ok : ∀ n v x, f83_i_within.F n v = some x → evalFn E n 83 (flAs f83_i_within.P (sg_iii.pk v)) = some (f83_i_within.A.enc x) :=
  fn_pure (modes := (fdAt 83).ms) (outs := (fdAt 83).os) (results := (fdAt 83).rs) f83_i_within.O (c := c83) (keep := keepAt 83) (by kernel_rfl) (fun n => orcOf_cf _ _ n) (fun n => lpOk_of (bs := []) (by kernel_rfl) .nil) (fun _ => rfl) (fun _ _ => by kernel_rfl)
noncomputable def f83_i_within.w : FnW E := fnW 83 f83_i_within.P sg_iii f83_i_within.A f83_i_within.F f83_i_within.ok

def f102_i_isBits : Nat → Int → Option (Bool)
  | 0, _ => none
  | n + 1, i1 =>
    bd (f83_i_within n i1 (2 : Int) (16 : Int)) fun r2 =>
    let b3 : Bool := r2
    some b3
def f102_i_isBits.P : List Arg := [⟨.val, ⟨false, [.leaf], [.int .i64 0]⟩⟩]
def f102_i_isBits.A : RAlt (Bool) := .one ⟨[⟨false, [.leaf], [.bool false]⟩], [none]⟩ sg_b
def f102_i_isBits.F (n : Nat) (v : Int) := f102_i_isBits n v
noncomputable def f102_i_isBits.O (n : Nat) : Orc := orcOf (E := E) [f83_i_within.w] [] n
theorem f102_i_isBits.ok : ∀ n v x, f102_i_isBits.F n v = some x → evalFn E n 102 (flAs f102_i_isBits.P (sg_i.pk v)) = some (f102_i_isBits.A.enc x) :=
  fn_pure (modes := (fdAt 102).ms) (outs := (fdAt 102).os) (results := (fdAt 102).rs) f102_i_isBits.O (c := c102) (keep := keepAt 102) (by kernel_rfl) (fun n => orcOf_cf _ _ n) (fun n => lpOk_of (bs := []) (by kernel_rfl) .nil) (fun _ => rfl) (fun _ _ => by kernel_rfl)
noncomputable def f102_i_isBits.w : FnW E := fnW 102 f102_i_isBits.P sg_i f102_i_isBits.A f102_i_isBits.F f102_i_isBits.ok

def f94_i_areSamples : Nat → Nat → List T → Option (Bool)
  | 0, _, _ => none
  | n + 1, n1, l2 =>
    some (decide (((n1 : Nat) : Int) ≤ (256 : Int)))
def f94_i_areSamples.P : List Arg := [⟨.val, ⟨false, [.sl .shr [.leaf]], [.lst 0 []]⟩⟩]
def f94_i_areSamples.A : RAlt (Bool) := .one ⟨[⟨false, [.leaf], [.bool false]⟩], [none]⟩ sg_b
def f94_i_areSamples.F (n : Nat) (v : Nat × List T) := f94_i_areSamples n v.1 v.2
noncomputable def f94_i_areSamples.O (n : Nat) : Orc := orcOf (E := E) [] [] n
theorem f94_i_areSamples.ok : ∀ n v x, f94_i_areSamples.F n v = some x → evalFn E n 94 (flAs f94_i_areSamples.P (sg_l.pk v)) = some (f94_i_areSamples.A.enc x) :=
  fn_pure (modes := (fdAt 94).ms) (outs := (fdAt 94).os) (results := (fdAt 94).rs) f94_i_areSamples.O (c := c94) (keep := keepAt 94) (by kernel_rfl) (fun n => orcOf_cf _ _ n) (fun n => lpOk_of (bs := []) (by kernel_rfl) .nil) (fun _ => rfl) (fun _ _ => by kernel_rfl)
noncomputable def f94_i_areSamples.w : FnW E := fnW 94 f94_i_areSamples.P sg_l f94_i_areSamples.A f94_i_areSamples.F f94_i_areSamples.ok

def f104_i_raised : Nat → Int → Nat → Option (Nat)
  | 0, _, _ => none
  | n + 1, i1, x2 =>
    bd ((fltToFlt FloatKind.f32 x2 FloatKind.f64)) fun y3 =>
    gd (decide ((0 : Int) ≤ (IntKind.i64.wrap (i1 - (1 : Int))))) (
    some (fmul FloatKind.f64 y3 (FloatKind.nearest FloatKind.f64 (IntKind.i64.wrap ((1 : Int) * ((2 : Int) ^ (min (Int.toNat (IntKind.i64.wrap (i1 - (1 : Int)))) 64)))))))
def sg_if : Sig (Int × Nat) where
  pk := fun v => [.int v.1, .flt v.2]
  up := fun ls => match ls with
    | [.int a0, .flt a1] => some (a0, a1)
    | _ => none
  ok := by
    intro ls v h
    split at h
    · cases h; rfl
    · cases h

def f104_i_raised.P : List Arg := [⟨.val, ⟨false, [.leaf], [.int .i64 0]⟩⟩, ⟨.val, ⟨false, [.leaf], [.flt .f32 0]⟩⟩]
def f104_i_raised.A : RAlt (Nat) := .one ⟨[⟨false, [.leaf], [.flt .f64 0]⟩], [none, none]⟩ sg_f
def f104_i_raised.F (n : Nat) (v : Int × Nat) := f104_i_raised n v.1 v.2
noncomputable def f104_i_raised.O (n : Nat) : Orc := orcOf (E := E) [] [] n
theorem f104_i_raised.ok : ∀ n v x, f104_i_raised.F n v = some x → evalFn E n 104 (flAs f104_i_raised.P (sg_if.pk v)) = some (f104_i_raised.A.enc x) :=
  fn_pure (modes := (fdAt 104).ms) (outs := (fdAt 104).os) (results := (fdAt 104).rs) f104_i_raised.O (c := c104) (keep := keepAt 104) (by kernel_rfl) (fun n => orcOf_cf _ _ n) (fun n => lpOk_of (bs := []) (by kernel_rfl) .nil) (fun _ => rfl) (fun _ _ => by kernel_rfl)
noncomputable def f104_i_raised.w : FnW E := fnW 104 f104_i_raised.P sg_if f104_i_raised.A f104_i_raised.F f104_i_raised.ok

def f103_i_codeOf : Nat → Int → Nat → Option (Int)
  | 0, _, _ => none
  | n + 1, i1, x2 =>
    gd (decide ((0 : Int) ≤ (IntKind.i64.wrap (i1 - (1 : Int))))) (
    let x3 : Nat := (FloatKind.nearest FloatKind.f64 (IntKind.i64.wrap ((1 : Int) * ((2 : Int) ^ (min (Int.toNat (IntKind.i64.wrap (i1 - (1 : Int)))) 64)))))
    br (fne FloatKind.f64 x2 x2) (
     some (0 : Int)) (
     bd (xIntegral_even n x2) fun r4 =>
     let x5 : Nat := r4
     bd ((fltToInt FloatKind.f64 (fmx false FloatKind.f64 (fmx true FloatKind.f64 x5 (negF FloatKind.f64 x3)) (fsub FloatKind.f64 x3 4607182418800017408)) IntKind.i64)) fun y6 =>
     some y6))
def f103_i_codeOf.P : List Arg := [⟨.val, ⟨false, [.leaf], [.int .i64 0]⟩⟩, ⟨.val, ⟨false, [.leaf], [.flt .f64 0]⟩⟩]
def f103_i_codeOf.A : RAlt (Int) := .one ⟨[⟨false, [.leaf], [.int .i64 0]⟩], [none, none]⟩ sg_i
def f103_i_codeOf.F (n : Nat) (v : Int × Nat) := f103_i_codeOf n v.1 v.2
noncomputable def f103_i_codeOf.O (n : Nat) : Orc := orcOf (E := E) [x112.w] [] n
theorem f103_i_codeOf.ok : ∀ n v x, f103_i_codeOf.F n v = some x → evalFn E n 103 (flAs f103_i_codeOf.P (sg_if.pk v)) = some (f103_i_codeOf.A.enc x) :=
  fn_pure (modes := (fdAt 103).ms) (outs := (fdAt 103).os) (results := (fdAt 103).rs) f103_i_codeOf.O (c := c103) (keep := keepAt 103) (by kernel_rfl) (fun n => orcOf_cf _ _ n) (fun n => lpOk_of (bs := []) (by kernel_rfl) .nil) (fun _ => rfl) (fun _ _ => by kernel_rfl)
noncomputable def f103_i_codeOf.w : FnW E := fnW 103 f103_i_codeOf.P sg_if f103_i_codeOf.A f103_i_codeOf.F f103_i_codeOf.ok

def f40_i_CodesOf.l0 (n : Nat) : Nat → Int → Nat → List T → Nat → List T → Nat → List T → Int → Int → Option (Nat × List T)
  | 0, _, _, _, _, _, _, _, _, _ => none
  | m + 1, i1, n2, l3, n4, l5, n6, l7, i8, i9 =>
    br (decide (i9 < i8)) (
     gd ((decide (((0 : Int) ≤ i9) ∧ (i9 < ((n6 : Nat) : Int)))) && (okAt [(CK.flt FloatKind.f32)] l7 (Int.toNat i9))) (
     let x10 : Nat := (fAt l7 (Int.toNat i9))
     bd (f104_i_raised n i1 x10) fun r11 =>
     let x12 : Nat := r11
     bd (f103_i_codeOf n i1 x12) fun r13 =>
     let i14 : Int := r13
     gd (Nat.ble (n4 + 1) 2147483648) (
     let n15 : Nat := (n4 + 1)
     let l16 : List T := (l5 ++ (setN (reps 1 [(T.int IntKind.i64 (0 : Int))]) 0 [(T.int IntKind.i64 i14)]))
     f40_i_CodesOf.l0 n m i1 n2 l3 n15 l16 n6 l7 i8 (IntKind.i64.wrap (i9 + (1 : Int)))))) (
     some (n4, l5))
def f40_i_CodesOf : Nat → Int → Nat → List T → Option (Nat × List T × Bool)
  | 0, _, _, _ => none
  | n + 1, i1, n2, l3 =>
    bd (f102_i_isBits n i1) fun r4 =>
    let b5 : Bool := r4
    br (!b5) (
     some (0, [], false)) (
     bd (f94_i_areSamples n n2 l3) fun r6 =>
     let b7 : Bool := r6
     br (!b7) (
      some (0, [], false)) (
      bd (f40_i_CodesOf.l0 n n i1 n2 l3 0 [] n2 l3 ((n2 : Nat) : Int) (0 : Int)) fun r8 =>
      let n9 : Nat := r8.1
      let l10 : List T := r8.2
      some (n9, l10, true)))
def sg_il : Sig (Int × Nat × List T) where
  pk := fun v => [.int v.1, .lst v.2.1 v.2.2]
  up := fun ls => match ls with
    | [.int a0, .lst a1 a2] => some (a0, a1, a2)
    | _ => none
  ok := by
    intro ls v h
    split at h
    · cases h; rfl
    · cases h

def sg_lb : Sig (Nat × List T × Bool) where
  pk := fun v => [.lst v.1 v.2.1, .bool v.2.2]
  up := fun ls => match ls with
    | [.lst a0 a1, .bool a2] => some (a0, a1, a2)
    | _ => none
  ok := by
    intro ls v h
    split at h
    · cases h; rfl
    · cases h

def sg_illlii : Sig (Int × Nat × List T × Nat × List T × Nat × List T × Int × Int) where
  pk := fun v => [.int v.1, .lst v.2.1 v.2.2.1, .lst v.2.2.2.1 v.2.2.2.2.1, .lst v.2.2.2.2.2.1 v.2.2.2.2.2.2.1, .int v.2.2.2.2.2.2.2.1, .int v.2.2.2.2.2.2.2.2]
  up := fun ls => match ls with
    | [.int a0, .lst a1 a2, .lst a3 a4, .lst a5 a6, .int a7, .int a8] => some (a0, a1, a2, a3, a4, a5, a6, a7, a8)
    | _ => none
  ok := by
    intro ls v h
    split at h
    · cases h; rfl
    · cases h

def f40_i_CodesOf.l0.P : AS := ⟨[(0, .val false [.leaf] [.int .i64 0] [] 0), (1, .val false [.sl .shr [.leaf]] [.lst 0 []] [] 0), (6, .val false [.sl .own [.leaf]] [.lst 0 []] [] 0), (17, .val false [.sl .shr [.leaf]] [.lst 0 []] [] 0), (18, .val false [.leaf] [.int .i64 0] [] 0), (19, .val false [.leaf] [.int .i64 0] [] 0)], 0⟩
def f40_i_CodesOf.l0.A : Alt (Nat × List T) := .one (.exit 0) ⟨[(6, .val false [.sl .own [.leaf]] [.lst 0 []] [] 0)], 0⟩ sg_l
def f40_i_CodesOf.l0.F (n m : Nat) (v : Int × Nat × List T × Nat × List T × Nat × List T × Int × Int) := f40_i_CodesOf.l0 n m v.1 v.2.1 v.2.2.1 v.2.2.2.1 v.2.2.2.2.1 v.2.2.2.2.2.1 v.2.2.2.2.2.2.1 v.2.2.2.2.2.2.2.1 v.2.2.2.2.2.2.2.2
def f40_i_CodesOf.l0.W (n : Nat) : LpW := .of 80 f40_i_CodesOf.l0.P sg_illlii f40_i_CodesOf.l0.A (f40_i_CodesOf.l0.F n n)
def f40_i_CodesOf.P : List Arg := [⟨.val, ⟨false, [.leaf], [.int .i64 0]⟩⟩, ⟨.val, ⟨false, [.sl .shr [.leaf]], [.lst 0 []]⟩⟩]
def f40_i_CodesOf.A : RAlt (Nat × List T × Bool) := .one ⟨[⟨false, [.sl .own [.leaf]], [.lst 0 []]⟩, ⟨false, [.leaf], [.bool false]⟩], [none, none]⟩ sg_lb
def f40_i_CodesOf.F (n : Nat) (v : Int × Nat × List T) := f40_i_CodesOf n v.1 v.2.1 v.2.2
noncomputable def f40_i_CodesOf.O (n : Nat) : Orc := orcOf (E := E) [f102_i_isBits.w, f94_i_areSamples.w, f104_i_raised.w, f103_i_codeOf.w] [f40_i_CodesOf.l0.W n] n
theorem f40_i_CodesOf.l0.ok (n : Nat) : LpOk (f40_i_CodesOf.O n) E (evalFn E n) n (keepAt 40) (.loop (loopAt c40 0)) :=
  lp_pure f40_i_CodesOf.l0.P sg_illlii f40_i_CodesOf.l0.A (f40_i_CodesOf.l0.F n) (orcOf_cf _ _ n) (lpOk_of (bs := []) (by kernel_rfl) .nil) (fun _ => rfl) (fun _ _ => by kernel_rfl) (fun _ _ _ => by kernel_rfl)
theorem f40_i_CodesOf.ok : ∀ n v x, f40_i_CodesOf.F n v = some x → evalFn E n 40 (flAs f40_i_CodesOf.P (sg_il.pk v)) = some (f40_i_CodesOf.A.enc x) :=
  fn_pure (modes := (fdAt 40).ms) (outs := (fdAt 40).os) (results := (fdAt 40).rs) f40_i_CodesOf.O (c := c40) (keep := keepAt 40) (by kernel_rfl) (fun n => orcOf_cf _ _ n) (fun n => lpOk_of (bs := [loopAt c40 0]) (by kernel_rfl) (.cons (f40_i_CodesOf.l0.ok n) .nil)) (fun _ => rfl) (fun _ _ => by kernel_rfl)
noncomputable def f40_i_CodesOf.w : FnW E := fnW 40 f40_i_CodesOf.P sg_il f40_i_CodesOf.A f40_i_CodesOf.F f40_i_CodesOf.ok

def f89_i_allWithin.l0 (n : Nat) : Nat → Nat → List T → Int → Int → Nat → List T → Int → Int → Option ((Bool) ⊕ (Unit))
  | 0, _, _, _, _, _, _, _, _ => none
  | m + 1, n1, l2, i3, i4, n5, l6, i7, i8 =>
    br (decide (i8 < i7)) (
     gd ((decide (((0 : Int) ≤ i8) ∧ (i8 < ((n5 : Nat) : Int)))) && (okAt [(CK.int IntKind.i64)] l6 (Int.toNat i8))) (
     let i9 : Int := (iAt l6 (Int.toNat i8))
     bd (f83_i_within n i9 i3 i4) fun r10 =>
     let b11 : Bool := r10
     br (!b11) (
      some (Sum.inl false)) (
      f89_i_allWithin.l0 n m n1 l2 i3 i4 n5 l6 i7 (IntKind.i64.wrap (i8 + (1 : Int)))))) (
     some (Sum.inr ()))
def f89_i_allWithin : Nat → Nat → List T → Int → Int → Option (Bool)
  | 0, _, _, _, _ => none
  | n + 1, n1, l2, i3, i4 =>
    bd (f89_i_allWithin.l0 n n n1 l2 i3 i4 n1 l2 ((n1 : Nat) : Int) (0 : Int)) fun r5 =>
    sm r5 (fun u6 =>
     let b7 : Bool := u6
     some b7) (fun u8 =>
     some true)
def sg_liilii : Sig (Nat × List T × Int × Int × Nat × List T × Int × Int) where
  pk := fun v => [.lst v.1 v.2.1, .int v.2.2.1, .int v.2.2.2.1, .lst v.2.2.2.2.1 v.2.2.2.2.2.1, .int v.2.2.2.2.2.2.1, .int v.2.2.2.2.2.2.2]
  up := fun ls => match ls with
    | [.lst a0 a1, .int a2, .int a3, .lst a4 a5, .int a6, .int a7] => some (a0, a1, a2, a3, a4, a5, a6, a7)
    | _ => none
  ok := by
    intro ls v h
    split at h
    · cases h; rfl
    · cases h

def sg : Sig (Unit) where
  pk := fun v => []
  up := fun ls => match ls with
    | [] => some ()
    | _ => none
  ok := by
    intro ls v h
    split at h
    · cases h; rfl
    · cases h

def f89_i_allWithin.l0.P : AS := ⟨[(0, .val false [.sl .shr [.leaf]] [.lst 0 []] [] 0), (1, .val false [.leaf] [.int .i64 0] [] 0), (2, .val false [.leaf] [.int .i64 0] [] 0), (9, .val false [.sl .shr [.leaf]] [.lst 0 []] [] 0), (10, .val false [.leaf] [.int .i64 0] [] 0), (11, .val false [.leaf] [.int .i64 0] [] 0)], 0⟩
def f89_i_allWithin.l0.A : Alt ((Bool) ⊕ (Unit)) := .or (.one .ret ⟨[(6, .val false [.leaf] [.bool false] [] 0)], 0⟩ sg_b) (.one (.exit 0) ⟨[(6, .dead)], 0⟩ sg)
def f89_i_allWithin.l0.F (n m : Nat) (v : Nat × List T × Int × Int × Nat × List T × Int × Int) := f89_i_allWithin.l0 n m v.1 v.2.1 v.2.2.1 v.2.2.2.1 v.2.2.2.2.1 v.2.2.2.2.2.1 v.2.2.2.2.2.2.1 v.2.2.2.2.2.2.2
def f89_i_allWithin.l0.W (n : Nat) : LpW := .of 32 f89_i_allWithin.l0.P sg_liilii f89_i_allWithin.l0.A (f89_i_allWithin.l0.F n n)
def f89_i_allWithin.P : List Arg := [⟨.val, ⟨false, [.sl .shr [.leaf]], [.lst 0 []]⟩⟩, ⟨.val, ⟨false, [.leaf], [.int .i64 0]⟩⟩, ⟨.val, ⟨false, [.leaf], [.int .i64 0]⟩⟩]
def f89_i_allWithin.A : RAlt (Bool) := .one ⟨[⟨false, [.leaf], [.bool false]⟩], [none, none, none]⟩ sg_b
def f89_i_allWithin.F (n : Nat) (v : Nat × List T × Int × Int) := f89_i_allWithin n v.1 v.2.1 v.2.2.1 v.2.2.2
noncomputable def f89_i_allWithin.O (n : Nat) : Orc := orcOf (E := E) [f83_i_within.w] [f89_i_allWithin.l0.W n] n
theorem f89_i_allWithin.l0.ok (n : Nat) : LpOk (f89_i_allWithin.O n) E (evalFn E n) n (keepAt 89) (.loop (loopAt c89 0)) :=
  lp_pure f89_i_allWithin.l0.P sg_liilii f89_i_allWithin.l0.A (f89_i_allWithin.l0.F n) (orcOf_cf _ _ n) (lpOk_of (bs := []) (by kernel_rfl) .nil) (fun _ => rfl) (fun _ _ => by kernel_rfl) (fun _ _ _ => by kernel_rfl)
theorem f89_i_allWithin.ok : ∀ n v x, f89_i_allWithin.F n v = some x → evalFn E n 89 (flAs f89_i_allWithin.P (sg_lii.pk v)) = some (f89_i_allWithin.A.enc x) :=
  fn_pure (modes := (fdAt 89).ms) (outs := (fdAt 89).os) (results := (fdAt 89).rs) f89_i_allWithin.O (c := c89) (keep := keepAt 89) (by kernel_rfl) (fun n => orcOf_cf _ _ n) (fun n => lpOk_of (bs := [loopAt c89 0]) (by kernel_rfl) (.cons (f89_i_allWithin.l0.ok n) .nil)) (fun _ => rfl) (fun _ _ => by kernel_rfl)
noncomputable def f89_i_allWithin.w : FnW E := fnW 89 f89_i_allWithin.P sg_lii f89_i_allWithin.A f89_i_allWithin.F f89_i_allWithin.ok

def f41_i_CodesWith.l0 (n : Nat) : Nat → Int → Nat → List T → Nat → List T → Nat → List T → Nat → List T → Int → Int → Option (Nat × List T)
  | 0, _, _, _, _, _, _, _, _, _, _, _ => none
  | m + 1, i1, n2, l3, n4, l5, n6, l7, n8, l9, i10, i11 =>
    br (decide (i11 < i10)) (
     gd ((decide (((0 : Int) ≤ i11) ∧ (i11 < ((n8 : Nat) : Int)))) && (okAt [(CK.flt FloatKind.f32)] l9 (Int.toNat i11))) (
     let x12 : Nat := (fAt l9 (Int.toNat i11))
     bd (f104_i_raised n i1 x12) fun r13 =>
     let x14 : Nat := r13
     gd ((decide (((0 : Int) ≤ (IntKind.i64.wrap ((2 : Int) * i11))) ∧ ((IntKind.i64.wrap ((2 : Int) * i11)) < ((n4 : Nat) : Int)))) && (okAt [(CK.int IntKind.i64)] l5 (Int.toNat (IntKind.i64.wrap ((2 : Int) * i11))))) (
     gd ((decide (((0 : Int) ≤ (IntKind.i64.wrap ((IntKind.i64.wrap ((2 : Int) * i11)) + (1 : Int)))) ∧ ((IntKind.i64.wrap ((IntKind.i64.wrap ((2 : Int) * i11)) + (1 : Int))) < ((n4 : Nat) : Int)))) && (okAt [(CK.int IntKind.i64)] l5 (Int.toNat (IntKind.i64.wrap ((IntKind.i64.wrap ((2 : Int) * i11)) + (1 : Int)))))) (
     bd (f103_i_codeOf n i1 (fadd FloatKind.f64 x14 (fdiv FloatKind.f64 (FloatKind.nearest FloatKind.f64 (IntKind.i64.wrap ((iAt l5 (Int.toNat (IntKind.i64.wrap ((2 : Int) * i11)))) - (iAt l5 (Int.toNat (IntKind.i64.wrap ((IntKind.i64.wrap ((2 : Int) * i11)) + (1 : Int)))))))) 4643211215818981376))) fun r15 =>
     let i16 : Int := r15
     gd (Nat.ble (n6 + 1) 2147483648) (
     let n17 : Nat := (n6 + 1)
     let l18 : List T := (l7 ++ (setN (reps 1 [(T.int IntKind.i64 (0 : Int))]) 0 [(T.int IntKind.i64 i16)]))
     f41_i_CodesWith.l0 n m i1 n2 l3 n4 l5 n17 l18 n8 l9 i10 (IntKind.i64.wrap (i11 + (1 : Int)))))))) (
     some (n6, l7))
def f41_i_CodesWith : Nat → Int → Nat → List T → Nat → List T → Option (Nat × List T × Bool)
  | 0, _, _, _, _, _ => none
  | n + 1, i1, n2, l3, n4, l5 =>
    bd (f102_i_isBits n i1) fun r6 =>
    let b7 : Bool := r6
    br (!b7) (
     some (0, [], false)) (
     bd (f94_i_areSamples n n2 l3) fun r8 =>
     let b9 : Bool := r8
     br (!b9) (
      some (0, [], false)) (
      br (((n4 : Nat) : Int) != (IntKind.i64.wrap ((2 : Int) * ((n2 : Nat) : Int)))) (
       some (0, [], false)) (
       bd (f89_i_allWithin n n4 l5 (0 : Int) (255 : Int)) fun r10 =>
       let b11 : Bool := r10
       br (!b11) (
        some (0, [], false)) (
        bd (f41_i_CodesWith.l0 n n i1 n2 l3 n4 l5 0 [] n2 l3 ((n2 : Nat) : Int) (0 : Int)) fun r12 =>
        let n13 : Nat := r12.1
        let l14 : List T := r12.2
        some (n13, l14, true)))))
def sg_ill : Sig (Int × Nat × List T × Nat × List T) where
  pk := fun v => [.int v.1, .lst v.2.1 v.2.2.1, .lst v.2.2.2.1 v.2.2.2.2]
  up := fun ls => match ls with
    | [.int a0, .lst a1 a2, .lst a3 a4] => some (a0, a1, a2, a3, a4)
    | _ => none
  ok := by
    intro ls v h
    split at h
    · cases h; rfl
    · cases h

def sg_illllii : Sig (Int × Nat × List T × Nat × List T × Nat × List T × Nat × List T × Int × Int) where
  pk := fun v => [.int v.1, .lst v.2.1 v.2.2.1, .lst v.2.2.2.1 v.2.2.2.2.1, .lst v.2.2.2.2.2.1 v.2.2.2.2.2.2.1, .lst v.2.2.2.2.2.2.2.1 v.2.2.2.2.2.2.2.2.1, .int v.2.2.2.2.2.2.2.2.2.1, .int v.2.2.2.2.2.2.2.2.2.2]
  up := fun ls => match ls with
    | [.int a0, .lst a1 a2, .lst a3 a4, .lst a5 a6, .lst a7 a8, .int a9, .int a10] => some (a0, a1, a2, a3, a4, a5, a6, a7, a8, a9, a10)
    | _ => none
  ok := by
    intro ls v h
    split at h
    · cases h; rfl
    · cases h

def f41_i_CodesWith.l0.P : AS := ⟨[(0, .val false [.leaf] [.int .i64 0] [] 0), (1, .val false [.sl .shr [.leaf]] [.lst 0 []] [] 0), (2, .val false [.sl .shr [.leaf]] [.lst 0 []] [] 0), (8, .val false [.sl .own [.leaf]] [.lst 0 []] [] 0), (32, .val false [.sl .shr [.leaf]] [.lst 0 []] [] 0), (33, .val false [.leaf] [.int .i64 0] [] 0), (34, .val false [.leaf] [.int .i64 0] [] 0)], 0⟩
def f41_i_CodesWith.l0.A : Alt (Nat × List T) := .one (.exit 0) ⟨[(8, .val false [.sl .own [.leaf]] [.lst 0 []] [] 0)], 0⟩ sg_l
def f41_i_CodesWith.l0.F (n m : Nat) (v : Int × Nat × List T × Nat × List T × Nat × List T × Nat × List T × Int × Int) := f41_i_CodesWith.l0 n m v.1 v.2.1 v.2.2.1 v.2.2.2.1 v.2.2.2.2.1 v.2.2.2.2.2.1 v.2.2.2.2.2.2.1 v.2.2.2.2.2.2.2.1 v.2.2.2.2.2.2.2.2.1 v.2.2.2.2.2.2.2.2.2.1 v.2.2.2.2.2.2.2.2.2.2
def f41_i_CodesWith.l0.W (n : Nat) : LpW := .of 80 f41_i_CodesWith.l0.P sg_illllii f41_i_CodesWith.l0.A (f41_i_CodesWith.l0.F n n)
def f41_i_CodesWith.P : List Arg := [⟨.val, ⟨false, [.leaf], [.int .i64 0]⟩⟩, ⟨.val, ⟨false, [.sl .shr [.leaf]], [.lst 0 []]⟩⟩, ⟨.val, ⟨false, [.sl .shr [.leaf]], [.lst 0 []]⟩⟩]
def f41_i_CodesWith.A : RAlt (Nat × List T × Bool) := .one ⟨[⟨false, [.sl .own [.leaf]], [.lst 0 []]⟩, ⟨false, [.leaf], [.bool false]⟩], [none, none, none]⟩ sg_lb
def f41_i_CodesWith.F (n : Nat) (v : Int × Nat × List T × Nat × List T) := f41_i_CodesWith n v.1 v.2.1 v.2.2.1 v.2.2.2.1 v.2.2.2.2
noncomputable def f41_i_CodesWith.O (n : Nat) : Orc := orcOf (E := E) [f102_i_isBits.w, f94_i_areSamples.w, f104_i_raised.w, f103_i_codeOf.w, f89_i_allWithin.w] [f41_i_CodesWith.l0.W n] n
theorem f41_i_CodesWith.l0.ok (n : Nat) : LpOk (f41_i_CodesWith.O n) E (evalFn E n) n (keepAt 41) (.loop (loopAt c41 0)) :=
  lp_pure f41_i_CodesWith.l0.P sg_illllii f41_i_CodesWith.l0.A (f41_i_CodesWith.l0.F n) (orcOf_cf _ _ n) (lpOk_of (bs := []) (by kernel_rfl) .nil) (fun _ => rfl) (fun _ _ => by kernel_rfl) (fun _ _ _ => by kernel_rfl)
theorem f41_i_CodesWith.ok : ∀ n v x, f41_i_CodesWith.F n v = some x → evalFn E n 41 (flAs f41_i_CodesWith.P (sg_ill.pk v)) = some (f41_i_CodesWith.A.enc x) :=
  fn_pure (modes := (fdAt 41).ms) (outs := (fdAt 41).os) (results := (fdAt 41).rs) f41_i_CodesWith.O (c := c41) (keep := keepAt 41) (by kernel_rfl) (fun n => orcOf_cf _ _ n) (fun n => lpOk_of (bs := [loopAt c41 0]) (by kernel_rfl) (.cons (f41_i_CodesWith.l0.ok n) .nil)) (fun _ => rfl) (fun _ _ => by kernel_rfl)
noncomputable def f41_i_CodesWith.w : FnW E := fnW 41 f41_i_CodesWith.P sg_ill f41_i_CodesWith.A f41_i_CodesWith.F f41_i_CodesWith.ok

def f7_l_FnNoise.l1 (n : Nat) : Nat → Nat → List T → Int → Nat → List T → Nat → List T → Int → Option ((Bool) ⊕ (Nat × List T × Int))
  | 0, _, _, _, _, _, _, _, _ => none
  | m + 1, n1, l2, i3, n4, l5, n6, l7, i8 =>
    br (decide (i8 < ((n6 : Nat) : Int))) (
     gd (decide (((0 : Int) ≤ i8) ∧ (i8 < ((n6 : Nat) : Int)))) (
     gd (okAt [(CK.int IntKind.i64)] l7 (Int.toNat i8)) (
     gd (decide (((0 : Int) ≤ i8) ∧ (i8 < ((n4 : Nat) : Int)))) (
     gd (okAt [(CK.int IntKind.i64)] l5 (Int.toNat i8)) (
     br (decide ((IntKind.i64.wrap ((iAt l7 (Int.toNat i8)) - (iAt l5 (Int.toNat i8)))) > (1 : Int))) (
      some (Sum.inl false)) (
      gd (decide (((0 : Int) ≤ i8) ∧ (i8 < ((n4 : Nat) : Int)))) (
      gd (okAt [(CK.int IntKind.i64)] l5 (Int.toNat i8)) (
      gd (decide (((0 : Int) ≤ i8) ∧ (i8 < ((n6 : Nat) : Int)))) (
      gd (okAt [(CK.int IntKind.i64)] l7 (Int.toNat i8)) (
      br (decide ((IntKind.i64.wrap ((iAt l5 (Int.toNat i8)) - (iAt l7 (Int.toNat i8)))) > (1 : Int))) (
       some (Sum.inl false)) (
       br ((Int.tmod i8 (2 : Int)) == (0 : Int)) (
        gd (decide (((0 : Int) ≤ i8) ∧ (i8 < ((n6 : Nat) : Int)))) (
        gd (okAt [(CK.int IntKind.i64)] l7 (Int.toNat i8)) (
        gd (decide (((0 : Int) ≤ i8) ∧ (i8 < ((n4 : Nat) : Int)))) (
        gd (okAt [(CK.int IntKind.i64)] l5 (Int.toNat i8)) (
        br ((iAt l7 (Int.toNat i8)) != (iAt l5 (Int.toNat i8))) (
         some (Sum.inl false)) (
         f7_l_FnNoise.l1 n m n1 l2 i3 n4 l5 n6 l7 (IntKind.i64.wrap (i8 + (1 : Int))))))))) (
        f7_l_FnNoise.l1 n m n1 l2 i3 n4 l5 n6 l7 (IntKind.i64.wrap (i8 + (1 : Int))))))))))))))) (
     some (Sum.inr (n1, l2, i3)))
def f42_s_R8Whole.l0 (n : Nat) : Nat → Int → Int → Nat → List T → Int → Int → Nat → List T → Int → Option (Nat × List T)
  | 0, _, _, _, _, _, _, _, _, _ => none
  | m + 1, i1, i2, n3, l4, i5, i6, n7, l8, i9 =>
    br (decide (i9 < i1)) (
     bd (f76_s_l00Srcpick n n3 l4 i5 i6 (IntKind.i64.wrap ((IntKind.i64.wrap ((2 : Int) * i2)) + (1 : Int)))) fun r10 =>
     let i11 : Int := r10.1
     let n12 : Nat := r10.2.1
     let l13 : List T := r10.2.2.1
     let i14 : Int := r10.2.2.2.1
     let i15 : Int := r10.2.2.2.2
     gd (Nat.ble (n7 + 1) 2147483648) (
     let n16 : Nat := (n7 + 1)
     let l17 : List T := (l8 ++ (setN (reps 1 [(T.flt FloatKind.f32 0)]) 0 [(T.flt FloatKind.f32 (FloatKind.nearest FloatKind.f32 (IntKind.i64.wrap (i11 - i2))))]))
     f42_s_R8Whole.l0 n m i1 i2 n12 l13 i14 i15 n16 l17 (IntKind.i64.wrap (i9 + (1 : Int))))) (
     some (n7, l8))
def f42_s_R8Whole : Nat → Nat → List T → Int → Int → Option (Nat × List T)
  | 0, _, _, _, _ => none
  | n + 1, n1, l2, i3, i4 =>
    bd (f75_s_l00From n n1 l2) fun r5 =>
    let n6 : Nat := r5.1
    let l7 : List T := r5.2.1
    let i8 : Int := r5.2.2.1
    let i9 : Int := r5.2.2.2
    bd (f42_s_R8Whole.l0 n n i3 i4 n6 l7 i8 i9 0 (reps 0 [(T.flt FloatKind.f32 0)]) (0 : Int)) fun r10 =>
    let n11 : Nat := r10.1
    let l12 : List T := r10.2
    some (n11, l12)
def sg_iiliili : Sig (Int × Int × Nat × List T × Int × Int × Nat × List T × Int) where
  pk := fun v => [.int v.1, .int v.2.1, .lst v.2.2.1 v.2.2.2.1, .int v.2.2.2.2.1, .int v.2.2.2.2.2.1, .lst v.2.2.2.2.2.2.1 v.2.2.2.2.2.2.2.1, .int v.2.2.2.2.2.2.2.2]
  up := fun ls => match ls with
    | [.int a0, .int a1, .lst a2 a3, .int a4, .int a5, .lst a6 a7, .int a8] => some (a0, a1, a2, a3, a4, a5, a6, a7, a8)
    | _ => none
  ok := by
    intro ls v h
    split at h
    · cases h; rfl
    · cases h

def f42_s_R8Whole.l0.P : AS := ⟨[(1, .val false [.leaf] [.int .i64 0] [] 0), (2, .val false [.leaf] [.int .i64 0] [] 0), (7, .box [.sl .shr [.leaf], .leaf, .leaf] [.lst 0 [], .int .i64 0, .int .u64 0] [] 0), (8, .val false [.sl .own [.leaf]] [.lst 0 []] [] 0), (9, .val false [.leaf] [.int .i64 0] [] 0)], 0⟩
def f42_s_R8Whole.l0.A : Alt (Nat × List T) := .one (.exit 0) ⟨[(8, .val false [.sl .own [.leaf]] [.lst 0 []] [] 0)], 0⟩ sg_l
def f42_s_R8Whole.l0.F (n m : Nat) (v : Int × Int × Nat × List T × Int × Int × Nat × List T × Int) := f42_s_R8Whole.l0 n m v.1 v.2.1 v.2.2.1 v.2.2.2.1 v.2.2.2.2.1 v.2.2.2.2.2.1 v.2.2.2.2.2.2.1 v.2.2.2.2.2.2.2.1 v.2.2.2.2.2.2.2.2
def f42_s_R8Whole.l0.W (n : Nat) : LpW := .of 64 f42_s_R8Whole.l0.P sg_iiliili f42_s_R8Whole.l0.A (f42_s_R8Whole.l0.F n n)
def f42_s_R8Whole.P : List Arg := [⟨.val, ⟨false, [.sl .shr [.leaf]], [.lst 0 []]⟩⟩, ⟨.val, ⟨false, [.leaf], [.int .i64 0]⟩⟩, ⟨.val, ⟨false, [.leaf], [.int .i64 0]⟩⟩]
def f42_s_R8Whole.A : RAlt (Nat × List T) := .one ⟨[⟨false, [.sl .own [.leaf]], [.lst 0 []]⟩], [none, none, none]⟩ sg_l
def f42_s_R8Whole.F (n : Nat) (v : Nat × List T × Int × Int) := f42_s_R8Whole n v.1 v.2.1 v.2.2.1 v.2.2.2
noncomputable def f42_s_R8Whole.O (n : Nat) : Orc := orcOf (E := E) [f75_s_l00From.w, f76_s_l00Srcpick.w] [f42_s_R8Whole.l0.W n] n
theorem f42_s_R8Whole.l0.ok (n : Nat) : LpOk (f42_s_R8Whole.O n) E (evalFn E n) n (keepAt 42) (.loop (loopAt c42 0)) :=
  lp_pure f42_s_R8Whole.l0.P sg_iiliili f42_s_R8Whole.l0.A (f42_s_R8Whole.l0.F n) (orcOf_cf _ _ n) (lpOk_of (bs := []) (by kernel_rfl) .nil) (fun _ => rfl) (fun _ _ => by kernel_rfl) (fun _ _ _ => by kernel_rfl)
theorem f42_s_R8Whole.ok : ∀ n v x, f42_s_R8Whole.F n v = some x → evalFn E n 42 (flAs f42_s_R8Whole.P (sg_lii.pk v)) = some (f42_s_R8Whole.A.enc x) :=
  fn_pure (modes := (fdAt 42).ms) (outs := (fdAt 42).os) (results := (fdAt 42).rs) f42_s_R8Whole.O (c := c42) (keep := keepAt 42) (by kernel_rfl) (fun n => orcOf_cf _ _ n) (fun n => lpOk_of (bs := [loopAt c42 0]) (by kernel_rfl) (.cons (f42_s_R8Whole.l0.ok n) .nil)) (fun _ => rfl) (fun _ _ => by kernel_rfl)
noncomputable def f42_s_R8Whole.w : FnW E := fnW 42 f42_s_R8Whole.P sg_lii f42_s_R8Whole.A f42_s_R8Whole.F f42_s_R8Whole.ok

def f7_l_FnNoise.l2 (n : Nat) : Nat → Int → Nat → List T → Nat → Int → Option (Int × Nat × List T × Nat)
  | 0, _, _, _, _, _ => none
  | m + 1, i1, n2, l3, x4, i5 =>
    br (decide (i5 < ((n2 : Nat) : Int))) (
     gd (decide (((0 : Int) ≤ i5) ∧ (i5 < ((n2 : Nat) : Int)))) (
     gd (okAt [(CK.flt FloatKind.f32)] l3 (Int.toNat i5)) (
     gd (decide (((0 : Int) ≤ i5) ∧ (i5 < ((n2 : Nat) : Int)))) (
     gd (Nat.ble ((Int.toNat i5) + 1) (List.length l3)) (
     let l6 : List T := (setN l3 (Int.toNat i5) [(T.flt FloatKind.f32 (fdiv FloatKind.f32 (fAt l3 (Int.toNat i5)) 1115684864))])
     gd (decide (((0 : Int) ≤ i5) ∧ (i5 < ((n2 : Nat) : Int)))) (
     gd (okAt [(CK.flt FloatKind.f32)] l6 (Int.toNat i5)) (
     bd ((fltToFlt FloatKind.f32 (fAt l6 (Int.toNat i5)) FloatKind.f64)) fun y7 =>
     gd (decide ((0 : Int) ≤ (IntKind.u64.wrap (IntKind.i64.wrap (i1 - (1 : Int)))))) (
     let x8 : Nat := (fadd FloatKind.f64 x4 (fmul FloatKind.f64 y7 (FloatKind.nearest FloatKind.f64 (IntKind.i64.wrap ((1 : Int) * ((2 : Int) ^ (min (Int.toNat (IntKind.u64.wrap (IntKind.i64.wrap (i1 - (1 : Int))))) 64)))))))
     f7_l_FnNoise.l2 n m i1 n2 l6 x8 (IntKind.i64.wrap (i5 + (1 : Int))))))))))) (
     some (i1, n2, l3, x4))
def f105_i_IsFinite : Nat → Nat → Option (Bool)
  | 0, _ => none
  | n + 1, x1 =>
    some (feq FloatKind.f32 (fsub FloatKind.f32 x1 x1) 0)
def f105_i_IsFinite.P : List Arg := [⟨.val, ⟨false, [.leaf], [.flt .f32 0]⟩⟩]
def f105_i_IsFinite.A : RAlt (Bool) := .one ⟨[⟨false, [.leaf], [.bool false]⟩], [none]⟩ sg_b
def f105_i_IsFinite.F (n : Nat) (v : Nat) := f105_i_IsFinite n v
noncomputable def f105_i_IsFinite.O (n : Nat) : Orc := orcOf (E := E) [] [] n
theorem f105_i_IsFinite.ok : ∀ n v x, f105_i_IsFinite.F n v = some x → evalFn E n 105 (flAs f105_i_IsFinite.P (sg_f.pk v)) = some (f105_i_IsFinite.A.enc x) :=
  fn_pure (modes := (fdAt 105).ms) (outs := (fdAt 105).os) (results := (fdAt 105).rs) f105_i_IsFinite.O (c := c105) (keep := keepAt 105) (by kernel_rfl) (fun n => orcOf_cf _ _ n) (fun n => lpOk_of (bs := []) (by kernel_rfl) .nil) (fun _ => rfl) (fun _ _ => by kernel_rfl)
noncomputable def f105_i_IsFinite.w : FnW E := fnW 105 f105_i_IsFinite.P sg_f f105_i_IsFinite.A f105_i_IsFinite.F f105_i_IsFinite.ok

def f43_i_CodesShaped.l0 (n : Nat) : Nat → Int → Nat → List T → Nat → Nat → List T → Nat → Nat → List T → Int → Int → Option (Nat × List T × Nat)
  | 0, _, _, _, _, _, _, _, _, _, _, _ => none
  | m + 1, i1, n2, l3, x4, n5, l6, x7, n8, l9, i10, i11 =>
    br (decide (i11 < i10)) (
     gd ((decide (((0 : Int) ≤ i11) ∧ (i11 < ((n8 : Nat) : Int)))) && (okAt [(CK.flt FloatKind.f32)] l9 (Int.toNat i11))) (
     let x12 : Nat := (fAt l9 (Int.toNat i11))
     bd (f104_i_raised n i1 x12) fun r13 =>
     let x14 : Nat := r13
     bd ((fltToFlt FloatKind.f64 x14 FloatKind.f32)) fun y15 =>
     let x16 : Nat := (fsub FloatKind.f32 y15 x7)
     bd ((fltToFlt FloatKind.f32 x16 FloatKind.f64)) fun y17 =>
     bd (f103_i_codeOf n i1 y17) fun r18 =>
     let i19 : Int := r18
     gd (Nat.ble (n5 + 1) 2147483648) (
     let n20 : Nat := (n5 + 1)
     let l21 : List T := (l6 ++ (setN (reps 1 [(T.int IntKind.i64 (0 : Int))]) 0 [(T.int IntKind.i64 i19)]))
     let x22 : Nat := (fmul FloatKind.f32 x4 (fsub FloatKind.f32 (FloatKind.nearest FloatKind.f32 i19) x16))
     bd (f105_i_IsFinite n x22) fun r23 =>
     let b24 : Bool := r23
     br (!b24) (
      f43_i_CodesShaped.l0 n m i1 n2 l3 x4 n20 l21 0 n8 l9 i10 (IntKind.i64.wrap (i11 + (1 : Int)))) (
      f43_i_CodesShaped.l0 n m i1 n2 l3 x4 n20 l21 x22 n8 l9 i10 (IntKind.i64.wrap (i11 + (1 : Int))))))) (
     some (n5, l6, x7))
def f43_i_CodesShaped : Nat → Int → Nat → List T → Nat → Option (Nat × List T × Nat × Bool)
  | 0, _, _, _, _ => none
  | n + 1, i1, n2, l3, x4 =>
    bd (f102_i_isBits n i1) fun r5 =>
    let b6 : Bool := r5
    br (!b6) (
     some (0, [], 0, false)) (
     bd (f94_i_areSamples n n2 l3) fun r7 =>
     let b8 : Bool := r7
     br (!b8) (
      some (0, [], 0, false)) (
      bd (f43_i_CodesShaped.l0 n n i1 n2 l3 x4 0 [] 0 n2 l3 ((n2 : Nat) : Int) (0 : Int)) fun r9 =>
      let n10 : Nat := r9.1
      let l11 : List T := r9.2.1
      let x12 : Nat := r9.2.2
      some (n10, l11, x12, true)))
def sg_ilf : Sig (Int × Nat × List T × Nat) where
  pk := fun v => [.int v.1, .lst v.2.1 v.2.2.1, .flt v.2.2.2]
  up := fun ls => match ls with
    | [.int a0, .lst a1 a2, .flt a3] => some (a0, a1, a2, a3)
    | _ => none
  ok := by
    intro ls v h
    split at h
    · cases h; rfl
    · cases h

def sg_lfb : Sig (Nat × List T × Nat × Bool) where
  pk := fun v => [.lst v.1 v.2.1, .flt v.2.2.1, .bool v.2.2.2]
  up := fun ls => match ls with
    | [.lst a0 a1, .flt a2, .bool a3] => some (a0, a1, a2, a3)
    | _ => none
  ok := by
    intro ls v h
    split at h
    · cases h; rfl
    · cases h

def sg_ilflflii : Sig (Int × Nat × List T × Nat × Nat × List T × Nat × Nat × List T × Int × Int) where
  pk := fun v => [.int v.1, .lst v.2.1 v.2.2.1, .flt v.2.2.2.1, .lst v.2.2.2.2.1 v.2.2.2.2.2.1, .flt v.2.2.2.2.2.2.1, .lst v.2.2.2.2.2.2.2.1 v.2.2.2.2.2.2.2.2.1, .int v.2.2.2.2.2.2.2.2.2.1, .int v.2.2.2.2.2.2.2.2.2.2]
  up := fun ls => match ls with
    | [.int a0, .lst a1 a2, .flt a3, .lst a4 a5, .flt a6, .lst a7 a8, .int a9, .int a10] => some (a0, a1, a2, a3, a4, a5, a6, a7, a8, a9, a10)
    | _ => none
  ok := by
    intro ls v h
    split at h
    · cases h; rfl
    · cases h

def sg_lf : Sig (Nat × List T × Nat) where
  pk := fun v => [.lst v.1 v.2.1, .flt v.2.2]
  up := fun ls => match ls with
    | [.lst a0 a1, .flt a2] => some (a0, a1, a2)
    | _ => none
  ok := by
    intro ls v h
    split at h
    · cases h; rfl
    · cases h

def f43_i_CodesShaped.l0.P : AS := ⟨[(0, .val false [.leaf] [.int .i64 0] [] 0), (1, .val false [.sl .shr [.leaf]] [.lst 0 []] [] 0), (2, .val false [.leaf] [.flt .f32 0] [] 0), (9, .val false [.sl .own [.leaf]] [.lst 0 []] [] 0), (10, .val false [.leaf] [.flt .f32 0] [] 0), (23, .val false [.sl .shr [.leaf]] [.lst 0 []] [] 0), (24, .val false [.leaf] [.int .i64 0] [] 0), (25, .val false [.leaf] [.int .i64 0] [] 0)], 0⟩
def f43_i_CodesShaped.l0.A : Alt (Nat × List T × Nat) := .one (.exit 0) ⟨[(9, .val false [.sl .own [.leaf]] [.lst 0 []] [] 0), (10, .val false [.leaf] [.flt .f32 0] [] 0)], 0⟩ sg_lf
def f43_i_CodesShaped.l0.F (n m : Nat) (v : Int × Nat × List T × Nat × Nat × List T × Nat × Nat × List T × Int × Int) := f43_i_CodesShaped.l0 n m v.1 v.2.1 v.2.2.1 v.2.2.2.1 v.2.2.2.2.1 v.2.2.2.2.2.1 v.2.2.2.2.2.2.1 v.2.2.2.2.2.2.2.1 v.2.2.2.2.2.2.2.2.1 v.2.2.2.2.2.2.2.2.2.1 v.2.2.2.2.2.2.2.2.2.2
def f43_i_CodesShaped.l0.W (n : Nat) : LpW := .of 96 f43_i_CodesShaped.l0.P sg_ilflflii f43_i_CodesShaped.l0.A (f43_i_CodesShaped.l0.F n n)
def f43_i_CodesShaped.P : List Arg := [⟨.val, ⟨false, [.leaf], [.int .i64 0]⟩⟩, ⟨.val, ⟨false, [.sl .shr [.leaf]], [.lst 0 []]⟩⟩, ⟨.val, ⟨false, [.leaf], [.flt .f32 0]⟩⟩]
def f43_i_CodesShaped.A : RAlt (Nat × List T × Nat × Bool) := .one ⟨[⟨false, [.sl .own [.leaf]], [.lst 0 []]⟩, ⟨false, [.leaf], [.flt .f32 0]⟩, ⟨false, [.leaf], [.bool false]⟩], [none, none, none]⟩ sg_lfb
def f43_i_CodesShaped.F (n : Nat) (v : Int × Nat × List T × Nat) := f43_i_CodesShaped n v.1 v.2.1 v.2.2.1 v.2.2.2
noncomputable def f43_i_CodesShaped.O (n : Nat) : Orc := orcOf (E := E) [f102_i_isBits.w, f94_i_areSamples.w, f104_i_raised.w, f103_i_codeOf.w, f105_i_IsFinite.w] [f43_i_CodesShaped.l0.W n] n
theorem f43_i_CodesShaped.l0.ok (n : Nat) : LpOk (f43_i_CodesShaped.O n) E (evalFn E n) n (keepAt 43) (.loop (loopAt c43 0)) :=
  lp_pure f43_i_CodesShaped.l0.P sg_ilflflii f43_i_CodesShaped.l0.A (f43_i_CodesShaped.l0.F n) (orcOf_cf _ _ n) (lpOk_of (bs := []) (by kernel_rfl) .nil) (fun _ => rfl) (fun _ _ => by kernel_rfl) (fun _ _ _ => by kernel_rfl)
theorem f43_i_CodesShaped.ok : ∀ n v x, f43_i_CodesShaped.F n v = some x → evalFn E n 43 (flAs f43_i_CodesShaped.P (sg_ilf.pk v)) = some (f43_i_CodesShaped.A.enc x) :=
  fn_pure (modes := (fdAt 43).ms) (outs := (fdAt 43).os) (results := (fdAt 43).rs) f43_i_CodesShaped.O (c := c43) (keep := keepAt 43) (by kernel_rfl) (fun n => orcOf_cf _ _ n) (fun n => lpOk_of (bs := [loopAt c43 0]) (by kernel_rfl) (.cons (f43_i_CodesShaped.l0.ok n) .nil)) (fun _ => rfl) (fun _ _ => by kernel_rfl)
noncomputable def f43_i_CodesShaped.w : FnW E := fnW 43 f43_i_CodesShaped.P sg_ilf f43_i_CodesShaped.A f43_i_CodesShaped.F f43_i_CodesShaped.ok

def f7_l_FnNoise.l3 (n : Nat) : Nat → Nat → Nat → List T → Nat → Nat → Int → Option (Nat × Nat × Nat)
  | 0, _, _, _, _, _, _ => none
  | m + 1, x1, n2, l3, x4, x5, i6 =>
    br (decide (i6 < (8 : Int))) (
     gd (decide (((0 : Int) ≤ i6) ∧ (i6 < ((n2 : Nat) : Int)))) (
     gd (okAt [(CK.int IntKind.i64)] l3 (Int.toNat i6)) (
     let x7 : Nat := (fadd FloatKind.f64 x5 (FloatKind.nearest FloatKind.f64 (iAt l3 (Int.toNat i6))))
     f7_l_FnNoise.l3 n m x1 n2 l3 x4 x7 (IntKind.i64.wrap (i6 + (1 : Int)))))) (
     some (x1, x4, x5))
def f7_l_FnNoise : Nat → Nat → List T → Nat → List T → Option (Bool)
  | 0, _, _, _, _ => none
  | n + 1, n1, l2, n3, l4 =>
    bd (f27_l_r8Long n n1 l2 n3 l4) fun r5 =>
    let b6 : Bool := r5
    br b6 (
     some true) (
     bd (f28_l_r8At n n1 l2 (40 : Int) (6 : Int)) fun r7 =>
     let i8 : Int := r7
     let i9 : Int := (IntKind.i64.wrap ((3 : Int) + i8))
     bd (f30_s_R8Samples n n3 l4 (8 : Int)) fun r10 =>
     let n11 : Nat := r10.1
     let l12 : List T := r10.2
     bd (f7_l_FnNoise.l0 n n n1 l2 n3 l4 i9 n11 l12 0 (reps 0 [(T.int IntKind.i64 (0 : Int))]) (0 : Int)) fun r13 =>
     let n14 : Nat := r13.1
     let l15 : List T := r13.2.1
     let i16 : Int := r13.2.2.1
     let n17 : Nat := r13.2.2.2.1
     let l18 : List T := r13.2.2.2.2.1
     let n19 : Nat := r13.2.2.2.2.2.1
     let l20 : List T := r13.2.2.2.2.2.2
     bd (f40_i_CodesOf n i16 n17 l18) fun r21 =>
     let n22 : Nat := r21.1
     let l23 : List T := r21.2.1
     let b24 : Bool := r21.2.2
     bd (f41_i_CodesWith n i16 n17 l18 n19 l20) fun r25 =>
     let n26 : Nat := r25.1
     let l27 : List T := r25.2.1
     let b28 : Bool := r25.2.2
     br (!b24) (
      some false) (
      br (!b28) (
       some false) (
       br (((n22 : Nat) : Int) != ((n17 : Nat) : Int)) (
        some false) (
        br (((n26 : Nat) : Int) != ((n17 : Nat) : Int)) (
         some false) (
         bd (f7_l_FnNoise.l1 n n n14 l15 i16 n22 l23 n26 l27 (0 : Int)) fun r29 =>
         sm r29 (fun u30 =>
          let b31 : Bool := u30
          some b31) (fun u32 =>
          let n33 : Nat := u32.1
          let l34 : List T := u32.2.1
          let i35 : Int := u32.2.2
          bd (f42_s_R8Whole n n33 l34 (8 : Int) (40 : Int)) fun r36 =>
          let n37 : Nat := r36.1
          let l38 : List T := r36.2
          bd (f7_l_FnNoise.l2 n n i35 n37 l38 0 (0 : Int)) fun r39 =>
          let i40 : Int := r39.1
          let n41 : Nat := r39.2.1
          let l42 : List T := r39.2.2.1
          let x43 : Nat := r39.2.2.2
          bd (f43_i_CodesShaped n i40 n41 l42 1065353216) fun r44 =>
          let n45 : Nat := r44.1
          let l46 : List T := r44.2.1
          let x47 : Nat := r44.2.2.1
          let b48 : Bool := r44.2.2.2
          br (!b48) (
           some false) (
           br (((n45 : Nat) : Int) != (8 : Int)) (
            some false) (
            bd (f7_l_FnNoise.l3 n n x43 n45 l46 x47 0 (0 : Int)) fun r49 =>
            let x50 : Nat := r49.1
            let x51 : Nat := r49.2.1
            let x52 : Nat := r49.2.2
            bd ((fltToFlt FloatKind.f32 x51 FloatKind.f64)) fun y53 =>
            some (feq FloatKind.f64 x52 (fadd FloatKind.f64 x50 y53))))))))))
def sg_llilli : Sig (Nat × List T × Nat × List T × Int × Nat × List T × Nat × List T × Int) where
  pk := fun v => [.lst v.1 v.2.1, .lst v.2.2.1 v.2.2.2.1, .int v.2.2.2.2.1, .lst v.2.2.2.2.2.1 v.2.2.2.2.2.2.1, .lst v.2.2.2.2.2.2.2.1 v.2.2.2.2.2.2.2.2.1, .int v.2.2.2.2.2.2.2.2.2]
  up := fun ls => match ls with
    | [.lst a0 a1, .lst a2 a3, .int a4, .lst a5 a6, .lst a7 a8, .int a9] => some (a0, a1, a2, a3, a4, a5, a6, a7, a8, a9)
    | _ => none
  ok := by
    intro ls v h
    split at h
    · cases h; rfl
    · cases h

def sg_lill : Sig (Nat × List T × Int × Nat × List T × Nat × List T) where
  pk := fun v => [.lst v.1 v.2.1, .int v.2.2.1, .lst v.2.2.2.1 v.2.2.2.2.1, .lst v.2.2.2.2.2.1 v.2.2.2.2.2.2]
  up := fun ls => match ls with
    | [.lst a0 a1, .int a2, .lst a3 a4, .lst a5 a6] => some (a0, a1, a2, a3, a4, a5, a6)
    | _ => none
  ok := by
    intro ls v h
    split at h
    · cases h; rfl
    · cases h

def sg_lilli : Sig (Nat × List T × Int × Nat × List T × Nat × List T × Int) where
  pk := fun v => [.lst v.1 v.2.1, .int v.2.2.1, .lst v.2.2.2.1 v.2.2.2.2.1, .lst v.2.2.2.2.2.1 v.2.2.2.2.2.2.1, .int v.2.2.2.2.2.2.2]
  up := fun ls => match ls with
    | [.lst a0 a1, .int a2, .lst a3 a4, .lst a5 a6, .int a7] => some (a0, a1, a2, a3, a4, a5, a6, a7)
    | _ => none
  ok := by
    intro ls v h
    split at h
    · cases h; rfl
    · cases h

def sg_ilfi : Sig (Int × Nat × List T × Nat × Int) where
  pk := fun v => [.int v.1, .lst v.2.1 v.2.2.1, .flt v.2.2.2.1, .int v.2.2.2.2]
  up := fun ls => match ls with
    | [.int a0, .lst a1 a2, .flt a3, .int a4] => some (a0, a1, a2, a3, a4)
    | _ => none
  ok := by
    intro ls v h
    split at h
    · cases h; rfl
    · cases h

def sg_flffi : Sig (Nat × Nat × List T × Nat × Nat × Int) where
  pk := fun v => [.flt v.1, .lst v.2.1 v.2.2.1, .flt v.2.2.2.1, .flt v.2.2.2.2.1, .int v.2.2.2.2.2]
  up := fun ls => match ls with
    | [.flt a0, .lst a1 a2, .flt a3, .flt a4, .int a5] => some (a0, a1, a2, a3, a4, a5)
    | _ => none
  ok := by
    intro ls v h
    split at h
    · cases h; rfl
    · cases h

def sg_fff : Sig (Nat × Nat × Nat) where
  pk := fun v => [.flt v.1, .flt v.2.1, .flt v.2.2]
  up := fun ls => match ls with
    | [.flt a0, .flt a1, .flt a2] => some (a0, a1, a2)
    | _ => none
  ok := by
    intro ls v h
    split at h
    · cases h; rfl
    · cases h

def f7_l_FnNoise.l0.P : AS := ⟨[(0, .val false [.sl .shr [.leaf]] [.lst 0 []] [] 0), (1, .val false [.sl .shr [.leaf]] [.lst 0 []] [] 0), (5, .val false [.leaf] [.int .i64 0] [] 0), (6, .val false [.sl .own [.leaf]] [.lst 0 []] [] 0), (7, .val false [.sl .own [.leaf]] [.lst 0 []] [] 0), (8, .val false [.leaf] [.int .i64 0] [] 0)], 0⟩
def f7_l_FnNoise.l0.A : Alt (Nat × List T × Int × Nat × List T × Nat × List T) := .one (.exit 0) ⟨[(1, .val false [.sl .shr [.leaf]] [.lst 0 []] [] 0), (5, .val false [.leaf] [.int .i64 0] [] 0), (6, .val false [.sl .own [.leaf]] [.lst 0 []] [] 0), (7, .val false [.sl .own [.leaf]] [.lst 0 []] [] 0)], 0⟩ sg_lill
def f7_l_FnNoise.l0.F (n m : Nat) (v : Nat × List T × Nat × List T × Int × Nat × List T × Nat × List T × Int) := f7_l_FnNoise.l0 n m v.1 v.2.1 v.2.2.1 v.2.2.2.1 v.2.2.2.2.1 v.2.2.2.2.2.1 v.2.2.2.2.2.2.1 v.2.2.2.2.2.2.2.1 v.2.2.2.2.2.2.2.2.1 v.2.2.2.2.2.2.2.2.2
def f7_l_FnNoise.l0.W (n : Nat) : LpW := .of 112 f7_l_FnNoise.l0.P sg_llilli f7_l_FnNoise.l0.A (f7_l_FnNoise.l0.F n n)
def f7_l_FnNoise.l1.P : AS := ⟨[(1, .val false [.sl .shr [.leaf]] [.lst 0 []] [] 0), (5, .val false [.leaf] [.int .i64 0] [] 0), (11, .val false [.sl .own [.leaf]] [.lst 0 []] [] 0), (13, .val false [.sl .own [.leaf]] [.lst 0 []] [] 0), (15, .val false [.leaf] [.int .i64 0] [] 0)], 0⟩
def f7_l_FnNoise.l1.A : Alt ((Bool) ⊕ (Nat × List T × Int)) := .or (.one .ret ⟨[(1, .dead), (4, .val false [.leaf] [.bool false] [] 0), (5, .dead)], 0⟩ sg_b) (.one (.exit 2) ⟨[(1, .val false [.sl .shr [.leaf]] [.lst 0 []] [] 0), (4, .dead), (5, .val false [.leaf] [.int .i64 0] [] 0)], 0⟩ sg_li)
def f7_l_FnNoise.l1.F (n m : Nat) (v : Nat × List T × Int × Nat × List T × Nat × List T × Int) := f7_l_FnNoise.l1 n m v.1 v.2.1 v.2.2.1 v.2.2.2.1 v.2.2.2.2.1 v.2.2.2.2.2.1 v.2.2.2.2.2.2.1 v.2.2.2.2.2.2.2
def f7_l_FnNoise.l1.W (n : Nat) : LpW := .of 320 f7_l_FnNoise.l1.P sg_lilli f7_l_FnNoise.l1.A (f7_l_FnNoise.l1.F n n)
def f7_l_FnNoise.l2.P : AS := ⟨[(5, .val false [.leaf] [.int .i64 0] [] 0), (16, .val false [.sl .own [.leaf]] [.lst 0 []] [] 0), (17, .val false [.leaf] [.flt .f64 0] [] 0), (18, .val false [.leaf] [.int .i64 0] [] 0)], 0⟩
def f7_l_FnNoise.l2.A : Alt (Int × Nat × List T × Nat) := .one (.exit 4) ⟨[(5, .val false [.leaf] [.int .i64 0] [] 0), (16, .val false [.sl .own [.leaf]] [.lst 0 []] [] 0), (17, .val false [.leaf] [.flt .f64 0] [] 0)], 0⟩ sg_ilf
def f7_l_FnNoise.l2.F (n m : Nat) (v : Int × Nat × List T × Nat × Int) := f7_l_FnNoise.l2 n m v.1 v.2.1 v.2.2.1 v.2.2.2.1 v.2.2.2.2
def f7_l_FnNoise.l2.W (n : Nat) : LpW := .of 432 f7_l_FnNoise.l2.P sg_ilfi f7_l_FnNoise.l2.A (f7_l_FnNoise.l2.F n n)
def f7_l_FnNoise.l3.P : AS := ⟨[(17, .val false [.leaf] [.flt .f64 0] [] 0), (19, .val false [.sl .own [.leaf]] [.lst 0 []] [] 0), (20, .val false [.leaf] [.flt .f32 0] [] 0), (22, .val false [.leaf] [.flt .f64 0] [] 0), (23, .val false [.leaf] [.int .i64 0] [] 0)], 0⟩
def f7_l_FnNoise.l3.A : Alt (Nat × Nat × Nat) := .one (.exit 6) ⟨[(17, .val false [.leaf] [.flt .f64 0] [] 0), (20, .val false [.leaf] [.flt .f32 0] [] 0), (22, .val false [.leaf] [.flt .f64 0] [] 0)], 0⟩ sg_fff
def f7_l_FnNoise.l3.F (n m : Nat) (v : Nat × Nat × List T × Nat × Nat × Int) := f7_l_FnNoise.l3 n m v.1 v.2.1 v.2.2.1 v.2.2.2.1 v.2.2.2.2.1 v.2.2.2.2.2
def f7_l_FnNoise.l3.W (n : Nat) : LpW := .of 576 f7_l_FnNoise.l3.P sg_flffi f7_l_FnNoise.l3.A (f7_l_FnNoise.l3.F n n)
def f7_l_FnNoise.P : List Arg := [⟨.val, ⟨false, [.sl .shr [.leaf]], [.lst 0 []]⟩⟩, ⟨.val, ⟨false, [.sl .shr [.leaf]], [.lst 0 []]⟩⟩]
def f7_l_FnNoise.A : RAlt (Bool) := .one ⟨[⟨false, [.leaf], [.bool false]⟩], [none, none]⟩ sg_b
def f7_l_FnNoise.F (n : Nat) (v : Nat × List T × Nat × List T) := f7_l_FnNoise n v.1 v.2.1 v.2.2.1 v.2.2.2
noncomputable def f7_l_FnNoise.O (n : Nat) : Orc := orcOf (E := E) [f27_l_r8Long.w, f28_l_r8At.w, f30_s_R8Samples.w, f40_i_CodesOf.w, f41_i_CodesWith.w, f42_s_R8Whole.w, f43_i_CodesShaped.w] [f7_l_FnNoise.l0.W n, f7_l_FnNoise.l1.W n, f7_l_FnNoise.l2.W n, f7_l_FnNoise.l3.W n] n
theorem f7_l_FnNoise.l0.ok (n : Nat) : LpOk (f7_l_FnNoise.O n) E (evalFn E n) n (keepAt 7) (.loop (loopAt c7 0)) :=
  lp_pure f7_l_FnNoise.l0.P sg_llilli f7_l_FnNoise.l0.A (f7_l_FnNoise.l0.F n) (orcOf_cf _ _ n) (lpOk_of (bs := []) (by kernel_rfl) .nil) (fun _ => rfl) (fun _ _ => by kernel_rfl) (fun _ _ _ => by kernel_rfl)
theorem f7_l_FnNoise.l1.ok (n : Nat) : LpOk (f7_l_FnNoise.O n) E (evalFn E n) n (keepAt 7) (.loop (loopAt c7 1)) :=
  lp_pure f7_l_FnNoise.l1.P sg_lilli f7_l_FnNoise.l1.A (f7_l_FnNoise.l1.F n) (orcOf_cf _ _ n) (lpOk_of (bs := []) (by kernel_rfl) .nil) (fun _ => rfl) (fun _ _ => by kernel_rfl) (fun _ _ _ => by kernel_rfl)
theorem f7_l_FnNoise.l2.ok (n : Nat) : LpOk (f7_l_FnNoise.O n) E (evalFn E n) n (keepAt 7) (.loop (loopAt c7 2)) :=
  lp_pure f7_l_FnNoise.l2.P sg_ilfi f7_l_FnNoise.l2.A (f7_l_FnNoise.l2.F n) (orcOf_cf _ _ n) (lpOk_of (bs := []) (by kernel_rfl) .nil) (fun _ => rfl) (fun _ _ => by kernel_rfl) (fun _ _ _ => by kernel_rfl)
theorem f7_l_FnNoise.l3.ok (n : Nat) : LpOk (f7_l_FnNoise.O n) E (evalFn E n) n (keepAt 7) (.loop (loopAt c7 3)) :=
  lp_pure f7_l_FnNoise.l3.P sg_flffi f7_l_FnNoise.l3.A (f7_l_FnNoise.l3.F n) (orcOf_cf _ _ n) (lpOk_of (bs := []) (by kernel_rfl) .nil) (fun _ => rfl) (fun _ _ => by kernel_rfl) (fun _ _ _ => by kernel_rfl)
theorem f7_l_FnNoise.ok : ∀ n v x, f7_l_FnNoise.F n v = some x → evalFn E n 7 (flAs f7_l_FnNoise.P (sg_ll.pk v)) = some (f7_l_FnNoise.A.enc x) :=
  fn_pure (modes := (fdAt 7).ms) (outs := (fdAt 7).os) (results := (fdAt 7).rs) f7_l_FnNoise.O (c := c7) (keep := keepAt 7) (by kernel_rfl) (fun n => orcOf_cf _ _ n) (fun n => lpOk_of (bs := [loopAt c7 0, loopAt c7 1, loopAt c7 2, loopAt c7 3]) (by kernel_rfl) (.cons (f7_l_FnNoise.l0.ok n) (.cons (f7_l_FnNoise.l1.ok n) (.cons (f7_l_FnNoise.l2.ok n) (.cons (f7_l_FnNoise.l3.ok n) .nil))))) (fun _ => rfl) (fun _ _ => by kernel_rfl)
noncomputable def f7_l_FnNoise.w : FnW E := fnW 7 f7_l_FnNoise.P sg_ll f7_l_FnNoise.A f7_l_FnNoise.F f7_l_FnNoise.ok
end Go.Proofs.Ytdejjalkfekjiaa.D
end
section
/- FnNoise, in plain Lean. -/
namespace Go.Proofs.Ytdejjalkfekjiaa.D
open Go Go.Desk
set_option linter.unusedVariables false
theorem s_from (n l : Nat) (c : List T) : f75_s_l00From (n + 1) l c = some (l, c, 0, 0) := by rw [f75_s_l00From]
theorem s_next (n : Nat) {bs : List Int} (hb : Bytes bs) {a : Int} (h0 : 0 ≤ a) (h1 : a ≤ 1125899906842624) (sd : Int) :
    ∃ r sd', (0 ≤ r ∧ r ≤ 255) ∧ f128_s_l00Srcnext (n + 1) bs.length (its .u8 bs) a sd = some (r, bs.length, its .u8 bs, a + 1, sd') := by
  rw [f128_s_l00Srcnext]
  rw [show IntKind.i64.wrap (a + 1) = a + 1 by rw [wrap64] <;> omega]
  cases h : decide (a < (bs.length : Int))
  · simp only [br_f]
    cases decide (a + 1 ≤ (bs.length : Int))
    · exact ⟨_, _, and255 _, rfl⟩
    · exact ⟨0, _, by omega, rfl⟩
  · simp only [decide_eq_true_eq] at h
    obtain ⟨i, rfl⟩ := Int.eq_ofNat_of_zero_le h0
    have hi : i < bs.length := by omega
    have hr := hb (bs[i]) (List.getElem_mem _)
    simp only [br_t, in_dec hi, Int.toNat_natCast, okAt_its hi, Bool.and_self, gd_t, iAt_its]
    rw [show bs.getD i 0 = bs[i] by simp [List.getD, hi], show IntKind.i64.wrap bs[i] = bs[i] by rw [wrap64] <;> omega]
    cases decide ((i : Int) + 1 ≤ (bs.length : Int))
    · exact ⟨_, _, and255 _, rfl⟩
    · exact ⟨_, _, hr, rfl⟩
theorem s_pick (n : Nat) {bs : List Int} (hb : Bytes bs) {a : Int} (h0 : 0 ≤ a) (h1 : a ≤ 1125899906842622) (sd k : Int) :
    ∃ r a' sd', (0 ≤ r ∧ (1 < k → r < k) ∧ (k ≤ 1 → r = 0)) ∧ (a ≤ a' ∧ a' ≤ a + 2) ∧ f76_s_l00Srcpick (n + 2) bs.length (its .u8 bs) a sd k = some (r, bs.length, its .u8 bs, a', sd') := by
  rw [f76_s_l00Srcpick]
  by_cases hk : k ≤ 1
  · rw [decide_eq_true hk]; exact ⟨0, a, sd, by omega, by omega, rfl⟩
  rw [decide_eq_false hk]
  obtain ⟨r, s1, hr, e1⟩ := s_next n hb h0 (by omega) sd
  simp only [br_f, e1, bd_s]
  have hk0 : (!decide (k = 0)) = true := by simp; omega
  by_cases hk2 : k > 200
  · rw [decide_eq_true hk2]
    obtain ⟨r', s2, hr', e2⟩ := s_next n hb (a := a + 1) (by omega) (by omega) s1
    simp only [br_t, e2, bd_s, hk0, gd_t]
    rw [show IntKind.i64.wrap (r * 256) = r * 256 by rw [wrap64] <;> omega, show IntKind.i64.wrap (r * 256 + r') = r * 256 + r' by rw [wrap64] <;> omega]
    refine ⟨_, _, _, ?_, ?_, rfl⟩
    · rw [Int.tmod_eq_emod_of_nonneg (by omega)]
      have := Int.emod_nonneg (r * 256 + r') (show k ≠ 0 by omega)
      have := Int.emod_lt_of_pos (r * 256 + r') (show 0 < k by omega)
      omega
    · omega
  · rw [decide_eq_false hk2]
    simp only [br_f, hk0, gd_t]
    refine ⟨_, _, _, ?_, ?_, rfl⟩
    · rw [Int.tmod_eq_emod_of_nonneg (by omega)]
      have := Int.emod_nonneg r (show k ≠ 0 by omega)
      have := Int.emod_lt_of_pos r (show 0 < k by omega)
      omega
    · omega
theorem s_one (n : Nat) {bs : List Int} (hb : Bytes bs) {a : Int} (h0 : 0 ≤ a) (h1 : a ≤ 1125899906842622) (sd k : Int) :
    ∃ r a' sd', (a ≤ a' ∧ a' ≤ a + 2) ∧ f129_s_l00Srcone (n + 3) bs.length (its .u8 bs) a sd k = some (r, bs.length, its .u8 bs, a', sd') := by
  obtain ⟨r, a', s', -, ha, e⟩ := s_pick n hb h0 h1 sd k
  rw [f129_s_l00Srcone, e]
  exact ⟨_, _, _, ha, rfl⟩
theorem s_plain (n : Nat) {bs : List Int} (hb : Bytes bs) {a : Int} (h0 : 0 ≤ a) (h1 : a ≤ 1125899906842620) (sd : Int) :
    ∃ x a' sd', Plain x ∧ (a ≤ a' ∧ a' ≤ a + 4) ∧ f77_s_l01DrawPlain (n + 4) bs.length (its .u8 bs) a sd = some (x, bs.length, its .u8 bs, a', sd') := by
  obtain ⟨r, a1, s1, hr, ha, e⟩ := s_pick (n + 1) hb h0 (by omega) sd 129
  obtain ⟨b, a2, s2, ha2, e2⟩ := s_one n hb (a := a1) (by omega) (by omega) s1 4
  rw [f77_s_l01DrawPlain, e]
  simp only [bd_s, e2]
  rw [show IntKind.i64.wrap (r - 64) = r - 64 by rw [wrap64] <;> omega]
  cases b
  · exact ⟨_, a2, s2, ⟨r - 64, by omega, .inr rfl⟩, by omega, rfl⟩
  · exact ⟨_, a2, s2, ⟨r - 64, by omega, .inl rfl⟩, by omega, rfl⟩
theorem s_among (n : Nat) {bs : List Int} (hb : Bytes bs) {a : Int} (h0 : 0 ≤ a) (h1 : a ≤ 1125899906842622) (sd : Int) (L : List Int) (hL : 0 < L.length) :
    ∃ r a' sd', r ∈ L ∧ (a ≤ a' ∧ a' ≤ a + 2) ∧ f132_s_l00Srcamong (n + 3) bs.length (its .u8 bs) a sd L.length (its .i64 L) = some (r, bs.length, its .u8 bs, a', sd', L.length, its .i64 L) := by
  obtain ⟨r, a1, s1, hr, ha, e⟩ := s_pick n hb h0 h1 sd (L.length : Int)
  rw [f132_s_l00Srcamong, e]
  obtain ⟨i, rfl⟩ := Int.eq_ofNat_of_zero_le hr.1
  have hi : i < L.length := by
    by_cases h : (L.length : Int) ≤ 1
    · have := hr.2.2 h; omega
    · have := hr.2.1 (by omega); omega
  simp only [bd_s, in_dec hi, Int.toNat_natCast, okAt_its hi, Bool.and_self, gd_t, iAt_its]
  refine ⟨_, _, _, ?_, ha, rfl⟩
  rw [show L.getD i 0 = L[i] by simp [List.getD, hi]]
  exact List.getElem_mem _
theorem s_from32 (n : Nat) {i : Int} (h0 : 0 ≤ i) (h1 : i < 4294967296) : ∃ x, W32 x ∧ f131_s_l01From (n + 2) i = some x := by
  rw [f131_s_l01From]
  refine ⟨canon .f32 i.toNat, w32_canon (by omega), ?_⟩
  rw [u32_wrap h0 h1]
  show bd (if 0 ≤ i then some (canon .f32 i.toNat) else none) _ = _
  rw [if_pos h0]; rfl
theorem s_float (n : Nat) {bs : List Int} (hb : Bytes bs) {a : Int} (h0 : 0 ≤ a) (h1 : a ≤ 1125899906842600) (sd : Int) :
    ∃ x a' sd', W32 x ∧ (a ≤ a' ∧ a' ≤ a + 16) ∧ f99_s_l01DrawFloat (n + 5) bs.length (its .u8 bs) a sd = some (x, bs.length, its .u8 bs, a', sd') := by
  obtain ⟨b, a1, s1, ha1, e1⟩ := s_one (n + 1) hb h0 (by omega) sd 12
  rw [f99_s_l01DrawFloat, e1]
  simp only [bd_s, br_not]
  cases b
  · obtain ⟨x, a2, s2, hx, ha2, e2⟩ := s_plain n hb (a := a1) (by omega) (by omega) s1
    simp only [br_f, e2, bd_s]
    exact ⟨_, _, _, hx.w32, by omega, rfl⟩
  obtain ⟨q, a2, s2, -, ha2, e2⟩ := s_pick (n + 2) hb (a := a1) (by omega) (by omega) s1 4
  simp only [br_t, e2, bd_s]
  cases q == 0
  case true =>
    obtain ⟨r, a3, s3, hr, ha3, e3⟩ := s_among (n + 1) hb (a := a2) (by omega) (by omega) s2 [0, 2147483648, 2139095040, 4286578688, 2143289344, 1, 2139095039, 8388608, 8388607, 2147483649] (by decide)
    have hr' : 0 ≤ r ∧ r < 4294967296 := by simp only [List.mem_cons, List.not_mem_nil, or_false] at hr; omega
    obtain ⟨x, hx, e4⟩ := s_from32 (n + 2) hr'.1 hr'.2
    rw [br_t]
    refine ⟨x, a3, s3, hx, by omega, ?_⟩
    refine Eq.trans (congrArg (fun o => bd o _) e3) ?_
    simp only [bd_s, e4]
  cases q == 1
  case true =>
    obtain ⟨r, a3, s3, hr, ha3, e3⟩ := s_pick (n + 2) hb (a := a2) (by omega) (by omega) s2 65536
    obtain ⟨r', a4, s4, hr', ha4, e4⟩ := s_pick (n + 2) hb (a := a3) (by omega) (by omega) s3 65536
    obtain ⟨x, hx, e5⟩ := s_from32 (n + 2) (i := r * 65536 + r') (by omega) (by omega)
    simp only [br_f, br_t, e3, e4, bd_s]
    rw [show IntKind.i64.wrap (r * 65536) = r * 65536 by rw [wrap64] <;> omega, show IntKind.i64.wrap (r * 65536 + r') = r * 65536 + r' by rw [wrap64] <;> omega, e5]
    exact ⟨x, _, _, hx, by omega, rfl⟩
  cases q == 2
  case true =>
    obtain ⟨r, a3, s3, hr, ha3, e3⟩ := s_pick (n + 2) hb (a := a2) (by omega) (by omega) s2 65536
    obtain ⟨x, hx, e5⟩ := s_from32 (n + 2) (i := r * 65536) (by omega) (by omega)
    simp only [br_f, br_t, e3, bd_s]
    rw [show IntKind.i64.wrap (r * 65536) = r * 65536 by rw [wrap64] <;> omega, e5]
    exact ⟨x, _, _, hx, by omega, rfl⟩
  obtain ⟨x, a3, s3, hx, ha3, e3⟩ := s_plain n hb (a := a2) (by omega) (by omega) s2
  obtain ⟨r, a4, s4, hr, ha4, e4⟩ := s_among (n + 1) hb (a := a3) (by omega) (by omega) s3 [8388608, 2130706432, 1610612736, 536870912] (by decide)
  have hr' : 0 ≤ r ∧ r < 4294967296 := by simp only [List.mem_cons, List.not_mem_nil, or_false] at hr; omega
  obtain ⟨y, hy, e5⟩ := s_from32 (n + 2) hr'.1 hr'.2
  simp only [br_f, e3, bd_s]
  refine ⟨_, a4, s4, w32_fmul x y, by omega, ?_⟩
  refine Eq.trans (congrArg (fun o => bd o _) e4) ?_
  simp only [bd_s, e5]
theorem s_floats_loop (n : Nat) {bs : List Int} (hb : Bytes bs) (str : Bool) : ∀ (j m : Nat) (a sd : Int) (acc : List Nat), 0 ≤ a → a + 16 * (j : Int) ≤ 1125899906842000 → acc.length + j ≤ 2147483647 → j < m → (∀ x ∈ acc, W32 x) →
    ∃ ys a' sd', ys.length = acc.length + j ∧ (∀ x ∈ ys, W32 x) ∧ (a ≤ a' ∧ a' ≤ a + 16 * (j : Int)) ∧
      f81_s_l01DrawFloats.l0 (n + 5) m bs.length (its .u8 bs) a sd (j : Int) acc.length (fls .f32 acc) str = some (bs.length, its .u8 bs, a', sd', ys.length, fls .f32 ys) := by
  intro j
  induction j with
  | zero =>
    intro m a sd acc h0 h1 hl hm hw
    obtain ⟨m, rfl⟩ : ∃ k, m = k + 1 := ⟨m - 1, by omega⟩
    rw [f81_s_l01DrawFloats.l0]
    exact ⟨acc, a, sd, by omega, hw, by omega, rfl⟩
  | succ j ih =>
    intro m a sd acc h0 h1 hl hm hw
    obtain ⟨m, rfl⟩ : ∃ k, m = k + 1 := ⟨m - 1, by omega⟩
    rw [f81_s_l01DrawFloats.l0, decide_eq_true (show (((j + 1 : Nat) : Int) > 0) by omega), show IntKind.i64.wrap (((j + 1 : Nat) : Int) - 1) = (j : Int) by rw [wrap64] <;> omega]
    have key : ∀ x a1 s1, W32 x → a ≤ a1 → a1 ≤ a + 16 → ∃ ys a' sd', ys.length = acc.length + (j + 1) ∧ (∀ x ∈ ys, W32 x) ∧ (a ≤ a' ∧ a' ≤ a + 16 * ((j + 1 : Nat) : Int)) ∧
        f81_s_l01DrawFloats.l0 (n + 5) m bs.length (its .u8 bs) a1 s1 (j : Int) (acc ++ [x]).length (fls .f32 (acc ++ [x])) str = some (bs.length, its .u8 bs, a', sd', ys.length, fls .f32 ys) := by
      intro x a1 s1 hx h2 h3
      obtain ⟨ys, a', sd', hy, hyw, ha, e⟩ := ih m a1 s1 (acc ++ [x]) (by omega) (by omega) (by simp; omega) (by omega) (by
        intro y hy; simp only [List.mem_append, List.mem_singleton] at hy; rcases hy with hy | rfl
        · exact hw y hy
        · exact hx)
      exact ⟨ys, a', sd', by simp at hy; omega, hyw, by omega, e⟩
    simp only [br_t]
    cases str
    · obtain ⟨x, a1, s1, hx, ha, e⟩ := s_plain (n + 1) hb h0 (by omega) sd
      simp only [br_f, e, bd_s, push_ok (show acc.length < 2147483648 by omega), gd_t, push_fls]
      rw [show acc.length + 1 = (acc ++ [x]).length by simp]
      exact key x a1 s1 hx.w32 (by omega) (by omega)
    · obtain ⟨x, a1, s1, hx, ha, e⟩ := s_float n hb h0 (by omega) sd
      simp only [br_t, e, bd_s, push_ok (show acc.length < 2147483648 by omega), gd_t, push_fls]
      rw [show acc.length + 1 = (acc ++ [x]).length by simp]
      exact key x a1 s1 hx (by omega) (by omega)
theorem s_floats (n : Nat) {bs : List Int} (hb : Bytes bs) {a : Int} (h0 : 0 ≤ a) (j : Nat) (h1 : a + 16 * (j : Int) ≤ 1125899906841000) (hj : j ≤ 2147483647) (hn : j < n) (sd : Int) :
    ∃ ys a' sd', ys.length = j ∧ (∀ x ∈ ys, W32 x) ∧ (a ≤ a' ∧ a' ≤ a + 2 + 16 * (j : Int)) ∧ f81_s_l01DrawFloats (n + 6) bs.length (its .u8 bs) a sd (j : Int) = some (ys.length, fls .f32 ys, bs.length, its .u8 bs, a', sd') := by
  obtain ⟨b, a1, s1, ha1, e1⟩ := s_one (n + 2) hb h0 (by omega) sd 4
  obtain ⟨ys, a2, s2, hy, hw, ha2, e2⟩ := s_floats_loop n hb b j (n + 5) a1 s1 [] (by omega) (by omega) (by simp; omega) (by omega) (by simp)
  rw [f81_s_l01DrawFloats, e1]
  refine ⟨ys, a2, s2, by simpa using hy, hw, by omega, ?_⟩
  have e2 : f81_s_l01DrawFloats.l0 (n + 5) (n + 5) bs.length (its .u8 bs) a1 s1 (j : Int) 0 (reps 0 [(T.flt FloatKind.f32 0)]) b = some (bs.length, its .u8 bs, a2, s2, ys.length, fls .f32 ys) := e2
  simp only [bd_s, e2]
theorem s_r8samples (n : Nat) {bs : List Int} (hb : Bytes bs) (k : Nat) (hk : k ≤ 1000) (hn : k < n) : ∃ xs, xs.length ≤ k ∧ (∀ x ∈ xs, W32 x) ∧ f30_s_R8Samples (n + 7) bs.length (its .u8 bs) (k : Int) = some (xs.length, fls .f32 xs) := by
  obtain ⟨r, a1, s1, hr, ha1, e1⟩ := s_pick (n + 4) hb (a := 0) (by omega) (by omega) 0 ((k : Int) + 1)
  obtain ⟨j, rfl⟩ := Int.eq_ofNat_of_zero_le hr.1
  have hj : j ≤ k := by omega
  obtain ⟨ys, a2, s2, hy, hw, ha2, e2⟩ := s_floats n hb (a := a1) (by omega) j (by omega) (by omega) (by omega) s1
  rw [f30_s_R8Samples, s_from, show IntKind.i64.wrap ((k : Int) + 1) = (k : Int) + 1 by rw [wrap64] <;> omega]
  simp only [bd_s, e1, e2]
  exact ⟨ys, by omega, hw, rfl⟩

theorem l_long (n : Nat) (bs cs : List Int) : f27_l_r8Long (n + 1) bs.length (its .u8 bs) cs.length (its .u8 cs) = some (decide (48 < bs.length ∨ 48 < cs.length)) := by
  rw [f27_l_r8Long]
  by_cases h : 48 < bs.length
  · rw [decide_eq_true (show (bs.length : Int) > 48 by omega), decide_eq_true (Or.inl h)]; rfl
  · rw [decide_eq_false (show ¬ (bs.length : Int) > 48 by omega), br_f]
    congr 1
    simp [h]; omega
theorem l_at (n : Nat) {bs : List Int} (hb : Bytes bs) {i k : Int} (hi : 0 ≤ i) (hk : 1 ≤ k) : ∃ r, (0 ≤ r ∧ r < k) ∧ f28_l_r8At (n + 1) bs.length (its .u8 bs) i k = some r := by
  rw [f28_l_r8At]
  by_cases h : k ≤ 1
  · rw [decide_eq_true h]; exact ⟨0, by omega, rfl⟩
  rw [decide_eq_false h]
  by_cases h2 : i ≥ (bs.length : Int)
  · rw [decide_eq_true h2]; exact ⟨0, by omega, rfl⟩
  rw [decide_eq_false h2]
  obtain ⟨i, rfl⟩ := Int.eq_ofNat_of_zero_le hi
  have hi : i < bs.length := by omega
  have hr := hb (bs[i]) (List.getElem_mem _)
  have hk0 : (!decide (k = 0)) = true := by simp; omega
  simp only [br_f, in_dec hi, Int.toNat_natCast, okAt_its hi, Bool.and_self, gd_t, iAt_its, hk0]
  rw [show bs.getD i 0 = bs[i] by simp [List.getD, hi], show IntKind.i64.wrap bs[i] = bs[i] by rw [wrap64] <;> omega]
  refine ⟨_, ?_, rfl⟩
  rw [Int.tmod_eq_emod_of_nonneg (by omega)]
  have := Int.emod_nonneg bs[i] (show k ≠ 0 by omega)
  have := Int.emod_lt_of_pos bs[i] (show 0 < k by omega)
  omega

theorem i_few (n k : Nat) (l : List T) : f94_i_areSamples (n + 1) k l = some (decide ((k : Int) ≤ 256)) := by rw [f94_i_areSamples]

theorem i_in (n : Nat) (a b c : Int) : f83_i_within (n + 1) a b c = some (decide (b ≤ a ∧ a ≤ c)) := by
  rw [f83_i_within]
  by_cases h : b ≤ a <;> simp [br, h]

/-! codes of numbers -/
theorem cut_half (s : Bool) (n d : Nat) : 2 * n ≤ (2 * Ieee.Toward.cut .even s n d + 1) * 2 ^ d ∧ 2 * Ieee.Toward.cut .even s n d * 2 ^ d ≤ 2 * n + 2 ^ d := by
  unfold Ieee.Toward.cut
  simp only
  obtain ⟨g, hg⟩ : ∃ g, g = min d (n.log2 + 2) := ⟨_, rfl⟩
  rw [← hg, Nat.shiftLeft_eq, Nat.one_mul]
  have hpos : 0 < 2 ^ g := Nat.two_pow_pos g
  have hdm := Nat.div_add_mod n (2 ^ g)
  have hlt := Nat.mod_lt n hpos
  generalize hlow : n / 2 ^ g = low at *
  generalize hrest : n % 2 ^ g = rest at *
  have hm : ∃ b : Nat, b = (decide (2 ^ g < 2 * rest) || 2 ^ g == 2 * rest && low % 2 == 1).toNat ∧ ((b = 0 ∧ 2 * rest ≤ 2 ^ g) ∨ (b = 1 ∧ 2 ^ g ≤ 2 * rest)) := by
    refine ⟨_, rfl, ?_⟩
    by_cases h1 : 2 ^ g < 2 * rest
    · right; rw [decide_eq_true h1]; exact ⟨rfl, by omega⟩
    · rw [decide_eq_false h1]
      by_cases h2 : 2 ^ g = 2 * rest
      · by_cases h3 : low % 2 = 1
        · right; rw [h3, show (2 ^ g == 2 * rest) = true by simpa using h2]; exact ⟨rfl, by omega⟩
        · left; rw [show (low % 2 == 1) = false by simpa using h3]; simp; omega
      · left; rw [show (2 ^ g == 2 * rest) = false by simpa using h2]; exact ⟨rfl, by omega⟩
  obtain ⟨b, hb, hc⟩ := hm
  rw [← hb]
  by_cases hgd : g = d
  · rw [hgd] at hdm hlt hc
    rw [Nat.mul_comm] at hdm
    have e1 : (2 * (low + b) + 1) * 2 ^ d = 2 * (low * 2 ^ d) + 2 * (b * 2 ^ d) + 2 ^ d := by
      rw [Nat.add_mul, Nat.one_mul, Nat.mul_assoc, Nat.add_mul, Nat.mul_add]
    have e2 : 2 * (low + b) * 2 ^ d = 2 * (low * 2 ^ d) + 2 * (b * 2 ^ d) := by
      rw [Nat.mul_assoc, Nat.add_mul, Nat.mul_add]
    rw [e1, e2]
    generalize low * 2 ^ d = L at *
    rcases hc with ⟨rfl, h⟩ | ⟨rfl, h⟩ <;> omega
  · have hgl : g = n.log2 + 2 := by omega
    have hn : n < 2 ^ (n.log2 + 1) := Nat.lt_log2_self
    have h2 : 2 ^ g = 2 * 2 ^ (n.log2 + 1) := by rw [hgl, Nat.pow_succ]; omega
    have hle : 2 ^ g ≤ 2 ^ d := Nat.pow_le_pow_right (by decide) (by omega)
    have hl0 : low = 0 := by rw [← hlow]; exact Nat.div_eq_of_lt (by omega)
    have hr : rest = n := by rw [← hrest]; exact Nat.mod_eq_of_lt (by omega)
    subst hr
    rw [hl0, Nat.zero_add]
    rcases hc with ⟨rfl, h⟩ | ⟨rfl, h⟩
    · simp; omega
    · omega
theorem mv_cast (c : Nat) : mv c 0 = (c : Rat) := by unfold mv; rw [p2_zero, Rat.mul_one]
/-- the whole number next to a number -/
theorem even_val {x : Nat} {v : Rat} (hx : Val .f64 x v) (h1 : v ≤ p2 200) (h2 : -p2 200 ≤ v) : ∃ k : Int, Val .f64 (integralF .even x) (k : Rat) ∧ (k : Rat) - 1 / 2 ≤ v ∧ v ≤ (k : Rat) + 1 / 2 := by
  obtain ⟨s, m, i, e1, rfl, hm, hi⟩ := hx
  have hmn := mv_nonneg m i
  have hm200 : mv m i ≤ p2 200 := by cases s <;> simp only [sg_true, sg_false] at h1 h2 <;> grind
  obtain ⟨c, hc⟩ : ∃ c, c = Ieee.Toward.cut .even s (m <<< i.toNat) (-i).toNat := ⟨_, rfl⟩
  have e2 : integralF .even x = FloatKind.f64.encode (.number s c 0) := by
    unfold integralF; rw [e1, hc]; rfl
  obtain ⟨g1, g2⟩ := cut_half s (m <<< i.toNat) (-i).toNat
  rw [← hc, Nat.shiftLeft_eq] at g1 g2
  have hb : 2 * FloatKind.f64.format.binade = 9007199254740992 := by decide
  have hl : FloatKind.f64.format.leastPlace = -1074 := by decide
  rw [hb] at hm
  rw [hl] at hi
  -- the same over numbers
  have key : 2 * mv m i ≤ 2 * (c : Rat) + 1 ∧ 2 * (c : Rat) ≤ 2 * mv m i + 1 := by
    have e3 : mv m i = mv (m * 2 ^ i.toNat) (-((-i).toNat : Int)) := by
      rw [mv_shift, show -((-i).toNat : Int) + (i.toNat : Int) = i by omega]
    have e4 : ∀ N : Nat, mv (N * 2 ^ (-i).toNat) (-((-i).toNat : Int)) = (N : Rat) := by
      intro N; rw [mv_shift, show -((-i).toNat : Int) + ((-i).toNat : Int) = 0 by omega, mv_cast]
    have two : ∀ (N : Nat) (e : Int), mv (2 * N) e = 2 * mv N e := by
      intro N e; rw [Nat.two_mul, mv_add]; grind
    have f1 := (mv_le (e := -((-i).toNat : Int))).2 g1
    have f2 := (mv_le (e := -((-i).toNat : Int))).2 g2
    rw [two, e4, ← e3] at f1
    rw [mv_add, two, ← e3, e4, show 2 ^ (-i).toNat = 1 * 2 ^ (-i).toNat by rw [Nat.one_mul], e4] at f2
    have c1 : ((2 * c + 1 : Nat) : Rat) = 2 * (c : Rat) + 1 := by exact_mod_cast rfl
    have c2 : ((2 * c : Nat) : Rat) = 2 * (c : Rat) := by exact_mod_cast rfl
    have c3 : ((1 : Nat) : Rat) = 1 := rfl
    rw [c1] at f1
    rw [c2, c3] at f2
    exact ⟨f1, f2⟩
  have hrep : Rep0 .f64 (mv c 0) ∧ mv c 0 < p2 (topE .f64) := by
    rcases Int.lt_or_le i 0 with h | h
    · have hz : i.toNat = 0 := by omega
      rw [hz, Nat.pow_zero, Nat.mul_one] at g2
      have hp : 2 ≤ 2 ^ (-i).toNat := by
        have := Nat.pow_le_pow_right (show 0 < 2 by decide) (show 1 ≤ (-i).toNat by omega)
        simpa using this
      have hcm : c ≤ m := by
        rcases Nat.lt_or_ge m c with h5 | h5
        · exfalso
          have h6 : 2 * (m + 1) * 2 ^ (-i).toNat ≤ 2 * c * 2 ^ (-i).toNat := Nat.mul_le_mul_right _ (by omega)
          have h7 : 2 * (m + 1) * 2 ^ (-i).toNat = 2 * m * 2 ^ (-i).toNat + 2 * 2 ^ (-i).toNat := by rw [Nat.mul_add, Nat.add_mul]
          have h8 : 2 * m * 2 ≤ 2 * m * 2 ^ (-i).toNat := Nat.mul_le_mul_left _ hp
          omega
        · exact h5
      rw [mv_cast]
      exact ⟨rep_nat .f64 (by omega), nat_top .f64 (by omega)⟩
    · have hd : (-i).toNat = 0 := by omega
      rw [hd, Nat.pow_zero, Nat.mul_one] at g1 g2
      have hcc : c = m * 2 ^ i.toNat := by omega
      have : mv c 0 = mv m i := by rw [hcc, mv_shift, show (0 : Int) + (i.toNat : Int) = i by omega]
      rw [this]
      exact ⟨⟨m, i, by omega, by rw [hl]; omega, rfl⟩, rlt hm200 (p2_lt (by decide))⟩
  obtain ⟨m', e', q1, q2⟩ := exact_write .f64 s hrep.1 hrep.2
  rw [mv_cast] at q2
  refine ⟨if s then -(c : Int) else (c : Int), ?_, ?_, ?_⟩
  · have := read_val q1
    rw [e2]
    rw [q2] at this
    cases s
    · simp only [sg_false] at this
      rw [if_neg (by decide), Rat.intCast_natCast]; exact this
    · simp only [sg_true] at this
      rw [if_pos rfl, Rat.intCast_neg, Rat.intCast_natCast]; exact this
  · cases s
    · rw [if_neg (by decide), Rat.intCast_natCast, sg_false]; grind
    · rw [if_pos rfl, Rat.intCast_neg, Rat.intCast_natCast, sg_true]; grind
  · cases s
    · rw [if_neg (by decide), Rat.intCast_natCast, sg_false]; grind
    · rw [if_pos rfl, Rat.intCast_neg, Rat.intCast_natCast, sg_true]; grind
/-- a whole number's integer -/
theorem toInt_int {x : Nat} {q : Int} (hx : Val .f64 x (q : Rat)) (hq : q.natAbs ≤ 4611686018427387904) : fltToInt .f64 x .i64 = some q := by
  obtain ⟨s, m, i, e1, hv, -⟩ := hx
  have hmn := mv_nonneg m i
  have habs : mv m i = (q.natAbs : Rat) := by
    rcases Int.natAbs_eq q with h | h
    · have h0 : (0 : Rat) ≤ ((q.natAbs : Nat) : Rat) := by exact_mod_cast Nat.zero_le _
      have h1 : (q : Rat) = ((q.natAbs : Nat) : Rat) := by rw [← Rat.intCast_natCast, ← h]
      rw [h1] at hv
      cases s <;> simp only [sg_true, sg_false] at hv <;> grind
    · have h0 : (0 : Rat) ≤ ((q.natAbs : Nat) : Rat) := by exact_mod_cast Nat.zero_le _
      have h1 : (q : Rat) = -((q.natAbs : Nat) : Rat) := by rw [← Rat.intCast_natCast, ← Rat.intCast_neg, ← h]
      rw [h1] at hv
      cases s <;> simp only [sg_true, sg_false] at hv <;> grind
  have hc : (m <<< i.toNat) / 2 ^ (-i).toNat = q.natAbs := by
    have h4 : mv (m * 2 ^ i.toNat) (-((-i).toNat : Int)) = mv (q.natAbs * 2 ^ (-i).toNat) (-((-i).toNat : Int)) := by
      rw [mv_shift, mv_shift, show -((-i).toNat : Int) + (i.toNat : Int) = i by omega, show -((-i).toNat : Int) + ((-i).toNat : Int) = 0 by omega, mv_cast]
      exact habs
    have h5 := mv_le.1 (h4 ▸ Rat.le_refl : mv (m * 2 ^ i.toNat) (-((-i).toNat : Int)) ≤ mv (q.natAbs * 2 ^ (-i).toNat) (-((-i).toNat : Int)))
    have h6 := mv_le.1 (h4 ▸ Rat.le_refl : mv (q.natAbs * 2 ^ (-i).toNat) (-((-i).toNat : Int)) ≤ mv (m * 2 ^ i.toNat) (-((-i).toNat : Int)))
    rw [Nat.shiftLeft_eq, Nat.le_antisymm h5 h6, Nat.mul_div_cancel _ (Nat.two_pow_pos _)]
  have hs : Ieee.signed s q.natAbs 0 = q := by
    unfold Ieee.signed
    simp only [Nat.shiftLeft_zero]
    rcases Nat.eq_zero_or_pos q.natAbs with h0 | h0
    · have : q = 0 := by omega
      subst this; cases s <;> rfl
    · have hp : (0 : Rat) < ((q.natAbs : Nat) : Rat) := by exact_mod_cast h0
      have hsq : s = decide (q < 0) := by
        rcases Int.lt_or_le q 0 with h | h
        · have h1 : (q : Rat) < 0 := by exact_mod_cast h
          rw [decide_eq_true h]
          cases s <;> simp only [sg_true, sg_false] at hv <;> first | rfl | (exfalso; grind)
        · have h1 : (0 : Rat) ≤ (q : Rat) := by exact_mod_cast h
          rw [decide_eq_false (by omega)]
          cases s <;> simp only [sg_true, sg_false] at hv <;> first | rfl | (exfalso; grind)
      rw [hsq]
      by_cases h : q < 0
      · rw [decide_eq_true h, if_pos rfl]; omega
      · rw [decide_eq_false h, if_neg (by decide)]; omega
  unfold fltToInt
  rw [e1]
  simp only [Ieee.Datum.toInt, Ieee.Datum.integral, cut_zero, hc, hs]
  have e1 : IntKind.i64.min = -9223372036854775808 := by decide
  have e2 : IntKind.i64.max = 9223372036854775807 := by decide
  rw [e1, e2, if_pos (by omega)]
theorem fmx_min64 {x y : Nat} {a b : Int} (hx : Val .f64 x (a : Rat)) (hy : Val .f64 y (b : Rat)) : Val .f64 (fmx false .f64 x y) ((min a b : Int) : Rat) := by
  obtain ⟨o1, o2, o3⟩ := order_val hx hy
  unfold fmx
  rcases Int.lt_trichotomy a b with h | h | h
  · rw [o1.2 (by exact_mod_cast h), show min a b = a by omega]; exact hx
  · rw [o2.2 (by rw [h])]
    simp only
    split
    · rw [show min a b = b by omega]; exact hy
    · rw [show min a b = a by omega]; exact hx
  · rw [o3.2 (by exact_mod_cast h), show min a b = b by omega]; exact hy
theorem fmx_max64 {x y : Nat} {a b : Int} (hx : Val .f64 x (a : Rat)) (hy : Val .f64 y (b : Rat)) : Val .f64 (fmx true .f64 x y) ((max a b : Int) : Rat) := by
  obtain ⟨o1, o2, o3⟩ := order_val hx hy
  unfold fmx
  rcases Int.lt_trichotomy a b with h | h | h
  · rw [o1.2 (by exact_mod_cast h), show max a b = b by omega]; exact hy
  · rw [o2.2 (by rw [h])]
    simp only
    split
    · rw [show max a b = b by omega]; exact hy
    · rw [show max a b = a by omega]; exact hx
  · rw [o3.2 (by exact_mod_cast h), show max a b = a by omega]; exact hx
/-- the code of a number with b + 1 bits -/
def codeO (b w : Nat) : Option Int := if isNaN .f64 w then some 0 else
  fltToInt .f64 (fmx false .f64 (fmx true .f64 (integralF .even w) (negF .f64 (FloatKind.f64.nearest ((2 ^ b : Nat) : Int)))) (fsub .f64 (FloatKind.f64.nearest ((2 ^ b : Nat) : Int)) 4607182418800017408)) .i64
theorem ends_tab : ∀ b : Nat, b < 16 → negF .f64 (FloatKind.f64.nearest ((2 ^ b : Nat) : Int)) = FloatKind.f64.nearest (-((2 ^ b : Nat) : Int)) ∧ fsub .f64 (FloatKind.f64.nearest ((2 ^ b : Nat) : Int)) 4607182418800017408 = FloatKind.f64.nearest (((2 ^ b : Nat) : Int) - 1) := by decide +kernel
theorem code_val {b w : Nat} {v : Rat} (hb : b < 16) (hw : Val .f64 w v) (h1 : v ≤ p2 200) (h2 : -p2 200 ≤ v) : ∃ k : Int, (k : Rat) - 1 / 2 ≤ v ∧ v ≤ (k : Rat) + 1 / 2 ∧ codeO b w = some (min (max k (-((2 ^ b : Nat) : Int))) (((2 ^ b : Nat) : Int) - 1)) := by
  obtain ⟨k, k1, k2, k3⟩ := even_val hw h1 h2
  refine ⟨k, k2, k3, ?_⟩
  obtain ⟨t1, t2⟩ := ends_tab b hb
  have hp : 2 ^ b ≤ 2 ^ 15 := Nat.pow_le_pow_right (by decide) (by omega)
  have hp0 : 0 < 2 ^ b := Nat.two_pow_pos b
  have hbb : 2 * FloatKind.f64.format.binade = 9007199254740992 := by decide
  have i1 := int_val (k := .f64) (n := -((2 ^ b : Nat) : Int)) (by rw [hbb]; omega)
  have i2 := int_val (k := .f64) (n := ((2 ^ b : Nat) : Int) - 1) (by rw [hbb]; omega)
  have hn := hw.num
  unfold codeO
  rw [hn, if_neg (by decide), t1, t2]
  exact toInt_int (fmx_min64 (fmx_max64 k1 i1) i2) (by omega)
theorem pow_tab : ∀ b : Nat, b < 16 → IntKind.i64.wrap ((1 : Int) * ((2 : Int) ^ (min (Int.toNat (IntKind.i64.wrap (((b + 1 : Nat) : Int) - 1))) 64))) = ((2 ^ b : Nat) : Int) ∧ IntKind.i64.wrap (((b + 1 : Nat) : Int) - 1) = (b : Int) := by decide +kernel
/-- a number times the steps of b + 1 bits -/
def raisedM (b x : Nat) : Nat := fmul .f64 (wide x) (FloatKind.f64.nearest ((2 ^ b : Nat) : Int))
theorem i_raise (n : Nat) {b : Nat} (hb : b < 16) (x : Nat) : f104_i_raised (n + 1) ((b + 1 : Nat) : Int) x = some (raisedM b x) := by
  obtain ⟨t1, t2⟩ := pow_tab b hb
  rw [f104_i_raised, fltToFlt_wide, bd_s, t1, t2, decide_eq_true (show (0 : Int) ≤ (b : Int) by omega), gd_t]
  rfl
theorem i_code (n : Nat) {b : Nat} (hb : b < 16) (w : Nat) : f103_i_codeOf (n + 2) ((b + 1 : Nat) : Int) w = codeO b w := by
  obtain ⟨t1, t2⟩ := pow_tab b hb
  rw [f103_i_codeOf, t1, t2, decide_eq_true (show (0 : Int) ≤ (b : Int) by omega), gd_t, fne_nan]
  simp only [xIntegral_even, bd_s]
  unfold codeO
  cases isNaN .f64 w
  · rw [br_f, if_neg (by decide)]
    cases fltToInt .f64 (fmx false .f64 (fmx true .f64 (integralF .even w) (negF .f64 (FloatKind.f64.nearest ((2 ^ b : Nat) : Int)))) (fsub .f64 (FloatKind.f64.nearest ((2 ^ b : Nat) : Int)) 4607182418800017408)) .i64 <;> rfl
  · rw [br_t, if_pos rfl]
theorem i_bitsok (n : Nat) {b : Nat} (hb1 : 1 ≤ b) (hb : b < 16) : f102_i_isBits (n + 2) ((b + 1 : Nat) : Int) = some true := by
  rw [f102_i_isBits, i_in, decide_eq_true (show (2 : Int) ≤ ((b + 1 : Nat) : Int) ∧ ((b + 1 : Nat) : Int) ≤ 16 by omega)]; rfl
def codesL (b : Nat) (xs : List Nat) : List Int := xs.map fun x => (codeO b (raisedM b x)).getD 0
theorem i_codes_loop (n : Nat) {b : Nat} (hb : b < 16) (N : Nat) (cs : List T) : ∀ (zs p : List Nat) (acc : List Int) (m : Nat), (∀ x ∈ zs, ∃ c, codeO b (raisedM b x) = some c) → acc.length + zs.length < 1048576 → p.length + zs.length < 1048576 → zs.length < m →
    f40_i_CodesOf.l0 (n + 2) m ((b + 1 : Nat) : Int) N cs acc.length (its .i64 acc) (p ++ zs).length (fls .f32 (p ++ zs)) ((p ++ zs).length : Int) (p.length : Int) = some ((acc ++ codesL b zs).length, its .i64 (acc ++ codesL b zs)) := by
  intro zs
  induction zs with
  | nil =>
    intro p acc m _ _ _ hm
    obtain ⟨m, rfl⟩ : ∃ k, m = k + 1 := ⟨m - 1, by omega⟩
    rw [f40_i_CodesOf.l0, lt_end]; simp [br_f, codesL]
  | cons z zs ih =>
    intro p acc m hz ha hp hm
    obtain ⟨m, rfl⟩ : ∃ k, m = k + 1 := ⟨m - 1, by omega⟩
    obtain ⟨c, hc⟩ := hz z (by simp)
    have ha' : acc.length < 1048576 := by simp at ha; omega
    have hw := wrap_len (p := p) (z := z) (by simp at hp; omega)
    rw [f40_i_CodesOf.l0, lt_mid, in_mid, toNat_len, okAt_mid, fAt_mid]
    simp only [br_t, gd_t, Bool.and_self, i_raise (n + 1) hb, bd_s, i_code n hb, hc, push_ok (show acc.length < 2147483648 by omega), push_its, hw]
    have := ih (p ++ [z]) (acc ++ [c]) m (fun x hx => hz x (by simp [hx])) (by simp at ha ⊢; omega) (by simp at hp ⊢; omega) (by simp at hm; omega)
    simp only [codesL, List.map_cons, hc, Option.getD_some]
    simpa [codesL] using this
theorem i_codesof (n : Nat) {b : Nat} (hb1 : 1 ≤ b) (hb : b < 16) (xs : List Nat) (hx : ∀ x ∈ xs, ∃ c, codeO b (raisedM b x) = some c) (hl : xs.length ≤ 256) (hn : xs.length < n) : f40_i_CodesOf (n + 3) ((b + 1 : Nat) : Int) xs.length (fls .f32 xs) = some (xs.length, its .i64 (codesL b xs), true) := by
  have e := i_codes_loop n hb xs.length (fls .f32 xs) xs [] [] (n + 2) hx (by simp; omega) (by simp; omega) (by omega)
  have hcl : (codesL b xs).length = xs.length := by simp [codesL]
  simp only [List.nil_append, hcl] at e
  have e : f40_i_CodesOf.l0 (n + 2) (n + 2) ((b + 1 : Nat) : Int) xs.length (fls .f32 xs) 0 [] xs.length (fls .f32 xs) (xs.length : Int) 0 = _ := e
  rw [f40_i_CodesOf, i_bitsok n hb1 hb]
  simp only [bd_s, br_not, br_t, i_few, decide_eq_true (show (xs.length : Int) ≤ 256 by omega), e]



theorem i_all_loop (n : Nat) (N : Nat) (cs : List T) (lo hi : Int) : ∀ (zs p : List Int) (m : Nat), (∀ z ∈ zs, lo ≤ z ∧ z ≤ hi) → p.length + zs.length < 1048576 → zs.length < m →
    f89_i_allWithin.l0 (n + 1) m N cs lo hi (p ++ zs).length (its .i64 (p ++ zs)) ((p ++ zs).length : Int) (p.length : Int) = some (.inr ()) := by
  intro zs
  induction zs with
  | nil =>
    intro p m _ _ hm
    obtain ⟨m, rfl⟩ : ∃ k, m = k + 1 := ⟨m - 1, by omega⟩
    rw [f89_i_allWithin.l0, lt_end]; rfl
  | cons z zs ih =>
    intro p m hz hp hm
    obtain ⟨m, rfl⟩ : ∃ k, m = k + 1 := ⟨m - 1, by omega⟩
    rw [f89_i_allWithin.l0, lt_mid, in_mid, toNat_len, okAt_midI, iAt_mid]
    have := ih (p ++ [z]) m (fun x hx => hz x (by simp [hx])) (by simp at hp ⊢; omega) (by simp at hm; omega)
    simp only [br_t, gd_t, Bool.and_self, i_in, decide_eq_true (hz z (by simp)), bd_s, br_not, wrap_len (z := z) (show p.length < 4611686018427387904 by simp at hp; omega)]
    simpa using this
theorem i_allin (n : Nat) (xs : List Int) (lo hi : Int) (h : ∀ z ∈ xs, lo ≤ z ∧ z ≤ hi) (hl : xs.length < 1048576) (hn : xs.length < n) : f89_i_allWithin (n + 2) xs.length (its .i64 xs) lo hi = some true := by
  rw [f89_i_allWithin]
  have e := i_all_loop n xs.length (its .i64 xs) lo hi xs [] (n + 1) h (by simpa using hl) (by omega)
  have e : f89_i_allWithin.l0 (n + 1) (n + 1) xs.length (its .i64 xs) lo hi xs.length (its .i64 xs) (xs.length : Int) 0 = some (.inr ()) := e
  rw [e]; rfl

/-! ### noise -/
def noiseM (j : Int) : Nat := fdiv .f64 (FloatKind.f64.nearest j) 4643211215818981376
def withO (b x : Nat) (j : Int) : Option Int := codeO b (fadd .f64 (raisedM b x) (noiseM j))
theorem val_256 : Val .f64 4643211215818981376 256 := by
  have := read_val (k := .f64) (x := 4643211215818981376) (s := false) (m := 2 ^ 52) (e := -44) (by decide)
  rw [sg_false, mv_pow, show (-44 : Int) + ((52 : Nat) : Int) = 8 by decide] at this
  have h2 : p2 8 = 256 := by have := p2_nat 8; rw [show ((8 : Nat) : Int) = 8 from rfl] at this; rw [this]; rfl
  rwa [h2] at this
theorem cast_le {a b : Int} : (a : Rat) ≤ (b : Rat) ↔ a ≤ b := Rat.intCast_le_intCast
theorem cast_lin (a k c : Int) : ((a * k + c : Int) : Rat) = (a : Rat) * (k : Rat) + (c : Rat) := by rw [Rat.intCast_add, Rat.intCast_mul]
theorem binade64 : 2 * FloatKind.f64.format.binade = 9007199254740992 := by decide
theorem least64 : FloatKind.f64.format.leastPlace = -1074 := by decide
theorem p2_8 : p2 (-8) * 256 = 1 := by
  have h1 := p2_add (-8) 8
  have h2 : p2 8 = 256 := by have := p2_nat 8; rw [show ((8 : Nat) : Int) = 8 from rfl] at this; rw [this]; rfl
  rw [h2, show (-8 : Int) + 8 = 0 by decide, p2_zero] at h1
  exact h1.symm
theorem noise_val {j : Int} (h : j.natAbs ≤ 255) : Val .f64 (noiseM j) ((j : Rat) * p2 (-8)) := by
  have hj := int_val (k := .f64) (n := j) (by rw [binade64]; omega)
  have hp := p2_8
  have hv : (j : Rat) / 256 = (j : Rat) * p2 (-8) := by
    have : p2 (-8) = 1 / 256 := by grind
    rw [this]; grind
  have hr : Rep .f64 ((j : Rat) * p2 (-8)) := rep_int (by rw [binade64]; omega) (by rw [least64]; decide)
  have hB : Rep0 .f64 ((1 : Nat) : Rat) := rep_nat .f64 (by rw [binade64]; omega)
  have hT : ((1 : Nat) : Rat) < p2 (topE .f64) := nat_top .f64 (by rw [binade64]; omega)
  have h1 : ((1 : Nat) : Rat) = 1 := rfl
  rw [h1] at hB hT
  have j1 : (j : Rat) ≤ ((255 : Int) : Rat) := cast_le.2 (by omega)
  have j2 : ((-255 : Int) : Rat) ≤ (j : Rat) := cast_le.2 (by omega)
  rw [show ((255 : Int) : Rat) = 255 from rfl] at j1
  rw [show ((-255 : Int) : Rat) = -255 from rfl] at j2
  obtain ⟨R, q1, q2⟩ := div_val hj val_256 (by decide) hB hT (by grind) (by grind)
  rw [hv] at q2
  exact q1.near_eq q2 hr
theorem special : ∀ b : Nat, b < 16 → codeO b (raisedM b 2143289344) = some 0 ∧ codeO b (raisedM b 2139095040) = some (((2 ^ b : Nat) : Int) - 1) ∧ codeO b (raisedM b 4286578688) = some (-((2 ^ b : Nat) : Int)) ∧
    raisedM b 2143289344 = raisedM 0 2143289344 ∧ raisedM b 2139095040 = raisedM 0 2139095040 ∧ raisedM b 4286578688 = raisedM 0 4286578688 := by decide +kernel
theorem special2 : ∀ i : Nat, i < 511 → fadd .f64 (raisedM 0 2143289344) (noiseM ((i : Int) - 255)) = raisedM 0 2143289344 ∧ fadd .f64 (raisedM 0 2139095040) (noiseM ((i : Int) - 255)) = raisedM 0 2139095040 ∧ fadd .f64 (raisedM 0 4286578688) (noiseM ((i : Int) - 255)) = raisedM 0 4286578688 := by decide +kernel
theorem raised_val {b x : Nat} (hb : b < 16) {u : Rat} (hx : Val .f32 x u) : ∃ v, Val .f64 (raisedM b x) v ∧ -p2 150 ≤ v ∧ v ≤ p2 150 := by
  have hp : 2 ^ b ≤ 2 ^ 15 := Nat.pow_le_pow_right (by decide) (by omega)
  have hm := int_val (k := .f64) (n := ((2 ^ b : Nat) : Int)) (by rw [binade64, Int.natAbs_natCast]; omega)
  rw [Rat.intCast_natCast] at hm
  have wx := wide_val hx
  obtain ⟨s, m, e, h1, h2, h3, h4⟩ := hx
  obtain ⟨s1, s2, s3⟩ := single_finite (x := x) h1
  have hn := mv_nonneg m e
  have hlt : mv m e ≤ p2 128 := by
    have h5 : mv m e ≤ mv (2 ^ 24) e := mv_le.2 (by omega)
    rw [mv_pow] at h5
    exact Rat.le_trans h5 (p2_le (by omega))
  have hm0 : (0 : Rat) ≤ ((2 ^ b : Nat) : Rat) := by exact_mod_cast Nat.zero_le _
  have hm1 : ((2 ^ b : Nat) : Rat) ≤ p2 15 := by
    have := p2_nat 15
    rw [show ((15 : Nat) : Int) = 15 from rfl] at this
    rw [this]; exact_mod_cast hp
  have hu : -(p2 128) ≤ u ∧ u ≤ p2 128 := by rw [h2]; cases s <;> simp only [sg_true, sg_false] <;> grind
  have hprod := mul_between (A := p2 128) (B := p2 15) (Rat.le_of_lt (p2_pos _)) (Rat.le_of_lt (p2_pos _)) hu.1 hu.2 (show -(p2 15) ≤ ((2 ^ b : Nat) : Rat) by have := p2_pos 15; grind) hm1
  have e143 : p2 128 * p2 15 = p2 143 := by rw [← p2_add]; rfl
  rw [e143] at hprod
  have h150 := p2_le (show (143 : Int) ≤ 150 by decide)
  have hB : Rep0 .f64 (p2 150) := ⟨1, 150, by decide, by rw [least64]; decide, by unfold mv; rw [show ((1 : Nat) : Rat) = 1 from rfl, Rat.one_mul]⟩
  obtain ⟨R, r1, r2⟩ := mul_val wx hm hB (p2_lt (by decide)) (by grind) (by grind)
  exact ⟨R, r1, (r2 _ hB.neg).2 (by grind), (r2 _ hB.rep).1 (by grind)⟩
/-- codes with noise are near those without -/
theorem with_near {b x : Nat} (hb1 : 1 ≤ b) (hb : b < 16) (hx : W32 x) {j : Int} (hj : j.natAbs ≤ 255) : ∃ c c' : Int, codeO b (raisedM b x) = some c ∧ withO b x j = some c' ∧ c - c' ≤ 1 ∧ c' - c ≤ 1 ∧ (j = 0 → c = c') ∧ c.natAbs ≤ 32768 ∧ c'.natAbs ≤ 32768 := by
  have hp : 2 ^ b ≤ 2 ^ 15 := Nat.pow_le_pow_right (by decide) (by omega)
  have hp0 : 0 < 2 ^ b := Nat.two_pow_pos b
  obtain ⟨a1, a2, a3, a4, a5, a6⟩ := special b hb
  obtain ⟨i, hi, rfl⟩ : ∃ i : Nat, i < 511 ∧ j = (i : Int) - 255 := ⟨(j + 255).toNat, by omega, by omega⟩
  obtain ⟨t1, t2, t3⟩ := special2 i hi
  unfold withO
  have same : ∀ w c, codeO b (raisedM b w) = some c → raisedM b w = raisedM 0 w → fadd .f64 (raisedM 0 w) (noiseM ((i : Int) - 255)) = raisedM 0 w → c.natAbs ≤ 32768 → ∃ c c' : Int, codeO b (raisedM b w) = some c ∧ codeO b (fadd .f64 (raisedM b w) (noiseM ((i : Int) - 255))) = some c' ∧ c - c' ≤ 1 ∧ c' - c ≤ 1 ∧ ((i : Int) - 255 = 0 → c = c') ∧ c.natAbs ≤ 32768 ∧ c'.natAbs ≤ 32768 := by
    intro w c h1 h2 h3 h4
    have h5 : codeO b (fadd .f64 (raisedM b w) (noiseM ((i : Int) - 255))) = some c := by rw [h2, h3, ← h2]; exact h1
    exact ⟨c, c, h1, h5, by omega, by omega, fun _ => rfl, h4, h4⟩
  cases hn : isNaN .f32 x
  case true =>
    have : x = 2143289344 := by have := hx.2; rw [canon_nan hn] at this; exact this.symm
    rw [this]; exact same _ _ a1 a4 t1 (by decide)
  have hmag := num_mag hn
  by_cases hinf : x % 2147483648 = 2139095040
  · have := hx.1
    rcases (show x = 2139095040 ∨ x = 4286578688 by omega) with rfl | rfl
    · exact same _ _ a2 a5 t2 (by omega)
    · exact same _ _ a3 a6 t3 (by omega)
  have hf : fin32 x = true := decide_eq_true (show x % 2147483648 < 2139095040 by omega)
  obtain ⟨v, v1, v2, v3⟩ := raised_val hb (fin_val hf)
  have h200 : p2 150 ≤ p2 199 := p2_le (by decide)
  have h199 : p2 200 = 2 * p2 199 := by have := p2_add 199 1; rw [p2_one, show (199 : Int) + 1 = 200 by decide] at this; grind
  have h1p : (1 : Rat) ≤ p2 199 := by have := p2_le (show (0 : Int) ≤ 199 by decide); rwa [p2_zero] at this
  obtain ⟨k, k1, k2, k3⟩ := code_val hb v1 (by grind) (by grind)
  have nv := noise_val hj
  obtain ⟨J, hJ⟩ : ∃ J : Int, J = (i : Int) - 255 := ⟨_, rfl⟩
  rw [← hJ] at nv hj ⊢
  have j1 : (J : Rat) ≤ ((255 : Int) : Rat) := cast_le.2 (by omega)
  have j2 : ((-255 : Int) : Rat) ≤ (J : Rat) := cast_le.2 (by omega)
  rw [show ((255 : Int) : Rat) = 255 from rfl] at j1
  rw [show ((-255 : Int) : Rat) = -255 from rfl] at j2
  have hp8 := p2_8
  obtain ⟨d, hd⟩ : ∃ d, d = (J : Rat) * p2 (-8) := ⟨_, rfl⟩
  rw [← hd] at nv
  have hd256 : d * 256 = (J : Rat) := by rw [hd]; grind
  have hd1 : d ≤ 255 / 256 := by grind
  have hd2 : -(255 / 256) ≤ d := by grind
  have hB : Rep0 .f64 (p2 199) := ⟨1, 199, by decide, by rw [least64]; decide, by unfold mv; rw [show ((1 : Nat) : Rat) = 1 from rfl, Rat.one_mul]⟩
  have h151 : p2 150 + 1 ≤ p2 199 := by
    have e1 : p2 151 = 2 * p2 150 := by have := p2_add 150 1; rw [p2_one, show (150 : Int) + 1 = 151 by decide] at this; grind
    have e2 := p2_le (show (151 : Int) ≤ 199 by decide)
    have e3 : (1 : Rat) ≤ p2 150 := by have := p2_le (show (0 : Int) ≤ 150 by decide); rwa [p2_zero] at this
    grind
  obtain ⟨v', w1, w2⟩ := add_val v1 nv hB (p2_lt (by decide)) (by grind) (by grind)
  have w3 := (w2 _ hB.rep).1 (show v + d ≤ p2 199 by grind)
  have w4 := (w2 _ hB.neg).2 (show -p2 199 ≤ v + d by grind)
  obtain ⟨k', k1', k2', k3'⟩ := code_val hb w1 (by grind) (by grind)
  refine ⟨_, _, k3, k3', ?_⟩
  have rep : ∀ M : Int, M.natAbs ≤ 4294967296 → Rep .f64 ((M : Rat) * p2 (-8)) := fun M hM => rep_int (by rw [binade64]; omega) (by rw [least64]; decide)
  have cast : ∀ M : Int, ((M : Rat) * p2 (-8)) * 256 = (M : Rat) := fun M => by grind
  have big : ∀ M : Int, M.natAbs ≤ 4294967296 → ((M : Rat) ≤ (v + d) * 256 → (M : Rat) ≤ v' * 256) ∧ ((v + d) * 256 ≤ (M : Rat) → v' * 256 ≤ (M : Rat)) := by
    intro M hM
    have h1 := cast M
    obtain ⟨h2, h3⟩ := w2 _ (rep M hM)
    constructor
    · intro h; have := h3 (by grind); grind
    · intro h; have := h2 (by grind); grind
  have zero : J = 0 → min (max k (-((2 ^ b : Nat) : Int))) (((2 ^ b : Nat) : Int) - 1) = min (max k' (-((2 ^ b : Nat) : Int))) (((2 ^ b : Nat) : Int) - 1) := by
    intro h0
    have hd0 : d = 0 := by rw [hd, h0]; grind
    rw [hd0, show v + 0 = v by grind] at w2
    have e1 := w1.near_eq w2 v1.rep
    have e2 : v' = v := w1.inj e1
    by_cases hv : v = 0
    · have c1 : (k : Rat) ≤ ((0 : Int) : Rat) ∨ ((1 : Int) : Rat) ≤ (k : Rat) := by
        rcases Int.lt_or_le k 1 with h | h
        · exact .inl (cast_le.2 (by omega))
        · exact .inr (cast_le.2 h)
      have c2 : ((0 : Int) : Rat) ≤ (k : Rat) ∨ (k : Rat) ≤ ((-1 : Int) : Rat) := by
        rcases Int.lt_or_le k 0 with h | h
        · exact .inr (cast_le.2 (by omega))
        · exact .inl (cast_le.2 h)
      have c3 : (k' : Rat) ≤ ((0 : Int) : Rat) ∨ ((1 : Int) : Rat) ≤ (k' : Rat) := by
        rcases Int.lt_or_le k' 1 with h | h
        · exact .inl (cast_le.2 (by omega))
        · exact .inr (cast_le.2 h)
      have c4 : ((0 : Int) : Rat) ≤ (k' : Rat) ∨ (k' : Rat) ≤ ((-1 : Int) : Rat) := by
        rcases Int.lt_or_le k' 0 with h | h
        · exact .inr (cast_le.2 (by omega))
        · exact .inl (cast_le.2 h)
      have z0 : ((0 : Int) : Rat) = 0 := rfl
      have z1 : ((1 : Int) : Rat) = 1 := rfl
      have z2 : ((-1 : Int) : Rat) = -1 := rfl
      rw [z0, z1] at c1 c3
      rw [z0, z2] at c2 c4
      have d1 : (k : Rat) = 0 := by grind
      have d2 : (k' : Rat) = 0 := by grind
      have d3 : k = k' := by
        have h1 := (cast_le (a := k) (b := k')).1 (by grind)
        have h2 := (cast_le (a := k') (b := k)).1 (by grind)
        omega
      rw [d3]
    · have hword : fadd .f64 (raisedM b x) (noiseM J) = raisedM b x := word_of_val (fadd_lt _ _ _) (fmul_lt _ _ _) e1 v1 hv
      rw [hword, k3] at k3'
      exact Option.some.inj k3'
  have near : (k ≤ 2097152 → -2097152 ≤ k → k' - k ≤ 1 ∧ k - k' ≤ 1) ∧ (2097152 < k → 1000000 ≤ k') ∧ (k < -2097152 → k' ≤ -1000000) := by
    have n256 : ((256 : Int) : Rat) = 256 := rfl
    have n383 : ((383 : Int) : Rat) = 383 := rfl
    have m383 : ((-383 : Int) : Rat) = -383 := rfl
    have n511 : ((511 : Int) : Rat) = 511 := rfl
    refine ⟨fun h1 h2 => ⟨?_, ?_⟩, fun h => ?_, fun h => ?_⟩
    · have h3 := (big (256 * k + 383) (by omega)).2 (by rw [cast_lin, n256, n383]; grind)
      rw [cast_lin, n256, n383] at h3
      have h4 : 256 * k' + 0 ≤ 256 * k + 511 := cast_le.1 (by rw [cast_lin, cast_lin, n256, n511, show ((0 : Int) : Rat) = 0 from rfl]; grind)
      omega
    · have h3 := (big (256 * k + -383) (by omega)).1 (by rw [cast_lin, n256, m383]; grind)
      rw [cast_lin, n256, m383] at h3
      have h4 : 256 * k + 0 ≤ 256 * k' + 511 := cast_le.1 (by rw [cast_lin, cast_lin, n256, n511, show ((0 : Int) : Rat) = 0 from rfl]; grind)
      omega
    · have hk : ((2097153 : Int) : Rat) ≤ (k : Rat) := cast_le.2 (by omega)
      rw [show ((2097153 : Int) : Rat) = 2097153 from rfl] at hk
      have h3 := (big 500000000 (by decide)).1 (by rw [show ((500000000 : Int) : Rat) = 500000000 from rfl]; grind)
      rw [show ((500000000 : Int) : Rat) = 500000000 from rfl] at h3
      exact cast_le.1 (by rw [show ((1000000 : Int) : Rat) = 1000000 from rfl]; grind)
    · have hk : (k : Rat) ≤ ((-2097153 : Int) : Rat) := cast_le.2 (by omega)
      rw [show ((-2097153 : Int) : Rat) = -2097153 from rfl] at hk
      have h3 := (big (-500000000) (by decide)).2 (by rw [show ((-500000000 : Int) : Rat) = -500000000 from rfl]; grind)
      rw [show ((-500000000 : Int) : Rat) = -500000000 from rfl] at h3
      exact cast_le.1 (by rw [show ((-1000000 : Int) : Rat) = -1000000 from rfl]; grind)
  obtain ⟨n1, n2, n3⟩ := near
  generalize hP : ((2 ^ b : Nat) : Int) = P at *
  have hPle : P ≤ 32768 := by omega
  have hP0 : 0 < P := by omega
  have n4 := n1
  rcases Int.lt_or_le 2097152 k with h | h
  · have := n2 h
    refine ⟨by omega, by omega, zero, by omega, by omega⟩
  · rcases Int.lt_or_le k (-2097152) with h' | h'
    · have := n3 h'
      refine ⟨by omega, by omega, zero, by omega, by omega⟩
    · obtain ⟨m1, m2⟩ := n1 h h'
      refine ⟨by omega, by omega, zero, by omega, by omega⟩
/-! ### the lists -/
def twos (ps : List (Int × Int)) : List Int := ps.flatMap fun c => [c.1, c.2]
theorem twos_length (ps : List (Int × Int)) : (twos ps).length = 2 * ps.length := by
  induction ps with
  | nil => rfl
  | cons c ps ih => have : twos (c :: ps) = c.1 :: c.2 :: twos ps := rfl
                    rw [this]; simp [ih]; omega
theorem twos_append (a b : List (Int × Int)) : twos (a ++ b) = twos a ++ twos b := by simp [twos]
theorem twos_mid (q qs : List (Int × Int)) (c : Int × Int) : (twos (q ++ c :: qs)).getD (2 * q.length) 0 = c.1 ∧ (twos (q ++ c :: qs)).getD (2 * q.length + 1) 0 = c.2 := by
  have e : twos (q ++ c :: qs) = twos q ++ (c.1 :: c.2 :: twos qs) := by rw [twos_append]; rfl
  have hl := twos_length q
  rw [e]
  constructor
  · simp only [List.getD]; rw [List.getElem?_append_right (by omega), show 2 * q.length - (twos q).length = 0 by omega]; rfl
  · simp only [List.getD]; rw [List.getElem?_append_right (by omega), show 2 * q.length + 1 - (twos q).length = 1 by omega]; rfl
def withL (b : Nat) (zs : List Nat) (qs : List (Int × Int)) : List Int := List.zipWith (fun x c => (withO b x (c.1 - c.2)).getD 0) zs qs
theorem with_loop (n : Nat) {b : Nat} (hb1 : 1 ≤ b) (hb : b < 16) (N : Nat) (cs : List T) : ∀ (zs p : List Nat) (qs q : List (Int × Int)) (acc : List Int) (m : Nat), qs.length = zs.length → q.length = p.length → (∀ x ∈ zs, W32 x) → (∀ c ∈ qs, (0 ≤ c.1 ∧ c.1 ≤ 255) ∧ (0 ≤ c.2 ∧ c.2 ≤ 255)) → acc.length + zs.length < 1048576 → p.length + zs.length < 1048576 → zs.length < m →
    f41_i_CodesWith.l0 (n + 2) m ((b + 1 : Nat) : Int) N cs (twos (q ++ qs)).length (its .i64 (twos (q ++ qs))) acc.length (its .i64 acc) (p ++ zs).length (fls .f32 (p ++ zs)) ((p ++ zs).length : Int) (p.length : Int) = some ((acc ++ withL b zs qs).length, its .i64 (acc ++ withL b zs qs)) := by
  intro zs
  induction zs with
  | nil =>
    intro p qs q acc m hl _ _ _ _ _ hm
    obtain ⟨m, rfl⟩ : ∃ k, m = k + 1 := ⟨m - 1, by omega⟩
    rw [f41_i_CodesWith.l0, lt_end]; simp [br_f, withL]
  | cons z zs ih =>
    intro p qs q acc m hl hq hz hc ha hp hm
    obtain ⟨m, rfl⟩ : ∃ k, m = k + 1 := ⟨m - 1, by omega⟩
    cases qs with
    | nil => simp at hl
    | cons c qs =>
      obtain ⟨⟨c1, c2⟩, c3, c4⟩ := hc c (by simp)
      obtain ⟨y, y', -, e2, -, -, -, -, -⟩ := with_near hb1 hb (hz z (by simp)) (j := c.1 - c.2) (by omega)
      obtain ⟨g1, g2⟩ := twos_mid q qs c
      have htl := twos_length (q ++ c :: qs)
      have htl' : (twos (q ++ c :: qs)).length = 2 * (q.length + (qs.length + 1)) := by rw [htl]; simp
      have hpl : p.length < 1048576 := by simp at hp; omega
      have ha' : acc.length < 1048576 := by simp at ha; omega
      have w1 : IntKind.i64.wrap ((2 : Int) * (p.length : Int)) = ((2 * q.length : Nat) : Int) := by rw [wrap64] <;> omega
      have w2 : IntKind.i64.wrap (((2 * q.length : Nat) : Int) + 1) = ((2 * q.length + 1 : Nat) : Int) := by rw [wrap64] <;> omega
      have w3 : IntKind.i64.wrap (c.1 - c.2) = c.1 - c.2 := by rw [wrap64] <;> omega
      have hw := wrap_len (p := p) (z := z) (by omega)
      rw [f41_i_CodesWith.l0, w1, w2, lt_mid, in_mid, toNat_len, okAt_mid, fAt_mid, in_dec (show 2 * q.length < (twos (q ++ c :: qs)).length by omega), in_dec (show 2 * q.length + 1 < (twos (q ++ c :: qs)).length by omega), Int.toNat_natCast, Int.toNat_natCast, okAt_its (show 2 * q.length < (twos (q ++ c :: qs)).length by omega), okAt_its (show 2 * q.length + 1 < (twos (q ++ c :: qs)).length by omega), iAt_its, iAt_its, g1, g2, w3]
      have e2' : codeO b (fadd .f64 (raisedM b z) (fdiv .f64 (FloatKind.f64.nearest (c.1 - c.2)) 4643211215818981376)) = some y' := e2
      simp only [br_t, gd_t, Bool.and_self, i_raise (n + 1) hb, bd_s, i_code n hb, e2', push_ok (show acc.length < 2147483648 by omega), push_its, hw]
      have := ih (p ++ [z]) qs (q ++ [c]) (acc ++ [y']) m (by simpa using hl) (by simp [hq]) (fun x hx => hz x (by simp [hx])) (fun d hd => hc d (by simp [hd])) (by simp at ha ⊢; omega) (by simp at hp ⊢; omega) (by simp at hm; omega)
      simp only [withL, List.zipWith_cons_cons, e2, Option.getD_some]
      simpa [withL] using this
theorem withed (n : Nat) {b : Nat} (hb1 : 1 ≤ b) (hb : b < 16) (xs : List Nat) (ps : List (Int × Int)) (hl : ps.length = xs.length) (hx : ∀ x ∈ xs, W32 x) (hc : ∀ c ∈ ps, (0 ≤ c.1 ∧ c.1 ≤ 255) ∧ (0 ≤ c.2 ∧ c.2 ≤ 255)) (hxl : xs.length ≤ 256) (hn : 2 * xs.length < n) :
    f41_i_CodesWith (n + 3) ((b + 1 : Nat) : Int) xs.length (fls .f32 xs) (twos ps).length (its .i64 (twos ps)) = some (xs.length, its .i64 (withL b xs ps), true) := by
  have e := with_loop n hb1 hb xs.length (fls .f32 xs) xs [] ps [] [] (n + 2) hl rfl hx hc (by simp; omega) (by simp; omega) (by omega)
  have hwl : (withL b xs ps).length = xs.length := by simp [withL, hl]
  simp only [List.nil_append, hwl] at e
  have e : f41_i_CodesWith.l0 (n + 2) (n + 2) ((b + 1 : Nat) : Int) xs.length (fls .f32 xs) (twos ps).length (its .i64 (twos ps)) 0 [] xs.length (fls .f32 xs) (xs.length : Int) 0 = _ := e
  have htl := twos_length ps
  have all := i_allin n (twos ps) 0 255 (by
    intro z hz
    simp only [twos, List.mem_flatMap] at hz
    obtain ⟨c, hc1, hc2⟩ := hz
    obtain ⟨⟨c1, c2⟩, c3, c4⟩ := hc c hc1
    simp at hc2
    rcases hc2 with rfl | rfl <;> omega) (by omega) (by omega)
  have hne : (((twos ps).length : Int) != IntKind.i64.wrap ((2 : Int) * (xs.length : Int))) = false := by
    rw [show IntKind.i64.wrap ((2 : Int) * (xs.length : Int)) = 2 * (xs.length : Int) by rw [wrap64] <;> omega]
    simp; omega
  rw [f41_i_CodesWith, i_bitsok n hb1 hb]
  simp only [bd_s, br_not, br_t, i_few, decide_eq_true (show (xs.length : Int) ≤ 256 by omega), hne, br_f, all, e]
theorem noise_loop (n : Nat) {bs : List Int} (hbs : Bytes bs) (M : Nat) (cs : List T) (bits : Int) (N : Nat) (c7 : List T) (hN : N ≤ 1000) : ∀ (j m : Nat) (acc : List (Int × Int)), acc.length + j = N → j < m → (∀ c ∈ acc, (0 ≤ c.1 ∧ c.1 ≤ 255) ∧ (0 ≤ c.2 ∧ c.2 ≤ 255)) → (∀ i, i < acc.length → i % 2 = 0 → (acc.getD i (0, 0)).1 = (acc.getD i (0, 0)).2) →
    ∃ ps, ps.length = N ∧ (∀ c ∈ ps, (0 ≤ c.1 ∧ c.1 ≤ 255) ∧ (0 ≤ c.2 ∧ c.2 ≤ 255)) ∧ (∀ i, i < ps.length → i % 2 = 0 → (ps.getD i (0, 0)).1 = (ps.getD i (0, 0)).2) ∧
      f7_l_FnNoise.l0 (n + 1) m bs.length (its .u8 bs) M cs bits N c7 (twos acc).length (its .i64 (twos acc)) (acc.length : Int) = some (M, cs, bits, N, c7, (twos ps).length, its .i64 (twos ps)) := by
  intro j
  induction j with
  | zero =>
    intro m acc he hm h1 h2
    obtain ⟨m, rfl⟩ : ∃ k, m = k + 1 := ⟨m - 1, by omega⟩
    rw [f7_l_FnNoise.l0, nlt_dec (by omega)]
    exact ⟨acc, by omega, h1, h2, rfl⟩
  | succ j ih =>
    intro m acc he hm h1 h2
    obtain ⟨m, rfl⟩ : ∃ k, m = k + 1 := ⟨m - 1, by omega⟩
    obtain ⟨x, hx, e1⟩ := l_at n hbs (i := (acc.length : Int)) (k := 256) (by omega) (by omega)
    obtain ⟨y, hy, e2⟩ := l_at n hbs (i := ((acc.length + 10 : Nat) : Int)) (k := 256) (by omega) (by omega)
    have w1 : IntKind.i64.wrap ((acc.length : Int) + 10) = ((acc.length + 10 : Nat) : Int) := by rw [wrap64] <;> omega
    have hm2 : Int.tmod (acc.length : Int) 2 = ((acc.length % 2 : Nat) : Int) := by rw [Int.tmod_eq_emod_of_nonneg (by omega)]; omega
    have htl := twos_length acc
    have push : ∀ c : Int × Int, (twos acc ++ [c.1]) ++ [c.2] = twos (acc ++ [c]) := by intro c; rw [twos_append, List.append_assoc]; rfl
    have next : ∀ c : Int × Int, (0 ≤ c.1 ∧ c.1 ≤ 255) → (0 ≤ c.2 ∧ c.2 ≤ 255) → (acc.length % 2 = 0 → c.1 = c.2) → _ := fun c hc1 hc2 hc3 => ih m (acc ++ [c]) (by simp; omega) (by omega)
      (by
        intro d hd
        rcases List.mem_append.1 hd with h | h
        · exact h1 d h
        · obtain rfl : d = c := by simpa using h
          exact ⟨hc1, hc2⟩)
      (by
        intro i hi hi2
        rw [List.length_append, List.length_singleton] at hi
        rcases Nat.lt_or_ge i acc.length with h | h
        · have : (acc ++ [c]).getD i (0, 0) = acc.getD i (0, 0) := by simp only [List.getD]; rw [List.getElem?_append_left h]
          rw [this]; exact h2 i h hi2
        · have h5 : i = acc.length := by omega
          have : (acc ++ [c]).getD i (0, 0) = c := by rw [h5]; simp [List.getD]
          rw [this]; exact hc3 (by rw [← h5]; exact hi2))
    rw [f7_l_FnNoise.l0, lt_dec (by omega), w1, e1, e2, hm2]
    simp only [br_t, bd_s, push_ok (show (twos acc).length < 2147483648 by omega), gd_t, push_its, wrap_succ (show acc.length < 9223372036854775807 by omega)]
    rw [push_len (z := x), push_ok (show (twos acc ++ [x]).length < 2147483648 by simp; omega)]
    simp only [gd_t]
    by_cases h : acc.length % 2 = 0
    · obtain ⟨ps, p1, p2_, p3, p4⟩ := next (x, x) (by show 0 ≤ x ∧ x ≤ 255; omega) (by show 0 ≤ x ∧ x ≤ 255; omega) (fun _ => rfl)
      refine ⟨ps, p1, p2_, p3, ?_⟩
      rw [h, show (((0 : Nat) : Int) == 0) = true from rfl, br_t, push_len (z := x), push (x, x), show acc.length + 1 = (acc ++ [(x, x)]).length by simp]
      exact p4
    · obtain ⟨ps, p1, p2_, p3, p4⟩ := next (x, y) (by show 0 ≤ x ∧ x ≤ 255; omega) (by show 0 ≤ y ∧ y ≤ 255; omega) (fun h' => absurd h' h)
      refine ⟨ps, p1, p2_, p3, ?_⟩
      rw [show acc.length % 2 = 1 by omega, show (((1 : Nat) : Int) == 0) = false from rfl, br_f, push_len (z := y), push (x, y), show acc.length + 1 = (acc ++ [(x, y)]).length by simp]
      exact p4
theorem compare_loop (n : Nat) {b : Nat} (hb1 : 1 ≤ b) (hb : b < 16) (M : Nat) (cs : List T) (bits : Int) (xs : List Nat) (ps : List (Int × Int)) (hl : ps.length = xs.length) (hxl : xs.length ≤ 256) (hx : ∀ x ∈ xs, W32 x) (hc : ∀ c ∈ ps, (0 ≤ c.1 ∧ c.1 ≤ 255) ∧ (0 ≤ c.2 ∧ c.2 ≤ 255)) (heven : ∀ i, i < ps.length → i % 2 = 0 → (ps.getD i (0, 0)).1 = (ps.getD i (0, 0)).2) : ∀ (j i m : Nat), i + j = xs.length → j < m →
    f7_l_FnNoise.l1 n m M cs bits xs.length (its .i64 (codesL b xs)) xs.length (its .i64 (withL b xs ps)) (i : Int) = some (.inr (M, cs, bits)) := by
  intro j
  induction j with
  | zero =>
    intro i m he hm
    obtain ⟨m, rfl⟩ : ∃ k, m = k + 1 := ⟨m - 1, by omega⟩
    rw [f7_l_FnNoise.l1, nlt_dec (by omega)]; rfl
  | succ j ih =>
    intro i m he hm
    obtain ⟨m, rfl⟩ : ∃ k, m = k + 1 := ⟨m - 1, by omega⟩
    have hlt : i < xs.length := by omega
    have hlt2 : i < ps.length := by omega
    have h1 : i < (codesL b xs).length := by simp [codesL, hlt]
    have h2 : i < (withL b xs ps).length := by simp [withL, hl, hlt]
    have hci := hc ps[i] (List.getElem_mem hlt2)
    obtain ⟨y, y', e1, e2, d1, d2, d3, d4, d5⟩ := with_near hb1 hb (hx xs[i] (List.getElem_mem hlt)) (j := ps[i].1 - ps[i].2) (by omega)
    have g1 : (codesL b xs).getD i 0 = y := by simp [codesL, List.getD, hlt, e1]
    have g2 : (withL b xs ps).getD i 0 = y' := by simp [withL, List.getD, List.getElem?_zipWith, hlt, hlt2, e2]
    have hm2 : Int.tmod (i : Int) 2 = ((i % 2 : Nat) : Int) := by rw [Int.tmod_eq_emod_of_nonneg (by omega)]; omega
    rw [f7_l_FnNoise.l1, lt_dec hlt, in_dec hlt, Int.toNat_natCast, okAt_its h1, okAt_its h2, iAt_its, iAt_its, g1, g2, hm2, show IntKind.i64.wrap (y' - y) = y' - y by rw [wrap64] <;> omega, show IntKind.i64.wrap (y - y') = y - y' by rw [wrap64] <;> omega, decide_eq_false (show ¬ y' - y > 1 by omega), decide_eq_false (show ¬ y - y' > 1 by omega), wrap_succ (by omega)]
    simp only [br_t, gd_t, br_f]
    have rec_ := ih (i + 1) m (by omega) (by omega)
    by_cases h : i % 2 = 0
    · have h3 := heven i hlt2 h
      have h4 : ps.getD i (0, 0) = ps[i] := by simp [List.getD, hlt2]
      rw [h4] at h3
      have h5 := d3 (by omega)
      rw [h, show (((0 : Nat) : Int) == 0) = true from rfl, br_t, show (y' != y) = false by simp; omega, br_f]
      exact rec_
    · rw [show i % 2 = 1 by omega, show (((1 : Nat) : Int) == 0) = false from rfl, br_f]
      exact rec_
/-! ### shaped codes: all numbers are sixteenths -/
def G (z : Int) : Rat := (z : Rat) * p2 (-4)
theorem p2_4 : p2 (-4) * 16 = 1 := by
  have h1 := p2_add (-4) 4
  have h2 : p2 4 = 16 := by have := p2_nat 4; rw [show ((4 : Nat) : Int) = 4 from rfl] at this; rw [this]; rfl
  rw [h2, show (-4 : Int) + 4 = 0 by decide, p2_zero] at h1
  exact h1.symm
theorem G16 (z : Int) : G z * 16 = (z : Rat) := by have h := p2_4; unfold G; grind
theorem G_add (a b : Int) : G a + G b = G (a + b) := by unfold G; rw [Rat.intCast_add]; grind
theorem G_sub (a b : Int) : G a - G b = G (a - b) := by unfold G; rw [Rat.intCast_sub]; grind
theorem G_int (k : Int) : (k : Rat) = G (16 * k + 0) := by
  have h := p2_4
  unfold G; rw [cast_lin, show ((16 : Int) : Rat) = 16 from rfl, show ((0 : Int) : Rat) = 0 from rfl]; grind
theorem G_bounds {z : Int} (h : z.natAbs ≤ 16000) : -1000 ≤ G z ∧ G z ≤ 1000 := by
  have h4 := p2_4
  have hp := p2_pos (-4)
  have a1 : (z : Rat) ≤ ((16000 : Int) : Rat) := cast_le.2 (by omega)
  have a2 : ((-16000 : Int) : Rat) ≤ (z : Rat) := cast_le.2 (by omega)
  rw [show ((16000 : Int) : Rat) = 16000 from rfl] at a1
  rw [show ((-16000 : Int) : Rat) = -16000 from rfl] at a2
  have b1 := Rat.mul_le_mul_of_nonneg_right a1 (Rat.le_of_lt hp)
  have b2 := Rat.mul_le_mul_of_nonneg_right a2 (Rat.le_of_lt hp)
  unfold G
  grind
theorem G_rep32 {z : Int} (h : z.natAbs ≤ 16000) : Rep .f32 (G z) := rep_int (by rw [binade32]; omega) (by rw [least32]; decide)
theorem G_rep64 {z : Int} (h : z.natAbs ≤ 16000) : Rep .f64 (G z) := rep_int (by rw [binade64]; omega) (by rw [least64]; decide)
theorem top32 : Rep0 .f32 (1000 : Rat) ∧ (1000 : Rat) < p2 (topE .f32) := by
  have hb : 1000 ≤ 2 * FloatKind.f32.format.binade := Nat.le_trans (by decide : 1000 ≤ 16777216) (Nat.le_of_eq binade32.symm)
  have h : ((1000 : Nat) : Rat) = 1000 := rfl
  have h1 := rep_nat .f32 hb
  have h2 := nat_top .f32 hb
  rw [h] at h1 h2
  exact ⟨h1, h2⟩
theorem top64 : Rep0 .f64 (1000 : Rat) ∧ (1000 : Rat) < p2 (topE .f64) := by
  have hb : 1000 ≤ 2 * FloatKind.f64.format.binade := Nat.le_trans (by decide : 1000 ≤ 9007199254740992) (Nat.le_of_eq binade64.symm)
  have h : ((1000 : Nat) : Rat) = 1000 := rfl
  have h1 := rep_nat .f64 hb
  have h2 := nat_top .f64 hb
  rw [h] at h1 h2
  exact ⟨h1, h2⟩
theorem G_sub32 {x y : Nat} {a b : Int} (hx : Val .f32 x (G a)) (hy : Val .f32 y (G b)) (h : (a - b).natAbs ≤ 16000) : Val .f32 (fsub .f32 x y) (G (a - b)) := by
  obtain ⟨b1, b2⟩ := G_bounds h
  obtain ⟨R, r1, r2⟩ := sub_val hx hy top32.1 top32.2 (by rw [G_sub]; exact b2) (by rw [G_sub]; exact b1)
  rw [G_sub] at r2
  exact r1.near_eq r2 (G_rep32 h)
theorem G_add64 {x y : Nat} {a b : Int} (hx : Val .f64 x (G a)) (hy : Val .f64 y (G b)) (h : (a + b).natAbs ≤ 16000) : Val .f64 (fadd .f64 x y) (G (a + b)) := by
  obtain ⟨b1, b2⟩ := G_bounds h
  obtain ⟨R, r1, r2⟩ := add_val hx hy top64.1 top64.2 (by rw [G_add]; exact b2) (by rw [G_add]; exact b1)
  rw [G_add] at r2
  exact r1.near_eq r2 (G_rep64 h)
theorem G_div (z : Int) : (z : Rat) / 16 = G z := by
  have h4 := p2_4
  unfold G
  have : p2 (-4) = 1 / 16 := by grind
  rw [this]; grind
theorem g32_val {z : Int} (h : z.natAbs ≤ 16000) : Val .f32 (fdiv .f32 (FloatKind.f32.nearest z) 1098907648) (G z) := by
  obtain ⟨b1, b2⟩ := G_bounds h
  have hz := int_val (k := .f32) (n := z) (by rw [binade32]; omega)
  obtain ⟨R, r1, r2⟩ := div_val hz val_sixteen (by decide) top32.1 top32.2 (by rw [G_div]; exact b2) (by rw [G_div]; exact b1)
  rw [G_div] at r2
  exact r1.near_eq r2 (G_rep32 h)
theorem g64_val {z : Int} (h : z.natAbs ≤ 16000) : Val .f64 (fdiv .f64 (FloatKind.f64.nearest z) 4625196817309499392) (G z) := by
  obtain ⟨b1, b2⟩ := G_bounds h
  have hz := int_val (k := .f64) (n := z) (by rw [binade64]; omega)
  have h16 : Val .f64 4625196817309499392 16 := by
    have := int_val (k := .f64) (n := 16) (by decide)
    rwa [show FloatKind.f64.nearest 16 = 4625196817309499392 by decide] at this
  obtain ⟨R, r1, r2⟩ := div_val hz h16 (by decide) top64.1 top64.2 (by rw [G_div]; exact b2) (by rw [G_div]; exact b1)
  rw [G_div] at r2
  exact r1.near_eq r2 (G_rep64 h)
/-- a listed number -/
def listed (w : Int) : Nat := fdiv .f32 (FloatKind.f32.nearest w) 1115684864
theorem shaped_tab : ∀ t : Nat, t < 6 → ∀ i : Nat, i < 81 → raisedM (t + 2) (listed ((i : Int) - 40)) = fdiv .f64 (FloatKind.f64.nearest (((i : Int) - 40) * ((2 ^ t : Nat) : Int))) 4625196817309499392 ∧
    fltToFlt .f64 (raisedM (t + 2) (listed ((i : Int) - 40))) .f32 = some (fdiv .f32 (FloatKind.f32.nearest (((i : Int) - 40) * ((2 ^ t : Nat) : Int))) 1098907648) := by decide +kernel
theorem pow_bounds {t : Nat} (ht : t < 6) : 1 ≤ 2 ^ t ∧ 2 ^ t ≤ 32 := ⟨Nat.two_pow_pos t, Nat.le_trans (Nat.pow_le_pow_right (by decide) (show t ≤ 5 by omega)) (by decide)⟩
theorem T_bounds {w P : Int} (hw : w.natAbs ≤ 40) (h0 : 1 ≤ P) : (w * P) ≤ 40 * P ∧ -(40 * P) ≤ w * P := by
  have h1 : w * P ≤ 40 * P := Int.mul_le_mul_of_nonneg_right (by omega) (by omega)
  have h2 : (-40) * P ≤ w * P := Int.mul_le_mul_of_nonneg_right (by omega) (by omega)
  omega
theorem listed_val {t : Nat} (ht : t < 6) {w : Int} (hw : w.natAbs ≤ 40) : Val .f64 (raisedM (t + 2) (listed w)) (G (w * ((2 ^ t : Nat) : Int))) ∧ ∃ y, fltToFlt .f64 (raisedM (t + 2) (listed w)) .f32 = some y ∧ Val .f32 y (G (w * ((2 ^ t : Nat) : Int))) := by
  obtain ⟨p1, p2_⟩ := pow_bounds ht
  obtain ⟨b1, b2⟩ := T_bounds hw (show (1 : Int) ≤ ((2 ^ t : Nat) : Int) by omega)
  obtain ⟨i, hi, rfl⟩ : ∃ i : Nat, i < 81 ∧ w = (i : Int) - 40 := ⟨(w + 40).toNat, by omega, by omega⟩
  obtain ⟨e1, e2⟩ := shaped_tab t ht i hi
  have hz : (((i : Int) - 40) * ((2 ^ t : Nat) : Int)).natAbs ≤ 16000 := by omega
  refine ⟨?_, _, e2, g32_val hz⟩
  rw [e1]; exact g64_val hz
theorem shaped_loop (n : Nat) {t : Nat} (ht : t < 6) (N : Nat) (cs : List T) : ∀ (zs : List Int) (p : List Nat) (acc : List Int) (wr : Nat) (e : Int) (m : Nat), (∀ w ∈ zs, w.natAbs ≤ 40) → Val .f32 wr (G e) → e.natAbs ≤ 8 → acc.length + zs.length < 1048576 → p.length + zs.length < 1048576 → zs.length < m →
    ∃ ks wr' e', ks.length = zs.length ∧ (∀ k ∈ ks, Int.natAbs k ≤ 32768) ∧ Val .f32 wr' (G e') ∧ Int.natAbs e' ≤ 8 ∧ 16 * ks.sum = (zs.map (fun w => w * ((2 ^ t : Nat) : Int))).sum - e + e' ∧
      f43_i_CodesShaped.l0 (n + 2) m ((t + 2 + 1 : Nat) : Int) N cs 1065353216 acc.length (its .i64 acc) wr (p ++ zs.map listed).length (fls .f32 (p ++ zs.map listed)) ((p ++ zs.map listed).length : Int) (p.length : Int) = some ((acc ++ ks).length, its .i64 (acc ++ ks), wr') := by
  intro zs
  induction zs with
  | nil =>
    intro p acc wr e m _ hv he _ _ hm
    obtain ⟨m, rfl⟩ : ∃ k, m = k + 1 := ⟨m - 1, by omega⟩
    refine ⟨[], wr, e, rfl, by simp, hv, he, by simp; omega, ?_⟩
    rw [List.map_nil, f43_i_CodesShaped.l0, lt_end]; simp [br_f]
  | cons w zs ih =>
    intro p acc wr e m hz hv he ha hp hm
    obtain ⟨m, rfl⟩ : ∃ k, m = k + 1 := ⟨m - 1, by omega⟩
    have hw := hz w (by simp)
    obtain ⟨p1, p2_⟩ := pow_bounds ht
    obtain ⟨P, hP⟩ : ∃ P : Int, P = ((2 ^ t : Nat) : Int) := ⟨_, rfl⟩
    have hP1 : 1 ≤ P := by omega
    have hP2 : P ≤ 32 := by omega
    obtain ⟨b1, b2⟩ := T_bounds hw hP1
    obtain ⟨-, y, e1, v1⟩ := listed_val ht hw
    rw [← hP] at v1
    obtain ⟨W, hW⟩ : ∃ W, W = w * P := ⟨_, rfl⟩
    rw [← hW] at v1 b1 b2
    have v2 := G_sub32 v1 hv (by omega)
    have v3 := wide_val v2
    obtain ⟨g1, g2⟩ := G_bounds (z := W - e) (by omega)
    have h200 : (1000 : Rat) ≤ p2 200 := by
      have h1 := p2_nat 10
      rw [show ((10 : Nat) : Int) = 10 from rfl] at h1
      have h2 := p2_le (show (10 : Int) ≤ 200 by decide)
      have h3 : ((2 ^ 10 : Nat) : Rat) = 1024 := rfl
      rw [h1, h3] at h2
      grind
    obtain ⟨k, k1, k2, k3⟩ := code_val (b := t + 2) (by omega) v3 (by grind) (by grind)
    have hG := G16 (W - e)
    have hk1 : 16 * k + -8 ≤ 1 * (W - e) + 0 := cast_le.1 (by
      rw [cast_lin, cast_lin, show ((16 : Int) : Rat) = 16 from rfl, show ((-8 : Int) : Rat) = -8 from rfl, show ((1 : Int) : Rat) = 1 from rfl, show ((0 : Int) : Rat) = 0 from rfl]
      generalize G (W - e) = g at *; generalize ((W - e : Int) : Rat) = z at *; grind)
    have hk2 : 1 * (W - e) + -8 ≤ 16 * k + 0 := cast_le.1 (by
      rw [cast_lin, cast_lin, show ((16 : Int) : Rat) = 16 from rfl, show ((-8 : Int) : Rat) = -8 from rfl, show ((1 : Int) : Rat) = 1 from rfl, show ((0 : Int) : Rat) = 0 from rfl]
      generalize G (W - e) = g at *; generalize ((W - e : Int) : Rat) = z at *; grind)
    have hpow : ((2 ^ (t + 2) : Nat) : Int) = 4 * P := by rw [hP, Nat.pow_add]; omega
    have hcl : min (max k (-((2 ^ (t + 2) : Nat) : Int))) (((2 ^ (t + 2) : Nat) : Int) - 1) = k := by rw [hpow]; omega
    rw [hcl] at k3
    have vk := int_val (k := .f32) (n := k) (by rw [binade32]; omega)
    rw [G_int] at vk
    have v4 := G_sub32 vk v2 (by omega)
    have hB := G_bounds (z := 16 * k + 0 - (W - e)) (by omega)
    obtain ⟨R, r1, r2⟩ := mul_val val_one32 v4 top32.1 top32.2 (by rw [Rat.one_mul]; exact hB.2) (by rw [Rat.one_mul]; exact hB.1)
    rw [Rat.one_mul] at r2
    have v5 := r1.near_eq r2 (G_rep32 (by omega))
    have hfin : fin32 (fmul .f32 1065353216 (fsub .f32 (FloatKind.f32.nearest k) (fsub .f32 y wr))) = true := v5.fin
    have ha' : acc.length < 1048576 := by simp at ha; omega
    obtain ⟨ks, wr', e', q1, q2, q3, q4, q5, q6⟩ := ih (p ++ [listed w]) (acc ++ [k]) _ (16 * k + 0 - (W - e)) m (fun x hx => hz x (by simp [hx])) v5 (by omega) (by simp at ha ⊢; omega) (by simp at hp ⊢; omega) (by simp at hm; omega)
    refine ⟨k :: ks, wr', e', by simp [q1], ?_, q3, q4, ?_, ?_⟩
    · intro x hx
      rcases List.mem_cons.1 hx with rfl | h
      · omega
      · exact q2 x h
    · rw [List.sum_cons, List.map_cons, List.sum_cons, ← hP, ← hW]
      rw [← hP] at q5
      omega
    · rw [List.map_cons, f43_i_CodesShaped.l0, lt_mid, in_mid, toNat_len, okAt_mid, fAt_mid]
      have fin : ∀ x, f105_i_IsFinite (n + 2) x = some (fin32 x) := fun x => by rw [f105_i_IsFinite, sub_finite]
      simp only [br_t, gd_t, Bool.and_self, i_raise (n + 1) (show t + 2 < 16 by omega), bd_s, e1, fltToFlt_wide, i_code n (show t + 2 < 16 by omega), k3, push_ok (show acc.length < 2147483648 by omega), push_its, fin, hfin, br_not, wrap_len (z := listed w) (show p.length < 4611686018427387904 by simp at hp; omega)]
      simpa using q6
theorem pow_tab2 : ∀ b : Nat, b < 16 → IntKind.i64.wrap ((1 : Int) * ((2 : Int) ^ (min (Int.toNat (IntKind.u64.wrap (IntKind.i64.wrap (((b + 1 : Nat) : Int) - 1)))) 64))) = ((2 ^ b : Nat) : Int) ∧ decide ((0 : Int) ≤ IntKind.u64.wrap (IntKind.i64.wrap (((b + 1 : Nat) : Int) - 1))) = true := by decide +kernel
theorem list_loop (n : Nat) {t : Nat} (ht : t < 6) : ∀ (zs : List Int) (d : List Nat) (s : Nat) (a : Int) (m : Nat), (∀ w ∈ zs, w.natAbs ≤ 40) → Val .f64 s (G a) → a.natAbs ≤ 1280 * d.length → d.length + zs.length ≤ 8 → zs.length < m →
    ∃ s', Val .f64 s' (G (a + (zs.map (fun w => w * ((2 ^ t : Nat) : Int))).sum)) ∧ (a + (zs.map (fun w => w * ((2 ^ t : Nat) : Int))).sum).natAbs ≤ 1280 * (d.length + zs.length) ∧
      f7_l_FnNoise.l2 n m ((t + 2 + 1 : Nat) : Int) (d ++ zs.map FloatKind.f32.nearest).length (fls .f32 (d ++ zs.map FloatKind.f32.nearest)) s (d.length : Int) = some (((t + 2 + 1 : Nat) : Int), (d ++ zs.map listed).length, fls .f32 (d ++ zs.map listed), s') := by
  intro zs
  induction zs with
  | nil =>
    intro d s a m _ hv ha _ hm
    obtain ⟨m, rfl⟩ : ∃ k, m = k + 1 := ⟨m - 1, by omega⟩
    refine ⟨s, by simpa using hv, by simpa using ha, ?_⟩
    rw [List.map_nil, f7_l_FnNoise.l2, lt_end]; rfl
  | cons w zs ih =>
    intro d s a m hz hv ha hd hm
    obtain ⟨m, rfl⟩ : ∃ k, m = k + 1 := ⟨m - 1, by omega⟩
    have hw := hz w (by simp)
    obtain ⟨p1, p2_⟩ := pow_bounds ht
    obtain ⟨b1, b2⟩ := T_bounds hw (show (1 : Int) ≤ ((2 ^ t : Nat) : Int) by omega)
    obtain ⟨v1, -⟩ := listed_val ht hw
    obtain ⟨t1, t2⟩ := pow_tab2 (t + 2) (by omega)
    simp only [List.length_cons] at hd hm
    have v2 := G_add64 hv v1 (by omega)
    obtain ⟨s', q1, q2, q3⟩ := ih (d ++ [listed w]) _ _ m (fun x hx => hz x (by simp [hx])) v2 (by rw [List.length_append, List.length_singleton]; omega) (by simp; omega) (by omega)
    refine ⟨s', ?_, ?_, ?_⟩
    · rw [List.map_cons, List.sum_cons, ← Int.add_assoc]; exact q1
    · rw [List.map_cons, List.sum_cons, ← Int.add_assoc]; simp at q2 ⊢; omega
    · have hset : (d ++ FloatKind.f32.nearest w :: zs.map FloatKind.f32.nearest).set d.length (listed w) = d ++ listed w :: zs.map FloatKind.f32.nearest := by simp
      have hlen : (d ++ FloatKind.f32.nearest w :: zs.map FloatKind.f32.nearest).length = (d ++ listed w :: zs.map FloatKind.f32.nearest).length := by simp
      have hl : fdiv .f32 (FloatKind.f32.nearest w) 1115684864 = listed w := rfl
      rw [List.map_cons, List.map_cons, f7_l_FnNoise.l2, lt_mid, in_mid, toNat_len, okAt_mid, fAt_mid, le_ble (show d.length + 1 ≤ (fls .f32 (d ++ FloatKind.f32.nearest w :: zs.map FloatKind.f32.nearest)).length by simp [fls]), setN_one, set_fls, hl, hset, t1, t2]
      simp only [br_t, gd_t, okAt_mid, fAt_mid, fltToFlt_wide, bd_s, wrap_len (z := listed w) (show d.length < 4611686018427387904 by omega), hlen]
      have e : (d ++ [listed w]) ++ zs.map FloatKind.f32.nearest = d ++ listed w :: zs.map FloatKind.f32.nearest := by simp
      rw [e] at q3
      simp only [List.append_assoc, List.singleton_append] at q3
      exact q3
theorem sum_loop (n : Nat) (x1 x4 : Nat) : ∀ (zs p : List Int) (s : Int) (m : Nat), (∀ k ∈ zs, k.natAbs ≤ 32768) → s.natAbs ≤ 32768 * p.length → p.length + zs.length = 8 → zs.length < m →
    f7_l_FnNoise.l3 n m x1 (p ++ zs).length (its .i64 (p ++ zs)) x4 (FloatKind.f64.nearest s) (p.length : Int) = some (x1, x4, FloatKind.f64.nearest (s + zs.sum)) ∧ (s + zs.sum).natAbs ≤ 32768 * 8 := by
  intro zs
  induction zs with
  | nil =>
    intro p s m _ hs hp hm
    obtain ⟨m, rfl⟩ : ∃ k, m = k + 1 := ⟨m - 1, by omega⟩
    simp only [List.length_nil] at hp
    rw [f7_l_FnNoise.l3, decide_eq_false (show ¬ (p.length : Int) < 8 by omega)]
    exact ⟨by simp [br_f], by simp; omega⟩
  | cons k zs ih =>
    intro p s m hz hs hp hm
    obtain ⟨m, rfl⟩ : ∃ k, m = k + 1 := ⟨m - 1, by omega⟩
    simp only [List.length_cons] at hp hm
    have hk := hz k (by simp)
    obtain ⟨q1, q2⟩ := ih (p ++ [k]) (s + k) m (fun x hx => hz x (by simp [hx])) (by simp; omega) (by simp; omega) (by omega)
    rw [List.sum_cons, ← Int.add_assoc]
    refine ⟨?_, q2⟩
    rw [f7_l_FnNoise.l3, decide_eq_true (show (p.length : Int) < 8 by omega), in_mid, toNat_len, okAt_midI, iAt_mid]
    simp only [br_t, gd_t, int_add (k := .f64) (a := s) (b := k) (by rw [binade64]; omega) (by rw [binade64]; omega) (by rw [binade64]; omega), wrap_len (z := k) (show p.length < 4611686018427387904 by omega)]
    simpa using q1
theorem whole_loop (n : Nat) {bs : List Int} (hb : Bytes bs) (M k : Nat) (hM : M ≤ 1000) (hk : k ≤ 1000) : ∀ (j m : Nat) (a sd : Int) (acc : List Int), 0 ≤ a → a + 2 * (j : Int) ≤ 1125899906842000 → acc.length + j = k → j < m → (∀ w ∈ acc, Int.natAbs w ≤ M) →
    ∃ ws : List Int, ws.length = k ∧ (∀ w ∈ ws, w.natAbs ≤ M) ∧ f42_s_R8Whole.l0 (n + 2) m (k : Int) (M : Int) bs.length (its .u8 bs) a sd (acc.map FloatKind.f32.nearest).length (fls .f32 (acc.map FloatKind.f32.nearest)) (acc.length : Int) = some ((ws.map FloatKind.f32.nearest).length, fls .f32 (ws.map FloatKind.f32.nearest)) := by
  intro j
  induction j with
  | zero =>
    intro m a sd acc _ _ he hm h
    obtain ⟨m, rfl⟩ : ∃ k, m = k + 1 := ⟨m - 1, by omega⟩
    rw [f42_s_R8Whole.l0, nlt_dec (by omega)]
    exact ⟨acc, by omega, h, rfl⟩
  | succ j ih =>
    intro m a sd acc h0 ha he hm h
    obtain ⟨m, rfl⟩ : ∃ k, m = k + 1 := ⟨m - 1, by omega⟩
    have w1 : IntKind.i64.wrap (IntKind.i64.wrap ((2 : Int) * (M : Int)) + 1) = 2 * (M : Int) + 1 := by
      rw [show IntKind.i64.wrap ((2 : Int) * (M : Int)) = 2 * (M : Int) by rw [wrap64] <;> omega]
      rw [wrap64] <;> omega
    obtain ⟨r, a1, s1, hr, ha1, e1⟩ := s_pick n hb (a := a) h0 (by omega) sd (2 * (M : Int) + 1)
    have hr2 : 0 ≤ r ∧ r ≤ 2 * (M : Int) := by
      obtain ⟨h1, h2, h3⟩ := hr
      by_cases hk : (2 * (M : Int) + 1) ≤ 1
      · have := h3 hk; omega
      · have := h2 (by omega); omega
    have w2 : IntKind.i64.wrap (r - (M : Int)) = r - (M : Int) := by rw [wrap64] <;> omega
    obtain ⟨ws, q1, q2, q3⟩ := ih m a1 s1 (acc ++ [r - (M : Int)]) (by omega) (by omega) (by simp; omega) (by omega) (by
      intro w hw
      rcases List.mem_append.1 hw with h' | h'
      · exact h w h'
      · obtain rfl : w = r - (M : Int) := by simpa using h'
        omega)
    refine ⟨ws, q1, q2, ?_⟩
    rw [f42_s_R8Whole.l0, lt_dec (show acc.length < k by omega), w1, e1]
    simp only [br_t, bd_s, w2, push_ok (show (acc.map FloatKind.f32.nearest).length < 2147483648 by simp; omega), gd_t, push_fls, wrap_succ (show acc.length < 9223372036854775807 by omega)]
    rw [push_len (z := FloatKind.f32.nearest (r - (M : Int))), show acc.map FloatKind.f32.nearest ++ [FloatKind.f32.nearest (r - (M : Int))] = (acc ++ [r - (M : Int)]).map FloatKind.f32.nearest by simp, show acc.length + 1 = (acc ++ [r - (M : Int)]).length by simp]
    exact q3
theorem whole (n : Nat) {bs : List Int} (hb : Bytes bs) (M k : Nat) (hM : M ≤ 1000) (hk : k ≤ 1000) (hn : k < n) : ∃ ws : List Int, ws.length = k ∧ (∀ w ∈ ws, w.natAbs ≤ M) ∧ f42_s_R8Whole (n + 3) bs.length (its .u8 bs) (k : Int) (M : Int) = some ((ws.map FloatKind.f32.nearest).length, fls .f32 (ws.map FloatKind.f32.nearest)) := by
  obtain ⟨ws, q1, q2, q3⟩ := whole_loop n hb M k hM hk k (n + 2) 0 0 [] (by omega) (by omega) (by simp) (by omega) (by simp)
  have q3 : f42_s_R8Whole.l0 (n + 2) (n + 2) (k : Int) (M : Int) bs.length (its .u8 bs) 0 0 0 (reps 0 [(T.flt FloatKind.f32 0)]) 0 = _ := q3
  refine ⟨ws, q1, q2, ?_⟩
  rw [f42_s_R8Whole, s_from]
  simp only [bd_s, q3]
theorem exact_ (cs : List Int) (hc : ∀ b ∈ cs, GoodI .u8 b) (lc : cs.length ≤ maxLen) (ms : List Int) (hm : ∀ b ∈ ms, GoodI .u8 b) (lm : ms.length ≤ maxLen) : ∃ n, f7_l_FnNoise n cs.length (its .u8 cs) ms.length (its .u8 ms) = some true := by
  refine ⟨1000, ?_⟩
  suffices h : ∀ n, f7_l_FnNoise (n + 500) cs.length (its .u8 cs) ms.length (its .u8 ms) = some true from h 500
  intro n
  rw [f7_l_FnNoise, l_long]
  cases hlong : decide (48 < cs.length ∨ 48 < ms.length)
  case true => rfl
  obtain ⟨t, ht, e1⟩ := l_at (n + 498) (bytes_of hc) (i := 40) (k := 6) (by omega) (by omega)
  obtain ⟨t, rfl⟩ := Int.eq_ofNat_of_zero_le ht.1
  have ht6 : t < 6 := by omega
  have w1 : IntKind.i64.wrap (3 + (t : Int)) = ((t + 2 + 1 : Nat) : Int) := by rw [wrap64] <;> omega
  obtain ⟨xs, hxl, hxw, e2⟩ := s_r8samples (n + 492) (bytes_of hm) 8 (by omega) (by omega)
  have e2 : f30_s_R8Samples (n + 499) ms.length (its .u8 ms) 8 = some (xs.length, fls .f32 xs) := e2
  obtain ⟨ps, p1, p2_, p3, e3⟩ := noise_loop (n + 498) (bytes_of hc) ms.length (its .u8 ms) ((t + 2 + 1 : Nat) : Int) xs.length (fls .f32 xs) (by omega) xs.length (n + 499) [] (by simp) (by omega) (by simp) (by simp)
  have e3 : f7_l_FnNoise.l0 (n + 499) (n + 499) cs.length (its .u8 cs) ms.length (its .u8 ms) ((t + 2 + 1 : Nat) : Int) xs.length (fls .f32 xs) 0 (reps 0 [(T.int .i64 (0 : Int))]) 0 = _ := e3
  have e4 := i_codesof (n + 496) (b := t + 2) (by omega) (by omega) xs (fun x hx => by
    obtain ⟨c, -, h1, -⟩ := with_near (b := t + 2) (by omega) (by omega) (hxw x hx) (j := 0) (by decide)
    exact ⟨c, h1⟩) (by omega) (by omega)
  have e5 := withed (n + 496) (b := t + 2) (by omega) (by omega) xs ps p1 hxw p2_ (by omega) (by omega)
  have e6 := compare_loop (n + 499) (b := t + 2) (by omega) (by omega) ms.length (its .u8 ms) ((t + 2 + 1 : Nat) : Int) xs ps p1 (by omega) hxw p2_ p3 xs.length 0 (n + 499) (by omega) (by omega)
  have e6 : f7_l_FnNoise.l1 (n + 499) (n + 499) ms.length (its .u8 ms) ((t + 2 + 1 : Nat) : Int) xs.length (its .i64 (codesL (t + 2) xs)) xs.length (its .i64 (withL (t + 2) xs ps)) 0 = _ := e6
  obtain ⟨ws, q1, q2, e7⟩ := whole (n + 496) (bytes_of hm) 40 8 (by omega) (by omega) (by omega)
  have e7 : f42_s_R8Whole (n + 499) ms.length (its .u8 ms) 8 40 = some ((ws.map FloatKind.f32.nearest).length, fls .f32 (ws.map FloatKind.f32.nearest)) := e7
  have z0 : G 0 = 0 := by unfold G; rw [show ((0 : Int) : Rat) = 0 from rfl, Rat.zero_mul]
  obtain ⟨s', v1, v2, e8⟩ := list_loop (n + 499) ht6 ws [] 0 0 (n + 499) q2 (by rw [z0]; exact val_zero .f64) (by decide) (by simp; omega) (by omega)
  have e8 : f7_l_FnNoise.l2 (n + 499) (n + 499) ((t + 2 + 1 : Nat) : Int) (ws.map FloatKind.f32.nearest).length (fls .f32 (ws.map FloatKind.f32.nearest)) 0 0 = some (((t + 2 + 1 : Nat) : Int), (ws.map listed).length, fls .f32 (ws.map listed), s') := e8
  obtain ⟨ks, wr, e, k1, k2, k3, k4, k5, e9⟩ := shaped_loop (n + 496) ht6 (ws.map listed).length (fls .f32 (ws.map listed)) ws [] [] 0 0 (n + 498) q2 (by rw [z0]; exact val_zero .f32) (by decide) (by simp; omega) (by simp; omega) (by omega)
  have e9 : f43_i_CodesShaped.l0 (n + 498) (n + 498) ((t + 2 + 1 : Nat) : Int) (ws.map listed).length (fls .f32 (ws.map listed)) 1065353216 0 [] 0 (ws.map listed).length (fls .f32 (ws.map listed)) ((ws.map listed).length : Int) 0 = some (ks.length, its .i64 ks, wr) := e9
  have eA : f43_i_CodesShaped (n + 499) ((t + 2 + 1 : Nat) : Int) (ws.map listed).length (fls .f32 (ws.map listed)) 1065353216 = some (ks.length, its .i64 ks, wr, true) := by
    rw [f43_i_CodesShaped, i_bitsok (n + 496) (b := t + 2) (by omega) (by omega)]
    simp only [bd_s, br_not, br_t, i_few, decide_eq_true (show (((ws.map listed).length : Nat) : Int) ≤ 256 by rw [List.length_map]; omega), e9]
  obtain ⟨eB, hsum⟩ := sum_loop (n + 499) s' wr ks [] 0 (n + 499) k2 (by decide) (by simp; omega) (by omega)
  have eB : f7_l_FnNoise.l3 (n + 499) (n + 499) s' ks.length (its .i64 ks) wr 0 0 = some (s', wr, FloatKind.f64.nearest (0 + ks.sum)) := by
    rw [nearest_zero] at eB; exact eB
  have q8 : (((xs.length : Nat) : Int) != ((xs.length : Nat) : Int)) = false := by simp
  have q9 : (((ks.length : Nat) : Int) != 8) = false := by simp; omega
  simp only [br_f, bd_s, e1, w1, e2, e3, e4, e5, br_not, br_t, q8, e6, sm_r, e7, e8, eA, q9, eB, fltToFlt_wide]
  have hT : (0 + (ws.map (fun w => w * ((2 ^ t : Nat) : Int))).sum).natAbs ≤ 1280 * 8 := by simpa [q1] using v2
  have f1 := G_add64 v1 (wide_val k3) (by omega)
  have f2 := int_val (k := .f64) (n := 0 + ks.sum) (by rw [binade64]; omega)
  rw [G_int] at f2
  rw [show 16 * (0 + ks.sum) + 0 = 0 + (ws.map (fun w => w * ((2 ^ t : Nat) : Int))).sum + e by omega] at f2
  rw [(feq_val f2 f1).2 rfl]
theorem law7 : ∀ args, LawArgs E Try.f7.params.toList args → ∃ N os, evalFn E N 7 args = some ⟨[⟨false, [.leaf], [.bool true]⟩], os⟩ := by
  intro args h0
  have hp : Try.f7.params.toList = [22, 22] := by kernel_rfl
  rw [hp] at h0
  obtain ⟨ts0, r0, rfl, hw0, h1⟩ := h0.cons_inv (d := ⟨false, 1, 24, [.sl .own [.leaf]], [.lst 0 []], .slc 5⟩) (by kernel_rfl)
  obtain ⟨n0, cs0, rfl, gl0, hs0⟩ := hw0.slc_inv (e := 5) (d := ⟨false, 1, 24, [.sl .own [.leaf]], [.lst 0 []], .slc 5⟩) (by kernel_rfl) rfl
  obtain ⟨a0, rfl, rfl, g0⟩ := hs0.ints (k := .u8) (d := ⟨false, 1, 1, [.leaf], [.int .u8 0], .int .u8⟩) (by kernel_rfl) rfl
  obtain ⟨ts1, r1, rfl, hw1, h2⟩ := h1.cons_inv (d := ⟨false, 1, 24, [.sl .own [.leaf]], [.lst 0 []], .slc 5⟩) (by kernel_rfl)
  obtain ⟨n1, cs1, rfl, gl1, hs1⟩ := hw1.slc_inv (e := 5) (d := ⟨false, 1, 24, [.sl .own [.leaf]], [.lst 0 []], .slc 5⟩) (by kernel_rfl) rfl
  obtain ⟨a1, rfl, rfl, g1⟩ := hs1.ints (k := .u8) (d := ⟨false, 1, 1, [.leaf], [.int .u8 0], .int .u8⟩) (by kernel_rfl) rfl
  obtain rfl := h2.nil_inv
  obtain ⟨N, hN⟩ := exact_ a0 g0 gl0 a1 g1 gl1
  exact ⟨N, _, f7_l_FnNoise.ok N (a0.length, its .u8 a0, a1.length, its .u8 a1) true hN⟩


end Go.Proofs.Ytdejjalkfekjiaa.D
end
section
/- FnNoise holds: for every input the law returns true, and its arguments read as before. -/
namespace Go.Proofs.Ytdejjalkfekjiaa.fnNoise
open Go Go.ChangeShapes Go.WideShapes Go.ChangeAt Go.RowKit Go.Desk
set_option linter.unusedVariables false
theorem own : ownKnob Try.prog.godebug = none := by kernel_rfl
theorem laidOut : laidOutB Try.prog = true := by kernel_rfl
set_option maxRecDepth 100000 in
theorem lifted (os : Os) (started : os.Started) (H : Type) (enc : TypeId × Value → H) :
    ReturnsInHanded {} Try.checked os 7 .any (Rows.fnNoiseSpec.pre6 enc Try.prog Try.f7 Rows.fnNoiseRow.domain false) (Rows.fnNoiseSpec.post enc Try.prog Try.f7 false true false false) := by
  refine returnsInHanded_of_change (C := Try.checked) own started (by kernel_rfl) Try.func7
    (ChangeSpec.witness6 (enc := enc) (C := Try.checked) false ⟨#[], #[.slice none 0 0, .slice none 0 0], []⟩ 8 (by kernel_rfl) (by kernel_rfl) (by kernel_rfl) (by kernel_rfl)) ?_
  intro W base args ds gs before hval hW hcnd _
  exact law_contract (c := D.c7) Try.checked.mixed D.tysOk D.fnOk Try.func7 (by kernel_rfl) (by kernel_rfl) (by kernel_rfl) Try.underlying4 rfl
    (fun ds h => by
      rw [show Try.f7.params.toList.length = 2 by kernel_rfl] at h
      match ds, h with
      | [_, _], _ => rfl)
    laidOut (N := 8) (by kernel_rfl) (by kernel_rfl) D.law7 hval hW
theorem over : Rows.fnNoiseRow.holds Try.pinned (OpenSpec.ofChange Rows.fnNoiseSpec) :=
  OpenClaim.holds_of_wide 7 Try.f7 rfl rfl rfl rfl rfl rfl rfl ⟨rfl, rfl, rfl, rfl, rfl⟩ rfl rfl rfl rfl rfl (by kernel_rfl) Try.func7 (by kernel_rfl)
    (of_decide_eq_true (by kernel_rfl)) (by unfold Func.isWrapper; first | (rw [if_pos (by decide +kernel)]; kernel_rfl) | (rw [if_neg (by decide +kernel)]; exact ⟨rfl, rfl⟩))
    (fun os started H enc _ => lifted os started H enc)
theorem proved : Rows.FnNoiseSaid := over
#print axioms proved
end Go.Proofs.Ytdejjalkfekjiaa.fnNoise
namespace Go.Proofs.Ytdejjalkfekjiaa
/-- The row, under a short name, for the claim. -/
theorem fnNoise_holds : Rows.FnNoiseSaid := fnNoise.proved
end Go.Proofs.Ytdejjalkfekjiaa
end
