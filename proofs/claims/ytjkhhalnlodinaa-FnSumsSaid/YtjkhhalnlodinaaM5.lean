/- FnSums holds: for every input the law returns true, and its arguments read as before. -/
import Derived.Test.YtjkhhalnlodinaaChecked
import Derived.Test.YtjkhhalnlodinaaDeskF
import Derived.KernelRfl
import Derived.Test.YtjkhhalnlodinaaRows
import Derived.WalkKit
import Derived.ProofKit
import Derived.OpenShut
import Derived.ShutString
import Derived.ChangeOld
import Derived.Below
import Derived.SizedLaws
set_option linter.all false
section
/- The tables of the reading: types and functions of the translation, with what is kept at each region's beginning (written by a program of this workplace). -/
namespace Go.Proofs.Ytjkhhalnlodinaa.D
open Go Go.Desk
def bodyOf (f : Func) : Code := match f.body with
  | some c => c
  | none => .skip
def tyTab : List (Nat × TD) := [
  (2, ⟨false, 1, 8, [.leaf], [.int .i64 0], .int .i64⟩),
  (3, ⟨false, 1, 8, [.leaf], [.int .i64 0], .int .i64⟩),
  (4, ⟨false, 1, 1, [.leaf], [.bool false], .bool⟩),
  (5, ⟨false, 1, 1, [.leaf], [.int .u8 0], .int .u8⟩),
  (22, ⟨false, 1, 24, [.sl .own [.leaf]], [.lst 0 []], .slc 5⟩),
  (24, ⟨false, 1, 24, [.sl .own [.leaf]], [.lst 0 []], .slc 29⟩),
  (29, ⟨false, 1, 4, [.leaf], [.flt .f32 0], .flt .f32⟩),
  (34, ⟨false, 1, 8, [.leaf], [.flt .f64 0], .flt .f64⟩),
  (35, ⟨false, 1, 8, [.leaf], [.int .u64 0], .int .u64⟩),
  (36, ⟨false, 1, 24, [.sl .own [.leaf]], [.lst 0 []], .slc 2⟩),
  (120, ⟨false, 1, 8, [.leaf], [.nil], .ptr 176⟩),
  (128, ⟨false, 1, 4, [.leaf], [.int .u32 0], .int .u32⟩),
  (174, ⟨false, 1, 8, [.leaf], [.int .u64 0], .int .u64⟩),
  (176, ⟨true, 3, 40, [.sl .own [.leaf], .leaf, .leaf], [.lst 0 [], .int .i64 0, .int .u64 0], .st [(0, 22), (1, 3), (2, 174)]⟩)]
noncomputable def c5 : Code := bodyOf Try.f5
noncomputable def c20 : Code := bodyOf Try.f20
noncomputable def c28 : Code := bodyOf Try.f28
noncomputable def c29 : Code := bodyOf Try.f29
noncomputable def c30 : Code := bodyOf Try.f30
noncomputable def c31 : Code := bodyOf Try.f31
noncomputable def c32 : Code := bodyOf Try.f32
noncomputable def c33 : Code := bodyOf Try.f33
noncomputable def c34 : Code := bodyOf Try.f34
noncomputable def c35 : Code := bodyOf Try.f35
noncomputable def c90 : Code := bodyOf Try.f90
noncomputable def c91 : Code := bodyOf Try.f91
noncomputable def c92 : Code := bodyOf Try.f92
noncomputable def c94 : Code := bodyOf Try.f94
noncomputable def c97 : Code := bodyOf Try.f97
noncomputable def c98 : Code := bodyOf Try.f98
noncomputable def c104 : Code := bodyOf Try.f104
noncomputable def c105 : Code := bodyOf Try.f105
noncomputable def c106 : Code := bodyOf Try.f106
noncomputable def c112 : Code := bodyOf Try.f112
noncomputable def c158 : Code := bodyOf Try.f158
noncomputable def c163 : Code := bodyOf Try.f163
noncomputable def c165 : Code := bodyOf Try.f165
noncomputable def c167 : Code := bodyOf Try.f167
noncomputable def c168 : Code := bodyOf Try.f168
noncomputable def fnTab : List (Nat × FD) := [
  (5, .code c5 [.val, .val] [] [(4, none)] [(0, [0, 1]), (1, [0, 1]), (2, []), (3, [0, 1]), (4, [0, 1, 5]), (5, [1, 5, 6]), (6, [1, 5, 6, 7]), (7, [1, 5, 6, 7, 8]), (8, [1, 5, 6, 7, 8, 9]), (9, [1, 5, 6, 7, 8, 9]), (10, [1, 5, 6, 7, 8, 9]), (11, [1, 5, 6, 7, 8, 9]), (12, [1, 5, 6, 7, 8]), (13, [1, 5, 6, 7, 8, 10, 11]), (14, [1, 5, 6, 8, 10, 11, 12, 13]), (15, [1, 5, 6, 8, 10, 11, 12, 13, 14]), (16, [1, 5, 6, 8, 10, 11, 12, 13, 14, 15, 16]), (17, [1, 5, 6, 8, 10, 11, 12, 13, 14, 15, 16, 17, 18]), (18, [1, 5, 8, 10, 11, 12, 13, 15, 16, 17, 18, 19, 20]), (19, []), (20, [1, 5]), (21, [5, 21]), (22, [5, 21, 22, 23]), (23, [5, 21, 22, 23, 24, 25]), (24, [5, 21, 22, 23, 24, 25, 26, 27]), (25, [5, 21, 22, 23, 24, 25, 26, 27, 28, 29]), (26, [5, 21, 22, 23, 24, 25, 26, 27, 28, 29, 30, 31]), (27, [5, 21, 22, 23, 24, 25, 26, 27, 28, 29, 30, 31, 32]), (28, [5, 21, 22, 23, 24, 25, 26, 27, 28, 29, 30, 31, 32, 33]), (29, [5, 21, 22, 23, 24, 25, 26, 27, 28, 29, 30, 31, 32, 33, 34]), (30, [5, 21, 22, 23, 24, 25, 26, 27, 28, 29, 30, 31, 32, 33, 34]), (31, [5, 21, 22, 23, 24, 25, 26, 27, 28, 29, 30, 31, 32, 33, 34]), (32, [5, 21, 22, 23, 24, 25, 26, 27, 28, 29, 30, 31, 32, 33, 34]), (33, [22, 23, 24, 25, 26, 27, 28, 29, 30, 31, 32, 33]), (1000008, [1, 5, 6, 7, 8]), (1000029, [22, 23, 24, 25, 26, 27, 28, 29, 30, 31, 32, 33])]),
  (20, .code c20 [.val, .val] [] [(4, none), (5, none)] [(0, [0, 1]), (1, [0, 1]), (2, []), (3, [0, 1])]),
  (28, .code c28 [.val, .val] [] [(4, none)] [(0, [0, 1]), (1, [0, 1])]),
  (29, .code c29 [.val, .val, .val] [] [(6, none)] [(0, [0, 1, 2]), (1, [0, 1, 2]), (2, []), (3, [0, 1, 2]), (4, [0, 1, 2]), (5, [1, 2])]),
  (30, .code c30 [.val, .val] [] [(4, none)] [(0, [0, 1]), (1, [0, 1]), (2, [1, 5])]),
  (31, .code c31 [.val] [] [(2, none), (3, none)] [(0, [0]), (1, [0]), (2, []), (3, [0])]),
  (32, .code c32 [.val] [] [(2, none), (3, none)] [(0, [0]), (1, [0]), (2, []), (3, [0])]),
  (33, .code c33 [.val, .val] [] [(4, none)] [(0, [0, 1]), (1, [0, 1])]),
  (34, .code c34 [.val, .val, .val] [] [(6, none)] [(0, [0, 1, 2]), (1, [0, 1, 2]), (2, [1, 2, 7]), (3, [1, 2, 7, 8]), (4, [1, 2, 7, 8]), (5, [1, 2, 7, 8]), (6, [8]), (1000003, [8])]),
  (35, .code c35 [.val, .val] [] [(4, none), (5, none)] [(0, [0, 1]), (1, [0, 1]), (2, []), (3, [0, 1]), (4, [0, 1, 6]), (5, [0, 1, 6, 19, 20]), (6, [0, 1, 6, 19, 20]), (7, [0, 1, 6, 7, 19, 20]), (8, [0, 1, 6, 19, 20]), (9, [6]), (1000005, [6])]),
  (90, .code c90 [.val] [] [(2, none)] [(0, [0]), (1, [0])]),
  (91, .code c91 [.iop] [0] [(2, none)] [(0, [0]), (1, [0]), (2, [0, 3]), (3, [0, 3]), (4, [0, 3])]),
  (92, .code c92 [.val] [] [(2, none)] [(0, [0]), (1, [0])]),
  (94, .code c94 [.val, .val] [] [(4, none)] [(0, [0, 1]), (1, [0, 1]), (2, [0, 1, 5]), (3, [0, 1, 5, 8, 9]), (4, [0, 1, 5, 8, 9]), (5, [0, 1, 5, 6, 8, 9]), (6, [0, 1, 5, 8, 9]), (7, [5]), (1000003, [5])]),
  (96, .ext (pF32bits)),
  (97, .code c97 [.iop, .val] [0] [(4, none)] [(0, [0, 1]), (1, [0, 1]), (2, [0]), (3, [0, 1]), (4, [0, 1, 5]), (5, [0, 1, 5]), (6, [0, 1, 5])]),
  (98, .code c98 [.iop, .val] [0] [(4, none)] [(0, [0, 1]), (1, [0, 1]), (2, [0, 1, 5]), (3, [0, 1, 5, 6]), (4, [0, 1, 5, 6]), (5, [0, 1, 5, 6]), (6, [0, 1, 5, 6]), (7, [0, 1, 5, 6]), (8, [0, 5]), (1000003, [0, 5])]),
  (104, .code c104 [.val] [] [(2, none)] [(0, [0]), (1, [0]), (2, [0, 3]), (3, [0, 3, 6, 7, 8]), (4, [0, 3, 6, 7, 8]), (5, [0, 3, 5, 6, 7, 8]), (6, [0, 3, 6, 7, 8]), (7, [3]), (1000003, [3])]),
  (105, .code c105 [.val] [] [(2, none)] [(0, [0]), (1, [0]), (2, [0, 5]), (3, []), (4, [0, 5]), (5, [0]), (6, [0]), (7, [0, 3])]),
  (106, .code c106 [.val, .val] [] [(4, none)] [(0, [0, 1]), (1, [0, 1])]),
  (112, .code c112 [.iop] [0] [(2, none)] [(0, [0]), (1, [0]), (2, [0]), (3, [0]), (4, [0, 10]), (5, [0]), (6, [0, 10]), (7, [0]), (8, [0, 3]), (9, [0, 10]), (10, [0]), (11, [0])]),
  (158, .code c158 [.iop, .val] [0] [(4, none)] [(0, [0, 1]), (1, [0, 1])]),
  (163, .code c163 [.iop] [0] [(2, none)] [(0, [0]), (1, [0]), (2, [0, 3]), (3, [0]), (4, [0, 3]), (5, [0, 3]), (6, [0, 3]), (7, [0, 3]), (8, [0])]),
  (165, .code c165 [.val] [] [(2, none)] [(0, [0]), (1, [0]), (2, []), (3, [0])]),
  (167, .code c167 [.val] [] [(2, none)] [(0, [0]), (1, [0])]),
  (168, .code c168 [.iop, .io] [0, 1] [(4, none)] [(0, [0, 1]), (1, [0, 1])]),
  (183, .ext (pF32frombits))]
noncomputable def E : Env := ⟨fun t => lookT tyTab t, lookF fnTab⟩
noncomputable def fdAt (n : Nat) : FD := match lookF fnTab n with
  | some d => d
  | none => .ext fun _ => none
noncomputable def keepAt (n : Nat) : List (Nat × List Nat) := match lookF fnTab n with
  | some d => d.keep
  | none => []
theorem tysOk : TysOk Try.prog E := tysOk_of (l := tyTab) (fun _ => rfl) (by kernel_rfl)
theorem ft5 : FnTab Try.prog E 5 (fdAt 5) := fnTab_code (c := c5) (modes := (fdAt 5).ms) (outs := (fdAt 5).os) (results := (fdAt 5).rs) (keep := (fdAt 5).keep) Try.func5 (by kernel_rfl) (by kernel_rfl) (by kernel_rfl)
theorem ft20 : FnTab Try.prog E 20 (fdAt 20) := fnTab_code (c := c20) (modes := (fdAt 20).ms) (outs := (fdAt 20).os) (results := (fdAt 20).rs) (keep := (fdAt 20).keep) Try.func20 (by kernel_rfl) (by kernel_rfl) (by kernel_rfl)
theorem ft28 : FnTab Try.prog E 28 (fdAt 28) := fnTab_code (c := c28) (modes := (fdAt 28).ms) (outs := (fdAt 28).os) (results := (fdAt 28).rs) (keep := (fdAt 28).keep) Try.func28 (by kernel_rfl) (by kernel_rfl) (by kernel_rfl)
theorem ft29 : FnTab Try.prog E 29 (fdAt 29) := fnTab_code (c := c29) (modes := (fdAt 29).ms) (outs := (fdAt 29).os) (results := (fdAt 29).rs) (keep := (fdAt 29).keep) Try.func29 (by kernel_rfl) (by kernel_rfl) (by kernel_rfl)
theorem ft30 : FnTab Try.prog E 30 (fdAt 30) := fnTab_code (c := c30) (modes := (fdAt 30).ms) (outs := (fdAt 30).os) (results := (fdAt 30).rs) (keep := (fdAt 30).keep) Try.func30 (by kernel_rfl) (by kernel_rfl) (by kernel_rfl)
theorem ft31 : FnTab Try.prog E 31 (fdAt 31) := fnTab_code (c := c31) (modes := (fdAt 31).ms) (outs := (fdAt 31).os) (results := (fdAt 31).rs) (keep := (fdAt 31).keep) Try.func31 (by kernel_rfl) (by kernel_rfl) (by kernel_rfl)
theorem ft32 : FnTab Try.prog E 32 (fdAt 32) := fnTab_code (c := c32) (modes := (fdAt 32).ms) (outs := (fdAt 32).os) (results := (fdAt 32).rs) (keep := (fdAt 32).keep) Try.func32 (by kernel_rfl) (by kernel_rfl) (by kernel_rfl)
theorem ft33 : FnTab Try.prog E 33 (fdAt 33) := fnTab_code (c := c33) (modes := (fdAt 33).ms) (outs := (fdAt 33).os) (results := (fdAt 33).rs) (keep := (fdAt 33).keep) Try.func33 (by kernel_rfl) (by kernel_rfl) (by kernel_rfl)
theorem ft34 : FnTab Try.prog E 34 (fdAt 34) := fnTab_code (c := c34) (modes := (fdAt 34).ms) (outs := (fdAt 34).os) (results := (fdAt 34).rs) (keep := (fdAt 34).keep) Try.func34 (by kernel_rfl) (by kernel_rfl) (by kernel_rfl)
theorem ft35 : FnTab Try.prog E 35 (fdAt 35) := fnTab_code (c := c35) (modes := (fdAt 35).ms) (outs := (fdAt 35).os) (results := (fdAt 35).rs) (keep := (fdAt 35).keep) Try.func35 (by kernel_rfl) (by kernel_rfl) (by kernel_rfl)
theorem ft90 : FnTab Try.prog E 90 (fdAt 90) := fnTab_code (c := c90) (modes := (fdAt 90).ms) (outs := (fdAt 90).os) (results := (fdAt 90).rs) (keep := (fdAt 90).keep) Try.func90 (by kernel_rfl) (by kernel_rfl) (by kernel_rfl)
theorem ft91 : FnTab Try.prog E 91 (fdAt 91) := fnTab_code (c := c91) (modes := (fdAt 91).ms) (outs := (fdAt 91).os) (results := (fdAt 91).rs) (keep := (fdAt 91).keep) Try.func91 (by kernel_rfl) (by kernel_rfl) (by kernel_rfl)
theorem ft92 : FnTab Try.prog E 92 (fdAt 92) := fnTab_code (c := c92) (modes := (fdAt 92).ms) (outs := (fdAt 92).os) (results := (fdAt 92).rs) (keep := (fdAt 92).keep) Try.func92 (by kernel_rfl) (by kernel_rfl) (by kernel_rfl)
theorem ft94 : FnTab Try.prog E 94 (fdAt 94) := fnTab_code (c := c94) (modes := (fdAt 94).ms) (outs := (fdAt 94).os) (results := (fdAt 94).rs) (keep := (fdAt 94).keep) Try.func94 (by kernel_rfl) (by kernel_rfl) (by kernel_rfl)
theorem ft96 : FnTab Try.prog E 96 (.ext (pF32bits)) := ext_pF32bits Try.func96 (by kernel_rfl) (by kernel_rfl) (by kernel_rfl) (by kernel_rfl)
theorem ft97 : FnTab Try.prog E 97 (fdAt 97) := fnTab_code (c := c97) (modes := (fdAt 97).ms) (outs := (fdAt 97).os) (results := (fdAt 97).rs) (keep := (fdAt 97).keep) Try.func97 (by kernel_rfl) (by kernel_rfl) (by kernel_rfl)
theorem ft98 : FnTab Try.prog E 98 (fdAt 98) := fnTab_code (c := c98) (modes := (fdAt 98).ms) (outs := (fdAt 98).os) (results := (fdAt 98).rs) (keep := (fdAt 98).keep) Try.func98 (by kernel_rfl) (by kernel_rfl) (by kernel_rfl)
theorem ft104 : FnTab Try.prog E 104 (fdAt 104) := fnTab_code (c := c104) (modes := (fdAt 104).ms) (outs := (fdAt 104).os) (results := (fdAt 104).rs) (keep := (fdAt 104).keep) Try.func104 (by kernel_rfl) (by kernel_rfl) (by kernel_rfl)
theorem ft105 : FnTab Try.prog E 105 (fdAt 105) := fnTab_code (c := c105) (modes := (fdAt 105).ms) (outs := (fdAt 105).os) (results := (fdAt 105).rs) (keep := (fdAt 105).keep) Try.func105 (by kernel_rfl) (by kernel_rfl) (by kernel_rfl)
theorem ft106 : FnTab Try.prog E 106 (fdAt 106) := fnTab_code (c := c106) (modes := (fdAt 106).ms) (outs := (fdAt 106).os) (results := (fdAt 106).rs) (keep := (fdAt 106).keep) Try.func106 (by kernel_rfl) (by kernel_rfl) (by kernel_rfl)
theorem ft112 : FnTab Try.prog E 112 (fdAt 112) := fnTab_code (c := c112) (modes := (fdAt 112).ms) (outs := (fdAt 112).os) (results := (fdAt 112).rs) (keep := (fdAt 112).keep) Try.func112 (by kernel_rfl) (by kernel_rfl) (by kernel_rfl)
theorem ft158 : FnTab Try.prog E 158 (fdAt 158) := fnTab_code (c := c158) (modes := (fdAt 158).ms) (outs := (fdAt 158).os) (results := (fdAt 158).rs) (keep := (fdAt 158).keep) Try.func158 (by kernel_rfl) (by kernel_rfl) (by kernel_rfl)
theorem ft163 : FnTab Try.prog E 163 (fdAt 163) := fnTab_code (c := c163) (modes := (fdAt 163).ms) (outs := (fdAt 163).os) (results := (fdAt 163).rs) (keep := (fdAt 163).keep) Try.func163 (by kernel_rfl) (by kernel_rfl) (by kernel_rfl)
theorem ft165 : FnTab Try.prog E 165 (fdAt 165) := fnTab_code (c := c165) (modes := (fdAt 165).ms) (outs := (fdAt 165).os) (results := (fdAt 165).rs) (keep := (fdAt 165).keep) Try.func165 (by kernel_rfl) (by kernel_rfl) (by kernel_rfl)
theorem ft167 : FnTab Try.prog E 167 (fdAt 167) := fnTab_code (c := c167) (modes := (fdAt 167).ms) (outs := (fdAt 167).os) (results := (fdAt 167).rs) (keep := (fdAt 167).keep) Try.func167 (by kernel_rfl) (by kernel_rfl) (by kernel_rfl)
theorem ft168 : FnTab Try.prog E 168 (fdAt 168) := fnTab_code (c := c168) (modes := (fdAt 168).ms) (outs := (fdAt 168).os) (results := (fdAt 168).rs) (keep := (fdAt 168).keep) Try.func168 (by kernel_rfl) (by kernel_rfl) (by kernel_rfl)
theorem ft183 : FnTab Try.prog E 183 (.ext (pF32frombits)) := ext_pF32frombits Try.func183 (by kernel_rfl) (by kernel_rfl) (by kernel_rfl) (by kernel_rfl)
theorem allFns : AllFns Try.prog E fnTab := .cons ft5 (.cons ft20 (.cons ft28 (.cons ft29 (.cons ft30 (.cons ft31 (.cons ft32 (.cons ft33 (.cons ft34 (.cons ft35 (.cons ft90 (.cons ft91 (.cons ft92 (.cons ft94 (.cons ft96 (.cons ft97 (.cons ft98 (.cons ft104 (.cons ft105 (.cons ft106 (.cons ft112 (.cons ft158 (.cons ft163 (.cons ft165 (.cons ft167 (.cons ft168 (.cons ft183 (.nil)))))))))))))))))))))))))))
theorem fnOk : ∀ f fd, E.fn f = some fd → FnTab Try.prog E f fd := fnTab_of (l := fnTab) (fun _ => rfl) allFns
end Go.Proofs.Ytjkhhalnlodinaa.D
end
section
/- Plain functions for the law's Go functions, each tied to the reading by the kernel (printed by a program of this workplace). -/
namespace Go.Proofs.Ytjkhhalnlodinaa.D
open Go Go.Desk
set_option linter.unusedVariables false
noncomputable def x183.w : FnW E := xF32frombits.w 183 (by kernel_rfl)

noncomputable def x96.w : FnW E := xF32bits.w 96 (by kernel_rfl)

def f28_l_b10Long : Nat → Nat → List T → Nat → List T → Option (Bool)
  | 0, _, _, _, _ => none
  | n + 1, n1, l2, n3, l4 =>
    br (decide (((n1 : Nat) : Int) > (1048576 : Int))) (
     some true) (
     some (decide (((n3 : Nat) : Int) > (1048576 : Int))))
def sg_ll : Sig (Nat × List T × Nat × List T) where
  pk := fun v => [.lst v.1 v.2.1, .lst v.2.2.1 v.2.2.2]
  up := fun ls => match ls with
    | [.lst a0 a1, .lst a2 a3] => some (a0, a1, a2, a3)
    | _ => none
  ok := by
    intro ls v h
    split at h
    · cases h; rfl
    · cases h

def sg_b : Sig (Bool) where
  pk := fun v => [.bool v]
  up := fun ls => match ls with
    | [.bool a0] => some a0
    | _ => none
  ok := by
    intro ls v h
    split at h
    · cases h; rfl
    · cases h

def f28_l_b10Long.P : List Arg := [⟨.val, ⟨false, [.sl .shr [.leaf]], [.lst 0 []]⟩⟩, ⟨.val, ⟨false, [.sl .shr [.leaf]], [.lst 0 []]⟩⟩]
def f28_l_b10Long.A : RAlt (Bool) := .one ⟨[⟨false, [.leaf], [.bool false]⟩], [none, none]⟩ sg_b
def f28_l_b10Long.F (n : Nat) (v : Nat × List T × Nat × List T) := f28_l_b10Long n v.1 v.2.1 v.2.2.1 v.2.2.2
noncomputable def f28_l_b10Long.O (n : Nat) : Orc := orcOf (E := E) [] [] n
theorem f28_l_b10Long.ok : ∀ n v x, f28_l_b10Long.F n v = some x → evalFn E n 28 (flAs f28_l_b10Long.P (sg_ll.pk v)) = some (f28_l_b10Long.A.enc x) :=
  fn_pure (modes := (fdAt 28).ms) (outs := (fdAt 28).os) (results := (fdAt 28).rs) f28_l_b10Long.O (c := c28) (keep := keepAt 28) (by kernel_rfl) (fun n => orcOf_cf _ _ n) (fun n => lpOk_of (bs := []) (by kernel_rfl) .nil) (fun _ => rfl) (fun _ _ => by kernel_rfl)
noncomputable def f28_l_b10Long.w : FnW E := fnW 28 f28_l_b10Long.P sg_ll f28_l_b10Long.A f28_l_b10Long.F f28_l_b10Long.ok

def f29_l_b10At : Nat → Nat → List T → Int → Int → Option (Int)
  | 0, _, _, _, _ => none
  | n + 1, n1, l2, i3, i4 =>
    br (decide (i4 ≤ (1 : Int))) (
     some (0 : Int)) (
     br (decide (i3 < ((n1 : Nat) : Int))) (
      gd ((decide (((0 : Int) ≤ i3) ∧ (i3 < ((n1 : Nat) : Int)))) && (okAt [(CK.int IntKind.u8)] l2 (Int.toNat i3))) (
      gd (!(decide (i4 = (0 : Int)))) (
      some (Int.tmod (IntKind.i64.wrap (iAt l2 (Int.toNat i3))) i4)))) (
      gd (!(decide (i4 = (0 : Int)))) (
      some (Int.tmod (IntKind.i64.wrap ((IntKind.i64.wrap (i3 * (37 : Int))) + (11 : Int))) i4))))
def sg_lii : Sig (Nat × List T × Int × Int) where
  pk := fun v => [.lst v.1 v.2.1, .int v.2.2.1, .int v.2.2.2]
  up := fun ls => match ls with
    | [.lst a0 a1, .int a2, .int a3] => some (a0, a1, a2, a3)
    | _ => none
  ok := by
    intro ls v h
    split at h
    · cases h; rfl
    · cases h

def sg_i : Sig (Int) where
  pk := fun v => [.int v]
  up := fun ls => match ls with
    | [.int a0] => some a0
    | _ => none
  ok := by
    intro ls v h
    split at h
    · cases h; rfl
    · cases h

def f29_l_b10At.P : List Arg := [⟨.val, ⟨false, [.sl .shr [.leaf]], [.lst 0 []]⟩⟩, ⟨.val, ⟨false, [.leaf], [.int .i64 0]⟩⟩, ⟨.val, ⟨false, [.leaf], [.int .i64 0]⟩⟩]
def f29_l_b10At.A : RAlt (Int) := .one ⟨[⟨false, [.leaf], [.int .i64 0]⟩], [none, none, none]⟩ sg_i
def f29_l_b10At.F (n : Nat) (v : Nat × List T × Int × Int) := f29_l_b10At n v.1 v.2.1 v.2.2.1 v.2.2.2
noncomputable def f29_l_b10At.O (n : Nat) : Orc := orcOf (E := E) [] [] n
theorem f29_l_b10At.ok : ∀ n v x, f29_l_b10At.F n v = some x → evalFn E n 29 (flAs f29_l_b10At.P (sg_lii.pk v)) = some (f29_l_b10At.A.enc x) :=
  fn_pure (modes := (fdAt 29).ms) (outs := (fdAt 29).os) (results := (fdAt 29).rs) f29_l_b10At.O (c := c29) (keep := keepAt 29) (by kernel_rfl) (fun n => orcOf_cf _ _ n) (fun n => lpOk_of (bs := []) (by kernel_rfl) .nil) (fun _ => rfl) (fun _ _ => by kernel_rfl)
noncomputable def f29_l_b10At.w : FnW E := fnW 29 f29_l_b10At.P sg_lii f29_l_b10At.A f29_l_b10At.F f29_l_b10At.ok

def f90_s_l00From : Nat → Nat → List T → Option (Nat × List T × Int × Int)
  | 0, _, _ => none
  | n + 1, n1, l2 =>
    some (n1, l2, (0 : Int), (0 : Int))
def sg_l : Sig (Nat × List T) where
  pk := fun v => [.lst v.1 v.2]
  up := fun ls => match ls with
    | [.lst a0 a1] => some (a0, a1)
    | _ => none
  ok := by
    intro ls v h
    split at h
    · cases h; rfl
    · cases h

def f90_s_l00From.P : List Arg := [⟨.val, ⟨false, [.sl .shr [.leaf]], [.lst 0 []]⟩⟩]
def f90_s_l00From.A : RAlt (Nat × List T × Int × Int) := .one ⟨[⟨false, [.rf .own [.sl .shr [.leaf], .leaf, .leaf]], [.ref [.lst 0 [], .int .i64 0, .int .u64 0]]⟩], [none]⟩ sg_lii
def f90_s_l00From.F (n : Nat) (v : Nat × List T) := f90_s_l00From n v.1 v.2
noncomputable def f90_s_l00From.O (n : Nat) : Orc := orcOf (E := E) [] [] n
theorem f90_s_l00From.ok : ∀ n v x, f90_s_l00From.F n v = some x → evalFn E n 90 (flAs f90_s_l00From.P (sg_l.pk v)) = some (f90_s_l00From.A.enc x) :=
  fn_pure (modes := (fdAt 90).ms) (outs := (fdAt 90).os) (results := (fdAt 90).rs) f90_s_l00From.O (c := c90) (keep := keepAt 90) (by kernel_rfl) (fun n => orcOf_cf _ _ n) (fun n => lpOk_of (bs := []) (by kernel_rfl) .nil) (fun _ => rfl) (fun _ _ => by kernel_rfl)
noncomputable def f90_s_l00From.w : FnW E := fnW 90 f90_s_l00From.P sg_l f90_s_l00From.A f90_s_l00From.F f90_s_l00From.ok

def f163_s_l00Srcnext : Nat → Nat → List T → Int → Int → Option (Int × Nat × List T × Int × Int)
  | 0, _, _, _, _ => none
  | n + 1, n1, l2, i3, i4 =>
    br (decide (i3 < ((n1 : Nat) : Int))) (
     gd ((decide (((0 : Int) ≤ i3) ∧ (i3 < ((n1 : Nat) : Int)))) && (okAt [(CK.int IntKind.u8)] l2 (Int.toNat i3))) (
     let i5 : Int := (IntKind.i64.wrap (iAt l2 (Int.toNat i3)))
     let i6 : Int := (IntKind.i64.wrap (i3 + (1 : Int)))
     let i7 : Int := (IntKind.u64.wrap ((IntKind.u64.wrap ((IntKind.u64.wrap (i4 * (6364136223846793005 : Int))) + (IntKind.u64.wrap i5))) + (1442695040888963407 : Int)))
     br (decide (i6 ≤ ((n1 : Nat) : Int))) (
      some (i5, n1, l2, i6, i7)) (
      some ((IntKind.i64.wrap (intBits BinOp.and IntKind.u64 (Int.fdiv i7 (1099511627776 : Int)) (255 : Int))), n1, l2, i6, i7)))) (
     let i8 : Int := (IntKind.i64.wrap (i3 + (1 : Int)))
     let i9 : Int := (IntKind.u64.wrap ((IntKind.u64.wrap ((IntKind.u64.wrap (i4 * (6364136223846793005 : Int))) + (0 : Int))) + (1442695040888963407 : Int)))
     br (decide (i8 ≤ ((n1 : Nat) : Int))) (
      some ((0 : Int), n1, l2, i8, i9)) (
      some ((IntKind.i64.wrap (intBits BinOp.and IntKind.u64 (Int.fdiv i9 (1099511627776 : Int)) (255 : Int))), n1, l2, i8, i9)))
def sg_ilii : Sig (Int × Nat × List T × Int × Int) where
  pk := fun v => [.int v.1, .lst v.2.1 v.2.2.1, .int v.2.2.2.1, .int v.2.2.2.2]
  up := fun ls => match ls with
    | [.int a0, .lst a1 a2, .int a3, .int a4] => some (a0, a1, a2, a3, a4)
    | _ => none
  ok := by
    intro ls v h
    split at h
    · cases h; rfl
    · cases h

def f163_s_l00Srcnext.P : List Arg := [⟨.iop, ⟨false, [.rf .own [.sl .shr [.leaf], .leaf, .leaf]], [.ref [.lst 0 [], .int .i64 0, .int .u64 0]]⟩⟩]
def f163_s_l00Srcnext.A : RAlt (Int × Nat × List T × Int × Int) := .one ⟨[⟨false, [.leaf], [.int .i64 0]⟩], [some ⟨false, [.rf .own [.sl .shr [.leaf], .leaf, .leaf]], [.ref [.lst 0 [], .int .i64 0, .int .u64 0]]⟩]⟩ sg_ilii
def f163_s_l00Srcnext.F (n : Nat) (v : Nat × List T × Int × Int) := f163_s_l00Srcnext n v.1 v.2.1 v.2.2.1 v.2.2.2
noncomputable def f163_s_l00Srcnext.O (n : Nat) : Orc := orcOf (E := E) [] [] n
theorem f163_s_l00Srcnext.ok : ∀ n v x, f163_s_l00Srcnext.F n v = some x → evalFn E n 163 (flAs f163_s_l00Srcnext.P (sg_lii.pk v)) = some (f163_s_l00Srcnext.A.enc x) :=
  fn_pure (modes := (fdAt 163).ms) (outs := (fdAt 163).os) (results := (fdAt 163).rs) f163_s_l00Srcnext.O (c := c163) (keep := keepAt 163) (by kernel_rfl) (fun n => orcOf_cf _ _ n) (fun n => lpOk_of (bs := []) (by kernel_rfl) .nil) (fun _ => rfl) (fun _ _ => by kernel_rfl)
noncomputable def f163_s_l00Srcnext.w : FnW E := fnW 163 f163_s_l00Srcnext.P sg_lii f163_s_l00Srcnext.A f163_s_l00Srcnext.F f163_s_l00Srcnext.ok

def f97_s_l00Srcpick : Nat → Nat → List T → Int → Int → Int → Option (Int × Nat × List T × Int × Int)
  | 0, _, _, _, _, _ => none
  | n + 1, n1, l2, i3, i4, i5 =>
    br (decide (i5 ≤ (1 : Int))) (
     some ((0 : Int), n1, l2, i3, i4)) (
     bd (f163_s_l00Srcnext n n1 l2 i3 i4) fun r6 =>
     let i7 : Int := r6.1
     let n8 : Nat := r6.2.1
     let l9 : List T := r6.2.2.1
     let i10 : Int := r6.2.2.2.1
     let i11 : Int := r6.2.2.2.2
     br (decide (i5 > (200 : Int))) (
      bd (f163_s_l00Srcnext n n8 l9 i10 i11) fun r12 =>
      let i13 : Int := r12.1
      let n14 : Nat := r12.2.1
      let l15 : List T := r12.2.2.1
      let i16 : Int := r12.2.2.2.1
      let i17 : Int := r12.2.2.2.2
      let i18 : Int := (IntKind.i64.wrap ((IntKind.i64.wrap (i7 * (256 : Int))) + i13))
      gd (!(decide (i5 = (0 : Int)))) (
      some ((Int.tmod i18 i5), n14, l15, i16, i17))) (
      gd (!(decide (i5 = (0 : Int)))) (
      some ((Int.tmod i7 i5), n8, l9, i10, i11))))
def sg_liii : Sig (Nat × List T × Int × Int × Int) where
  pk := fun v => [.lst v.1 v.2.1, .int v.2.2.1, .int v.2.2.2.1, .int v.2.2.2.2]
  up := fun ls => match ls with
    | [.lst a0 a1, .int a2, .int a3, .int a4] => some (a0, a1, a2, a3, a4)
    | _ => none
  ok := by
    intro ls v h
    split at h
    · cases h; rfl
    · cases h

def f97_s_l00Srcpick.P : List Arg := [⟨.iop, ⟨false, [.rf .own [.sl .shr [.leaf], .leaf, .leaf]], [.ref [.lst 0 [], .int .i64 0, .int .u64 0]]⟩⟩, ⟨.val, ⟨false, [.leaf], [.int .i64 0]⟩⟩]
def f97_s_l00Srcpick.A : RAlt (Int × Nat × List T × Int × Int) := .one ⟨[⟨false, [.leaf], [.int .i64 0]⟩], [some ⟨false, [.rf .own [.sl .shr [.leaf], .leaf, .leaf]], [.ref [.lst 0 [], .int .i64 0, .int .u64 0]]⟩, none]⟩ sg_ilii
def f97_s_l00Srcpick.F (n : Nat) (v : Nat × List T × Int × Int × Int) := f97_s_l00Srcpick n v.1 v.2.1 v.2.2.1 v.2.2.2.1 v.2.2.2.2
noncomputable def f97_s_l00Srcpick.O (n : Nat) : Orc := orcOf (E := E) [f163_s_l00Srcnext.w] [] n
theorem f97_s_l00Srcpick.ok : ∀ n v x, f97_s_l00Srcpick.F n v = some x → evalFn E n 97 (flAs f97_s_l00Srcpick.P (sg_liii.pk v)) = some (f97_s_l00Srcpick.A.enc x) :=
  fn_pure (modes := (fdAt 97).ms) (outs := (fdAt 97).os) (results := (fdAt 97).rs) f97_s_l00Srcpick.O (c := c97) (keep := keepAt 97) (by kernel_rfl) (fun n => orcOf_cf _ _ n) (fun n => lpOk_of (bs := []) (by kernel_rfl) .nil) (fun _ => rfl) (fun _ _ => by kernel_rfl)
noncomputable def f97_s_l00Srcpick.w : FnW E := fnW 97 f97_s_l00Srcpick.P sg_liii f97_s_l00Srcpick.A f97_s_l00Srcpick.F f97_s_l00Srcpick.ok

def f158_s_l00Srcone : Nat → Nat → List T → Int → Int → Int → Option (Bool × Nat × List T × Int × Int)
  | 0, _, _, _, _, _ => none
  | n + 1, n1, l2, i3, i4, i5 =>
    bd (f97_s_l00Srcpick n n1 l2 i3 i4 i5) fun r6 =>
    let i7 : Int := r6.1
    let n8 : Nat := r6.2.1
    let l9 : List T := r6.2.2.1
    let i10 : Int := r6.2.2.2.1
    let i11 : Int := r6.2.2.2.2
    some ((i7 == (0 : Int)), n8, l9, i10, i11)
def sg_blii : Sig (Bool × Nat × List T × Int × Int) where
  pk := fun v => [.bool v.1, .lst v.2.1 v.2.2.1, .int v.2.2.2.1, .int v.2.2.2.2]
  up := fun ls => match ls with
    | [.bool a0, .lst a1 a2, .int a3, .int a4] => some (a0, a1, a2, a3, a4)
    | _ => none
  ok := by
    intro ls v h
    split at h
    · cases h; rfl
    · cases h

def f158_s_l00Srcone.P : List Arg := [⟨.iop, ⟨false, [.rf .own [.sl .shr [.leaf], .leaf, .leaf]], [.ref [.lst 0 [], .int .i64 0, .int .u64 0]]⟩⟩, ⟨.val, ⟨false, [.leaf], [.int .i64 0]⟩⟩]
def f158_s_l00Srcone.A : RAlt (Bool × Nat × List T × Int × Int) := .one ⟨[⟨false, [.leaf], [.bool false]⟩], [some ⟨false, [.rf .own [.sl .shr [.leaf], .leaf, .leaf]], [.ref [.lst 0 [], .int .i64 0, .int .u64 0]]⟩, none]⟩ sg_blii
def f158_s_l00Srcone.F (n : Nat) (v : Nat × List T × Int × Int × Int) := f158_s_l00Srcone n v.1 v.2.1 v.2.2.1 v.2.2.2.1 v.2.2.2.2
noncomputable def f158_s_l00Srcone.O (n : Nat) : Orc := orcOf (E := E) [f97_s_l00Srcpick.w] [] n
theorem f158_s_l00Srcone.ok : ∀ n v x, f158_s_l00Srcone.F n v = some x → evalFn E n 158 (flAs f158_s_l00Srcone.P (sg_liii.pk v)) = some (f158_s_l00Srcone.A.enc x) :=
  fn_pure (modes := (fdAt 158).ms) (outs := (fdAt 158).os) (results := (fdAt 158).rs) f158_s_l00Srcone.O (c := c158) (keep := keepAt 158) (by kernel_rfl) (fun n => orcOf_cf _ _ n) (fun n => lpOk_of (bs := []) (by kernel_rfl) .nil) (fun _ => rfl) (fun _ _ => by kernel_rfl)
noncomputable def f158_s_l00Srcone.w : FnW E := fnW 158 f158_s_l00Srcone.P sg_liii f158_s_l00Srcone.A f158_s_l00Srcone.F f158_s_l00Srcone.ok

def f91_s_l01DrawPlain : Nat → Nat → List T → Int → Int → Option (Nat × Nat × List T × Int × Int)
  | 0, _, _, _, _ => none
  | n + 1, n1, l2, i3, i4 =>
    bd (f97_s_l00Srcpick n n1 l2 i3 i4 (129 : Int)) fun r5 =>
    let i6 : Int := r5.1
    let n7 : Nat := r5.2.1
    let l8 : List T := r5.2.2.1
    let i9 : Int := r5.2.2.2.1
    let i10 : Int := r5.2.2.2.2
    let i11 : Int := (IntKind.i64.wrap (i6 - (64 : Int)))
    bd (f158_s_l00Srcone n n7 l8 i9 i10 (4 : Int)) fun r12 =>
    let b13 : Bool := r12.1
    let n14 : Nat := r12.2.1
    let l15 : List T := r12.2.2.1
    let i16 : Int := r12.2.2.2.1
    let i17 : Int := r12.2.2.2.2
    br b13 (
     some ((fdiv FloatKind.f32 (FloatKind.nearest FloatKind.f32 i11) 1088421888), n14, l15, i16, i17)) (
     some ((fdiv FloatKind.f32 (FloatKind.nearest FloatKind.f32 i11) 1098907648), n14, l15, i16, i17))
def sg_flii : Sig (Nat × Nat × List T × Int × Int) where
  pk := fun v => [.flt v.1, .lst v.2.1 v.2.2.1, .int v.2.2.2.1, .int v.2.2.2.2]
  up := fun ls => match ls with
    | [.flt a0, .lst a1 a2, .int a3, .int a4] => some (a0, a1, a2, a3, a4)
    | _ => none
  ok := by
    intro ls v h
    split at h
    · cases h; rfl
    · cases h

def f91_s_l01DrawPlain.P : List Arg := [⟨.iop, ⟨false, [.rf .own [.sl .shr [.leaf], .leaf, .leaf]], [.ref [.lst 0 [], .int .i64 0, .int .u64 0]]⟩⟩]
def f91_s_l01DrawPlain.A : RAlt (Nat × Nat × List T × Int × Int) := .one ⟨[⟨false, [.leaf], [.flt .f32 0]⟩], [some ⟨false, [.rf .own [.sl .shr [.leaf], .leaf, .leaf]], [.ref [.lst 0 [], .int .i64 0, .int .u64 0]]⟩]⟩ sg_flii
def f91_s_l01DrawPlain.F (n : Nat) (v : Nat × List T × Int × Int) := f91_s_l01DrawPlain n v.1 v.2.1 v.2.2.1 v.2.2.2
noncomputable def f91_s_l01DrawPlain.O (n : Nat) : Orc := orcOf (E := E) [f97_s_l00Srcpick.w, f158_s_l00Srcone.w] [] n
theorem f91_s_l01DrawPlain.ok : ∀ n v x, f91_s_l01DrawPlain.F n v = some x → evalFn E n 91 (flAs f91_s_l01DrawPlain.P (sg_lii.pk v)) = some (f91_s_l01DrawPlain.A.enc x) :=
  fn_pure (modes := (fdAt 91).ms) (outs := (fdAt 91).os) (results := (fdAt 91).rs) f91_s_l01DrawPlain.O (c := c91) (keep := keepAt 91) (by kernel_rfl) (fun n => orcOf_cf _ _ n) (fun n => lpOk_of (bs := []) (by kernel_rfl) .nil) (fun _ => rfl) (fun _ _ => by kernel_rfl)
noncomputable def f91_s_l01DrawPlain.w : FnW E := fnW 91 f91_s_l01DrawPlain.P sg_lii f91_s_l01DrawPlain.A f91_s_l01DrawPlain.F f91_s_l01DrawPlain.ok

def f168_s_l00Srcamong : Nat → Nat → List T → Int → Int → Nat → List T → Option (Int × Nat × List T × Int × Int × Nat × List T)
  | 0, _, _, _, _, _, _ => none
  | n + 1, n1, l2, i3, i4, n5, l6 =>
    bd (f97_s_l00Srcpick n n1 l2 i3 i4 ((n5 : Nat) : Int)) fun r7 =>
    let i8 : Int := r7.1
    let n9 : Nat := r7.2.1
    let l10 : List T := r7.2.2.1
    let i11 : Int := r7.2.2.2.1
    let i12 : Int := r7.2.2.2.2
    gd (decide (((0 : Int) ≤ i8) ∧ (i8 < ((n5 : Nat) : Int)))) (
    gd (okAt [(CK.int IntKind.i64)] l6 (Int.toNat i8)) (
    some ((iAt l6 (Int.toNat i8)), n9, l10, i11, i12, n5, l6)))
def sg_liil : Sig (Nat × List T × Int × Int × Nat × List T) where
  pk := fun v => [.lst v.1 v.2.1, .int v.2.2.1, .int v.2.2.2.1, .lst v.2.2.2.2.1 v.2.2.2.2.2]
  up := fun ls => match ls with
    | [.lst a0 a1, .int a2, .int a3, .lst a4 a5] => some (a0, a1, a2, a3, a4, a5)
    | _ => none
  ok := by
    intro ls v h
    split at h
    · cases h; rfl
    · cases h

def sg_iliil : Sig (Int × Nat × List T × Int × Int × Nat × List T) where
  pk := fun v => [.int v.1, .lst v.2.1 v.2.2.1, .int v.2.2.2.1, .int v.2.2.2.2.1, .lst v.2.2.2.2.2.1 v.2.2.2.2.2.2]
  up := fun ls => match ls with
    | [.int a0, .lst a1 a2, .int a3, .int a4, .lst a5 a6] => some (a0, a1, a2, a3, a4, a5, a6)
    | _ => none
  ok := by
    intro ls v h
    split at h
    · cases h; rfl
    · cases h

def f168_s_l00Srcamong.P : List Arg := [⟨.iop, ⟨false, [.rf .own [.sl .shr [.leaf], .leaf, .leaf]], [.ref [.lst 0 [], .int .i64 0, .int .u64 0]]⟩⟩, ⟨.io, ⟨false, [.sl .own [.leaf]], [.lst 0 []]⟩⟩]
def f168_s_l00Srcamong.A : RAlt (Int × Nat × List T × Int × Int × Nat × List T) := .one ⟨[⟨false, [.leaf], [.int .i64 0]⟩], [some ⟨false, [.rf .own [.sl .shr [.leaf], .leaf, .leaf]], [.ref [.lst 0 [], .int .i64 0, .int .u64 0]]⟩, some ⟨false, [.sl .own [.leaf]], [.lst 0 []]⟩]⟩ sg_iliil
def f168_s_l00Srcamong.F (n : Nat) (v : Nat × List T × Int × Int × Nat × List T) := f168_s_l00Srcamong n v.1 v.2.1 v.2.2.1 v.2.2.2.1 v.2.2.2.2.1 v.2.2.2.2.2
noncomputable def f168_s_l00Srcamong.O (n : Nat) : Orc := orcOf (E := E) [f97_s_l00Srcpick.w] [] n
theorem f168_s_l00Srcamong.ok : ∀ n v x, f168_s_l00Srcamong.F n v = some x → evalFn E n 168 (flAs f168_s_l00Srcamong.P (sg_liil.pk v)) = some (f168_s_l00Srcamong.A.enc x) :=
  fn_pure (modes := (fdAt 168).ms) (outs := (fdAt 168).os) (results := (fdAt 168).rs) f168_s_l00Srcamong.O (c := c168) (keep := keepAt 168) (by kernel_rfl) (fun n => orcOf_cf _ _ n) (fun n => lpOk_of (bs := []) (by kernel_rfl) .nil) (fun _ => rfl) (fun _ _ => by kernel_rfl)
noncomputable def f168_s_l00Srcamong.w : FnW E := fnW 168 f168_s_l00Srcamong.P sg_liil f168_s_l00Srcamong.A f168_s_l00Srcamong.F f168_s_l00Srcamong.ok

def f167_s_l01From : Nat → Int → Option (Nat)
  | 0, _ => none
  | n + 1, i1 =>
    bd (xF32frombits n (IntKind.u32.wrap i1)) fun r2 =>
    let x3 : Nat := r2
    some x3
def sg_f : Sig (Nat) where
  pk := fun v => [.flt v]
  up := fun ls => match ls with
    | [.flt a0] => some a0
    | _ => none
  ok := by
    intro ls v h
    split at h
    · cases h; rfl
    · cases h

def f167_s_l01From.P : List Arg := [⟨.val, ⟨false, [.leaf], [.int .i64 0]⟩⟩]
def f167_s_l01From.A : RAlt (Nat) := .one ⟨[⟨false, [.leaf], [.flt .f32 0]⟩], [none]⟩ sg_f
def f167_s_l01From.F (n : Nat) (v : Int) := f167_s_l01From n v
noncomputable def f167_s_l01From.O (n : Nat) : Orc := orcOf (E := E) [x183.w] [] n
theorem f167_s_l01From.ok : ∀ n v x, f167_s_l01From.F n v = some x → evalFn E n 167 (flAs f167_s_l01From.P (sg_i.pk v)) = some (f167_s_l01From.A.enc x) :=
  fn_pure (modes := (fdAt 167).ms) (outs := (fdAt 167).os) (results := (fdAt 167).rs) f167_s_l01From.O (c := c167) (keep := keepAt 167) (by kernel_rfl) (fun n => orcOf_cf _ _ n) (fun n => lpOk_of (bs := []) (by kernel_rfl) .nil) (fun _ => rfl) (fun _ _ => by kernel_rfl)
noncomputable def f167_s_l01From.w : FnW E := fnW 167 f167_s_l01From.P sg_i f167_s_l01From.A f167_s_l01From.F f167_s_l01From.ok

def f112_s_l01DrawFloat : Nat → Nat → List T → Int → Int → Option (Nat × Nat × List T × Int × Int)
  | 0, _, _, _, _ => none
  | n + 1, n1, l2, i3, i4 =>
    bd (f158_s_l00Srcone n n1 l2 i3 i4 (12 : Int)) fun r5 =>
    let b6 : Bool := r5.1
    let n7 : Nat := r5.2.1
    let l8 : List T := r5.2.2.1
    let i9 : Int := r5.2.2.2.1
    let i10 : Int := r5.2.2.2.2
    br (!b6) (
     bd (f91_s_l01DrawPlain n n7 l8 i9 i10) fun r11 =>
     let x12 : Nat := r11.1
     let n13 : Nat := r11.2.1
     let l14 : List T := r11.2.2.1
     let i15 : Int := r11.2.2.2.1
     let i16 : Int := r11.2.2.2.2
     some (x12, n13, l14, i15, i16)) (
     bd (f97_s_l00Srcpick n n7 l8 i9 i10 (4 : Int)) fun r17 =>
     let i18 : Int := r17.1
     let n19 : Nat := r17.2.1
     let l20 : List T := r17.2.2.1
     let i21 : Int := r17.2.2.2.1
     let i22 : Int := r17.2.2.2.2
     br (i18 == (0 : Int)) (
      bd (f168_s_l00Srcamong n n19 l20 i21 i22 10 (setN (setN (setN (setN (setN (setN (setN (setN (setN (setN (reps 10 [(T.int IntKind.i64 (0 : Int))]) 0 [(T.int IntKind.i64 (0 : Int))]) 1 [(T.int IntKind.i64 (2147483648 : Int))]) 2 [(T.int IntKind.i64 (2139095040 : Int))]) 3 [(T.int IntKind.i64 (4286578688 : Int))]) 4 [(T.int IntKind.i64 (2143289344 : Int))]) 5 [(T.int IntKind.i64 (1 : Int))]) 6 [(T.int IntKind.i64 (2139095039 : Int))]) 7 [(T.int IntKind.i64 (8388608 : Int))]) 8 [(T.int IntKind.i64 (8388607 : Int))]) 9 [(T.int IntKind.i64 (2147483649 : Int))])) fun r23 =>
      let i24 : Int := r23.1
      let n25 : Nat := r23.2.1
      let l26 : List T := r23.2.2.1
      let i27 : Int := r23.2.2.2.1
      let i28 : Int := r23.2.2.2.2.1
      let n29 : Nat := r23.2.2.2.2.2.1
      let l30 : List T := r23.2.2.2.2.2.2
      bd (f167_s_l01From n i24) fun r31 =>
      let x32 : Nat := r31
      some (x32, n25, l26, i27, i28)) (
      br (i18 == (1 : Int)) (
       bd (f97_s_l00Srcpick n n19 l20 i21 i22 (65536 : Int)) fun r33 =>
       let i34 : Int := r33.1
       let n35 : Nat := r33.2.1
       let l36 : List T := r33.2.2.1
       let i37 : Int := r33.2.2.2.1
       let i38 : Int := r33.2.2.2.2
       let i39 : Int := (IntKind.i64.wrap (i34 * (65536 : Int)))
       bd (f97_s_l00Srcpick n n35 l36 i37 i38 (65536 : Int)) fun r40 =>
       let i41 : Int := r40.1
       let n42 : Nat := r40.2.1
       let l43 : List T := r40.2.2.1
       let i44 : Int := r40.2.2.2.1
       let i45 : Int := r40.2.2.2.2
       bd (f167_s_l01From n (IntKind.i64.wrap (i39 + i41))) fun r46 =>
       let x47 : Nat := r46
       some (x47, n42, l43, i44, i45)) (
       br (i18 == (2 : Int)) (
        bd (f97_s_l00Srcpick n n19 l20 i21 i22 (65536 : Int)) fun r48 =>
        let i49 : Int := r48.1
        let n50 : Nat := r48.2.1
        let l51 : List T := r48.2.2.1
        let i52 : Int := r48.2.2.2.1
        let i53 : Int := r48.2.2.2.2
        bd (f167_s_l01From n (IntKind.i64.wrap (i49 * (65536 : Int)))) fun r54 =>
        let x55 : Nat := r54
        some (x55, n50, l51, i52, i53)) (
        bd (f91_s_l01DrawPlain n n19 l20 i21 i22) fun r56 =>
        let x57 : Nat := r56.1
        let n58 : Nat := r56.2.1
        let l59 : List T := r56.2.2.1
        let i60 : Int := r56.2.2.2.1
        let i61 : Int := r56.2.2.2.2
        bd (f168_s_l00Srcamong n n58 l59 i60 i61 4 (setN (setN (setN (setN (reps 4 [(T.int IntKind.i64 (0 : Int))]) 0 [(T.int IntKind.i64 (8388608 : Int))]) 1 [(T.int IntKind.i64 (2130706432 : Int))]) 2 [(T.int IntKind.i64 (1610612736 : Int))]) 3 [(T.int IntKind.i64 (536870912 : Int))])) fun r62 =>
        let i63 : Int := r62.1
        let n64 : Nat := r62.2.1
        let l65 : List T := r62.2.2.1
        let i66 : Int := r62.2.2.2.1
        let i67 : Int := r62.2.2.2.2.1
        let n68 : Nat := r62.2.2.2.2.2.1
        let l69 : List T := r62.2.2.2.2.2.2
        bd (f167_s_l01From n i63) fun r70 =>
        let x71 : Nat := r70
        some ((fmul FloatKind.f32 x57 x71), n64, l65, i66, i67)))))
def f112_s_l01DrawFloat.P : List Arg := [⟨.iop, ⟨false, [.rf .own [.sl .shr [.leaf], .leaf, .leaf]], [.ref [.lst 0 [], .int .i64 0, .int .u64 0]]⟩⟩]
def f112_s_l01DrawFloat.A : RAlt (Nat × Nat × List T × Int × Int) := .one ⟨[⟨false, [.leaf], [.flt .f32 0]⟩], [some ⟨false, [.rf .own [.sl .shr [.leaf], .leaf, .leaf]], [.ref [.lst 0 [], .int .i64 0, .int .u64 0]]⟩]⟩ sg_flii
def f112_s_l01DrawFloat.F (n : Nat) (v : Nat × List T × Int × Int) := f112_s_l01DrawFloat n v.1 v.2.1 v.2.2.1 v.2.2.2
noncomputable def f112_s_l01DrawFloat.O (n : Nat) : Orc := orcOf (E := E) [f97_s_l00Srcpick.w, f158_s_l00Srcone.w, f91_s_l01DrawPlain.w, f168_s_l00Srcamong.w, f167_s_l01From.w] [] n
theorem f112_s_l01DrawFloat.ok : ∀ n v x, f112_s_l01DrawFloat.F n v = some x → evalFn E n 112 (flAs f112_s_l01DrawFloat.P (sg_lii.pk v)) = some (f112_s_l01DrawFloat.A.enc x) :=
  fn_pure (modes := (fdAt 112).ms) (outs := (fdAt 112).os) (results := (fdAt 112).rs) f112_s_l01DrawFloat.O (c := c112) (keep := keepAt 112) (by kernel_rfl) (fun n => orcOf_cf _ _ n) (fun n => lpOk_of (bs := []) (by kernel_rfl) .nil) (fun _ => rfl) (fun _ _ => by kernel_rfl)
noncomputable def f112_s_l01DrawFloat.w : FnW E := fnW 112 f112_s_l01DrawFloat.P sg_lii f112_s_l01DrawFloat.A f112_s_l01DrawFloat.F f112_s_l01DrawFloat.ok

def f98_s_l01DrawFloats.l0 (n : Nat) : Nat → Nat → List T → Int → Int → Int → Nat → List T → Bool → Option (Nat × List T × Int × Int × Nat × List T)
  | 0, _, _, _, _, _, _, _, _ => none
  | m + 1, n1, l2, i3, i4, i5, n6, l7, b8 =>
    br (decide (i5 > (0 : Int))) (
     br b8 (
      bd (f112_s_l01DrawFloat n n1 l2 i3 i4) fun r9 =>
      let x10 : Nat := r9.1
      let n11 : Nat := r9.2.1
      let l12 : List T := r9.2.2.1
      let i13 : Int := r9.2.2.2.1
      let i14 : Int := r9.2.2.2.2
      gd (Nat.ble (n6 + 1) 2147483648) (
      let n15 : Nat := (n6 + 1)
      let l16 : List T := (l7 ++ (setN (reps 1 [(T.flt FloatKind.f32 0)]) 0 [(T.flt FloatKind.f32 x10)]))
      f98_s_l01DrawFloats.l0 n m n11 l12 i13 i14 (IntKind.i64.wrap (i5 - (1 : Int))) n15 l16 b8)) (
      bd (f91_s_l01DrawPlain n n1 l2 i3 i4) fun r17 =>
      let x18 : Nat := r17.1
      let n19 : Nat := r17.2.1
      let l20 : List T := r17.2.2.1
      let i21 : Int := r17.2.2.2.1
      let i22 : Int := r17.2.2.2.2
      gd (Nat.ble (n6 + 1) 2147483648) (
      let n23 : Nat := (n6 + 1)
      let l24 : List T := (l7 ++ (setN (reps 1 [(T.flt FloatKind.f32 0)]) 0 [(T.flt FloatKind.f32 x18)]))
      f98_s_l01DrawFloats.l0 n m n19 l20 i21 i22 (IntKind.i64.wrap (i5 - (1 : Int))) n23 l24 b8))) (
     some (n1, l2, i3, i4, n6, l7))
def f98_s_l01DrawFloats : Nat → Nat → List T → Int → Int → Int → Option (Nat × List T × Nat × List T × Int × Int)
  | 0, _, _, _, _, _ => none
  | n + 1, n1, l2, i3, i4, i5 =>
    bd (f158_s_l00Srcone n n1 l2 i3 i4 (4 : Int)) fun r6 =>
    let b7 : Bool := r6.1
    let n8 : Nat := r6.2.1
    let l9 : List T := r6.2.2.1
    let i10 : Int := r6.2.2.2.1
    let i11 : Int := r6.2.2.2.2
    bd (f98_s_l01DrawFloats.l0 n n n8 l9 i10 i11 i5 0 (reps 0 [(T.flt FloatKind.f32 0)]) b7) fun r12 =>
    let n13 : Nat := r12.1
    let l14 : List T := r12.2.1
    let i15 : Int := r12.2.2.1
    let i16 : Int := r12.2.2.2.1
    let n17 : Nat := r12.2.2.2.2.1
    let l18 : List T := r12.2.2.2.2.2
    some (n17, l18, n13, l14, i15, i16)
def sg_llii : Sig (Nat × List T × Nat × List T × Int × Int) where
  pk := fun v => [.lst v.1 v.2.1, .lst v.2.2.1 v.2.2.2.1, .int v.2.2.2.2.1, .int v.2.2.2.2.2]
  up := fun ls => match ls with
    | [.lst a0 a1, .lst a2 a3, .int a4, .int a5] => some (a0, a1, a2, a3, a4, a5)
    | _ => none
  ok := by
    intro ls v h
    split at h
    · cases h; rfl
    · cases h

def sg_liiilb : Sig (Nat × List T × Int × Int × Int × Nat × List T × Bool) where
  pk := fun v => [.lst v.1 v.2.1, .int v.2.2.1, .int v.2.2.2.1, .int v.2.2.2.2.1, .lst v.2.2.2.2.2.1 v.2.2.2.2.2.2.1, .bool v.2.2.2.2.2.2.2]
  up := fun ls => match ls with
    | [.lst a0 a1, .int a2, .int a3, .int a4, .lst a5 a6, .bool a7] => some (a0, a1, a2, a3, a4, a5, a6, a7)
    | _ => none
  ok := by
    intro ls v h
    split at h
    · cases h; rfl
    · cases h

def f98_s_l01DrawFloats.l0.P : AS := ⟨[(0, .box [.sl .shr [.leaf], .leaf, .leaf] [.lst 0 [], .int .i64 0, .int .u64 0] [] 0), (1, .val false [.leaf] [.int .i64 0] [] 0), (5, .val false [.sl .own [.leaf]] [.lst 0 []] [] 0), (6, .val false [.leaf] [.bool false] [] 0)], 0⟩
def f98_s_l01DrawFloats.l0.A : Alt (Nat × List T × Int × Int × Nat × List T) := .one (.exit 0) ⟨[(0, .box [.sl .shr [.leaf], .leaf, .leaf] [.lst 0 [], .int .i64 0, .int .u64 0] [] 0), (5, .val false [.sl .own [.leaf]] [.lst 0 []] [] 0)], 0⟩ sg_liil
def f98_s_l01DrawFloats.l0.F (n m : Nat) (v : Nat × List T × Int × Int × Int × Nat × List T × Bool) := f98_s_l01DrawFloats.l0 n m v.1 v.2.1 v.2.2.1 v.2.2.2.1 v.2.2.2.2.1 v.2.2.2.2.2.1 v.2.2.2.2.2.2.1 v.2.2.2.2.2.2.2
def f98_s_l01DrawFloats.l0.W (n : Nat) : LpW := .of 48 f98_s_l01DrawFloats.l0.P sg_liiilb f98_s_l01DrawFloats.l0.A (f98_s_l01DrawFloats.l0.F n n)
def f98_s_l01DrawFloats.P : List Arg := [⟨.iop, ⟨false, [.rf .own [.sl .shr [.leaf], .leaf, .leaf]], [.ref [.lst 0 [], .int .i64 0, .int .u64 0]]⟩⟩, ⟨.val, ⟨false, [.leaf], [.int .i64 0]⟩⟩]
def f98_s_l01DrawFloats.A : RAlt (Nat × List T × Nat × List T × Int × Int) := .one ⟨[⟨false, [.sl .own [.leaf]], [.lst 0 []]⟩], [some ⟨false, [.rf .own [.sl .shr [.leaf], .leaf, .leaf]], [.ref [.lst 0 [], .int .i64 0, .int .u64 0]]⟩, none]⟩ sg_llii
def f98_s_l01DrawFloats.F (n : Nat) (v : Nat × List T × Int × Int × Int) := f98_s_l01DrawFloats n v.1 v.2.1 v.2.2.1 v.2.2.2.1 v.2.2.2.2
noncomputable def f98_s_l01DrawFloats.O (n : Nat) : Orc := orcOf (E := E) [f158_s_l00Srcone.w, f91_s_l01DrawPlain.w, f112_s_l01DrawFloat.w] [f98_s_l01DrawFloats.l0.W n] n
theorem f98_s_l01DrawFloats.l0.ok (n : Nat) : LpOk (f98_s_l01DrawFloats.O n) E (evalFn E n) n (keepAt 98) (.loop (loopAt c98 0)) :=
  lp_pure f98_s_l01DrawFloats.l0.P sg_liiilb f98_s_l01DrawFloats.l0.A (f98_s_l01DrawFloats.l0.F n) (orcOf_cf _ _ n) (lpOk_of (bs := []) (by kernel_rfl) .nil) (fun _ => rfl) (fun _ _ => by kernel_rfl) (fun _ _ _ => by kernel_rfl)
theorem f98_s_l01DrawFloats.ok : ∀ n v x, f98_s_l01DrawFloats.F n v = some x → evalFn E n 98 (flAs f98_s_l01DrawFloats.P (sg_liii.pk v)) = some (f98_s_l01DrawFloats.A.enc x) :=
  fn_pure (modes := (fdAt 98).ms) (outs := (fdAt 98).os) (results := (fdAt 98).rs) f98_s_l01DrawFloats.O (c := c98) (keep := keepAt 98) (by kernel_rfl) (fun n => orcOf_cf _ _ n) (fun n => lpOk_of (bs := [loopAt c98 0]) (by kernel_rfl) (.cons (f98_s_l01DrawFloats.l0.ok n) .nil)) (fun _ => rfl) (fun _ _ => by kernel_rfl)
noncomputable def f98_s_l01DrawFloats.w : FnW E := fnW 98 f98_s_l01DrawFloats.P sg_liii f98_s_l01DrawFloats.A f98_s_l01DrawFloats.F f98_s_l01DrawFloats.ok

def f30_s_B10Numbers : Nat → Nat → List T → Int → Option (Nat × List T)
  | 0, _, _, _ => none
  | n + 1, n1, l2, i3 =>
    bd (f90_s_l00From n n1 l2) fun r4 =>
    let n5 : Nat := r4.1
    let l6 : List T := r4.2.1
    let i7 : Int := r4.2.2.1
    let i8 : Int := r4.2.2.2
    bd (f98_s_l01DrawFloats n n5 l6 i7 i8 i3) fun r9 =>
    let n10 : Nat := r9.1
    let l11 : List T := r9.2.1
    let n12 : Nat := r9.2.2.1
    let l13 : List T := r9.2.2.2.1
    let i14 : Int := r9.2.2.2.2.1
    let i15 : Int := r9.2.2.2.2.2
    some (n10, l11)
def sg_li : Sig (Nat × List T × Int) where
  pk := fun v => [.lst v.1 v.2.1, .int v.2.2]
  up := fun ls => match ls with
    | [.lst a0 a1, .int a2] => some (a0, a1, a2)
    | _ => none
  ok := by
    intro ls v h
    split at h
    · cases h; rfl
    · cases h

def f30_s_B10Numbers.P : List Arg := [⟨.val, ⟨false, [.sl .shr [.leaf]], [.lst 0 []]⟩⟩, ⟨.val, ⟨false, [.leaf], [.int .i64 0]⟩⟩]
def f30_s_B10Numbers.A : RAlt (Nat × List T) := .one ⟨[⟨false, [.sl .own [.leaf]], [.lst 0 []]⟩], [none, none]⟩ sg_l
def f30_s_B10Numbers.F (n : Nat) (v : Nat × List T × Int) := f30_s_B10Numbers n v.1 v.2.1 v.2.2
noncomputable def f30_s_B10Numbers.O (n : Nat) : Orc := orcOf (E := E) [f90_s_l00From.w, f98_s_l01DrawFloats.w] [] n
theorem f30_s_B10Numbers.ok : ∀ n v x, f30_s_B10Numbers.F n v = some x → evalFn E n 30 (flAs f30_s_B10Numbers.P (sg_li.pk v)) = some (f30_s_B10Numbers.A.enc x) :=
  fn_pure (modes := (fdAt 30).ms) (outs := (fdAt 30).os) (results := (fdAt 30).rs) f30_s_B10Numbers.O (c := c30) (keep := keepAt 30) (by kernel_rfl) (fun n => orcOf_cf _ _ n) (fun n => lpOk_of (bs := []) (by kernel_rfl) .nil) (fun _ => rfl) (fun _ _ => by kernel_rfl)
noncomputable def f30_s_B10Numbers.w : FnW E := fnW 30 f30_s_B10Numbers.P sg_li f30_s_B10Numbers.A f30_s_B10Numbers.F f30_s_B10Numbers.ok

def f5_l_FnSums.l0 (n : Nat) : Nat → Nat → List T → Int → Nat → List T → Nat → List T → Nat → Int → Option (Nat × List T × Int × Nat × List T × Nat × List T × Nat)
  | 0, _, _, _, _, _, _, _, _, _ => none
  | m + 1, n1, l2, i3, n4, l5, n6, l7, x8, i9 =>
    br (decide (i9 < i3)) (
     gd (Nat.ble (n6 + 1) 2147483648) (
     let n10 : Nat := (n6 + 1)
     let l11 : List T := (l7 ++ (setN (reps 1 [(T.flt FloatKind.f32 0)]) 0 [(T.flt FloatKind.f32 1065353216)]))
     gd (decide (((0 : Int) ≤ i9) ∧ (i9 < ((n4 : Nat) : Int)))) (
     gd (okAt [(CK.flt FloatKind.f32)] l5 (Int.toNat i9)) (
     let x12 : Nat := (fadd FloatKind.f32 x8 (fAt l5 (Int.toNat i9)))
     f5_l_FnSums.l0 n m n1 l2 i3 n4 l5 n10 l11 x12 (IntKind.i64.wrap (i9 + (1 : Int))))))) (
     some (n1, l2, i3, n4, l5, n6, l7, x8))
def f92_i_areSamples : Nat → Nat → List T → Option (Bool)
  | 0, _, _ => none
  | n + 1, n1, l2 =>
    some (decide (((n1 : Nat) : Int) ≤ (256 : Int)))
def f92_i_areSamples.P : List Arg := [⟨.val, ⟨false, [.sl .shr [.leaf]], [.lst 0 []]⟩⟩]
def f92_i_areSamples.A : RAlt (Bool) := .one ⟨[⟨false, [.leaf], [.bool false]⟩], [none]⟩ sg_b
def f92_i_areSamples.F (n : Nat) (v : Nat × List T) := f92_i_areSamples n v.1 v.2
noncomputable def f92_i_areSamples.O (n : Nat) : Orc := orcOf (E := E) [] [] n
theorem f92_i_areSamples.ok : ∀ n v x, f92_i_areSamples.F n v = some x → evalFn E n 92 (flAs f92_i_areSamples.P (sg_l.pk v)) = some (f92_i_areSamples.A.enc x) :=
  fn_pure (modes := (fdAt 92).ms) (outs := (fdAt 92).os) (results := (fdAt 92).rs) f92_i_areSamples.O (c := c92) (keep := keepAt 92) (by kernel_rfl) (fun n => orcOf_cf _ _ n) (fun n => lpOk_of (bs := []) (by kernel_rfl) .nil) (fun _ => rfl) (fun _ _ => by kernel_rfl)
noncomputable def f92_i_areSamples.w : FnW E := fnW 92 f92_i_areSamples.P sg_l f92_i_areSamples.A f92_i_areSamples.F f92_i_areSamples.ok

def f104_i_sumOf.l0 (n : Nat) : Nat → Nat → List T → Nat → Nat → List T → Int → Int → Option (Nat)
  | 0, _, _, _, _, _, _, _ => none
  | m + 1, n1, l2, x3, n4, l5, i6, i7 =>
    br (decide (i7 < i6)) (
     gd ((decide (((0 : Int) ≤ i7) ∧ (i7 < ((n4 : Nat) : Int)))) && (okAt [(CK.flt FloatKind.f32)] l5 (Int.toNat i7))) (
     let x8 : Nat := (fAt l5 (Int.toNat i7))
     let x9 : Nat := (fadd FloatKind.f32 x3 x8)
     f104_i_sumOf.l0 n m n1 l2 x9 n4 l5 i6 (IntKind.i64.wrap (i7 + (1 : Int))))) (
     some x3)
def f104_i_sumOf : Nat → Nat → List T → Option (Nat)
  | 0, _, _ => none
  | n + 1, n1, l2 =>
    bd (f104_i_sumOf.l0 n n n1 l2 0 n1 l2 ((n1 : Nat) : Int) (0 : Int)) fun r3 =>
    let x4 : Nat := r3
    some x4
def sg_lflii : Sig (Nat × List T × Nat × Nat × List T × Int × Int) where
  pk := fun v => [.lst v.1 v.2.1, .flt v.2.2.1, .lst v.2.2.2.1 v.2.2.2.2.1, .int v.2.2.2.2.2.1, .int v.2.2.2.2.2.2]
  up := fun ls => match ls with
    | [.lst a0 a1, .flt a2, .lst a3 a4, .int a5, .int a6] => some (a0, a1, a2, a3, a4, a5, a6)
    | _ => none
  ok := by
    intro ls v h
    split at h
    · cases h; rfl
    · cases h

def f104_i_sumOf.l0.P : AS := ⟨[(0, .val false [.sl .shr [.leaf]] [.lst 0 []] [] 0), (3, .val false [.leaf] [.flt .f32 0] [] 0), (6, .val false [.sl .shr [.leaf]] [.lst 0 []] [] 0), (7, .val false [.leaf] [.int .i64 0] [] 0), (8, .val false [.leaf] [.int .i64 0] [] 0)], 0⟩
def f104_i_sumOf.l0.A : Alt (Nat) := .one (.exit 0) ⟨[(3, .val false [.leaf] [.flt .f32 0] [] 0)], 0⟩ sg_f
def f104_i_sumOf.l0.F (n m : Nat) (v : Nat × List T × Nat × Nat × List T × Int × Int) := f104_i_sumOf.l0 n m v.1 v.2.1 v.2.2.1 v.2.2.2.1 v.2.2.2.2.1 v.2.2.2.2.2.1 v.2.2.2.2.2.2
def f104_i_sumOf.l0.W (n : Nat) : LpW := .of 48 f104_i_sumOf.l0.P sg_lflii f104_i_sumOf.l0.A (f104_i_sumOf.l0.F n n)
def f104_i_sumOf.P : List Arg := [⟨.val, ⟨false, [.sl .shr [.leaf]], [.lst 0 []]⟩⟩]
def f104_i_sumOf.A : RAlt (Nat) := .one ⟨[⟨false, [.leaf], [.flt .f32 0]⟩], [none]⟩ sg_f
def f104_i_sumOf.F (n : Nat) (v : Nat × List T) := f104_i_sumOf n v.1 v.2
noncomputable def f104_i_sumOf.O (n : Nat) : Orc := orcOf (E := E) [] [f104_i_sumOf.l0.W n] n
theorem f104_i_sumOf.l0.ok (n : Nat) : LpOk (f104_i_sumOf.O n) E (evalFn E n) n (keepAt 104) (.loop (loopAt c104 0)) :=
  lp_pure f104_i_sumOf.l0.P sg_lflii f104_i_sumOf.l0.A (f104_i_sumOf.l0.F n) (orcOf_cf _ _ n) (lpOk_of (bs := []) (by kernel_rfl) .nil) (fun _ => rfl) (fun _ _ => by kernel_rfl) (fun _ _ _ => by kernel_rfl)
theorem f104_i_sumOf.ok : ∀ n v x, f104_i_sumOf.F n v = some x → evalFn E n 104 (flAs f104_i_sumOf.P (sg_l.pk v)) = some (f104_i_sumOf.A.enc x) :=
  fn_pure (modes := (fdAt 104).ms) (outs := (fdAt 104).os) (results := (fdAt 104).rs) f104_i_sumOf.O (c := c104) (keep := keepAt 104) (by kernel_rfl) (fun n => orcOf_cf _ _ n) (fun n => lpOk_of (bs := [loopAt c104 0]) (by kernel_rfl) (.cons (f104_i_sumOf.l0.ok n) .nil)) (fun _ => rfl) (fun _ _ => by kernel_rfl)
noncomputable def f104_i_sumOf.w : FnW E := fnW 104 f104_i_sumOf.P sg_l f104_i_sumOf.A f104_i_sumOf.F f104_i_sumOf.ok

def f31_i_SumNumbers : Nat → Nat → List T → Option (Nat × Bool)
  | 0, _, _ => none
  | n + 1, n1, l2 =>
    bd (f92_i_areSamples n n1 l2) fun r3 =>
    let b4 : Bool := r3
    br (!b4) (
     some (0, false)) (
     bd (f104_i_sumOf n n1 l2) fun r5 =>
     let x6 : Nat := r5
     some (x6, true))
def sg_fb : Sig (Nat × Bool) where
  pk := fun v => [.flt v.1, .bool v.2]
  up := fun ls => match ls with
    | [.flt a0, .bool a1] => some (a0, a1)
    | _ => none
  ok := by
    intro ls v h
    split at h
    · cases h; rfl
    · cases h

def f31_i_SumNumbers.P : List Arg := [⟨.val, ⟨false, [.sl .shr [.leaf]], [.lst 0 []]⟩⟩]
def f31_i_SumNumbers.A : RAlt (Nat × Bool) := .one ⟨[⟨false, [.leaf], [.flt .f32 0]⟩, ⟨false, [.leaf], [.bool false]⟩], [none]⟩ sg_fb
def f31_i_SumNumbers.F (n : Nat) (v : Nat × List T) := f31_i_SumNumbers n v.1 v.2
noncomputable def f31_i_SumNumbers.O (n : Nat) : Orc := orcOf (E := E) [f92_i_areSamples.w, f104_i_sumOf.w] [] n
theorem f31_i_SumNumbers.ok : ∀ n v x, f31_i_SumNumbers.F n v = some x → evalFn E n 31 (flAs f31_i_SumNumbers.P (sg_l.pk v)) = some (f31_i_SumNumbers.A.enc x) :=
  fn_pure (modes := (fdAt 31).ms) (outs := (fdAt 31).os) (results := (fdAt 31).rs) f31_i_SumNumbers.O (c := c31) (keep := keepAt 31) (by kernel_rfl) (fun n => orcOf_cf _ _ n) (fun n => lpOk_of (bs := []) (by kernel_rfl) .nil) (fun _ => rfl) (fun _ _ => by kernel_rfl)
noncomputable def f31_i_SumNumbers.w : FnW E := fnW 31 f31_i_SumNumbers.P sg_l f31_i_SumNumbers.A f31_i_SumNumbers.F f31_i_SumNumbers.ok

def f94_i_dot.l0 (n : Nat) : Nat → Nat → List T → Nat → List T → Nat → Int → Int → Option (Nat)
  | 0, _, _, _, _, _, _, _ => none
  | m + 1, n1, l2, n3, l4, x5, i6, i7 =>
    br (decide (i7 < i6)) (
     gd ((decide (((0 : Int) ≤ i7) ∧ (i7 < ((n1 : Nat) : Int)))) && (okAt [(CK.flt FloatKind.f32)] l2 (Int.toNat i7))) (
     gd ((decide (((0 : Int) ≤ i7) ∧ (i7 < ((n3 : Nat) : Int)))) && (okAt [(CK.flt FloatKind.f32)] l4 (Int.toNat i7))) (
     let x8 : Nat := (fadd FloatKind.f32 x5 (fmul FloatKind.f32 (fAt l2 (Int.toNat i7)) (fAt l4 (Int.toNat i7))))
     f94_i_dot.l0 n m n1 l2 n3 l4 x8 i6 (IntKind.i64.wrap (i7 + (1 : Int)))))) (
     some x5)
def f94_i_dot : Nat → Nat → List T → Nat → List T → Option (Nat)
  | 0, _, _, _, _ => none
  | n + 1, n1, l2, n3, l4 =>
    bd (f94_i_dot.l0 n n n1 l2 n3 l4 0 ((n1 : Nat) : Int) (0 : Int)) fun r5 =>
    let x6 : Nat := r5
    some x6
def sg_llfii : Sig (Nat × List T × Nat × List T × Nat × Int × Int) where
  pk := fun v => [.lst v.1 v.2.1, .lst v.2.2.1 v.2.2.2.1, .flt v.2.2.2.2.1, .int v.2.2.2.2.2.1, .int v.2.2.2.2.2.2]
  up := fun ls => match ls with
    | [.lst a0 a1, .lst a2 a3, .flt a4, .int a5, .int a6] => some (a0, a1, a2, a3, a4, a5, a6)
    | _ => none
  ok := by
    intro ls v h
    split at h
    · cases h; rfl
    · cases h

def f94_i_dot.l0.P : AS := ⟨[(0, .val false [.sl .shr [.leaf]] [.lst 0 []] [] 0), (1, .val false [.sl .shr [.leaf]] [.lst 0 []] [] 0), (5, .val false [.leaf] [.flt .f32 0] [] 0), (8, .val false [.leaf] [.int .i64 0] [] 0), (9, .val false [.leaf] [.int .i64 0] [] 0)], 0⟩
def f94_i_dot.l0.A : Alt (Nat) := .one (.exit 0) ⟨[(5, .val false [.leaf] [.flt .f32 0] [] 0)], 0⟩ sg_f
def f94_i_dot.l0.F (n m : Nat) (v : Nat × List T × Nat × List T × Nat × Int × Int) := f94_i_dot.l0 n m v.1 v.2.1 v.2.2.1 v.2.2.2.1 v.2.2.2.2.1 v.2.2.2.2.2.1 v.2.2.2.2.2.2
def f94_i_dot.l0.W (n : Nat) : LpW := .of 48 f94_i_dot.l0.P sg_llfii f94_i_dot.l0.A (f94_i_dot.l0.F n n)
def f94_i_dot.P : List Arg := [⟨.val, ⟨false, [.sl .shr [.leaf]], [.lst 0 []]⟩⟩, ⟨.val, ⟨false, [.sl .shr [.leaf]], [.lst 0 []]⟩⟩]
def f94_i_dot.A : RAlt (Nat) := .one ⟨[⟨false, [.leaf], [.flt .f32 0]⟩], [none, none]⟩ sg_f
def f94_i_dot.F (n : Nat) (v : Nat × List T × Nat × List T) := f94_i_dot n v.1 v.2.1 v.2.2.1 v.2.2.2
noncomputable def f94_i_dot.O (n : Nat) : Orc := orcOf (E := E) [] [f94_i_dot.l0.W n] n
theorem f94_i_dot.l0.ok (n : Nat) : LpOk (f94_i_dot.O n) E (evalFn E n) n (keepAt 94) (.loop (loopAt c94 0)) :=
  lp_pure f94_i_dot.l0.P sg_llfii f94_i_dot.l0.A (f94_i_dot.l0.F n) (orcOf_cf _ _ n) (lpOk_of (bs := []) (by kernel_rfl) .nil) (fun _ => rfl) (fun _ _ => by kernel_rfl) (fun _ _ _ => by kernel_rfl)
theorem f94_i_dot.ok : ∀ n v x, f94_i_dot.F n v = some x → evalFn E n 94 (flAs f94_i_dot.P (sg_ll.pk v)) = some (f94_i_dot.A.enc x) :=
  fn_pure (modes := (fdAt 94).ms) (outs := (fdAt 94).os) (results := (fdAt 94).rs) f94_i_dot.O (c := c94) (keep := keepAt 94) (by kernel_rfl) (fun n => orcOf_cf _ _ n) (fun n => lpOk_of (bs := [loopAt c94 0]) (by kernel_rfl) (.cons (f94_i_dot.l0.ok n) .nil)) (fun _ => rfl) (fun _ _ => by kernel_rfl)
noncomputable def f94_i_dot.w : FnW E := fnW 94 f94_i_dot.P sg_ll f94_i_dot.A f94_i_dot.F f94_i_dot.ok

def f20_i_DotNumbers : Nat → Nat → List T → Nat → List T → Option (Nat × Bool)
  | 0, _, _, _, _ => none
  | n + 1, n1, l2, n3, l4 =>
    bd (f92_i_areSamples n n1 l2) fun r5 =>
    let b6 : Bool := r5
    br (!b6) (
     some (0, false)) (
     br (((n1 : Nat) : Int) != ((n3 : Nat) : Int)) (
      some (0, false)) (
      bd (f94_i_dot n n1 l2 n3 l4) fun r7 =>
      let x8 : Nat := r7
      some (x8, true)))
def f20_i_DotNumbers.P : List Arg := [⟨.val, ⟨false, [.sl .shr [.leaf]], [.lst 0 []]⟩⟩, ⟨.val, ⟨false, [.sl .shr [.leaf]], [.lst 0 []]⟩⟩]
def f20_i_DotNumbers.A : RAlt (Nat × Bool) := .one ⟨[⟨false, [.leaf], [.flt .f32 0]⟩, ⟨false, [.leaf], [.bool false]⟩], [none, none]⟩ sg_fb
def f20_i_DotNumbers.F (n : Nat) (v : Nat × List T × Nat × List T) := f20_i_DotNumbers n v.1 v.2.1 v.2.2.1 v.2.2.2
noncomputable def f20_i_DotNumbers.O (n : Nat) : Orc := orcOf (E := E) [f92_i_areSamples.w, f94_i_dot.w] [] n
theorem f20_i_DotNumbers.ok : ∀ n v x, f20_i_DotNumbers.F n v = some x → evalFn E n 20 (flAs f20_i_DotNumbers.P (sg_ll.pk v)) = some (f20_i_DotNumbers.A.enc x) :=
  fn_pure (modes := (fdAt 20).ms) (outs := (fdAt 20).os) (results := (fdAt 20).rs) f20_i_DotNumbers.O (c := c20) (keep := keepAt 20) (by kernel_rfl) (fun n => orcOf_cf _ _ n) (fun n => lpOk_of (bs := []) (by kernel_rfl) .nil) (fun _ => rfl) (fun _ _ => by kernel_rfl)
noncomputable def f20_i_DotNumbers.w : FnW E := fnW 20 f20_i_DotNumbers.P sg_ll f20_i_DotNumbers.A f20_i_DotNumbers.F f20_i_DotNumbers.ok

def f105_i_sumPairs : Nat → Nat → List T → Option (Nat)
  | 0, _, _ => none
  | n + 1, n1, l2 =>
    let i3 : Int := ((n1 : Nat) : Int)
    br (i3 == (0 : Int)) (
     some 0) (
     br (i3 == (1 : Int)) (
      gd ((decide (((0 : Int) ≤ (0 : Int)) ∧ ((0 : Int) < ((n1 : Nat) : Int)))) && (okAt [(CK.flt FloatKind.f32)] l2 0)) (
      some (fAt l2 0))) (
      let i4 : Int := (IntKind.i64.wrap (Int.tdiv (IntKind.i64.wrap (((n1 : Nat) : Int) + (1 : Int))) (2 : Int)))
      gd (decide (((0 : Int) ≤ (0 : Int)) ∧ (((0 : Int) ≤ i4) ∧ (i4 ≤ ((n1 : Nat) : Int))))) (
      bd (f105_i_sumPairs n ((Int.toNat i4) - 0) (List.take ((Int.toNat i4) - 0) (List.drop 0 l2))) fun r5 =>
      let x6 : Nat := r5
      gd (decide (((0 : Int) ≤ i4) ∧ ((i4 ≤ ((n1 : Nat) : Int)) ∧ (((n1 : Nat) : Int) ≤ ((n1 : Nat) : Int))))) (
      bd (f105_i_sumPairs n (n1 - (Int.toNat i4)) (List.take (n1 - (Int.toNat i4)) (List.drop (Int.toNat i4) l2))) fun r7 =>
      let x8 : Nat := r7
      some (fadd FloatKind.f32 x6 x8)))))
def f105_i_sumPairs.P : List Arg := [⟨.val, ⟨false, [.sl .shr [.leaf]], [.lst 0 []]⟩⟩]
def f105_i_sumPairs.A : RAlt (Nat) := .one ⟨[⟨false, [.leaf], [.flt .f32 0]⟩], [none]⟩ sg_f
def f105_i_sumPairs.F (n : Nat) (v : Nat × List T) := f105_i_sumPairs n v.1 v.2
noncomputable def f105_i_sumPairs.O (n : Nat) (h : ∀ v x, f105_i_sumPairs.F n v = some x → evalFn E n 105 (flAs f105_i_sumPairs.P (sg_l.pk v)) = some (f105_i_sumPairs.A.enc x)) : Orc := orcOfA (E := E) (n := n) [fnA 105 f105_i_sumPairs.P sg_l f105_i_sumPairs.A (f105_i_sumPairs.F n) h] []
theorem f105_i_sumPairs.ok : ∀ n v x, f105_i_sumPairs.F n v = some x → evalFn E n 105 (flAs f105_i_sumPairs.P (sg_l.pk v)) = some (f105_i_sumPairs.A.enc x) :=
  fn_rec (modes := (fdAt 105).ms) (outs := (fdAt 105).os) (results := (fdAt 105).rs) f105_i_sumPairs.O (c := c105) (keep := keepAt 105) (by kernel_rfl) (fun n h => orcOfA_cf _ _) (fun n h => lpOk_of (bs := []) (by kernel_rfl) .nil) (fun _ => rfl) (fun _ _ _ => by kernel_rfl)
noncomputable def f105_i_sumPairs.w : FnW E := fnW 105 f105_i_sumPairs.P sg_l f105_i_sumPairs.A f105_i_sumPairs.F f105_i_sumPairs.ok

def f32_i_SumPairs : Nat → Nat → List T → Option (Nat × Bool)
  | 0, _, _ => none
  | n + 1, n1, l2 =>
    bd (f92_i_areSamples n n1 l2) fun r3 =>
    let b4 : Bool := r3
    br (!b4) (
     some (0, false)) (
     bd (f105_i_sumPairs n n1 l2) fun r5 =>
     let x6 : Nat := r5
     some (x6, true))
def f32_i_SumPairs.P : List Arg := [⟨.val, ⟨false, [.sl .shr [.leaf]], [.lst 0 []]⟩⟩]
def f32_i_SumPairs.A : RAlt (Nat × Bool) := .one ⟨[⟨false, [.leaf], [.flt .f32 0]⟩, ⟨false, [.leaf], [.bool false]⟩], [none]⟩ sg_fb
def f32_i_SumPairs.F (n : Nat) (v : Nat × List T) := f32_i_SumPairs n v.1 v.2
noncomputable def f32_i_SumPairs.O (n : Nat) : Orc := orcOf (E := E) [f92_i_areSamples.w, f105_i_sumPairs.w] [] n
theorem f32_i_SumPairs.ok : ∀ n v x, f32_i_SumPairs.F n v = some x → evalFn E n 32 (flAs f32_i_SumPairs.P (sg_l.pk v)) = some (f32_i_SumPairs.A.enc x) :=
  fn_pure (modes := (fdAt 32).ms) (outs := (fdAt 32).os) (results := (fdAt 32).rs) f32_i_SumPairs.O (c := c32) (keep := keepAt 32) (by kernel_rfl) (fun n => orcOf_cf _ _ n) (fun n => lpOk_of (bs := []) (by kernel_rfl) .nil) (fun _ => rfl) (fun _ _ => by kernel_rfl)
noncomputable def f32_i_SumPairs.w : FnW E := fnW 32 f32_i_SumPairs.P sg_l f32_i_SumPairs.A f32_i_SumPairs.F f32_i_SumPairs.ok

def f165_s_l01Bits : Nat → Nat → Option (Int)
  | 0, _ => none
  | n + 1, x1 =>
    br (fne FloatKind.f32 x1 x1) (
     some (2143289344 : Int)) (
     bd (xF32bits n x1) fun r2 =>
     let i3 : Int := r2
     some (IntKind.i64.wrap i3))
def f165_s_l01Bits.P : List Arg := [⟨.val, ⟨false, [.leaf], [.flt .f32 0]⟩⟩]
def f165_s_l01Bits.A : RAlt (Int) := .one ⟨[⟨false, [.leaf], [.int .i64 0]⟩], [none]⟩ sg_i
def f165_s_l01Bits.F (n : Nat) (v : Nat) := f165_s_l01Bits n v
noncomputable def f165_s_l01Bits.O (n : Nat) : Orc := orcOf (E := E) [x96.w] [] n
theorem f165_s_l01Bits.ok : ∀ n v x, f165_s_l01Bits.F n v = some x → evalFn E n 165 (flAs f165_s_l01Bits.P (sg_f.pk v)) = some (f165_s_l01Bits.A.enc x) :=
  fn_pure (modes := (fdAt 165).ms) (outs := (fdAt 165).os) (results := (fdAt 165).rs) f165_s_l01Bits.O (c := c165) (keep := keepAt 165) (by kernel_rfl) (fun n => orcOf_cf _ _ n) (fun n => lpOk_of (bs := []) (by kernel_rfl) .nil) (fun _ => rfl) (fun _ _ => by kernel_rfl)
noncomputable def f165_s_l01Bits.w : FnW E := fnW 165 f165_s_l01Bits.P sg_f f165_s_l01Bits.A f165_s_l01Bits.F f165_s_l01Bits.ok

def f106_s_l01Same : Nat → Nat → Nat → Option (Bool)
  | 0, _, _ => none
  | n + 1, x1, x2 =>
    bd (f165_s_l01Bits n x1) fun r3 =>
    let i4 : Int := r3
    bd (f165_s_l01Bits n x2) fun r5 =>
    let i6 : Int := r5
    some (i4 == i6)
def sg_ff : Sig (Nat × Nat) where
  pk := fun v => [.flt v.1, .flt v.2]
  up := fun ls => match ls with
    | [.flt a0, .flt a1] => some (a0, a1)
    | _ => none
  ok := by
    intro ls v h
    split at h
    · cases h; rfl
    · cases h

def f106_s_l01Same.P : List Arg := [⟨.val, ⟨false, [.leaf], [.flt .f32 0]⟩⟩, ⟨.val, ⟨false, [.leaf], [.flt .f32 0]⟩⟩]
def f106_s_l01Same.A : RAlt (Bool) := .one ⟨[⟨false, [.leaf], [.bool false]⟩], [none, none]⟩ sg_b
def f106_s_l01Same.F (n : Nat) (v : Nat × Nat) := f106_s_l01Same n v.1 v.2
noncomputable def f106_s_l01Same.O (n : Nat) : Orc := orcOf (E := E) [f165_s_l01Bits.w] [] n
theorem f106_s_l01Same.ok : ∀ n v x, f106_s_l01Same.F n v = some x → evalFn E n 106 (flAs f106_s_l01Same.P (sg_ff.pk v)) = some (f106_s_l01Same.A.enc x) :=
  fn_pure (modes := (fdAt 106).ms) (outs := (fdAt 106).os) (results := (fdAt 106).rs) f106_s_l01Same.O (c := c106) (keep := keepAt 106) (by kernel_rfl) (fun n => orcOf_cf _ _ n) (fun n => lpOk_of (bs := []) (by kernel_rfl) .nil) (fun _ => rfl) (fun _ _ => by kernel_rfl)
noncomputable def f106_s_l01Same.w : FnW E := fnW 106 f106_s_l01Same.P sg_ff f106_s_l01Same.A f106_s_l01Same.F f106_s_l01Same.ok

def f33_s_SameNumber : Nat → Nat → Nat → Option (Bool)
  | 0, _, _ => none
  | n + 1, x1, x2 =>
    bd (f106_s_l01Same n x1 x2) fun r3 =>
    let b4 : Bool := r3
    some b4
def f33_s_SameNumber.P : List Arg := [⟨.val, ⟨false, [.leaf], [.flt .f32 0]⟩⟩, ⟨.val, ⟨false, [.leaf], [.flt .f32 0]⟩⟩]
def f33_s_SameNumber.A : RAlt (Bool) := .one ⟨[⟨false, [.leaf], [.bool false]⟩], [none, none]⟩ sg_b
def f33_s_SameNumber.F (n : Nat) (v : Nat × Nat) := f33_s_SameNumber n v.1 v.2
noncomputable def f33_s_SameNumber.O (n : Nat) : Orc := orcOf (E := E) [f106_s_l01Same.w] [] n
theorem f33_s_SameNumber.ok : ∀ n v x, f33_s_SameNumber.F n v = some x → evalFn E n 33 (flAs f33_s_SameNumber.P (sg_ff.pk v)) = some (f33_s_SameNumber.A.enc x) :=
  fn_pure (modes := (fdAt 33).ms) (outs := (fdAt 33).os) (results := (fdAt 33).rs) f33_s_SameNumber.O (c := c33) (keep := keepAt 33) (by kernel_rfl) (fun n => orcOf_cf _ _ n) (fun n => lpOk_of (bs := []) (by kernel_rfl) .nil) (fun _ => rfl) (fun _ _ => by kernel_rfl)
noncomputable def f33_s_SameNumber.w : FnW E := fnW 33 f33_s_SameNumber.P sg_ff f33_s_SameNumber.A f33_s_SameNumber.F f33_s_SameNumber.ok

def f34_s_B10Whole.l0 (n : Nat) : Nat → Int → Int → Nat → List T → Int → Int → Nat → List T → Option (Nat × List T)
  | 0, _, _, _, _, _, _, _, _ => none
  | m + 1, i1, i2, n3, l4, i5, i6, n7, l8 =>
    br (decide (i1 > (0 : Int))) (
     bd (f97_s_l00Srcpick n n3 l4 i5 i6 (IntKind.i64.wrap ((IntKind.i64.wrap ((2 : Int) * i2)) + (1 : Int)))) fun r9 =>
     let i10 : Int := r9.1
     let n11 : Nat := r9.2.1
     let l12 : List T := r9.2.2.1
     let i13 : Int := r9.2.2.2.1
     let i14 : Int := r9.2.2.2.2
     gd (Nat.ble (n7 + 1) 2147483648) (
     let n15 : Nat := (n7 + 1)
     let l16 : List T := (l8 ++ (setN (reps 1 [(T.flt FloatKind.f32 0)]) 0 [(T.flt FloatKind.f32 (FloatKind.nearest FloatKind.f32 (IntKind.i64.wrap (i10 - i2))))]))
     f34_s_B10Whole.l0 n m (IntKind.i64.wrap (i1 - (1 : Int))) i2 n11 l12 i13 i14 n15 l16)) (
     some (n7, l8))
def f34_s_B10Whole : Nat → Nat → List T → Int → Int → Option (Nat × List T)
  | 0, _, _, _, _ => none
  | n + 1, n1, l2, i3, i4 =>
    bd (f90_s_l00From n n1 l2) fun r5 =>
    let n6 : Nat := r5.1
    let l7 : List T := r5.2.1
    let i8 : Int := r5.2.2.1
    let i9 : Int := r5.2.2.2
    bd (f34_s_B10Whole.l0 n n i3 i4 n6 l7 i8 i9 0 (reps 0 [(T.flt FloatKind.f32 0)])) fun r10 =>
    let n11 : Nat := r10.1
    let l12 : List T := r10.2
    some (n11, l12)
def sg_iiliil : Sig (Int × Int × Nat × List T × Int × Int × Nat × List T) where
  pk := fun v => [.int v.1, .int v.2.1, .lst v.2.2.1 v.2.2.2.1, .int v.2.2.2.2.1, .int v.2.2.2.2.2.1, .lst v.2.2.2.2.2.2.1 v.2.2.2.2.2.2.2]
  up := fun ls => match ls with
    | [.int a0, .int a1, .lst a2 a3, .int a4, .int a5, .lst a6 a7] => some (a0, a1, a2, a3, a4, a5, a6, a7)
    | _ => none
  ok := by
    intro ls v h
    split at h
    · cases h; rfl
    · cases h

def f34_s_B10Whole.l0.P : AS := ⟨[(1, .val false [.leaf] [.int .i64 0] [] 0), (2, .val false [.leaf] [.int .i64 0] [] 0), (7, .box [.sl .shr [.leaf], .leaf, .leaf] [.lst 0 [], .int .i64 0, .int .u64 0] [] 0), (8, .val false [.sl .own [.leaf]] [.lst 0 []] [] 0)], 0⟩
def f34_s_B10Whole.l0.A : Alt (Nat × List T) := .one (.exit 0) ⟨[(8, .val false [.sl .own [.leaf]] [.lst 0 []] [] 0)], 0⟩ sg_l
def f34_s_B10Whole.l0.F (n m : Nat) (v : Int × Int × Nat × List T × Int × Int × Nat × List T) := f34_s_B10Whole.l0 n m v.1 v.2.1 v.2.2.1 v.2.2.2.1 v.2.2.2.2.1 v.2.2.2.2.2.1 v.2.2.2.2.2.2.1 v.2.2.2.2.2.2.2
def f34_s_B10Whole.l0.W (n : Nat) : LpW := .of 48 f34_s_B10Whole.l0.P sg_iiliil f34_s_B10Whole.l0.A (f34_s_B10Whole.l0.F n n)
def f34_s_B10Whole.P : List Arg := [⟨.val, ⟨false, [.sl .shr [.leaf]], [.lst 0 []]⟩⟩, ⟨.val, ⟨false, [.leaf], [.int .i64 0]⟩⟩, ⟨.val, ⟨false, [.leaf], [.int .i64 0]⟩⟩]
def f34_s_B10Whole.A : RAlt (Nat × List T) := .one ⟨[⟨false, [.sl .own [.leaf]], [.lst 0 []]⟩], [none, none, none]⟩ sg_l
def f34_s_B10Whole.F (n : Nat) (v : Nat × List T × Int × Int) := f34_s_B10Whole n v.1 v.2.1 v.2.2.1 v.2.2.2
noncomputable def f34_s_B10Whole.O (n : Nat) : Orc := orcOf (E := E) [f90_s_l00From.w, f97_s_l00Srcpick.w] [f34_s_B10Whole.l0.W n] n
theorem f34_s_B10Whole.l0.ok (n : Nat) : LpOk (f34_s_B10Whole.O n) E (evalFn E n) n (keepAt 34) (.loop (loopAt c34 0)) :=
  lp_pure f34_s_B10Whole.l0.P sg_iiliil f34_s_B10Whole.l0.A (f34_s_B10Whole.l0.F n) (orcOf_cf _ _ n) (lpOk_of (bs := []) (by kernel_rfl) .nil) (fun _ => rfl) (fun _ _ => by kernel_rfl) (fun _ _ _ => by kernel_rfl)
theorem f34_s_B10Whole.ok : ∀ n v x, f34_s_B10Whole.F n v = some x → evalFn E n 34 (flAs f34_s_B10Whole.P (sg_lii.pk v)) = some (f34_s_B10Whole.A.enc x) :=
  fn_pure (modes := (fdAt 34).ms) (outs := (fdAt 34).os) (results := (fdAt 34).rs) f34_s_B10Whole.O (c := c34) (keep := keepAt 34) (by kernel_rfl) (fun n => orcOf_cf _ _ n) (fun n => lpOk_of (bs := [loopAt c34 0]) (by kernel_rfl) (.cons (f34_s_B10Whole.l0.ok n) .nil)) (fun _ => rfl) (fun _ _ => by kernel_rfl)
noncomputable def f34_s_B10Whole.w : FnW E := fnW 34 f34_s_B10Whole.P sg_lii f34_s_B10Whole.A f34_s_B10Whole.F f34_s_B10Whole.ok

def f35_i_DotWide.l0 (n : Nat) : Nat → Nat → List T → Nat → List T → Nat → Int → Int → Option (Nat)
  | 0, _, _, _, _, _, _, _ => none
  | m + 1, n1, l2, n3, l4, x5, i6, i7 =>
    br (decide (i7 < i6)) (
     gd ((decide (((0 : Int) ≤ i7) ∧ (i7 < ((n1 : Nat) : Int)))) && (okAt [(CK.flt FloatKind.f32)] l2 (Int.toNat i7))) (
     bd ((fltToFlt FloatKind.f32 (fAt l2 (Int.toNat i7)) FloatKind.f64)) fun y8 =>
     gd ((decide (((0 : Int) ≤ i7) ∧ (i7 < ((n3 : Nat) : Int)))) && (okAt [(CK.flt FloatKind.f32)] l4 (Int.toNat i7))) (
     bd ((fltToFlt FloatKind.f32 (fAt l4 (Int.toNat i7)) FloatKind.f64)) fun y9 =>
     let x10 : Nat := (fadd FloatKind.f64 x5 (fmul FloatKind.f64 y8 y9))
     f35_i_DotWide.l0 n m n1 l2 n3 l4 x10 i6 (IntKind.i64.wrap (i7 + (1 : Int)))))) (
     some x5)
def f35_i_DotWide : Nat → Nat → List T → Nat → List T → Option (Nat × Bool)
  | 0, _, _, _, _ => none
  | n + 1, n1, l2, n3, l4 =>
    bd (f92_i_areSamples n n1 l2) fun r5 =>
    let b6 : Bool := r5
    br (!b6) (
     some (0, false)) (
     br (((n1 : Nat) : Int) != ((n3 : Nat) : Int)) (
      some (0, false)) (
      bd (f35_i_DotWide.l0 n n n1 l2 n3 l4 0 ((n1 : Nat) : Int) (0 : Int)) fun r7 =>
      let x8 : Nat := r7
      bd ((fltToFlt FloatKind.f64 x8 FloatKind.f32)) fun y9 =>
      some (y9, true)))
def f35_i_DotWide.l0.P : AS := ⟨[(0, .val false [.sl .shr [.leaf]] [.lst 0 []] [] 0), (1, .val false [.sl .shr [.leaf]] [.lst 0 []] [] 0), (6, .val false [.leaf] [.flt .f64 0] [] 0), (19, .val false [.leaf] [.int .i64 0] [] 0), (20, .val false [.leaf] [.int .i64 0] [] 0)], 0⟩
def f35_i_DotWide.l0.A : Alt (Nat) := .one (.exit 0) ⟨[(6, .val false [.leaf] [.flt .f64 0] [] 0)], 0⟩ sg_f
def f35_i_DotWide.l0.F (n m : Nat) (v : Nat × List T × Nat × List T × Nat × Int × Int) := f35_i_DotWide.l0 n m v.1 v.2.1 v.2.2.1 v.2.2.2.1 v.2.2.2.2.1 v.2.2.2.2.2.1 v.2.2.2.2.2.2
def f35_i_DotWide.l0.W (n : Nat) : LpW := .of 80 f35_i_DotWide.l0.P sg_llfii f35_i_DotWide.l0.A (f35_i_DotWide.l0.F n n)
def f35_i_DotWide.P : List Arg := [⟨.val, ⟨false, [.sl .shr [.leaf]], [.lst 0 []]⟩⟩, ⟨.val, ⟨false, [.sl .shr [.leaf]], [.lst 0 []]⟩⟩]
def f35_i_DotWide.A : RAlt (Nat × Bool) := .one ⟨[⟨false, [.leaf], [.flt .f32 0]⟩, ⟨false, [.leaf], [.bool false]⟩], [none, none]⟩ sg_fb
def f35_i_DotWide.F (n : Nat) (v : Nat × List T × Nat × List T) := f35_i_DotWide n v.1 v.2.1 v.2.2.1 v.2.2.2
noncomputable def f35_i_DotWide.O (n : Nat) : Orc := orcOf (E := E) [f92_i_areSamples.w] [f35_i_DotWide.l0.W n] n
theorem f35_i_DotWide.l0.ok (n : Nat) : LpOk (f35_i_DotWide.O n) E (evalFn E n) n (keepAt 35) (.loop (loopAt c35 0)) :=
  lp_pure f35_i_DotWide.l0.P sg_llfii f35_i_DotWide.l0.A (f35_i_DotWide.l0.F n) (orcOf_cf _ _ n) (lpOk_of (bs := []) (by kernel_rfl) .nil) (fun _ => rfl) (fun _ _ => by kernel_rfl) (fun _ _ _ => by kernel_rfl)
theorem f35_i_DotWide.ok : ∀ n v x, f35_i_DotWide.F n v = some x → evalFn E n 35 (flAs f35_i_DotWide.P (sg_ll.pk v)) = some (f35_i_DotWide.A.enc x) :=
  fn_pure (modes := (fdAt 35).ms) (outs := (fdAt 35).os) (results := (fdAt 35).rs) f35_i_DotWide.O (c := c35) (keep := keepAt 35) (by kernel_rfl) (fun n => orcOf_cf _ _ n) (fun n => lpOk_of (bs := [loopAt c35 0]) (by kernel_rfl) (.cons (f35_i_DotWide.l0.ok n) .nil)) (fun _ => rfl) (fun _ _ => by kernel_rfl)
noncomputable def f35_i_DotWide.w : FnW E := fnW 35 f35_i_DotWide.P sg_ll f35_i_DotWide.A f35_i_DotWide.F f35_i_DotWide.ok

def f5_l_FnSums.l1 (n : Nat) : Nat → Int → Nat → List T → Nat → Bool → Nat → Bool → Nat → Bool → Nat → Bool → Nat → Bool → Int → Int → Int → Option (Nat × Bool × Nat × Bool × Nat × Bool × Nat × Bool × Nat × Bool × Int × Int)
  | 0, _, _, _, _, _, _, _, _, _, _, _, _, _, _, _, _ => none
  | m + 1, i1, n2, l3, x4, b5, x6, b7, x8, b9, x10, b11, x12, b13, i14, i15, i16 =>
    br (decide (i16 < i1)) (
     gd (decide (((0 : Int) ≤ i16) ∧ (i16 < ((n2 : Nat) : Int)))) (
     gd (okAt [(CK.flt FloatKind.f32)] l3 (Int.toNat i16)) (
     bd ((fltToInt FloatKind.f32 (fAt l3 (Int.toNat i16)) IntKind.i64)) fun y17 =>
     let i18 : Int := (IntKind.i64.wrap (i14 + y17))
     gd (decide (((0 : Int) ≤ i16) ∧ (i16 < ((n2 : Nat) : Int)))) (
     gd (okAt [(CK.flt FloatKind.f32)] l3 (Int.toNat i16)) (
     bd ((fltToInt FloatKind.f32 (fAt l3 (Int.toNat i16)) IntKind.i64)) fun y19 =>
     gd (decide (((0 : Int) ≤ i16) ∧ (i16 < ((n2 : Nat) : Int)))) (
     gd (okAt [(CK.flt FloatKind.f32)] l3 (Int.toNat i16)) (
     bd ((fltToInt FloatKind.f32 (fAt l3 (Int.toNat i16)) IntKind.i64)) fun y20 =>
     let i21 : Int := (IntKind.i64.wrap (i15 + (IntKind.i64.wrap (y19 * y20))))
     f5_l_FnSums.l1 n m i1 n2 l3 x4 b5 x6 b7 x8 b9 x10 b11 x12 b13 i18 i21 (IntKind.i64.wrap (i16 + (1 : Int)))))))))) (
     some (x4, b5, x6, b7, x8, b9, x10, b11, x12, b13, i14, i15))
termination_by structural x => x
def f5_l_FnSums : Nat → Nat → List T → Nat → List T → Option (Bool)
  | 0, _, _, _, _ => none
  | n + 1, n1, l2, n3, l4 =>
    bd (f28_l_b10Long n n1 l2 n3 l4) fun r5 =>
    let b6 : Bool := r5
    br b6 (
     some true) (
     bd (f29_l_b10At n n1 l2 (0 : Int) (20 : Int)) fun r7 =>
     let i8 : Int := r7
     bd (f30_s_B10Numbers n n1 l2 i8) fun r9 =>
     let n10 : Nat := r9.1
     let l11 : List T := r9.2
     bd (f5_l_FnSums.l0 n n n3 l4 i8 n10 l11 0 (reps 0 [(T.flt FloatKind.f32 0)]) 0 (0 : Int)) fun r12 =>
     let n13 : Nat := r12.1
     let l14 : List T := r12.2.1
     let i15 : Int := r12.2.2.1
     let n16 : Nat := r12.2.2.2.1
     let l17 : List T := r12.2.2.2.2.1
     let n18 : Nat := r12.2.2.2.2.2.1
     let l19 : List T := r12.2.2.2.2.2.2.1
     let x20 : Nat := r12.2.2.2.2.2.2.2
     bd (f31_i_SumNumbers n n16 l17) fun r21 =>
     let x22 : Nat := r21.1
     let b23 : Bool := r21.2
     bd (f20_i_DotNumbers n n16 l17 n18 l19) fun r24 =>
     let x25 : Nat := r24.1
     let b26 : Bool := r24.2
     let i27 : Int := (IntKind.i64.wrap (Int.tdiv (IntKind.i64.wrap (i15 + (1 : Int))) (2 : Int)))
     bd (f32_i_SumPairs n n16 l17) fun r28 =>
     let x29 : Nat := r28.1
     let b30 : Bool := r28.2
     gd (decide (((0 : Int) ≤ (0 : Int)) ∧ (((0 : Int) ≤ i27) ∧ (i27 ≤ ((n16 : Nat) : Int))))) (
     bd (f32_i_SumPairs n ((Int.toNat i27) - 0) (List.take ((Int.toNat i27) - 0) (List.drop 0 l17))) fun r31 =>
     let x32 : Nat := r31.1
     let b33 : Bool := r31.2
     gd (decide (((0 : Int) ≤ i27) ∧ ((i27 ≤ ((n16 : Nat) : Int)) ∧ (((n16 : Nat) : Int) ≤ ((n16 : Nat) : Int))))) (
     bd (f32_i_SumPairs n (n16 - (Int.toNat i27)) (List.take (n16 - (Int.toNat i27)) (List.drop (Int.toNat i27) l17))) fun r34 =>
     let x35 : Nat := r34.1
     let b36 : Bool := r34.2
     br (!b23) (
      some false) (
      br (!b26) (
       some false) (
       br (!b30) (
        some false) (
        br (!b33) (
         some false) (
         br (!b36) (
          some false) (
          bd (f33_s_SameNumber n x22 x20) fun r37 =>
          let b38 : Bool := r37
          br (!b38) (
           some false) (
           bd (f33_s_SameNumber n x25 x20) fun r39 =>
           let b40 : Bool := r39
           br (!b40) (
            some false) (
            br (decide (i15 > (1 : Int))) (
             bd (f33_s_SameNumber n x29 (fadd FloatKind.f32 x32 x35)) fun r41 =>
             let b42 : Bool := r41
             br (!b42) (
              some false) (
              bd (f34_s_B10Whole n n13 l14 i15 (100 : Int)) fun r43 =>
              let n44 : Nat := r43.1
              let l45 : List T := r43.2
              bd (f31_i_SumNumbers n n44 l45) fun r46 =>
              let x47 : Nat := r46.1
              let b48 : Bool := r46.2
              bd (f32_i_SumPairs n n44 l45) fun r49 =>
              let x50 : Nat := r49.1
              let b51 : Bool := r49.2
              gd (Nat.ble (0 + n44) 2147483648) (
              bd (f32_i_SumPairs n (0 + n44) ((reps 0 [(T.flt FloatKind.f32 0)]) ++ l45)) fun r52 =>
              let x53 : Nat := r52.1
              let b54 : Bool := r52.2
              bd (f20_i_DotNumbers n n44 l45 n44 l45) fun r55 =>
              let x56 : Nat := r55.1
              let b57 : Bool := r55.2
              bd (f35_i_DotWide n n44 l45 n44 l45) fun r58 =>
              let x59 : Nat := r58.1
              let b60 : Bool := r58.2
              bd (f5_l_FnSums.l1 n n i15 n44 l45 x47 b48 x50 b51 x53 b54 x56 b57 x59 b60 (0 : Int) (0 : Int) (0 : Int)) fun r61 =>
              let x62 : Nat := r61.1
              let b63 : Bool := r61.2.1
              let x64 : Nat := r61.2.2.1
              let b65 : Bool := r61.2.2.2.1
              let x66 : Nat := r61.2.2.2.2.1
              let b67 : Bool := r61.2.2.2.2.2.1
              let x68 : Nat := r61.2.2.2.2.2.2.1
              let b69 : Bool := r61.2.2.2.2.2.2.2.1
              let x70 : Nat := r61.2.2.2.2.2.2.2.2.1
              let b71 : Bool := r61.2.2.2.2.2.2.2.2.2.1
              let i72 : Int := r61.2.2.2.2.2.2.2.2.2.2.1
              let i73 : Int := r61.2.2.2.2.2.2.2.2.2.2.2
              br b63 (
               br b65 (
                br b67 (
                 br b69 (
                  br b71 (
                   br (feq FloatKind.f32 x62 (FloatKind.nearest FloatKind.f32 i72)) (
                    br (feq FloatKind.f32 x64 x62) (
                     br (feq FloatKind.f32 x66 x62) (
                      br (feq FloatKind.f32 x68 (FloatKind.nearest FloatKind.f32 i73)) (
                       some (feq FloatKind.f32 x70 x68)) (
                       some false)) (
                      some false)) (
                     some false)) (
                    some false)) (
                   some false)) (
                  some false)) (
                 some false)) (
                some false)) (
               some false)))) (
             bd (f34_s_B10Whole n n13 l14 i15 (100 : Int)) fun r74 =>
             let n75 : Nat := r74.1
             let l76 : List T := r74.2
             bd (f31_i_SumNumbers n n75 l76) fun r77 =>
             let x78 : Nat := r77.1
             let b79 : Bool := r77.2
             bd (f32_i_SumPairs n n75 l76) fun r80 =>
             let x81 : Nat := r80.1
             let b82 : Bool := r80.2
             gd (Nat.ble (0 + n75) 2147483648) (
             bd (f32_i_SumPairs n (0 + n75) ((reps 0 [(T.flt FloatKind.f32 0)]) ++ l76)) fun r83 =>
             let x84 : Nat := r83.1
             let b85 : Bool := r83.2
             bd (f20_i_DotNumbers n n75 l76 n75 l76) fun r86 =>
             let x87 : Nat := r86.1
             let b88 : Bool := r86.2
             bd (f35_i_DotWide n n75 l76 n75 l76) fun r89 =>
             let x90 : Nat := r89.1
             let b91 : Bool := r89.2
             bd (f5_l_FnSums.l1 n n i15 n75 l76 x78 b79 x81 b82 x84 b85 x87 b88 x90 b91 (0 : Int) (0 : Int) (0 : Int)) fun r92 =>
             let x93 : Nat := r92.1
             let b94 : Bool := r92.2.1
             let x95 : Nat := r92.2.2.1
             let b96 : Bool := r92.2.2.2.1
             let x97 : Nat := r92.2.2.2.2.1
             let b98 : Bool := r92.2.2.2.2.2.1
             let x99 : Nat := r92.2.2.2.2.2.2.1
             let b100 : Bool := r92.2.2.2.2.2.2.2.1
             let x101 : Nat := r92.2.2.2.2.2.2.2.2.1
             let b102 : Bool := r92.2.2.2.2.2.2.2.2.2.1
             let i103 : Int := r92.2.2.2.2.2.2.2.2.2.2.1
             let i104 : Int := r92.2.2.2.2.2.2.2.2.2.2.2
             br b94 (
              br b96 (
               br b98 (
                br b100 (
                 br b102 (
                  br (feq FloatKind.f32 x93 (FloatKind.nearest FloatKind.f32 i103)) (
                   br (feq FloatKind.f32 x95 x93) (
                    br (feq FloatKind.f32 x97 x93) (
                     br (feq FloatKind.f32 x99 (FloatKind.nearest FloatKind.f32 i104)) (
                      some (feq FloatKind.f32 x101 x99)) (
                      some false)) (
                     some false)) (
                    some false)) (
                   some false)) (
                  some false)) (
                 some false)) (
                some false)) (
               some false)) (
              some false)))))))))))))
def sg_lillfi : Sig (Nat × List T × Int × Nat × List T × Nat × List T × Nat × Int) where
  pk := fun v => [.lst v.1 v.2.1, .int v.2.2.1, .lst v.2.2.2.1 v.2.2.2.2.1, .lst v.2.2.2.2.2.1 v.2.2.2.2.2.2.1, .flt v.2.2.2.2.2.2.2.1, .int v.2.2.2.2.2.2.2.2]
  up := fun ls => match ls with
    | [.lst a0 a1, .int a2, .lst a3 a4, .lst a5 a6, .flt a7, .int a8] => some (a0, a1, a2, a3, a4, a5, a6, a7, a8)
    | _ => none
  ok := by
    intro ls v h
    split at h
    · cases h; rfl
    · cases h

def sg_lillf : Sig (Nat × List T × Int × Nat × List T × Nat × List T × Nat) where
  pk := fun v => [.lst v.1 v.2.1, .int v.2.2.1, .lst v.2.2.2.1 v.2.2.2.2.1, .lst v.2.2.2.2.2.1 v.2.2.2.2.2.2.1, .flt v.2.2.2.2.2.2.2]
  up := fun ls => match ls with
    | [.lst a0 a1, .int a2, .lst a3 a4, .lst a5 a6, .flt a7] => some (a0, a1, a2, a3, a4, a5, a6, a7)
    | _ => none
  ok := by
    intro ls v h
    split at h
    · cases h; rfl
    · cases h

def sg_ilfbfbfbfbfbiii : Sig (Int × Nat × List T × Nat × Bool × Nat × Bool × Nat × Bool × Nat × Bool × Nat × Bool × Int × Int × Int) where
  pk := fun v => [.int v.1, .lst v.2.1 v.2.2.1, .flt v.2.2.2.1, .bool v.2.2.2.2.1, .flt v.2.2.2.2.2.1, .bool v.2.2.2.2.2.2.1, .flt v.2.2.2.2.2.2.2.1, .bool v.2.2.2.2.2.2.2.2.1, .flt v.2.2.2.2.2.2.2.2.2.1, .bool v.2.2.2.2.2.2.2.2.2.2.1, .flt v.2.2.2.2.2.2.2.2.2.2.2.1, .bool v.2.2.2.2.2.2.2.2.2.2.2.2.1, .int v.2.2.2.2.2.2.2.2.2.2.2.2.2.1, .int v.2.2.2.2.2.2.2.2.2.2.2.2.2.2.1, .int v.2.2.2.2.2.2.2.2.2.2.2.2.2.2.2]
  up := fun ls => match ls with
    | [.int a0, .lst a1 a2, .flt a3, .bool a4, .flt a5, .bool a6, .flt a7, .bool a8, .flt a9, .bool a10, .flt a11, .bool a12, .int a13, .int a14, .int a15] => some (a0, a1, a2, a3, a4, a5, a6, a7, a8, a9, a10, a11, a12, a13, a14, a15)
    | _ => none
  ok := by
    intro ls v h
    split at h
    · cases h; rfl
    · cases h

def sg_fbfbfbfbfbii : Sig (Nat × Bool × Nat × Bool × Nat × Bool × Nat × Bool × Nat × Bool × Int × Int) where
  pk := fun v => [.flt v.1, .bool v.2.1, .flt v.2.2.1, .bool v.2.2.2.1, .flt v.2.2.2.2.1, .bool v.2.2.2.2.2.1, .flt v.2.2.2.2.2.2.1, .bool v.2.2.2.2.2.2.2.1, .flt v.2.2.2.2.2.2.2.2.1, .bool v.2.2.2.2.2.2.2.2.2.1, .int v.2.2.2.2.2.2.2.2.2.2.1, .int v.2.2.2.2.2.2.2.2.2.2.2]
  up := fun ls => match ls with
    | [.flt a0, .bool a1, .flt a2, .bool a3, .flt a4, .bool a5, .flt a6, .bool a7, .flt a8, .bool a9, .int a10, .int a11] => some (a0, a1, a2, a3, a4, a5, a6, a7, a8, a9, a10, a11)
    | _ => none
  ok := by
    intro ls v h
    split at h
    · cases h; rfl
    · cases h

def f5_l_FnSums.l0.P : AS := ⟨[(1, .val false [.sl .shr [.leaf]] [.lst 0 []] [] 0), (5, .val false [.leaf] [.int .i64 0] [] 0), (6, .val false [.sl .own [.leaf]] [.lst 0 []] [] 0), (7, .val false [.sl .own [.leaf]] [.lst 0 []] [] 0), (8, .val false [.leaf] [.flt .f32 0] [] 0), (9, .val false [.leaf] [.int .i64 0] [] 0)], 0⟩
def f5_l_FnSums.l0.A : Alt (Nat × List T × Int × Nat × List T × Nat × List T × Nat) := .one (.exit 0) ⟨[(1, .val false [.sl .shr [.leaf]] [.lst 0 []] [] 0), (5, .val false [.leaf] [.int .i64 0] [] 0), (6, .val false [.sl .own [.leaf]] [.lst 0 []] [] 0), (7, .val false [.sl .own [.leaf]] [.lst 0 []] [] 0), (8, .val false [.leaf] [.flt .f32 0] [] 0)], 0⟩ sg_lillf
def f5_l_FnSums.l0.F (n m : Nat) (v : Nat × List T × Int × Nat × List T × Nat × List T × Nat × Int) := f5_l_FnSums.l0 n m v.1 v.2.1 v.2.2.1 v.2.2.2.1 v.2.2.2.2.1 v.2.2.2.2.2.1 v.2.2.2.2.2.2.1 v.2.2.2.2.2.2.2.1 v.2.2.2.2.2.2.2.2
def f5_l_FnSums.l0.W (n : Nat) : LpW := .of 128 f5_l_FnSums.l0.P sg_lillfi f5_l_FnSums.l0.A (f5_l_FnSums.l0.F n n)
def f5_l_FnSums.l1.P : AS := ⟨[(5, .val false [.leaf] [.int .i64 0] [] 0), (21, .val false [.sl .own [.leaf]] [.lst 0 []] [] 0), (22, .val false [.leaf] [.flt .f32 0] [] 0), (23, .val false [.leaf] [.bool false] [] 0), (24, .val false [.leaf] [.flt .f32 0] [] 0), (25, .val false [.leaf] [.bool false] [] 0), (26, .val false [.leaf] [.flt .f32 0] [] 0), (27, .val false [.leaf] [.bool false] [] 0), (28, .val false [.leaf] [.flt .f32 0] [] 0), (29, .val false [.leaf] [.bool false] [] 0), (30, .val false [.leaf] [.flt .f32 0] [] 0), (31, .val false [.leaf] [.bool false] [] 0), (32, .val false [.leaf] [.int .i64 0] [] 0), (33, .val false [.leaf] [.int .i64 0] [] 0), (34, .val false [.leaf] [.int .i64 0] [] 0)], 0⟩
def f5_l_FnSums.l1.A : Alt (Nat × Bool × Nat × Bool × Nat × Bool × Nat × Bool × Nat × Bool × Int × Int) := .one (.exit 2) ⟨[(22, .val false [.leaf] [.flt .f32 0] [] 0), (23, .val false [.leaf] [.bool false] [] 0), (24, .val false [.leaf] [.flt .f32 0] [] 0), (25, .val false [.leaf] [.bool false] [] 0), (26, .val false [.leaf] [.flt .f32 0] [] 0), (27, .val false [.leaf] [.bool false] [] 0), (28, .val false [.leaf] [.flt .f32 0] [] 0), (29, .val false [.leaf] [.bool false] [] 0), (30, .val false [.leaf] [.flt .f32 0] [] 0), (31, .val false [.leaf] [.bool false] [] 0), (32, .val false [.leaf] [.int .i64 0] [] 0), (33, .val false [.leaf] [.int .i64 0] [] 0)], 0⟩ sg_fbfbfbfbfbii
def f5_l_FnSums.l1.F (n m : Nat) (v : Int × Nat × List T × Nat × Bool × Nat × Bool × Nat × Bool × Nat × Bool × Nat × Bool × Int × Int × Int) := f5_l_FnSums.l1 n m v.1 v.2.1 v.2.2.1 v.2.2.2.1 v.2.2.2.2.1 v.2.2.2.2.2.1 v.2.2.2.2.2.2.1 v.2.2.2.2.2.2.2.1 v.2.2.2.2.2.2.2.2.1 v.2.2.2.2.2.2.2.2.2.1 v.2.2.2.2.2.2.2.2.2.2.1 v.2.2.2.2.2.2.2.2.2.2.2.1 v.2.2.2.2.2.2.2.2.2.2.2.2.1 v.2.2.2.2.2.2.2.2.2.2.2.2.2.1 v.2.2.2.2.2.2.2.2.2.2.2.2.2.2.1 v.2.2.2.2.2.2.2.2.2.2.2.2.2.2.2
def f5_l_FnSums.l1.W (n : Nat) : LpW := .of 464 f5_l_FnSums.l1.P sg_ilfbfbfbfbfbiii f5_l_FnSums.l1.A (f5_l_FnSums.l1.F n n)
def f5_l_FnSums.P : List Arg := [⟨.val, ⟨false, [.sl .shr [.leaf]], [.lst 0 []]⟩⟩, ⟨.val, ⟨false, [.sl .shr [.leaf]], [.lst 0 []]⟩⟩]
def f5_l_FnSums.A : RAlt (Bool) := .one ⟨[⟨false, [.leaf], [.bool false]⟩], [none, none]⟩ sg_b
def f5_l_FnSums.F (n : Nat) (v : Nat × List T × Nat × List T) := f5_l_FnSums n v.1 v.2.1 v.2.2.1 v.2.2.2
noncomputable def f5_l_FnSums.O (n : Nat) : Orc := orcOf (E := E) [f28_l_b10Long.w, f29_l_b10At.w, f30_s_B10Numbers.w, f31_i_SumNumbers.w, f20_i_DotNumbers.w, f32_i_SumPairs.w, f33_s_SameNumber.w, f34_s_B10Whole.w, f35_i_DotWide.w] [f5_l_FnSums.l0.W n, f5_l_FnSums.l1.W n] n
theorem f5_l_FnSums.l0.ok (n : Nat) : LpOk (f5_l_FnSums.O n) E (evalFn E n) n (keepAt 5) (.loop (loopAt c5 0)) :=
  lp_pure f5_l_FnSums.l0.P sg_lillfi f5_l_FnSums.l0.A (f5_l_FnSums.l0.F n) (orcOf_cf _ _ n) (lpOk_of (bs := []) (by kernel_rfl) .nil) (fun _ => rfl) (fun _ _ => by kernel_rfl) (fun _ _ _ => by kernel_rfl)
theorem f5_l_FnSums.l1.ok (n : Nat) : LpOk (f5_l_FnSums.O n) E (evalFn E n) n (keepAt 5) (.loop (loopAt c5 1)) :=
  lp_pure f5_l_FnSums.l1.P sg_ilfbfbfbfbfbiii f5_l_FnSums.l1.A (f5_l_FnSums.l1.F n) (orcOf_cf _ _ n) (lpOk_of (bs := []) (by kernel_rfl) .nil) (fun _ => rfl) (fun _ _ => by kernel_rfl) (fun _ _ _ => by kernel_rfl)
theorem f5_l_FnSums.ok : ∀ n v x, f5_l_FnSums.F n v = some x → evalFn E n 5 (flAs f5_l_FnSums.P (sg_ll.pk v)) = some (f5_l_FnSums.A.enc x) :=
  fn_pure (modes := (fdAt 5).ms) (outs := (fdAt 5).os) (results := (fdAt 5).rs) f5_l_FnSums.O (c := c5) (keep := keepAt 5) (by kernel_rfl) (fun n => orcOf_cf _ _ n) (fun n => lpOk_of (bs := [loopAt c5 0, loopAt c5 1]) (by kernel_rfl) (.cons (f5_l_FnSums.l0.ok n) (.cons (f5_l_FnSums.l1.ok n) .nil))) (fun _ => rfl) (fun _ _ => by kernel_rfl)
noncomputable def f5_l_FnSums.w : FnW E := fnW 5 f5_l_FnSums.P sg_ll f5_l_FnSums.A f5_l_FnSums.F f5_l_FnSums.ok
end Go.Proofs.Ytjkhhalnlodinaa.D
end
section
/- FnSums, in plain Lean. -/
namespace Go.Proofs.Ytjkhhalnlodinaa.D
open Go Go.Desk
set_option linter.unusedVariables false
theorem s_from (n l : Nat) (c : List T) : f90_s_l00From (n + 1) l c = some (l, c, 0, 0) := by rw [f90_s_l00From]
theorem s_next (n : Nat) {bs : List Int} (hb : Bytes bs) {a : Int} (h0 : 0 ≤ a) (h1 : a ≤ 1125899906842624) (sd : Int) :
    ∃ r sd', (0 ≤ r ∧ r ≤ 255) ∧ f163_s_l00Srcnext (n + 1) bs.length (its .u8 bs) a sd = some (r, bs.length, its .u8 bs, a + 1, sd') := by
  rw [f163_s_l00Srcnext]
  rw [show IntKind.i64.wrap (a + 1) = a + 1 by rw [wrap64] <;> omega]
  cases h : decide (a < (bs.length : Int))
  · simp only [br_f]
    cases decide (a + 1 ≤ (bs.length : Int))
    · exact ⟨_, _, and255 _, rfl⟩
    · exact ⟨0, _, by omega, rfl⟩
  · simp only [decide_eq_true_eq] at h
    obtain ⟨i, rfl⟩ := Int.eq_ofNat_of_zero_le h0
    have hi : i < bs.length := by omega
    have hr := hb (bs[i]) (List.getElem_mem _)
    simp only [br_t, in_dec hi, Int.toNat_natCast, okAt_its hi, Bool.and_self, gd_t, iAt_its]
    rw [show bs.getD i 0 = bs[i] by simp [List.getD, hi], show IntKind.i64.wrap bs[i] = bs[i] by rw [wrap64] <;> omega]
    cases decide ((i : Int) + 1 ≤ (bs.length : Int))
    · exact ⟨_, _, and255 _, rfl⟩
    · exact ⟨_, _, hr, rfl⟩
theorem s_pick (n : Nat) {bs : List Int} (hb : Bytes bs) {a : Int} (h0 : 0 ≤ a) (h1 : a ≤ 1125899906842622) (sd k : Int) :
    ∃ r a' sd', (0 ≤ r ∧ (1 < k → r < k) ∧ (k ≤ 1 → r = 0)) ∧ (a ≤ a' ∧ a' ≤ a + 2) ∧ f97_s_l00Srcpick (n + 2) bs.length (its .u8 bs) a sd k = some (r, bs.length, its .u8 bs, a', sd') := by
  rw [f97_s_l00Srcpick]
  by_cases hk : k ≤ 1
  · rw [decide_eq_true hk]; exact ⟨0, a, sd, by omega, by omega, rfl⟩
  rw [decide_eq_false hk]
  obtain ⟨r, s1, hr, e1⟩ := s_next n hb h0 (by omega) sd
  simp only [br_f, e1, bd_s]
  have hk0 : (!decide (k = 0)) = true := by simp; omega
  by_cases hk2 : k > 200
  · rw [decide_eq_true hk2]
    obtain ⟨r', s2, hr', e2⟩ := s_next n hb (a := a + 1) (by omega) (by omega) s1
    simp only [br_t, e2, bd_s, hk0, gd_t]
    rw [show IntKind.i64.wrap (r * 256) = r * 256 by rw [wrap64] <;> omega, show IntKind.i64.wrap (r * 256 + r') = r * 256 + r' by rw [wrap64] <;> omega]
    refine ⟨_, _, _, ?_, ?_, rfl⟩
    · rw [Int.tmod_eq_emod_of_nonneg (by omega)]
      have := Int.emod_nonneg (r * 256 + r') (show k ≠ 0 by omega)
      have := Int.emod_lt_of_pos (r * 256 + r') (show 0 < k by omega)
      omega
    · omega
  · rw [decide_eq_false hk2]
    simp only [br_f, hk0, gd_t]
    refine ⟨_, _, _, ?_, ?_, rfl⟩
    · rw [Int.tmod_eq_emod_of_nonneg (by omega)]
      have := Int.emod_nonneg r (show k ≠ 0 by omega)
      have := Int.emod_lt_of_pos r (show 0 < k by omega)
      omega
    · omega
theorem s_one (n : Nat) {bs : List Int} (hb : Bytes bs) {a : Int} (h0 : 0 ≤ a) (h1 : a ≤ 1125899906842622) (sd k : Int) :
    ∃ r a' sd', (a ≤ a' ∧ a' ≤ a + 2) ∧ f158_s_l00Srcone (n + 3) bs.length (its .u8 bs) a sd k = some (r, bs.length, its .u8 bs, a', sd') := by
  obtain ⟨r, a', s', -, ha, e⟩ := s_pick n hb h0 h1 sd k
  rw [f158_s_l00Srcone, e]
  exact ⟨_, _, _, ha, rfl⟩
theorem s_plain (n : Nat) {bs : List Int} (hb : Bytes bs) {a : Int} (h0 : 0 ≤ a) (h1 : a ≤ 1125899906842620) (sd : Int) :
    ∃ x a' sd', Plain x ∧ (a ≤ a' ∧ a' ≤ a + 4) ∧ f91_s_l01DrawPlain (n + 4) bs.length (its .u8 bs) a sd = some (x, bs.length, its .u8 bs, a', sd') := by
  obtain ⟨r, a1, s1, hr, ha, e⟩ := s_pick (n + 1) hb h0 (by omega) sd 129
  obtain ⟨b, a2, s2, ha2, e2⟩ := s_one n hb (a := a1) (by omega) (by omega) s1 4
  rw [f91_s_l01DrawPlain, e]
  simp only [bd_s, e2]
  rw [show IntKind.i64.wrap (r - 64) = r - 64 by rw [wrap64] <;> omega]
  cases b
  · exact ⟨_, a2, s2, ⟨r - 64, by omega, .inr rfl⟩, by omega, rfl⟩
  · exact ⟨_, a2, s2, ⟨r - 64, by omega, .inl rfl⟩, by omega, rfl⟩
theorem s_among (n : Nat) {bs : List Int} (hb : Bytes bs) {a : Int} (h0 : 0 ≤ a) (h1 : a ≤ 1125899906842622) (sd : Int) (L : List Int) (hL : 0 < L.length) :
    ∃ r a' sd', r ∈ L ∧ (a ≤ a' ∧ a' ≤ a + 2) ∧ f168_s_l00Srcamong (n + 3) bs.length (its .u8 bs) a sd L.length (its .i64 L) = some (r, bs.length, its .u8 bs, a', sd', L.length, its .i64 L) := by
  obtain ⟨r, a1, s1, hr, ha, e⟩ := s_pick n hb h0 h1 sd (L.length : Int)
  rw [f168_s_l00Srcamong, e]
  obtain ⟨i, rfl⟩ := Int.eq_ofNat_of_zero_le hr.1
  have hi : i < L.length := by
    by_cases h : (L.length : Int) ≤ 1
    · have := hr.2.2 h; omega
    · have := hr.2.1 (by omega); omega
  simp only [bd_s, in_dec hi, Int.toNat_natCast, okAt_its hi, Bool.and_self, gd_t, iAt_its]
  refine ⟨_, _, _, ?_, ha, rfl⟩
  rw [show L.getD i 0 = L[i] by simp [List.getD, hi]]
  exact List.getElem_mem _
theorem s_from32 (n : Nat) {i : Int} (h0 : 0 ≤ i) (h1 : i < 4294967296) : ∃ x, W32 x ∧ f167_s_l01From (n + 2) i = some x := by
  rw [f167_s_l01From]
  refine ⟨canon .f32 i.toNat, w32_canon (by omega), ?_⟩
  rw [u32_wrap h0 h1]
  show bd (if 0 ≤ i then some (canon .f32 i.toNat) else none) _ = _
  rw [if_pos h0]; rfl
theorem s_float (n : Nat) {bs : List Int} (hb : Bytes bs) {a : Int} (h0 : 0 ≤ a) (h1 : a ≤ 1125899906842600) (sd : Int) :
    ∃ x a' sd', W32 x ∧ (a ≤ a' ∧ a' ≤ a + 16) ∧ f112_s_l01DrawFloat (n + 5) bs.length (its .u8 bs) a sd = some (x, bs.length, its .u8 bs, a', sd') := by
  obtain ⟨b, a1, s1, ha1, e1⟩ := s_one (n + 1) hb h0 (by omega) sd 12
  rw [f112_s_l01DrawFloat, e1]
  simp only [bd_s, br_not]
  cases b
  · obtain ⟨x, a2, s2, hx, ha2, e2⟩ := s_plain n hb (a := a1) (by omega) (by omega) s1
    simp only [br_f, e2, bd_s]
    exact ⟨_, _, _, hx.w32, by omega, rfl⟩
  obtain ⟨q, a2, s2, -, ha2, e2⟩ := s_pick (n + 2) hb (a := a1) (by omega) (by omega) s1 4
  simp only [br_t, e2, bd_s]
  cases q == 0
  case true =>
    obtain ⟨r, a3, s3, hr, ha3, e3⟩ := s_among (n + 1) hb (a := a2) (by omega) (by omega) s2 [0, 2147483648, 2139095040, 4286578688, 2143289344, 1, 2139095039, 8388608, 8388607, 2147483649] (by decide)
    have hr' : 0 ≤ r ∧ r < 4294967296 := by simp only [List.mem_cons, List.not_mem_nil, or_false] at hr; omega
    obtain ⟨x, hx, e4⟩ := s_from32 (n + 2) hr'.1 hr'.2
    rw [br_t]
    refine ⟨x, a3, s3, hx, by omega, ?_⟩
    refine Eq.trans (congrArg (fun o => bd o _) e3) ?_
    simp only [bd_s, e4]
  cases q == 1
  case true =>
    obtain ⟨r, a3, s3, hr, ha3, e3⟩ := s_pick (n + 2) hb (a := a2) (by omega) (by omega) s2 65536
    obtain ⟨r', a4, s4, hr', ha4, e4⟩ := s_pick (n + 2) hb (a := a3) (by omega) (by omega) s3 65536
    obtain ⟨x, hx, e5⟩ := s_from32 (n + 2) (i := r * 65536 + r') (by omega) (by omega)
    simp only [br_f, br_t, e3, e4, bd_s]
    rw [show IntKind.i64.wrap (r * 65536) = r * 65536 by rw [wrap64] <;> omega, show IntKind.i64.wrap (r * 65536 + r') = r * 65536 + r' by rw [wrap64] <;> omega, e5]
    exact ⟨x, _, _, hx, by omega, rfl⟩
  cases q == 2
  case true =>
    obtain ⟨r, a3, s3, hr, ha3, e3⟩ := s_pick (n + 2) hb (a := a2) (by omega) (by omega) s2 65536
    obtain ⟨x, hx, e5⟩ := s_from32 (n + 2) (i := r * 65536) (by omega) (by omega)
    simp only [br_f, br_t, e3, bd_s]
    rw [show IntKind.i64.wrap (r * 65536) = r * 65536 by rw [wrap64] <;> omega, e5]
    exact ⟨x, _, _, hx, by omega, rfl⟩
  obtain ⟨x, a3, s3, hx, ha3, e3⟩ := s_plain n hb (a := a2) (by omega) (by omega) s2
  obtain ⟨r, a4, s4, hr, ha4, e4⟩ := s_among (n + 1) hb (a := a3) (by omega) (by omega) s3 [8388608, 2130706432, 1610612736, 536870912] (by decide)
  have hr' : 0 ≤ r ∧ r < 4294967296 := by simp only [List.mem_cons, List.not_mem_nil, or_false] at hr; omega
  obtain ⟨y, hy, e5⟩ := s_from32 (n + 2) hr'.1 hr'.2
  simp only [br_f, e3, bd_s]
  refine ⟨_, a4, s4, w32_fmul x y, by omega, ?_⟩
  refine Eq.trans (congrArg (fun o => bd o _) e4) ?_
  simp only [bd_s, e5]
theorem s_floats_loop (n : Nat) {bs : List Int} (hb : Bytes bs) (str : Bool) : ∀ (j m : Nat) (a sd : Int) (acc : List Nat), 0 ≤ a → a + 16 * (j : Int) ≤ 1125899906842000 → acc.length + j ≤ 2147483647 → j < m → (∀ x ∈ acc, W32 x) →
    ∃ ys a' sd', ys.length = acc.length + j ∧ (∀ x ∈ ys, W32 x) ∧ (a ≤ a' ∧ a' ≤ a + 16 * (j : Int)) ∧
      f98_s_l01DrawFloats.l0 (n + 5) m bs.length (its .u8 bs) a sd (j : Int) acc.length (fls .f32 acc) str = some (bs.length, its .u8 bs, a', sd', ys.length, fls .f32 ys) := by
  intro j
  induction j with
  | zero =>
    intro m a sd acc h0 h1 hl hm hw
    obtain ⟨m, rfl⟩ : ∃ k, m = k + 1 := ⟨m - 1, by omega⟩
    rw [f98_s_l01DrawFloats.l0]
    exact ⟨acc, a, sd, by omega, hw, by omega, rfl⟩
  | succ j ih =>
    intro m a sd acc h0 h1 hl hm hw
    obtain ⟨m, rfl⟩ : ∃ k, m = k + 1 := ⟨m - 1, by omega⟩
    rw [f98_s_l01DrawFloats.l0, decide_eq_true (show (((j + 1 : Nat) : Int) > 0) by omega), show IntKind.i64.wrap (((j + 1 : Nat) : Int) - 1) = (j : Int) by rw [wrap64] <;> omega]
    have key : ∀ x a1 s1, W32 x → a ≤ a1 → a1 ≤ a + 16 → ∃ ys a' sd', ys.length = acc.length + (j + 1) ∧ (∀ x ∈ ys, W32 x) ∧ (a ≤ a' ∧ a' ≤ a + 16 * ((j + 1 : Nat) : Int)) ∧
        f98_s_l01DrawFloats.l0 (n + 5) m bs.length (its .u8 bs) a1 s1 (j : Int) (acc ++ [x]).length (fls .f32 (acc ++ [x])) str = some (bs.length, its .u8 bs, a', sd', ys.length, fls .f32 ys) := by
      intro x a1 s1 hx h2 h3
      obtain ⟨ys, a', sd', hy, hyw, ha, e⟩ := ih m a1 s1 (acc ++ [x]) (by omega) (by omega) (by simp; omega) (by omega) (by
        intro y hy; simp only [List.mem_append, List.mem_singleton] at hy; rcases hy with hy | rfl
        · exact hw y hy
        · exact hx)
      exact ⟨ys, a', sd', by simp at hy; omega, hyw, by omega, e⟩
    simp only [br_t]
    cases str
    · obtain ⟨x, a1, s1, hx, ha, e⟩ := s_plain (n + 1) hb h0 (by omega) sd
      simp only [br_f, e, bd_s, push_ok (show acc.length < 2147483648 by omega), gd_t, push_fls]
      rw [show acc.length + 1 = (acc ++ [x]).length by simp]
      exact key x a1 s1 hx.w32 (by omega) (by omega)
    · obtain ⟨x, a1, s1, hx, ha, e⟩ := s_float n hb h0 (by omega) sd
      simp only [br_t, e, bd_s, push_ok (show acc.length < 2147483648 by omega), gd_t, push_fls]
      rw [show acc.length + 1 = (acc ++ [x]).length by simp]
      exact key x a1 s1 hx (by omega) (by omega)
theorem s_floats (n : Nat) {bs : List Int} (hb : Bytes bs) {a : Int} (h0 : 0 ≤ a) (j : Nat) (h1 : a + 16 * (j : Int) ≤ 1125899906841000) (hj : j ≤ 2147483647) (hn : j < n) (sd : Int) :
    ∃ ys a' sd', ys.length = j ∧ (∀ x ∈ ys, W32 x) ∧ (a ≤ a' ∧ a' ≤ a + 2 + 16 * (j : Int)) ∧ f98_s_l01DrawFloats (n + 6) bs.length (its .u8 bs) a sd (j : Int) = some (ys.length, fls .f32 ys, bs.length, its .u8 bs, a', sd') := by
  obtain ⟨b, a1, s1, ha1, e1⟩ := s_one (n + 2) hb h0 (by omega) sd 4
  obtain ⟨ys, a2, s2, hy, hw, ha2, e2⟩ := s_floats_loop n hb b j (n + 5) a1 s1 [] (by omega) (by omega) (by simp; omega) (by omega) (by simp)
  rw [f98_s_l01DrawFloats, e1]
  refine ⟨ys, a2, s2, by simpa using hy, hw, by omega, ?_⟩
  have e2 : f98_s_l01DrawFloats.l0 (n + 5) (n + 5) bs.length (its .u8 bs) a1 s1 (j : Int) 0 (reps 0 [(T.flt FloatKind.f32 0)]) b = some (bs.length, its .u8 bs, a2, s2, ys.length, fls .f32 ys) := e2
  simp only [bd_s, e2]

theorem l_long10 (n : Nat) (bs cs : List Int) : f28_l_b10Long (n + 1) bs.length (its .u8 bs) cs.length (its .u8 cs) = some (decide (1048576 < bs.length ∨ 1048576 < cs.length)) := by
  rw [f28_l_b10Long]
  by_cases h : 1048576 < bs.length
  · rw [decide_eq_true (show (bs.length : Int) > 1048576 by omega), decide_eq_true (Or.inl h)]; rfl
  · rw [decide_eq_false (show ¬ (bs.length : Int) > 1048576 by omega), br_f]
    congr 1
    simp [h]; omega
theorem l_at10 (n : Nat) {bs : List Int} (hb : Bytes bs) {i k : Int} (hi : 0 ≤ i) (hi2 : i ≤ 1000000) (hk : 1 ≤ k) : ∃ r, (0 ≤ r ∧ r < k) ∧ f29_l_b10At (n + 1) bs.length (its .u8 bs) i k = some r := by
  rw [f29_l_b10At]
  by_cases h : k ≤ 1
  · rw [decide_eq_true h]; exact ⟨0, by omega, rfl⟩
  rw [decide_eq_false h]
  have hk0 : (!decide (k = 0)) = true := by simp; omega
  by_cases h2 : i < (bs.length : Int)
  · rw [decide_eq_true h2]
    obtain ⟨i, rfl⟩ := Int.eq_ofNat_of_zero_le hi
    have hi : i < bs.length := by omega
    have hr := hb (bs[i]) (List.getElem_mem _)
    simp only [br_f, br_t, in_dec hi, Int.toNat_natCast, okAt_its hi, Bool.and_self, gd_t, iAt_its, hk0]
    rw [show bs.getD i 0 = bs[i] by simp [List.getD, hi], show IntKind.i64.wrap bs[i] = bs[i] by rw [wrap64] <;> omega]
    refine ⟨_, ?_, rfl⟩
    rw [Int.tmod_eq_emod_of_nonneg (by omega)]
    have := Int.emod_nonneg bs[i] (show k ≠ 0 by omega)
    have := Int.emod_lt_of_pos bs[i] (show 0 < k by omega)
    omega
  · rw [decide_eq_false h2]
    simp only [br_f, hk0, gd_t]
    rw [show IntKind.i64.wrap (i * 37) = i * 37 by rw [wrap64] <;> omega, show IntKind.i64.wrap (i * 37 + 11) = i * 37 + 11 by rw [wrap64] <;> omega]
    refine ⟨_, ?_, rfl⟩
    rw [Int.tmod_eq_emod_of_nonneg (by omega)]
    have := Int.emod_nonneg (i * 37 + 11) (show k ≠ 0 by omega)
    have := Int.emod_lt_of_pos (i * 37 + 11) (show 0 < k by omega)
    omega
theorem s_bits (n : Nat) {x : Nat} (h : W32 x) : f165_s_l01Bits (n + 2) x = some (x : Int) := by
  rw [f165_s_l01Bits, fne_nan]
  cases hn : isNaN .f32 x
  · have : xF32bits (n + 1) x = some (x : Int) := by simp [xF32bits, hn]
    have hx := h.1
    simp only [br_f, this, bd_s]
    rw [wrap64] <;> omega
  · rw [br_t, ← h.2, canon_nan hn]; rfl
theorem s_same1 (n : Nat) {x y : Nat} (hx : W32 x) (hy : W32 y) : f106_s_l01Same (n + 3) x y = some (x == y) := by
  rw [f106_s_l01Same, s_bits n hx]
  simp only [bd_s, s_bits n hy]
  congr 1
  rw [Bool.eq_iff_iff]; simp; constructor <;> omega
theorem s_same (n : Nat) {x y : Nat} (hx : W32 x) (hy : W32 y) : f33_s_SameNumber (n + 4) x y = some (x == y) := by
  rw [f33_s_SameNumber, s_same1 n hx hy]; rfl
theorem s_b10numbers (n : Nat) {bs : List Int} (hb : Bytes bs) (k : Nat) (hk : k ≤ 1000000) (hn : k < n) : ∃ xs, xs.length = k ∧ (∀ x ∈ xs, W32 x) ∧ f30_s_B10Numbers (n + 7) bs.length (its .u8 bs) (k : Int) = some (xs.length, fls .f32 xs) := by
  obtain ⟨ys, a2, s2, hy, hw, ha2, e2⟩ := s_floats n hb (a := 0) (by omega) k (by omega) (by omega) (by omega) 0
  rw [f30_s_B10Numbers, s_from]
  simp only [bd_s, e2]
  exact ⟨ys, by omega, hw, rfl⟩

theorem s_b10whole_loop (n : Nat) {bs : List Int} (hb : Bytes bs) (most : Nat) (hmost : most ≤ 1000000) : ∀ (j m : Nat) (a sd : Int) (acc : List Int), 0 ≤ a → a + 2 * (j : Int) ≤ 1125899906842000 → acc.length + j ≤ 1000000 → j < m → (∀ x ∈ acc, -(most : Int) ≤ x ∧ x ≤ (most : Int)) →
    ∃ ks : List Int, ks.length = acc.length + j ∧ (∀ x ∈ ks, -(most : Int) ≤ x ∧ x ≤ (most : Int)) ∧ f34_s_B10Whole.l0 (n + 2) m (j : Int) (most : Int) bs.length (its .u8 bs) a sd (nears acc).length (fls .f32 (nears acc)) = some ((nears ks).length, fls .f32 (nears ks)) := by
  intro j
  induction j with
  | zero =>
    intro m a sd acc _ _ _ hm hw
    obtain ⟨m, rfl⟩ : ∃ k, m = k + 1 := ⟨m - 1, by omega⟩
    rw [f34_s_B10Whole.l0]
    exact ⟨acc, by omega, hw, rfl⟩
  | succ j ih =>
    intro m a sd acc h0 h1 hl hm hw
    obtain ⟨m, rfl⟩ : ∃ k, m = k + 1 := ⟨m - 1, by omega⟩
    obtain ⟨r, a1, s1, hr, ha1, e1⟩ := s_pick n hb h0 (by omega) sd (2 * (most : Int) + 1)
    have w1 : IntKind.i64.wrap (IntKind.i64.wrap (2 * (most : Int)) + 1) = 2 * (most : Int) + 1 := by rw [wrap64 (x := 2 * (most : Int)) (by omega) (by omega), wrap64] <;> omega
    have hr0 := hr.1
    have hr1 : r < 2 * (most : Int) + 1 := by
      by_cases h : 1 < 2 * (most : Int) + 1
      · exact hr.2.1 h
      · have := hr.2.2 (by omega); omega
    have w2 : IntKind.i64.wrap (r - (most : Int)) = r - (most : Int) := by rw [wrap64] <;> omega
    have hpush : nears acc ++ [FloatKind.f32.nearest (r - (most : Int))] = nears (acc ++ [r - (most : Int)]) := by simp [nears]
    rw [f34_s_B10Whole.l0, decide_eq_true (show (((j + 1 : Nat) : Int) > 0) by omega), show IntKind.i64.wrap (((j + 1 : Nat) : Int) - 1) = (j : Int) by rw [wrap64] <;> omega, w1]
    simp only [br_t, e1, bd_s, w2, push_ok (show (nears acc).length < 2147483648 by rw [nears_length]; omega), gd_t, push_fls]
    rw [push_len (z := FloatKind.f32.nearest (r - (most : Int))), hpush]
    obtain ⟨ks, q1, q2, q3⟩ := ih m a1 s1 (acc ++ [r - (most : Int)]) (by omega) (by omega) (by simp; omega) (by omega) (by
      intro x hx; simp only [List.mem_append, List.mem_singleton] at hx
      rcases hx with hx | rfl
      · exact hw x hx
      · omega)
    exact ⟨ks, by simp at q1; omega, q2, q3⟩
theorem s_b10whole (n : Nat) {bs : List Int} (hb : Bytes bs) (k most : Nat) (hk : k ≤ 1000) (hmost : most ≤ 1000000) (hn : k < n) : ∃ ks : List Int, ks.length = k ∧ (∀ x ∈ ks, -(most : Int) ≤ x ∧ x ≤ (most : Int)) ∧ f34_s_B10Whole (n + 3) bs.length (its .u8 bs) (k : Int) (most : Int) = some (ks.length, fls .f32 (nears ks)) := by
  obtain ⟨ks, h1, h2, e⟩ := s_b10whole_loop n hb most hmost k (n + 2) 0 0 [] (by omega) (by omega) (by simp; omega) (by omega) (by simp)
  have e : f34_s_B10Whole.l0 (n + 2) (n + 2) (k : Int) (most : Int) bs.length (its .u8 bs) 0 0 0 (reps 0 [(T.flt FloatKind.f32 0)]) = some ((nears ks).length, fls .f32 (nears ks)) := e
  refine ⟨ks, by simpa using h1, h2, ?_⟩
  rw [f34_s_B10Whole, s_from]
  simp only [bd_s, e, nears_length]

theorem i_few (n k : Nat) (l : List T) : f92_i_areSamples (n + 1) k l = some (decide ((k : Int) ≤ 256)) := by rw [f92_i_areSamples]




theorem i_dot_loop (n : Nat) (N : Nat) (cs : List T) : ∀ (zs ys p q : List Nat) (s m : Nat), ys.length = zs.length → q.length = p.length → p.length + zs.length < 1048576 → zs.length < m →
    f94_i_dot.l0 n m (p ++ zs).length (fls .f32 (p ++ zs)) (q ++ ys).length (fls .f32 (q ++ ys)) s ((p ++ zs).length : Int) (p.length : Int) = some (dotM s zs ys) := by
  intro zs
  induction zs with
  | nil =>
    intro ys p q s m _ _ _ hm
    obtain ⟨m, rfl⟩ : ∃ k, m = k + 1 := ⟨m - 1, by omega⟩
    rw [f94_i_dot.l0, lt_end]
    simp [br_f, dotM]
  | cons z zs ih =>
    intro ys p q s m hl hq hp hm
    obtain ⟨m, rfl⟩ : ∃ k, m = k + 1 := ⟨m - 1, by omega⟩
    cases ys with
    | nil => simp at hl
    | cons y ys =>
      have e1 : okAt [.flt .f32] (fls .f32 (q ++ y :: ys)) p.length = true := by rw [← hq]; exact okAt_mid
      have e2 : fAt (fls .f32 (q ++ y :: ys)) p.length = y := by rw [← hq]; exact fAt_mid
      have e3 : decide ((0 : Int) ≤ (p.length : Int) ∧ (p.length : Int) < ((q ++ y :: ys).length : Int)) = true := by rw [← hq]; exact in_mid
      rw [f94_i_dot.l0, lt_mid, in_mid, toNat_len, okAt_mid, fAt_mid, e1, e2, e3]
      have := ih ys (p ++ [z]) (q ++ [y]) (fadd .f32 s (fmul .f32 z y)) m (by simpa using hl) (by simp [hq]) (by simp at hp ⊢; omega) (by simp at hm; omega)
      simp only [br_t, gd_t, Bool.and_self, wrap_len (z := z) (show p.length < 4611686018427387904 by simp at hp; omega)]
      simpa [dotM] using this
theorem i_dotted (n : Nat) (xs ys : List Nat) (hl : ys.length = xs.length) (hx : xs.length < 1048576) (hn : xs.length < n) : f94_i_dot (n + 1) xs.length (fls .f32 xs) ys.length (fls .f32 ys) = some (dotM 0 xs ys) := by
  rw [f94_i_dot]
  have e := i_dot_loop n xs.length (fls .f32 xs) xs ys [] [] 0 n hl rfl (by simpa using hx) (by omega)
  have e : f94_i_dot.l0 n n xs.length (fls .f32 xs) ys.length (fls .f32 ys) 0 (xs.length : Int) 0 = some (dotM 0 xs ys) := e
  rw [e]; rfl
theorem i_dotnumbers (n : Nat) (xs ys : List Nat) (hl : ys.length = xs.length) (hx : xs.length ≤ 256) (hn : xs.length < n) : f20_i_DotNumbers (n + 2) xs.length (fls .f32 xs) ys.length (fls .f32 ys) = some (dotM 0 xs ys, true) := by
  rw [f20_i_DotNumbers, i_few, decide_eq_true (show (xs.length : Int) ≤ 256 by omega), show (((xs.length : Nat) : Int) != ((ys.length : Nat) : Int)) = false by simp [hl]]
  simp only [bd_s, br_not, br_t, br_f, i_dotted n xs ys hl (by omega) hn]



theorem mul_one32 {x : Nat} (hx : W32 x) (hf : fin32 x = true) : fmul .f32 x 1065353216 = x := by
  have hv := fin_val hf
  by_cases h0 : fval .f32 x = 0
  · rw [h0] at hv
    rcases val_zero_word hx.1 hv with rfl | rfl <;> decide
  · have e : fval .f32 x * 1 = fval .f32 x := Rat.mul_one _
    obtain ⟨s, m, i, h1, h2, h3, h4⟩ := hv
    have hb : mv m i < p2 (topE .f32) := by
      obtain ⟨a1, a2, a3⟩ := single_finite h1
      have q := (mv_lt (m := m) (n := 2 ^ 24) (e := i)).2 (by omega)
      rw [mv_pow] at q
      have q2 := p2_le (show i + ((24 : Nat) : Int) ≤ 128 by omega)
      show mv m i < p2 128
      grind
    have habs : fval .f32 x ≤ mv m i ∧ -(mv m i) ≤ fval .f32 x := by
      have := mv_nonneg m i
      cases s <;> simp only [sg_true, sg_false] at h2 <;> grind
    obtain ⟨R, q1, q2⟩ := mul_val (fin_val hf) val_one32 (B := mv m i) ⟨m, i, h3, h4, rfl⟩ hb (by rw [e]; exact habs.1) (by rw [e]; exact habs.2)
    rw [e] at q2
    have q3 := q1.near_eq q2 (fin_val hf).rep
    exact word_of_val (fmul_lt _ _ _) hx.1 q3 (fin_val hf) h0
theorem mul_one_all {x : Nat} (hx : W32 x) : fmul .f32 x 1065353216 = x := by
  cases hf : fin32 x
  · cases hn : isNaN .f32 x
    · have h1 := num_mag hn
      have h2 := hx.1
      unfold fin32 at hf
      simp only [decide_eq_false_iff_not] at hf
      have : x = 2139095040 ∨ x = 4286578688 := by omega
      rcases this with rfl | rfl <;> decide
    · have : x = qnan .f32 := by rw [← hx.2]; exact canon_nan hn
      rw [this]; decide
  · exact mul_one32 hx hf

def sumM (s : Nat) (xs : List Nat) : Nat := xs.foldl (fadd .f32) s
theorem w32_sum : ∀ (xs : List Nat) (s : Nat), W32 s → W32 (sumM s xs)
  | [], s, h => h
  | x :: xs, s, _ => w32_sum xs _ (w32_fadd _ _)
theorem i_sum_loop (n : Nat) (N : Nat) (cs : List T) : ∀ (zs p : List Nat) (s m : Nat), p.length + zs.length < 1048576 → zs.length < m →
    f104_i_sumOf.l0 n m N cs s (p ++ zs).length (fls .f32 (p ++ zs)) ((p ++ zs).length : Int) (p.length : Int) = some (sumM s zs) := by
  intro zs
  induction zs with
  | nil =>
    intro p s m _ hm
    obtain ⟨m, rfl⟩ : ∃ k, m = k + 1 := ⟨m - 1, by omega⟩
    rw [f104_i_sumOf.l0, lt_end]; rfl
  | cons z zs ih =>
    intro p s m hp hm
    obtain ⟨m, rfl⟩ : ∃ k, m = k + 1 := ⟨m - 1, by omega⟩
    rw [f104_i_sumOf.l0, lt_mid, in_mid, toNat_len, okAt_mid, fAt_mid, wrap_len (z := z) (show p.length < 4611686018427387904 by simp at hp; omega)]
    have := ih (p ++ [z]) (fadd .f32 s z) m (by simp at hp ⊢; omega) (by simp at hm; omega)
    simpa [br, gd, sumM] using this
theorem i_summed (n : Nat) (xs : List Nat) (hl : xs.length < 1048576) (hn : xs.length < n) : f104_i_sumOf (n + 1) xs.length (fls .f32 xs) = some (sumM 0 xs) := by
  have e := i_sum_loop n xs.length (fls .f32 xs) xs [] 0 n (by simpa using hl) (by omega)
  have e : f104_i_sumOf.l0 n n xs.length (fls .f32 xs) 0 xs.length (fls .f32 xs) (xs.length : Int) 0 = _ := e
  rw [f104_i_sumOf, e]; rfl
theorem i_sumnumbers (n : Nat) (xs : List Nat) (hl : xs.length ≤ 256) (hn : xs.length < n) : f31_i_SumNumbers (n + 2) xs.length (fls .f32 xs) = some (sumM 0 xs, true) := by
  rw [f31_i_SumNumbers, i_few, decide_eq_true (show (xs.length : Int) ≤ 256 by omega), i_summed n xs (by omega) hn]; rfl

def pairM : Nat → List Nat → Nat
  | 0, xs => xs.getD 0 0
  | k + 1, xs => if xs.length ≤ 1 then xs.getD 0 0 else fadd .f32 (pairM k (xs.take ((xs.length + 1) / 2))) (pairM k (xs.drop ((xs.length + 1) / 2)))
theorem pair_succ (j : Nat) (ys : List Nat) : pairM (j + 1) ys = if ys.length ≤ 1 then ys.getD 0 0 else fadd .f32 (pairM j (ys.take ((ys.length + 1) / 2))) (pairM j (ys.drop ((ys.length + 1) / 2))) := rfl
theorem pair_fuel : ∀ (k : Nat) (xs : List Nat), xs.length ≤ k + 1 → pairM (k + 1) xs = pairM k xs := by
  intro k
  induction k with
  | zero => intro xs h; simp only [pairM]; rw [if_pos (by omega)]
  | succ k ih =>
    intro xs h
    rw [pair_succ (k + 1) xs, pair_succ k xs]
    by_cases h1 : xs.length ≤ 1
    · rw [if_pos h1, if_pos h1]
    · rw [if_neg h1, if_neg h1, ih _ (by rw [List.length_take]; omega), ih _ (by rw [List.length_drop]; omega)]
theorem w32_pair : ∀ (k : Nat) (xs : List Nat), (∀ x ∈ xs, W32 x) → W32 (pairM k xs) := by
  have hd : ∀ xs : List Nat, (∀ x ∈ xs, W32 x) → W32 (xs.getD 0 0) := fun xs h => by
    cases xs with
    | nil => exact w32_zero
    | cons x xs => exact h x (by simp)
  intro k
  induction k with
  | zero => intro xs h; exact hd xs h
  | succ k ih =>
    intro xs h
    rw [pairM]
    split
    · exact hd xs h
    · exact w32_fadd _ _
theorem i_pairs (n : Nat) : ∀ (k : Nat) (xs : List Nat), xs.length ≤ k + 1 → xs.length ≤ 256 → f105_i_sumPairs (n + k + 1) xs.length (fls .f32 xs) = some (pairM k xs) := by
  have small : ∀ (j k : Nat) (xs : List Nat), xs.length ≤ 1 → f105_i_sumPairs (j + 1) xs.length (fls .f32 xs) = some (xs.getD 0 0) := by
    intro j k xs h
    rw [f105_i_sumPairs]
    cases xs with
    | nil => rfl
    | cons x xs =>
      have : xs = [] := by cases xs with
        | nil => rfl
        | cons y ys => simp at h
      subst this
      rfl
  intro k
  induction k with
  | zero => intro xs h _; exact small n 0 xs (by omega)
  | succ k ih =>
    intro xs h h2
    by_cases h1 : xs.length ≤ 1
    · rw [pairM, if_pos h1]; exact small (n + (k + 1)) 0 xs h1
    · have hh : IntKind.i64.wrap (Int.tdiv (IntKind.i64.wrap ((xs.length : Int) + 1)) 2) = (((xs.length + 1) / 2 : Nat) : Int) := by
        rw [wrap64 (x := (xs.length : Int) + 1) (by omega) (by omega), Int.tdiv_eq_ediv_of_nonneg (by omega), wrap64] <;> omega
      have c0 : (((xs.length : Nat) : Int) == (0 : Int)) = false := beq_eq_false_iff_ne.2 (by omega)
      have c1 : (((xs.length : Nat) : Int) == (1 : Int)) = false := beq_eq_false_iff_ne.2 (by omega)
      have c2 : decide ((0 : Int) ≤ 0 ∧ (0 : Int) ≤ (((xs.length + 1) / 2 : Nat) : Int) ∧ (((xs.length + 1) / 2 : Nat) : Int) ≤ (xs.length : Int)) = true := decide_eq_true (by omega)
      have c3 : decide ((0 : Int) ≤ (((xs.length + 1) / 2 : Nat) : Int) ∧ (((xs.length + 1) / 2 : Nat) : Int) ≤ (xs.length : Int) ∧ (xs.length : Int) ≤ (xs.length : Int)) = true := decide_eq_true (by omega)
      have t1 := ih (xs.take ((xs.length + 1) / 2)) (by rw [List.length_take]; have := Nat.div_add_mod (xs.length + 1) 2; omega) (by rw [List.length_take]; omega)
      have t2 := ih (xs.drop ((xs.length + 1) / 2)) (by rw [List.length_drop]; omega) (by rw [List.length_drop]; omega)
      rw [show (xs.take ((xs.length + 1) / 2)).length = (xs.length + 1) / 2 by rw [List.length_take]; omega, ← fls_take] at t1
      rw [List.length_drop, ← fls_drop] at t2
      have t2 : f105_i_sumPairs (n + k + 1) (xs.length - (xs.length + 1) / 2) (List.take (xs.length - (xs.length + 1) / 2) (List.drop ((xs.length + 1) / 2) (fls .f32 xs))) = some (pairM k (xs.drop ((xs.length + 1) / 2))) := by
        rw [List.take_of_length_le (by rw [List.length_drop, fls_length]; omega)]; exact t2
      rw [pairM, if_neg h1, show n + (k + 1) + 1 = (n + k + 1) + 1 by omega, f105_i_sumPairs]
      simp only [c0, c1, br_f, hh, c2, gd_t, Int.toNat_natCast, Nat.sub_zero, List.drop_zero, t1, bd_s, c3, t2]
theorem i_sumpairs (n : Nat) (xs : List Nat) (h : xs.length ≤ 32) : f32_i_SumPairs (n + 33) xs.length (fls .f32 xs) = some (pairM 31 xs, true) := by
  have e := i_pairs n 31 xs (by omega) (by omega)
  have e : f105_i_sumPairs (n + 32) xs.length (fls .f32 xs) = some (pairM 31 xs) := e
  rw [f32_i_SumPairs, i_few, decide_eq_true (show (xs.length : Int) ≤ 256 by omega)]
  simp only [bd_s, br_not, br_t, e]
theorem dot_ones : ∀ (xs : List Nat) (s : Nat), (∀ x ∈ xs, W32 x) → dotM s xs (List.replicate xs.length 1065353216) = sumM s xs := by
  intro xs
  induction xs with
  | nil => intro s _; rfl
  | cons x xs ih =>
    intro s h
    show dotM (fadd .f32 s (fmul .f32 x 1065353216)) xs (List.replicate xs.length 1065353216) = sumM (fadd .f32 s x) xs
    rw [mul_one_all (h x (by simp))]
    exact ih _ (fun y hy => h y (by simp [hy]))
/-! ### Whole numbers -/
def sumZ : List Int → Int
  | [] => 0
  | a :: l => a + sumZ l
theorem sumZ_append : ∀ a b : List Int, sumZ (a ++ b) = sumZ a + sumZ b
  | [], b => by simp [sumZ]
  | x :: a, b => by simp [sumZ, sumZ_append a b]; omega
theorem sumZ_bound (B : Int) : ∀ l : List Int, (∀ a ∈ l, -B ≤ a ∧ a ≤ B) → -(B * l.length) ≤ sumZ l ∧ sumZ l ≤ B * l.length := by
  intro l
  induction l with
  | nil => intro _; simp [sumZ]
  | cons a l ih =>
    intro h
    have h1 := h a (by simp)
    have h2 := ih (fun x hx => h x (by simp [hx]))
    simp only [sumZ, List.length_cons]
    rw [show B * ((l.length + 1 : Nat) : Int) = B * (l.length : Int) + B by rw [Int.natCast_add, Int.mul_add]; simp]
    omega
theorem bin_le (k : FloatKind) {a : Int} (h : a.natAbs ≤ 16777216) : a.natAbs ≤ 2 * k.format.binade := by
  have : 16777216 ≤ 2 * k.format.binade := by cases k <;> decide
  omega
theorem pair_ints : ∀ (k : Nat) (ks : List Int), ks.length ≤ k + 1 → ks.length ≤ 32 → (∀ a ∈ ks, -100 ≤ a ∧ a ≤ 100) → pairM k (nears ks) = FloatKind.f32.nearest (sumZ ks) := by
  have hd : ∀ ks : List Int, ks.length ≤ 1 → (nears ks).getD 0 0 = FloatKind.f32.nearest (sumZ ks) := fun ks h => by
    cases ks with
    | nil => exact (nearest_zero .f32).symm
    | cons a l =>
      have : l = [] := by cases l with
        | nil => rfl
        | cons y ys => simp at h
      subst this
      simp [nears, sumZ]
  intro k
  induction k with
  | zero => intro ks h _ _; exact hd ks (by omega)
  | succ k ih =>
    intro ks h h2 hb
    rw [pairM, nears_length]
    by_cases h1 : ks.length ≤ 1
    · rw [if_pos h1]; exact hd ks h1
    · have e1 : (nears ks).take ((ks.length + 1) / 2) = nears (ks.take ((ks.length + 1) / 2)) := by simp [nears, List.map_take]
      have e2 : (nears ks).drop ((ks.length + 1) / 2) = nears (ks.drop ((ks.length + 1) / 2)) := by simp [nears, List.map_drop]
      have l1 : (ks.take ((ks.length + 1) / 2)).length = (ks.length + 1) / 2 := by rw [List.length_take]; omega
      have l2 : (ks.drop ((ks.length + 1) / 2)).length = ks.length - (ks.length + 1) / 2 := List.length_drop
      have b1 := fun a (ha : a ∈ ks.take ((ks.length + 1) / 2)) => hb a (List.mem_of_mem_take ha)
      have b2 := fun a (ha : a ∈ ks.drop ((ks.length + 1) / 2)) => hb a (List.mem_of_mem_drop ha)
      rw [if_neg h1, e1, e2, ih _ (by omega) (by omega) b1, ih _ (by omega) (by omega) b2]
      have s1 := sumZ_bound 100 _ b1
      have s2 := sumZ_bound 100 _ b2
      rw [l1] at s1
      rw [l2] at s2
      rw [int_add (bin_le _ (by omega)) (bin_le _ (by omega)) (bin_le _ (by omega)), ← sumZ_append, List.take_append_drop]
theorem sum_ints : ∀ (ks : List Int) (s : Int), (s.natAbs : Int) + 100 * ks.length ≤ 1000000 → (∀ a ∈ ks, -100 ≤ a ∧ a ≤ 100) → sumM (FloatKind.f32.nearest s) (nears ks) = FloatKind.f32.nearest (s + sumZ ks) := by
  intro ks
  induction ks with
  | nil => intro s _ _; simp [nears, sumM, sumZ]
  | cons a ks ih =>
    intro s h hb
    have ha := hb a (by simp)
    simp only [List.length_cons] at h
    show sumM (fadd .f32 (FloatKind.f32.nearest s) (FloatKind.f32.nearest a)) (nears ks) = _
    rw [int_add (bin_le _ (by omega)) (bin_le _ (by omega)) (bin_le _ (by omega)), ih (s + a) (by omega) (fun x hx => hb x (by simp [hx]))]
    simp only [sumZ]
    rw [Int.add_assoc]
theorem int_mulk {k : FloatKind} {a b : Int} (ha : a.natAbs ≤ 16777216) (hb : b.natAbs ≤ 16777216) (hab : (a * b).natAbs ≤ 16777216) (h0 : a * b ≠ 0) : fmul k (k.nearest a) (k.nearest b) = k.nearest (a * b) := by
  have va := int_val (k := k) (bin_le k ha)
  have vb := int_val (k := k) (bin_le k hb)
  have hab' := bin_le k hab
  have hv : (a : Rat) * (b : Rat) = ((a * b : Int) : Rat) := (Rat.intCast_mul _ _).symm
  obtain ⟨h1, h2⟩ := int_abs (n := a * b)
  obtain ⟨R, h3, h4⟩ := mul_val va vb (rep_nat k hab') (nat_top k hab') (by rw [hv]; exact h1) (by rw [hv]; exact h2)
  rw [hv] at h4
  have h5 := h3.near_eq h4 (int_rep hab')
  exact word_of_val (fmul_lt _ _ _) (nearest_lt _ _) h5 (int_val hab') (by exact_mod_cast h0)
theorem int_sq (k : FloatKind) {a : Int} (h : -100 ≤ a ∧ a ≤ 100) : fmul k (k.nearest a) (k.nearest a) = k.nearest (a * a) ∧ 0 ≤ a * a ∧ a * a ≤ 10000 := by
  have b1 : 0 ≤ a * a := by
    rcases Int.le_total 0 a with h | h
    · exact Int.mul_nonneg h h
    · exact Int.mul_nonneg_of_nonpos_of_nonpos h h
  have b2 : a * a ≤ 10000 := by
    have h1 : (100 - a) * (100 + a) ≥ 0 := Int.mul_nonneg (by omega) (by omega)
    rw [Int.sub_mul, Int.mul_add, Int.mul_add, Int.mul_comm a 100] at h1
    omega
  refine ⟨?_, b1, b2⟩
  by_cases h0 : a = 0
  · subst h0; cases k <;> decide
  · exact int_mulk (by omega) (by omega) (by omega) (Int.mul_ne_zero h0 h0)
def sqZ : List Int → Int
  | [] => 0
  | a :: l => a * a + sqZ l
theorem sqZ_bound : ∀ l : List Int, (∀ a ∈ l, -100 ≤ a ∧ a ≤ 100) → 0 ≤ sqZ l ∧ sqZ l ≤ 10000 * l.length := by
  intro l
  induction l with
  | nil => intro _; simp [sqZ]
  | cons a l ih =>
    intro h
    have h1 := (int_sq .f32 (h a (by simp))).2
    have h2 := ih (fun x hx => h x (by simp [hx]))
    simp only [sqZ, List.length_cons]
    omega
theorem dot_ints : ∀ (ks : List Int) (s : Int), 0 ≤ s → s + 10000 * ks.length ≤ 1000000 → (∀ a ∈ ks, -100 ≤ a ∧ a ≤ 100) → dotM (FloatKind.f32.nearest s) (nears ks) (nears ks) = FloatKind.f32.nearest (s + sqZ ks) := by
  intro ks
  induction ks with
  | nil => intro s _ _ _; simp [nears, dotM, sqZ]
  | cons a ks ih =>
    intro s h0 h hb
    obtain ⟨e, b1, b2⟩ := int_sq .f32 (hb a (by simp))
    simp only [List.length_cons] at h
    show dotM (fadd .f32 (FloatKind.f32.nearest s) (fmul .f32 (FloatKind.f32.nearest a) (FloatKind.f32.nearest a))) (nears ks) (nears ks) = _
    rw [e, int_add (bin_le _ (by omega)) (bin_le _ (by omega)) (bin_le _ (by omega)), ih (s + a * a) (by omega) (by omega) (fun x hx => hb x (by simp [hx]))]
    simp only [sqZ]
    rw [Int.add_assoc]
theorem wide_int {a : Int} (h : a.natAbs ≤ 16777216) : wide (FloatKind.f32.nearest a) = FloatKind.f64.nearest a := by
  by_cases h0 : a = 0
  · subst h0; decide
  · have hv := wide_val (int_val (k := .f32) (bin_le _ h))
    have hw := (wide_size (isNaN_nearest .f32 a)).2.2
    exact word_of_val (k := .f64) hw (nearest_lt _ _) hv (int_val (bin_le _ h)) (by exact_mod_cast h0)
theorem i_dotwide_loop (n : Nat) : ∀ (ks p : List Int) (s : Int) (m : Nat), 0 ≤ s → s + 10000 * ks.length ≤ 1000000 → (∀ a ∈ ks, -100 ≤ a ∧ a ≤ 100) → p.length + ks.length < 1048576 → ks.length < m →
    f35_i_DotWide.l0 n m (nears (p ++ ks)).length (fls .f32 (nears (p ++ ks))) (nears (p ++ ks)).length (fls .f32 (nears (p ++ ks))) (FloatKind.f64.nearest s) ((p ++ ks).length : Int) (p.length : Int) = some (FloatKind.f64.nearest (s + sqZ ks)) := by
  intro ks
  induction ks with
  | nil =>
    intro p s m _ _ _ _ hm
    obtain ⟨m, rfl⟩ : ∃ k, m = k + 1 := ⟨m - 1, by omega⟩
    rw [f35_i_DotWide.l0, lt_end]; simp [br_f, sqZ]
  | cons a ks ih =>
    intro p s m h0 h hb hp hm
    obtain ⟨m, rfl⟩ : ∃ k, m = k + 1 := ⟨m - 1, by omega⟩
    have ha := hb a (by simp)
    obtain ⟨e, b1, b2⟩ := int_sq .f64 ha
    simp only [List.length_cons] at h
    have hn : nears (p ++ a :: ks) = nears p ++ FloatKind.f32.nearest a :: nears ks := by simp [nears]
    have c1 : okAt [.flt .f32] (fls .f32 (nears (p ++ a :: ks))) p.length = true := by rw [hn, ← nears_length p]; exact okAt_mid
    have c2 : fAt (fls .f32 (nears (p ++ a :: ks))) p.length = FloatKind.f32.nearest a := by rw [hn, ← nears_length p]; exact fAt_mid
    have c3 : decide ((0 : Int) ≤ (p.length : Int) ∧ (p.length : Int) < ((nears (p ++ a :: ks)).length : Int)) = true := by rw [nears_length]; exact in_mid
    rw [f35_i_DotWide.l0, lt_mid, c3, toNat_len, c1, c2, fltToFlt_wide, wide_int (by omega), wrap_len (z := a) (show p.length < 4611686018427387904 by simp at hp; omega)]
    simp only [br_t, Bool.and_self, gd_t, bd_s, e]
    rw [int_add (bin_le _ (by omega)) (bin_le _ (by omega)) (bin_le _ (by omega))]
    have := ih (p ++ [a]) (s + a * a) m (by omega) (by omega) (fun x hx => hb x (by simp [hx])) (by simp at hp ⊢; omega) (by simp at hm; omega)
    rw [show p ++ [a] ++ ks = p ++ a :: ks by simp] at this
    rw [this]
    simp only [sqZ]
    rw [Int.add_assoc]
theorem i_dotwide (n : Nat) (ks : List Int) (hl : ks.length ≤ 32) (hb : ∀ a ∈ ks, -100 ≤ a ∧ a ≤ 100) (hn : 32 < n) : f35_i_DotWide (n + 1) ks.length (fls .f32 (nears ks)) ks.length (fls .f32 (nears ks)) = some (FloatKind.f32.nearest (sqZ ks), true) := by
  obtain ⟨n, rfl⟩ : ∃ k, n = k + 1 := ⟨n - 1, by omega⟩
  have e := i_dotwide_loop (n + 1) ks [] 0 (n + 1) (by omega) (by omega) hb (by simp; omega) (by omega)
  rw [nearest_zero, Int.zero_add, List.nil_append, nears_length] at e
  have e : f35_i_DotWide.l0 (n + 1) (n + 1) ks.length (fls .f32 (nears ks)) ks.length (fls .f32 (nears ks)) 0 (ks.length : Int) 0 = _ := e
  have hs := sqZ_bound ks hb
  have hnw := narrow_wide (x := FloatKind.f32.nearest (sqZ ks)) (nearest_lt _ _) (isNaN_nearest _ _)
  rw [wide_int (by omega)] at hnw
  rw [f35_i_DotWide, i_few, decide_eq_true (show (ks.length : Int) ≤ 256 by omega)]
  simp only [bd_s, br_not, br_t, bne_self_eq_false, br_f, e, hnw]
theorem toint_tab : ∀ m : Nat, m < 201 → fltToInt .f32 (FloatKind.f32.nearest ((m : Int) - 100)) .i64 = some ((m : Int) - 100) := by decide +kernel
theorem toint {a : Int} (h : -100 ≤ a ∧ a ≤ 100) : fltToInt .f32 (FloatKind.f32.nearest a) .i64 = some a := by
  have := toint_tab (a + 100).toNat (by omega)
  rwa [show (((a + 100).toNat : Nat) : Int) - 100 = a by omega] at this
theorem told1 (n : Nat) (x4 x6 x8 x10 x12 : Nat) (b5 b7 b9 b11 b13 : Bool) : ∀ (ks p : List Int) (s q : Int) (m : Nat), ((s.natAbs : Int) + 100 * ks.length ≤ 1000000 ∧ 0 ≤ q ∧ q + 10000 * ks.length ≤ 1000000) → (∀ a ∈ ks, -100 ≤ a ∧ a ≤ 100) → p.length + ks.length < 1048576 → ks.length < m →
    f5_l_FnSums.l1 n m ((p ++ ks).length : Int) (nears (p ++ ks)).length (fls .f32 (nears (p ++ ks))) x4 b5 x6 b7 x8 b9 x10 b11 x12 b13 s q (p.length : Int) = some (x4, b5, x6, b7, x8, b9, x10, b11, x12, b13, s + sumZ ks, q + sqZ ks) := by
  intro ks
  induction ks with
  | nil =>
    intro p s q m _ _ _ hm
    obtain ⟨m, rfl⟩ : ∃ k, m = k + 1 := ⟨m - 1, by omega⟩
    rw [f5_l_FnSums.l1, lt_end]; simp [br_f, sqZ, sumZ]
  | cons a ks ih =>
    intro p s q m h hb hp hm
    obtain ⟨m, rfl⟩ : ∃ k, m = k + 1 := ⟨m - 1, by omega⟩
    have ha := hb a (by simp)
    obtain ⟨e, b1, b2⟩ := int_sq .f64 ha
    simp only [List.length_cons] at h
    have hn : nears (p ++ a :: ks) = nears p ++ FloatKind.f32.nearest a :: nears ks := by simp [nears]
    have c1 : okAt [.flt .f32] (fls .f32 (nears (p ++ a :: ks))) p.length = true := by rw [hn, ← nears_length p]; exact okAt_mid
    have c2 : fAt (fls .f32 (nears (p ++ a :: ks))) p.length = FloatKind.f32.nearest a := by rw [hn, ← nears_length p]; exact fAt_mid
    have c3 : decide ((0 : Int) ≤ (p.length : Int) ∧ (p.length : Int) < ((nears (p ++ a :: ks)).length : Int)) = true := by rw [nears_length]; exact in_mid
    have w1 : IntKind.i64.wrap (s + a) = s + a := by rw [wrap64] <;> omega
    have w2 : IntKind.i64.wrap (q + IntKind.i64.wrap (a * a)) = q + a * a := by rw [wrap64 (x := a * a) (by omega) (by omega), wrap64] <;> omega
    rw [f5_l_FnSums.l1, lt_mid, c3, toNat_len, c1, c2, toint ha, wrap_len (z := a) (show p.length < 4611686018427387904 by simp at hp; omega)]
    simp only [br_t, gd_t, bd_s, w1, w2]
    have := ih (p ++ [a]) (s + a) (q + a * a) m (by omega) (fun x hx => hb x (by simp [hx])) (by simp at hp ⊢; omega) (by simp at hm; omega)
    rw [show p ++ [a] ++ ks = p ++ a :: ks by simp] at this
    rw [this]
    simp only [sqZ, sumZ]
    rw [Int.add_assoc, Int.add_assoc]
theorem told0 (n : Nat) (N : Nat) (cs : List T) : ∀ (zs p acc : List Nat) (s m : Nat), acc.length + zs.length < 1048576 → p.length + zs.length < 1048576 → zs.length < m →
    f5_l_FnSums.l0 n m N cs ((p ++ zs).length : Int) (p ++ zs).length (fls .f32 (p ++ zs)) acc.length (fls .f32 acc) s (p.length : Int) =
      some (N, cs, ((p ++ zs).length : Int), (p ++ zs).length, fls .f32 (p ++ zs), (acc ++ List.replicate zs.length 1065353216).length, fls .f32 (acc ++ List.replicate zs.length 1065353216), sumM s zs) := by
  intro zs
  induction zs with
  | nil =>
    intro p acc s m _ _ hm
    obtain ⟨m, rfl⟩ : ∃ k, m = k + 1 := ⟨m - 1, by omega⟩
    rw [f5_l_FnSums.l0, lt_end]; simp [br_f, sumM]
  | cons z zs ih =>
    intro p acc s m ha hp hm
    obtain ⟨m, rfl⟩ : ∃ k, m = k + 1 := ⟨m - 1, by omega⟩
    have ha' : acc.length < 1048576 := by simp at ha; omega
    rw [f5_l_FnSums.l0, lt_mid, in_mid, toNat_len, okAt_mid, fAt_mid, wrap_len (z := z) (show p.length < 4611686018427387904 by simp at hp; omega), push_ok (show acc.length < 2147483648 by omega), push_fls]
    have := ih (p ++ [z]) (acc ++ [1065353216]) (fadd .f32 s z) m (by simp at ha ⊢; omega) (by simp at hp ⊢; omega) (by simp at hm; omega)
    rw [push_len (z := 1065353216)]
    simp only [br_t, gd_t]
    rw [show p ++ [z] ++ zs = p ++ z :: zs by simp] at this
    rw [this]
    simp [List.replicate_succ, sumM]
theorem exact_ (cs : List Int) (hc : ∀ b ∈ cs, GoodI .u8 b) (lc : cs.length ≤ maxLen) (ms : List Int) (hm : ∀ b ∈ ms, GoodI .u8 b) (lm : ms.length ≤ maxLen) : ∃ n, f5_l_FnSums n cs.length (its .u8 cs) ms.length (its .u8 ms) = some true := by
  refine ⟨1000, ?_⟩
  suffices h : ∀ n, f5_l_FnSums (n + 500) cs.length (its .u8 cs) ms.length (its .u8 ms) = some true from h 500
  intro n
  rw [f5_l_FnSums, l_long10]
  cases hlong : decide (1048576 < cs.length ∨ 1048576 < ms.length)
  case true => rfl
  obtain ⟨c, hc1, e1⟩ := l_at10 (n + 498) (bytes_of hc) (i := 0) (k := 20) (by omega) (by omega) (by omega)
  obtain ⟨c, rfl⟩ := Int.eq_ofNat_of_zero_le hc1.1
  obtain ⟨xs, hxl, hxw, e2⟩ := s_b10numbers (n + 492) (bytes_of hc) c (by omega) (by omega)
  subst hxl
  obtain ⟨ks, hkl, hkb, e3⟩ := s_b10whole (n + 496) (bytes_of hm) xs.length 100 (by omega) (by omega) (by omega)
  have e3 : f34_s_B10Whole (n + 499) ms.length (its .u8 ms) (xs.length : Int) 100 = some (ks.length, fls .f32 (nears ks)) := e3
  have t0 := told0 (n + 499) ms.length (its .u8 ms) xs [] [] 0 (n + 499) (by simp; omega) (by simp; omega) (by omega)
  simp only [List.nil_append, List.length_replicate] at t0
  have t0 : f5_l_FnSums.l0 (n + 499) (n + 499) ms.length (its .u8 ms) (xs.length : Int) xs.length (fls .f32 xs) 0 (reps 0 [T.flt FloatKind.f32 0]) 0 0 = _ := t0
  have g1 := i_sumnumbers (n + 497) xs (by omega) (by omega)
  have g2 := i_dotnumbers (n + 497) xs (List.replicate xs.length 1065353216) (by simp) (by omega) (by omega)
  rw [List.length_replicate, dot_ones xs 0 hxw] at g2
  have g3 := i_sumpairs (n + 466) xs (by omega)
  have hh : IntKind.i64.wrap (Int.tdiv (IntKind.i64.wrap ((xs.length : Int) + 1)) 2) = (((xs.length + 1) / 2 : Nat) : Int) := by
    rw [wrap64 (x := (xs.length : Int) + 1) (by omega) (by omega), Int.tdiv_eq_ediv_of_nonneg (by omega), wrap64] <;> omega
  have hle : (xs.length + 1) / 2 ≤ xs.length ∨ xs.length = 0 := by omega
  have hle : (xs.length + 1) / 2 ≤ xs.length := by omega
  have l1 : (xs.take ((xs.length + 1) / 2)).length = (xs.length + 1) / 2 := by rw [List.length_take]; omega
  have l2 : (xs.drop ((xs.length + 1) / 2)).length = xs.length - (xs.length + 1) / 2 := List.length_drop
  have g4 := i_sumpairs (n + 466) (xs.take ((xs.length + 1) / 2)) (by omega)
  have g5 := i_sumpairs (n + 466) (xs.drop ((xs.length + 1) / 2)) (by omega)
  rw [l1, ← fls_take] at g4
  rw [l2] at g5
  have j4 : ((fls .f32 xs).drop ((xs.length + 1) / 2)).take (xs.length - (xs.length + 1) / 2) = fls .f32 (xs.drop ((xs.length + 1) / 2)) := by rw [fls_drop, fls_take, List.take_of_length_le (by omega)]
  have j1 : decide ((0 : Int) ≤ 0 ∧ (0 : Int) ≤ (((xs.length + 1) / 2 : Nat) : Int) ∧ (((xs.length + 1) / 2 : Nat) : Int) ≤ (xs.length : Int)) = true := decide_eq_true (by omega)
  have j2 : decide ((0 : Int) ≤ (((xs.length + 1) / 2 : Nat) : Int) ∧ (((xs.length + 1) / 2 : Nat) : Int) ≤ (xs.length : Int) ∧ (xs.length : Int) ≤ (xs.length : Int)) = true := decide_eq_true (by omega)
  have hw := w32_sum xs 0 w32_zero
  have s1 := s_same (n + 495) hw hw
  rw [beq_self_eq_true] at s1
  have s1 : f33_s_SameNumber (n + 499) _ _ = _ := s1
  have hp := w32_pair 31 xs hxw
  have hks : ks.length = xs.length := hkl
  have hsum : sumM 0 (nears ks) = FloatKind.f32.nearest (sumZ ks) := by
    have := sum_ints ks 0 (by omega) hkb
    rwa [nearest_zero, Int.zero_add] at this
  have hdot : dotM 0 (nears ks) (nears ks) = FloatKind.f32.nearest (sqZ ks) := by
    have := dot_ints ks 0 (by omega) (by omega) hkb
    rwa [nearest_zero, Int.zero_add] at this
  have hpair := pair_ints 31 ks (by omega) (by omega) hkb
  have d1 := i_sumnumbers (n + 497) (nears ks) (by rw [nears_length]; omega) (by rw [nears_length]; omega)
  have d2 := i_sumpairs (n + 466) (nears ks) (by rw [nears_length]; omega)
  have d3 := i_dotnumbers (n + 497) (nears ks) (nears ks) rfl (by rw [nears_length]; omega) (by rw [nears_length]; omega)
  have d4 := i_dotwide (n + 498) ks (by omega) hkb (by omega)
  rw [nears_length, hsum] at d1
  rw [nears_length, hpair] at d2
  rw [nears_length, hdot] at d3
  have b1 : Nat.ble (0 + ks.length) 2147483648 = true := le_ble (by omega)
  have j5 : reps 0 [T.flt FloatKind.f32 0] ++ fls .f32 (nears ks) = fls .f32 (nears ks) := rfl
  have f1 := nearest_feq .f32 (sumZ ks)
  have f2 := nearest_feq .f32 (sqZ ks)
  have t1 := fun x4 x6 x8 x10 x12 b5 b7 b9 b11 b13 => told1 (n + 499) x4 x6 x8 x10 x12 b5 b7 b9 b11 b13 ks [] 0 0 (n + 499) (by simp; omega) hkb (by simp; omega) (by omega)
  simp only [List.nil_append, nears_length, Int.zero_add, hks] at t1
  have t1 : ∀ x4 x6 x8 x10 x12 b5 b7 b9 b11 b13, f5_l_FnSums.l1 (n + 499) (n + 499) (xs.length : Int) xs.length (fls .f32 (nears ks)) x4 b5 x6 b7 x8 b9 x10 b11 x12 b13 0 0 0 = _ := t1
  have b2 : Nat.ble xs.length 2147483648 = true := le_ble (by omega)
  rw [hks] at e3 d1 d2 d3 d4 b1
  simp only [br_f, br_not, bd_s, e1, e2, t0, g1, g2, hh, g3, j1, gd_t, Int.toNat_natCast, Nat.sub_zero, List.drop_zero, g4, j2, j4, g5, br_t, s1]
  have rest : ∀ R : Option Bool, R = some true → R = some true := fun _ h => h
  by_cases h1 : xs.length ≤ 1
  · rw [decide_eq_false (show ¬ (xs.length : Int) > 1 by omega)]
    simp only [br_f, e3, bd_s, d1, d2, b1, gd_t, j5, Nat.zero_add, d3, d4, t1, br_t, f1, f2, b2]
  · have hsplit : pairM 31 xs = fadd .f32 (pairM 31 (xs.take ((xs.length + 1) / 2))) (pairM 31 (xs.drop ((xs.length + 1) / 2))) := by
      rw [pair_fuel 30 (xs.take _) (by omega), pair_fuel 30 (xs.drop _) (by omega)]
      rw [show pairM 31 xs = if xs.length ≤ 1 then xs.getD 0 0 else fadd .f32 (pairM 30 (xs.take ((xs.length + 1) / 2))) (pairM 30 (xs.drop ((xs.length + 1) / 2))) from rfl, if_neg h1]
    have s2 := s_same (n + 495) hp hp
    rw [beq_self_eq_true] at s2
    have s2 : f33_s_SameNumber (n + 499) _ _ = _ := s2
    rw [decide_eq_true (show (xs.length : Int) > 1 by omega), ← hsplit]
    simp only [br_t, s2, e3, bd_s, d1, d2, b1, gd_t, j5, Nat.zero_add, d3, d4, t1, f1, f2, b2]
theorem law5 : ∀ args, LawArgs E Try.f5.params.toList args → ∃ N os, evalFn E N 5 args = some ⟨[⟨false, [.leaf], [.bool true]⟩], os⟩ := by
  intro args h0
  have hp : Try.f5.params.toList = [22, 22] := by kernel_rfl
  rw [hp] at h0
  obtain ⟨ts0, r0, rfl, hw0, h1⟩ := h0.cons_inv (d := ⟨false, 1, 24, [.sl .own [.leaf]], [.lst 0 []], .slc 5⟩) (by kernel_rfl)
  obtain ⟨n0, cs0, rfl, gl0, hs0⟩ := hw0.slc_inv (e := 5) (d := ⟨false, 1, 24, [.sl .own [.leaf]], [.lst 0 []], .slc 5⟩) (by kernel_rfl) rfl
  obtain ⟨a0, rfl, rfl, g0⟩ := hs0.ints (k := .u8) (d := ⟨false, 1, 1, [.leaf], [.int .u8 0], .int .u8⟩) (by kernel_rfl) rfl
  obtain ⟨ts1, r1, rfl, hw1, h2⟩ := h1.cons_inv (d := ⟨false, 1, 24, [.sl .own [.leaf]], [.lst 0 []], .slc 5⟩) (by kernel_rfl)
  obtain ⟨n1, cs1, rfl, gl1, hs1⟩ := hw1.slc_inv (e := 5) (d := ⟨false, 1, 24, [.sl .own [.leaf]], [.lst 0 []], .slc 5⟩) (by kernel_rfl) rfl
  obtain ⟨a1, rfl, rfl, g1⟩ := hs1.ints (k := .u8) (d := ⟨false, 1, 1, [.leaf], [.int .u8 0], .int .u8⟩) (by kernel_rfl) rfl
  obtain rfl := h2.nil_inv
  obtain ⟨N, hN⟩ := exact_ a0 g0 gl0 a1 g1 gl1
  exact ⟨N, _, f5_l_FnSums.ok N (a0.length, its .u8 a0, a1.length, its .u8 a1) true hN⟩


end Go.Proofs.Ytjkhhalnlodinaa.D
end
section
/- FnSums holds: for every input the law returns true, and its arguments read as before. -/
namespace Go.Proofs.Ytjkhhalnlodinaa.fnSums
open Go Go.ChangeShapes Go.WideShapes Go.ChangeAt Go.RowKit Go.Desk
set_option linter.unusedVariables false
theorem own : ownKnob Try.prog.godebug = none := by kernel_rfl
theorem laidOut : laidOutB Try.prog = true := by kernel_rfl
set_option maxRecDepth 100000 in
theorem lifted (os : Os) (started : os.Started) (H : Type) (enc : TypeId × Value → H) :
    ReturnsInHanded {} Try.checked os 5 .any (Rows.fnSumsSpec.pre6 enc Try.prog Try.f5 Rows.fnSumsRow.domain false) (Rows.fnSumsSpec.post enc Try.prog Try.f5 false true false false) := by
  refine returnsInHanded_of_change (C := Try.checked) own started (by kernel_rfl) Try.func5
    (ChangeSpec.witness6 (enc := enc) (C := Try.checked) false ⟨#[], #[.slice none 0 0, .slice none 0 0], []⟩ 8 (by kernel_rfl) (by kernel_rfl) (by kernel_rfl) (by kernel_rfl)) ?_
  intro W base args ds gs before hval hW hcnd _
  exact law_contract (c := D.c5) Try.checked.mixed D.tysOk D.fnOk Try.func5 (by kernel_rfl) (by kernel_rfl) (by kernel_rfl) Try.underlying4 rfl
    (fun ds h => by
      rw [show Try.f5.params.toList.length = 2 by kernel_rfl] at h
      match ds, h with
      | [_, _], _ => rfl)
    laidOut (N := 8) (by kernel_rfl) (by kernel_rfl) D.law5 hval hW
theorem over : Rows.fnSumsRow.holds Try.pinned (OpenSpec.ofChange Rows.fnSumsSpec) :=
  OpenClaim.holds_of_wide 5 Try.f5 rfl rfl rfl rfl rfl rfl rfl ⟨rfl, rfl, rfl, rfl, rfl⟩ rfl rfl rfl rfl rfl (by kernel_rfl) Try.func5 (by kernel_rfl)
    (of_decide_eq_true (by kernel_rfl)) (by unfold Func.isWrapper; first | (rw [if_pos (by decide +kernel)]; kernel_rfl) | (rw [if_neg (by decide +kernel)]; exact ⟨rfl, rfl⟩))
    (fun os started H enc _ => lifted os started H enc)
theorem proved : Rows.FnSumsSaid := over
#print axioms proved
end Go.Proofs.Ytjkhhalnlodinaa.fnSums
namespace Go.Proofs.Ytjkhhalnlodinaa
/-- The row, under a short name, for the claim. -/
theorem fnSums_holds : Rows.FnSumsSaid := fnSums.proved
end Go.Proofs.Ytjkhhalnlodinaa
end
