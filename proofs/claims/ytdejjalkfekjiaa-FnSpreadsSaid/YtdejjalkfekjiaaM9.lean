/- FnSpreads holds: for every input the law returns true, and its arguments read as before. -/
import Derived.Test.YtdejjalkfekjiaaChecked
import Derived.Test.YtdejjalkfekjiaaDeskE
import Derived.KernelRfl
import Derived.Test.YtdejjalkfekjiaaRows
import Derived.WalkKit
import Derived.ProofKit
import Derived.OpenShut
import Derived.ShutString
import Derived.ChangeOld
import Derived.Below
import Derived.SizedLaws
set_option linter.all false
section
/- The tables of the reading: types and functions of the translation, with what is kept at each region's beginning (written by a program of this workplace). -/
namespace Go.Proofs.Ytdejjalkfekjiaa.D
open Go Go.Desk
def bodyOf (f : Func) : Code := match f.body with
  | some c => c
  | none => .skip
def tyTab : List (Nat × TD) := [
  (2, ⟨false, 1, 8, [.leaf], [.int .i64 0], .int .i64⟩),
  (3, ⟨false, 1, 8, [.leaf], [.int .i64 0], .int .i64⟩),
  (4, ⟨false, 1, 1, [.leaf], [.bool false], .bool⟩),
  (5, ⟨false, 1, 1, [.leaf], [.int .u8 0], .int .u8⟩),
  (22, ⟨false, 1, 24, [.sl .own [.leaf]], [.lst 0 []], .slc 5⟩),
  (27, ⟨false, 1, 24, [.sl .own [.leaf]], [.lst 0 []], .slc 33⟩),
  (33, ⟨false, 1, 4, [.leaf], [.flt .f32 0], .flt .f32⟩),
  (39, ⟨false, 1, 8, [.leaf], [.flt .f64 0], .flt .f64⟩),
  (58, ⟨false, 1, 24, [.sl .own [.leaf]], [.lst 0 []], .slc 2⟩),
  (63, ⟨false, 1, 8, [.leaf], [.int .u64 0], .int .u64⟩),
  (108, ⟨false, 1, 8, [.leaf], [.nil], .ptr 153⟩),
  (127, ⟨false, 1, 4, [.leaf], [.int .u32 0], .int .u32⟩),
  (151, ⟨false, 1, 8, [.leaf], [.int .u64 0], .int .u64⟩),
  (153, ⟨true, 3, 40, [.sl .own [.leaf], .leaf, .leaf], [.lst 0 [], .int .i64 0, .int .u64 0], .st [(0, 22), (1, 3), (2, 151)]⟩)]
noncomputable def c9 : Code := bodyOf Try.f9
noncomputable def c27 : Code := bodyOf Try.f27
noncomputable def c28 : Code := bodyOf Try.f28
noncomputable def c30 : Code := bodyOf Try.f30
noncomputable def c51 : Code := bodyOf Try.f51
noncomputable def c52 : Code := bodyOf Try.f52
noncomputable def c53 : Code := bodyOf Try.f53
noncomputable def c75 : Code := bodyOf Try.f75
noncomputable def c76 : Code := bodyOf Try.f76
noncomputable def c77 : Code := bodyOf Try.f77
noncomputable def c81 : Code := bodyOf Try.f81
noncomputable def c83 : Code := bodyOf Try.f83
noncomputable def c94 : Code := bodyOf Try.f94
noncomputable def c99 : Code := bodyOf Try.f99
noncomputable def c105 : Code := bodyOf Try.f105
noncomputable def c110 : Code := bodyOf Try.f110
noncomputable def c111 : Code := bodyOf Try.f111
noncomputable def c113 : Code := bodyOf Try.f113
noncomputable def c128 : Code := bodyOf Try.f128
noncomputable def c129 : Code := bodyOf Try.f129
noncomputable def c131 : Code := bodyOf Try.f131
noncomputable def c132 : Code := bodyOf Try.f132
noncomputable def c133 : Code := bodyOf Try.f133
noncomputable def fnTab : List (Nat × FD) := [
  (9, .code c9 [.val, .val] [] [(4, none)] [(0, [0, 1]), (1, [0, 1]), (2, []), (3, [0, 1]), (4, [0, 5]), (5, [0, 5, 6]), (6, [0, 5, 6, 7, 8]), (7, []), (8, [0, 5, 7]), (9, [0, 5, 7, 9]), (10, [0, 5, 7, 9, 10]), (11, [0, 5, 7, 9, 10]), (12, [0, 5, 7, 9, 10]), (13, []), (14, [0, 5, 7, 9, 10]), (15, [0, 5, 9]), (16, [0, 5, 9, 11]), (17, [0, 5, 9, 11, 12]), (18, [0, 5, 9, 11, 12]), (19, [0, 5, 9, 11, 12]), (20, [0, 5, 9, 11, 12]), (21, [0, 9, 11]), (22, [9, 11, 13]), (23, [9, 11, 13, 14, 15]), (24, [9, 11, 13, 15, 16, 17]), (25, [9, 11, 13, 15, 16, 17, 19]), (1000010, [0, 4, 5, 9]), (1000017, [0, 9, 11])]),
  (27, .code c27 [.val, .val] [] [(4, none)] [(0, [0, 1]), (1, [0, 1])]),
  (28, .code c28 [.val, .val, .val] [] [(6, none)] [(0, [0, 1, 2]), (1, [0, 1, 2]), (2, []), (3, [0, 1, 2])]),
  (30, .code c30 [.val, .val] [] [(4, none)] [(0, [0, 1]), (1, [0, 1]), (2, [1, 5]), (3, [5, 6])]),
  (51, .code c51 [.val, .val] [] [(4, none), (5, none)] [(0, [0, 1]), (1, [0, 1]), (2, []), (3, [0, 1]), (4, [0, 1, 6]), (5, [0, 1, 6, 19, 20, 21]), (6, [0, 1, 6, 19, 20, 21]), (7, [0, 1, 6, 8, 19, 20, 21]), (8, [0, 1, 6, 8, 19, 20, 21]), (9, [0, 1, 6, 19, 20, 21]), (10, [6]), (1000005, [6])]),
  (52, .code c52 [.val] [] [(2, none), (3, none)] [(0, [0]), (1, [0]), (2, []), (3, [0])]),
  (53, .code c53 [.val] [] [(2, none), (3, none)] [(0, [0]), (1, [0]), (2, []), (3, [0])]),
  (75, .code c75 [.val] [] [(2, none)] [(0, [0]), (1, [0])]),
  (76, .code c76 [.iop, .val] [0] [(4, none)] [(0, [0, 1]), (1, [0, 1]), (2, [0]), (3, [0, 1]), (4, [0, 1, 5]), (5, [0, 1, 5]), (6, [0, 1, 5])]),
  (77, .code c77 [.iop] [0] [(2, none)] [(0, [0]), (1, [0]), (2, [0, 3]), (3, [0, 3]), (4, [0, 3])]),
  (81, .code c81 [.iop, .val] [0] [(4, none)] [(0, [0, 1]), (1, [0, 1]), (2, [0, 1, 5]), (3, [0, 1, 5, 6]), (4, [0, 1, 5, 6]), (5, [0, 1, 5, 6]), (6, [0, 1, 5, 6]), (7, [0, 1, 5, 6]), (8, [0, 5]), (1000003, [0, 5])]),
  (83, .code c83 [.val, .val, .val] [] [(6, none)] [(0, [0, 1, 2]), (1, [0, 1, 2])]),
  (94, .code c94 [.val] [] [(2, none)] [(0, [0]), (1, [0])]),
  (99, .code c99 [.iop] [0] [(2, none)] [(0, [0]), (1, [0]), (2, [0]), (3, [0]), (4, [0, 10]), (5, [0]), (6, [0, 10]), (7, [0]), (8, [0, 3]), (9, [0, 10]), (10, [0]), (11, [0])]),
  (105, .code c105 [.val] [] [(2, none)] [(0, [0]), (1, [0])]),
  (110, .code c110 [.val] [] [(2, none)] [(0, [0]), (1, [0])]),
  (111, .code c111 [.val] [] [(2, none)] [(0, [0]), (1, [0]), (2, []), (3, [0]), (4, []), (5, [0]), (6, [3, 4]), (7, [3, 4, 5]), (8, [3, 4, 5]), (9, [3, 4, 5]), (10, [4]), (11, [4, 6]), (12, [4, 6]), (13, [4, 6]), (14, [4]), (1000007, [4]), (1000011, [4])]),
  (112, .ext (pIntegral .even)),
  (113, .code c113 [.val] [] [(2, none)] [(0, [0]), (1, [0]), (2, [0, 3]), (3, [0, 3]), (4, [0, 3]), (5, [0, 3]), (6, [0, 3]), (7, [0, 3]), (8, [0, 3]), (9, [3, 4]), (10, [3, 4, 5, 6]), (11, [3, 4, 5, 6, 7]), (12, [3, 4, 5, 6, 7]), (13, [3, 4, 5, 6, 7]), (14, [3, 4, 6]), (1000002, [0, 3]), (1000005, [0, 3]), (1000011, [3, 4, 6])]),
  (128, .code c128 [.iop] [0] [(2, none)] [(0, [0]), (1, [0]), (2, [0, 3]), (3, [0]), (4, [0, 3]), (5, [0, 3]), (6, [0, 3]), (7, [0, 3]), (8, [0])]),
  (129, .code c129 [.iop, .val] [0] [(4, none)] [(0, [0, 1]), (1, [0, 1])]),
  (131, .code c131 [.val] [] [(2, none)] [(0, [0]), (1, [0])]),
  (132, .code c132 [.iop, .io] [0, 1] [(4, none)] [(0, [0, 1]), (1, [0, 1])]),
  (133, .code c133 [.val] [] [(2, none)] [(0, [0]), (1, [0]), (2, [0]), (3, []), (4, []), (5, [3])]),
  (140, .ext (pF32frombits)),
  (141, .ext (pF64frombits))]
noncomputable def E : Env := ⟨fun t => lookT tyTab t, lookF fnTab⟩
noncomputable def fdAt (n : Nat) : FD := match lookF fnTab n with
  | some d => d
  | none => .ext fun _ => none
noncomputable def keepAt (n : Nat) : List (Nat × List Nat) := match lookF fnTab n with
  | some d => d.keep
  | none => []
theorem tysOk : TysOk Try.prog E := tysOk_of (l := tyTab) (fun _ => rfl) (by kernel_rfl)
theorem ft9 : FnTab Try.prog E 9 (fdAt 9) := fnTab_code (c := c9) (modes := (fdAt 9).ms) (outs := (fdAt 9).os) (results := (fdAt 9).rs) (keep := (fdAt 9).keep) Try.func9 (by kernel_rfl) (by kernel_rfl) (by kernel_rfl)
theorem ft27 : FnTab Try.prog E 27 (fdAt 27) := fnTab_code (c := c27) (modes := (fdAt 27).ms) (outs := (fdAt 27).os) (results := (fdAt 27).rs) (keep := (fdAt 27).keep) Try.func27 (by kernel_rfl) (by kernel_rfl) (by kernel_rfl)
theorem ft28 : FnTab Try.prog E 28 (fdAt 28) := fnTab_code (c := c28) (modes := (fdAt 28).ms) (outs := (fdAt 28).os) (results := (fdAt 28).rs) (keep := (fdAt 28).keep) Try.func28 (by kernel_rfl) (by kernel_rfl) (by kernel_rfl)
theorem ft30 : FnTab Try.prog E 30 (fdAt 30) := fnTab_code (c := c30) (modes := (fdAt 30).ms) (outs := (fdAt 30).os) (results := (fdAt 30).rs) (keep := (fdAt 30).keep) Try.func30 (by kernel_rfl) (by kernel_rfl) (by kernel_rfl)
theorem ft51 : FnTab Try.prog E 51 (fdAt 51) := fnTab_code (c := c51) (modes := (fdAt 51).ms) (outs := (fdAt 51).os) (results := (fdAt 51).rs) (keep := (fdAt 51).keep) Try.func51 (by kernel_rfl) (by kernel_rfl) (by kernel_rfl)
theorem ft52 : FnTab Try.prog E 52 (fdAt 52) := fnTab_code (c := c52) (modes := (fdAt 52).ms) (outs := (fdAt 52).os) (results := (fdAt 52).rs) (keep := (fdAt 52).keep) Try.func52 (by kernel_rfl) (by kernel_rfl) (by kernel_rfl)
theorem ft53 : FnTab Try.prog E 53 (fdAt 53) := fnTab_code (c := c53) (modes := (fdAt 53).ms) (outs := (fdAt 53).os) (results := (fdAt 53).rs) (keep := (fdAt 53).keep) Try.func53 (by kernel_rfl) (by kernel_rfl) (by kernel_rfl)
theorem ft75 : FnTab Try.prog E 75 (fdAt 75) := fnTab_code (c := c75) (modes := (fdAt 75).ms) (outs := (fdAt 75).os) (results := (fdAt 75).rs) (keep := (fdAt 75).keep) Try.func75 (by kernel_rfl) (by kernel_rfl) (by kernel_rfl)
theorem ft76 : FnTab Try.prog E 76 (fdAt 76) := fnTab_code (c := c76) (modes := (fdAt 76).ms) (outs := (fdAt 76).os) (results := (fdAt 76).rs) (keep := (fdAt 76).keep) Try.func76 (by kernel_rfl) (by kernel_rfl) (by kernel_rfl)
theorem ft77 : FnTab Try.prog E 77 (fdAt 77) := fnTab_code (c := c77) (modes := (fdAt 77).ms) (outs := (fdAt 77).os) (results := (fdAt 77).rs) (keep := (fdAt 77).keep) Try.func77 (by kernel_rfl) (by kernel_rfl) (by kernel_rfl)
theorem ft81 : FnTab Try.prog E 81 (fdAt 81) := fnTab_code (c := c81) (modes := (fdAt 81).ms) (outs := (fdAt 81).os) (results := (fdAt 81).rs) (keep := (fdAt 81).keep) Try.func81 (by kernel_rfl) (by kernel_rfl) (by kernel_rfl)
theorem ft83 : FnTab Try.prog E 83 (fdAt 83) := fnTab_code (c := c83) (modes := (fdAt 83).ms) (outs := (fdAt 83).os) (results := (fdAt 83).rs) (keep := (fdAt 83).keep) Try.func83 (by kernel_rfl) (by kernel_rfl) (by kernel_rfl)
theorem ft94 : FnTab Try.prog E 94 (fdAt 94) := fnTab_code (c := c94) (modes := (fdAt 94).ms) (outs := (fdAt 94).os) (results := (fdAt 94).rs) (keep := (fdAt 94).keep) Try.func94 (by kernel_rfl) (by kernel_rfl) (by kernel_rfl)
theorem ft99 : FnTab Try.prog E 99 (fdAt 99) := fnTab_code (c := c99) (modes := (fdAt 99).ms) (outs := (fdAt 99).os) (results := (fdAt 99).rs) (keep := (fdAt 99).keep) Try.func99 (by kernel_rfl) (by kernel_rfl) (by kernel_rfl)
theorem ft105 : FnTab Try.prog E 105 (fdAt 105) := fnTab_code (c := c105) (modes := (fdAt 105).ms) (outs := (fdAt 105).os) (results := (fdAt 105).rs) (keep := (fdAt 105).keep) Try.func105 (by kernel_rfl) (by kernel_rfl) (by kernel_rfl)
theorem ft110 : FnTab Try.prog E 110 (fdAt 110) := fnTab_code (c := c110) (modes := (fdAt 110).ms) (outs := (fdAt 110).os) (results := (fdAt 110).rs) (keep := (fdAt 110).keep) Try.func110 (by kernel_rfl) (by kernel_rfl) (by kernel_rfl)
theorem ft111 : FnTab Try.prog E 111 (fdAt 111) := fnTab_code (c := c111) (modes := (fdAt 111).ms) (outs := (fdAt 111).os) (results := (fdAt 111).rs) (keep := (fdAt 111).keep) Try.func111 (by kernel_rfl) (by kernel_rfl) (by kernel_rfl)
theorem ft112 : FnTab Try.prog E 112 (.ext (pIntegral .even)) := ext_pIntegral_even Try.func112 (by kernel_rfl) (by kernel_rfl) (by kernel_rfl) (by kernel_rfl)
theorem ft113 : FnTab Try.prog E 113 (fdAt 113) := fnTab_code (c := c113) (modes := (fdAt 113).ms) (outs := (fdAt 113).os) (results := (fdAt 113).rs) (keep := (fdAt 113).keep) Try.func113 (by kernel_rfl) (by kernel_rfl) (by kernel_rfl)
theorem ft128 : FnTab Try.prog E 128 (fdAt 128) := fnTab_code (c := c128) (modes := (fdAt 128).ms) (outs := (fdAt 128).os) (results := (fdAt 128).rs) (keep := (fdAt 128).keep) Try.func128 (by kernel_rfl) (by kernel_rfl) (by kernel_rfl)
theorem ft129 : FnTab Try.prog E 129 (fdAt 129) := fnTab_code (c := c129) (modes := (fdAt 129).ms) (outs := (fdAt 129).os) (results := (fdAt 129).rs) (keep := (fdAt 129).keep) Try.func129 (by kernel_rfl) (by kernel_rfl) (by kernel_rfl)
theorem ft131 : FnTab Try.prog E 131 (fdAt 131) := fnTab_code (c := c131) (modes := (fdAt 131).ms) (outs := (fdAt 131).os) (results := (fdAt 131).rs) (keep := (fdAt 131).keep) Try.func131 (by kernel_rfl) (by kernel_rfl) (by kernel_rfl)
theorem ft132 : FnTab Try.prog E 132 (fdAt 132) := fnTab_code (c := c132) (modes := (fdAt 132).ms) (outs := (fdAt 132).os) (results := (fdAt 132).rs) (keep := (fdAt 132).keep) Try.func132 (by kernel_rfl) (by kernel_rfl) (by kernel_rfl)
theorem ft133 : FnTab Try.prog E 133 (fdAt 133) := fnTab_code (c := c133) (modes := (fdAt 133).ms) (outs := (fdAt 133).os) (results := (fdAt 133).rs) (keep := (fdAt 133).keep) Try.func133 (by kernel_rfl) (by kernel_rfl) (by kernel_rfl)
theorem ft140 : FnTab Try.prog E 140 (.ext (pF32frombits)) := ext_pF32frombits Try.func140 (by kernel_rfl) (by kernel_rfl) (by kernel_rfl) (by kernel_rfl)
theorem ft141 : FnTab Try.prog E 141 (.ext (pF64frombits)) := ext_pF64frombits Try.func141 (by kernel_rfl) (by kernel_rfl) (by kernel_rfl) (by kernel_rfl)
theorem allFns : AllFns Try.prog E fnTab := .cons ft9 (.cons ft27 (.cons ft28 (.cons ft30 (.cons ft51 (.cons ft52 (.cons ft53 (.cons ft75 (.cons ft76 (.cons ft77 (.cons ft81 (.cons ft83 (.cons ft94 (.cons ft99 (.cons ft105 (.cons ft110 (.cons ft111 (.cons ft112 (.cons ft113 (.cons ft128 (.cons ft129 (.cons ft131 (.cons ft132 (.cons ft133 (.cons ft140 (.cons ft141 (.nil))))))))))))))))))))))))))
theorem fnOk : ∀ f fd, E.fn f = some fd → FnTab Try.prog E f fd := fnTab_of (l := fnTab) (fun _ => rfl) allFns
end Go.Proofs.Ytdejjalkfekjiaa.D
end
section
/- Plain functions for the law's Go functions, each tied to the reading by the kernel (printed by a program of this workplace). -/
namespace Go.Proofs.Ytdejjalkfekjiaa.D
open Go Go.Desk
set_option linter.unusedVariables false
noncomputable def x140.w : FnW E := xF32frombits.w 140 (by kernel_rfl)

noncomputable def x141.w : FnW E := xF64frombits.w 141 (by kernel_rfl)

noncomputable def x112.w : FnW E := xIntegral_even.w 112 (by kernel_rfl)

def f27_l_r8Long : Nat → Nat → List T → Nat → List T → Option (Bool)
  | 0, _, _, _, _ => none
  | n + 1, n1, l2, n3, l4 =>
    br (decide (((n1 : Nat) : Int) > (48 : Int))) (
     some true) (
     some (decide (((n3 : Nat) : Int) > (48 : Int))))
def sg_ll : Sig (Nat × List T × Nat × List T) where
  pk := fun v => [.lst v.1 v.2.1, .lst v.2.2.1 v.2.2.2]
  up := fun ls => match ls with
    | [.lst a0 a1, .lst a2 a3] => some (a0, a1, a2, a3)
    | _ => none
  ok := by
    intro ls v h
    split at h
    · cases h; rfl
    · cases h

def sg_b : Sig (Bool) where
  pk := fun v => [.bool v]
  up := fun ls => match ls with
    | [.bool a0] => some a0
    | _ => none
  ok := by
    intro ls v h
    split at h
    · cases h; rfl
    · cases h

def f27_l_r8Long.P : List Arg := [⟨.val, ⟨false, [.sl .shr [.leaf]], [.lst 0 []]⟩⟩, ⟨.val, ⟨false, [.sl .shr [.leaf]], [.lst 0 []]⟩⟩]
def f27_l_r8Long.A : RAlt (Bool) := .one ⟨[⟨false, [.leaf], [.bool false]⟩], [none, none]⟩ sg_b
def f27_l_r8Long.F (n : Nat) (v : Nat × List T × Nat × List T) := f27_l_r8Long n v.1 v.2.1 v.2.2.1 v.2.2.2
noncomputable def f27_l_r8Long.O (n : Nat) : Orc := orcOf (E := E) [] [] n
theorem f27_l_r8Long.ok : ∀ n v x, f27_l_r8Long.F n v = some x → evalFn E n 27 (flAs f27_l_r8Long.P (sg_ll.pk v)) = some (f27_l_r8Long.A.enc x) :=
  fn_pure (modes := (fdAt 27).ms) (outs := (fdAt 27).os) (results := (fdAt 27).rs) f27_l_r8Long.O (c := c27) (keep := keepAt 27) (by kernel_rfl) (fun n => orcOf_cf _ _ n) (fun n => lpOk_of (bs := []) (by kernel_rfl) .nil) (fun _ => rfl) (fun _ _ => by kernel_rfl)
noncomputable def f27_l_r8Long.w : FnW E := fnW 27 f27_l_r8Long.P sg_ll f27_l_r8Long.A f27_l_r8Long.F f27_l_r8Long.ok

def f75_s_l00From : Nat → Nat → List T → Option (Nat × List T × Int × Int)
  | 0, _, _ => none
  | n + 1, n1, l2 =>
    some (n1, l2, (0 : Int), (0 : Int))
def sg_l : Sig (Nat × List T) where
  pk := fun v => [.lst v.1 v.2]
  up := fun ls => match ls with
    | [.lst a0 a1] => some (a0, a1)
    | _ => none
  ok := by
    intro ls v h
    split at h
    · cases h; rfl
    · cases h

def sg_lii : Sig (Nat × List T × Int × Int) where
  pk := fun v => [.lst v.1 v.2.1, .int v.2.2.1, .int v.2.2.2]
  up := fun ls => match ls with
    | [.lst a0 a1, .int a2, .int a3] => some (a0, a1, a2, a3)
    | _ => none
  ok := by
    intro ls v h
    split at h
    · cases h; rfl
    · cases h

def f75_s_l00From.P : List Arg := [⟨.val, ⟨false, [.sl .shr [.leaf]], [.lst 0 []]⟩⟩]
def f75_s_l00From.A : RAlt (Nat × List T × Int × Int) := .one ⟨[⟨false, [.rf .own [.sl .shr [.leaf], .leaf, .leaf]], [.ref [.lst 0 [], .int .i64 0, .int .u64 0]]⟩], [none]⟩ sg_lii
def f75_s_l00From.F (n : Nat) (v : Nat × List T) := f75_s_l00From n v.1 v.2
noncomputable def f75_s_l00From.O (n : Nat) : Orc := orcOf (E := E) [] [] n
theorem f75_s_l00From.ok : ∀ n v x, f75_s_l00From.F n v = some x → evalFn E n 75 (flAs f75_s_l00From.P (sg_l.pk v)) = some (f75_s_l00From.A.enc x) :=
  fn_pure (modes := (fdAt 75).ms) (outs := (fdAt 75).os) (results := (fdAt 75).rs) f75_s_l00From.O (c := c75) (keep := keepAt 75) (by kernel_rfl) (fun n => orcOf_cf _ _ n) (fun n => lpOk_of (bs := []) (by kernel_rfl) .nil) (fun _ => rfl) (fun _ _ => by kernel_rfl)
noncomputable def f75_s_l00From.w : FnW E := fnW 75 f75_s_l00From.P sg_l f75_s_l00From.A f75_s_l00From.F f75_s_l00From.ok

def f128_s_l00Srcnext : Nat → Nat → List T → Int → Int → Option (Int × Nat × List T × Int × Int)
  | 0, _, _, _, _ => none
  | n + 1, n1, l2, i3, i4 =>
    br (decide (i3 < ((n1 : Nat) : Int))) (
     gd ((decide (((0 : Int) ≤ i3) ∧ (i3 < ((n1 : Nat) : Int)))) && (okAt [(CK.int IntKind.u8)] l2 (Int.toNat i3))) (
     let i5 : Int := (IntKind.i64.wrap (iAt l2 (Int.toNat i3)))
     let i6 : Int := (IntKind.i64.wrap (i3 + (1 : Int)))
     let i7 : Int := (IntKind.u64.wrap ((IntKind.u64.wrap ((IntKind.u64.wrap (i4 * (6364136223846793005 : Int))) + (IntKind.u64.wrap i5))) + (1442695040888963407 : Int)))
     br (decide (i6 ≤ ((n1 : Nat) : Int))) (
      some (i5, n1, l2, i6, i7)) (
      some ((IntKind.i64.wrap (intBits BinOp.and IntKind.u64 (Int.fdiv i7 (1099511627776 : Int)) (255 : Int))), n1, l2, i6, i7)))) (
     let i8 : Int := (IntKind.i64.wrap (i3 + (1 : Int)))
     let i9 : Int := (IntKind.u64.wrap ((IntKind.u64.wrap ((IntKind.u64.wrap (i4 * (6364136223846793005 : Int))) + (0 : Int))) + (1442695040888963407 : Int)))
     br (decide (i8 ≤ ((n1 : Nat) : Int))) (
      some ((0 : Int), n1, l2, i8, i9)) (
      some ((IntKind.i64.wrap (intBits BinOp.and IntKind.u64 (Int.fdiv i9 (1099511627776 : Int)) (255 : Int))), n1, l2, i8, i9)))
def sg_ilii : Sig (Int × Nat × List T × Int × Int) where
  pk := fun v => [.int v.1, .lst v.2.1 v.2.2.1, .int v.2.2.2.1, .int v.2.2.2.2]
  up := fun ls => match ls with
    | [.int a0, .lst a1 a2, .int a3, .int a4] => some (a0, a1, a2, a3, a4)
    | _ => none
  ok := by
    intro ls v h
    split at h
    · cases h; rfl
    · cases h

def f128_s_l00Srcnext.P : List Arg := [⟨.iop, ⟨false, [.rf .own [.sl .shr [.leaf], .leaf, .leaf]], [.ref [.lst 0 [], .int .i64 0, .int .u64 0]]⟩⟩]
def f128_s_l00Srcnext.A : RAlt (Int × Nat × List T × Int × Int) := .one ⟨[⟨false, [.leaf], [.int .i64 0]⟩], [some ⟨false, [.rf .own [.sl .shr [.leaf], .leaf, .leaf]], [.ref [.lst 0 [], .int .i64 0, .int .u64 0]]⟩]⟩ sg_ilii
def f128_s_l00Srcnext.F (n : Nat) (v : Nat × List T × Int × Int) := f128_s_l00Srcnext n v.1 v.2.1 v.2.2.1 v.2.2.2
noncomputable def f128_s_l00Srcnext.O (n : Nat) : Orc := orcOf (E := E) [] [] n
theorem f128_s_l00Srcnext.ok : ∀ n v x, f128_s_l00Srcnext.F n v = some x → evalFn E n 128 (flAs f128_s_l00Srcnext.P (sg_lii.pk v)) = some (f128_s_l00Srcnext.A.enc x) :=
  fn_pure (modes := (fdAt 128).ms) (outs := (fdAt 128).os) (results := (fdAt 128).rs) f128_s_l00Srcnext.O (c := c128) (keep := keepAt 128) (by kernel_rfl) (fun n => orcOf_cf _ _ n) (fun n => lpOk_of (bs := []) (by kernel_rfl) .nil) (fun _ => rfl) (fun _ _ => by kernel_rfl)
noncomputable def f128_s_l00Srcnext.w : FnW E := fnW 128 f128_s_l00Srcnext.P sg_lii f128_s_l00Srcnext.A f128_s_l00Srcnext.F f128_s_l00Srcnext.ok

def f76_s_l00Srcpick : Nat → Nat → List T → Int → Int → Int → Option (Int × Nat × List T × Int × Int)
  | 0, _, _, _, _, _ => none
  | n + 1, n1, l2, i3, i4, i5 =>
    br (decide (i5 ≤ (1 : Int))) (
     some ((0 : Int), n1, l2, i3, i4)) (
     bd (f128_s_l00Srcnext n n1 l2 i3 i4) fun r6 =>
     let i7 : Int := r6.1
     let n8 : Nat := r6.2.1
     let l9 : List T := r6.2.2.1
     let i10 : Int := r6.2.2.2.1
     let i11 : Int := r6.2.2.2.2
     br (decide (i5 > (200 : Int))) (
      bd (f128_s_l00Srcnext n n8 l9 i10 i11) fun r12 =>
      let i13 : Int := r12.1
      let n14 : Nat := r12.2.1
      let l15 : List T := r12.2.2.1
      let i16 : Int := r12.2.2.2.1
      let i17 : Int := r12.2.2.2.2
      let i18 : Int := (IntKind.i64.wrap ((IntKind.i64.wrap (i7 * (256 : Int))) + i13))
      gd (!(decide (i5 = (0 : Int)))) (
      some ((Int.tmod i18 i5), n14, l15, i16, i17))) (
      gd (!(decide (i5 = (0 : Int)))) (
      some ((Int.tmod i7 i5), n8, l9, i10, i11))))
def sg_liii : Sig (Nat × List T × Int × Int × Int) where
  pk := fun v => [.lst v.1 v.2.1, .int v.2.2.1, .int v.2.2.2.1, .int v.2.2.2.2]
  up := fun ls => match ls with
    | [.lst a0 a1, .int a2, .int a3, .int a4] => some (a0, a1, a2, a3, a4)
    | _ => none
  ok := by
    intro ls v h
    split at h
    · cases h; rfl
    · cases h

def f76_s_l00Srcpick.P : List Arg := [⟨.iop, ⟨false, [.rf .own [.sl .shr [.leaf], .leaf, .leaf]], [.ref [.lst 0 [], .int .i64 0, .int .u64 0]]⟩⟩, ⟨.val, ⟨false, [.leaf], [.int .i64 0]⟩⟩]
def f76_s_l00Srcpick.A : RAlt (Int × Nat × List T × Int × Int) := .one ⟨[⟨false, [.leaf], [.int .i64 0]⟩], [some ⟨false, [.rf .own [.sl .shr [.leaf], .leaf, .leaf]], [.ref [.lst 0 [], .int .i64 0, .int .u64 0]]⟩, none]⟩ sg_ilii
def f76_s_l00Srcpick.F (n : Nat) (v : Nat × List T × Int × Int × Int) := f76_s_l00Srcpick n v.1 v.2.1 v.2.2.1 v.2.2.2.1 v.2.2.2.2
noncomputable def f76_s_l00Srcpick.O (n : Nat) : Orc := orcOf (E := E) [f128_s_l00Srcnext.w] [] n
theorem f76_s_l00Srcpick.ok : ∀ n v x, f76_s_l00Srcpick.F n v = some x → evalFn E n 76 (flAs f76_s_l00Srcpick.P (sg_liii.pk v)) = some (f76_s_l00Srcpick.A.enc x) :=
  fn_pure (modes := (fdAt 76).ms) (outs := (fdAt 76).os) (results := (fdAt 76).rs) f76_s_l00Srcpick.O (c := c76) (keep := keepAt 76) (by kernel_rfl) (fun n => orcOf_cf _ _ n) (fun n => lpOk_of (bs := []) (by kernel_rfl) .nil) (fun _ => rfl) (fun _ _ => by kernel_rfl)
noncomputable def f76_s_l00Srcpick.w : FnW E := fnW 76 f76_s_l00Srcpick.P sg_liii f76_s_l00Srcpick.A f76_s_l00Srcpick.F f76_s_l00Srcpick.ok

def f129_s_l00Srcone : Nat → Nat → List T → Int → Int → Int → Option (Bool × Nat × List T × Int × Int)
  | 0, _, _, _, _, _ => none
  | n + 1, n1, l2, i3, i4, i5 =>
    bd (f76_s_l00Srcpick n n1 l2 i3 i4 i5) fun r6 =>
    let i7 : Int := r6.1
    let n8 : Nat := r6.2.1
    let l9 : List T := r6.2.2.1
    let i10 : Int := r6.2.2.2.1
    let i11 : Int := r6.2.2.2.2
    some ((i7 == (0 : Int)), n8, l9, i10, i11)
def sg_blii : Sig (Bool × Nat × List T × Int × Int) where
  pk := fun v => [.bool v.1, .lst v.2.1 v.2.2.1, .int v.2.2.2.1, .int v.2.2.2.2]
  up := fun ls => match ls with
    | [.bool a0, .lst a1 a2, .int a3, .int a4] => some (a0, a1, a2, a3, a4)
    | _ => none
  ok := by
    intro ls v h
    split at h
    · cases h; rfl
    · cases h

def f129_s_l00Srcone.P : List Arg := [⟨.iop, ⟨false, [.rf .own [.sl .shr [.leaf], .leaf, .leaf]], [.ref [.lst 0 [], .int .i64 0, .int .u64 0]]⟩⟩, ⟨.val, ⟨false, [.leaf], [.int .i64 0]⟩⟩]
def f129_s_l00Srcone.A : RAlt (Bool × Nat × List T × Int × Int) := .one ⟨[⟨false, [.leaf], [.bool false]⟩], [some ⟨false, [.rf .own [.sl .shr [.leaf], .leaf, .leaf]], [.ref [.lst 0 [], .int .i64 0, .int .u64 0]]⟩, none]⟩ sg_blii
def f129_s_l00Srcone.F (n : Nat) (v : Nat × List T × Int × Int × Int) := f129_s_l00Srcone n v.1 v.2.1 v.2.2.1 v.2.2.2.1 v.2.2.2.2
noncomputable def f129_s_l00Srcone.O (n : Nat) : Orc := orcOf (E := E) [f76_s_l00Srcpick.w] [] n
theorem f129_s_l00Srcone.ok : ∀ n v x, f129_s_l00Srcone.F n v = some x → evalFn E n 129 (flAs f129_s_l00Srcone.P (sg_liii.pk v)) = some (f129_s_l00Srcone.A.enc x) :=
  fn_pure (modes := (fdAt 129).ms) (outs := (fdAt 129).os) (results := (fdAt 129).rs) f129_s_l00Srcone.O (c := c129) (keep := keepAt 129) (by kernel_rfl) (fun n => orcOf_cf _ _ n) (fun n => lpOk_of (bs := []) (by kernel_rfl) .nil) (fun _ => rfl) (fun _ _ => by kernel_rfl)
noncomputable def f129_s_l00Srcone.w : FnW E := fnW 129 f129_s_l00Srcone.P sg_liii f129_s_l00Srcone.A f129_s_l00Srcone.F f129_s_l00Srcone.ok

def f77_s_l01DrawPlain : Nat → Nat → List T → Int → Int → Option (Nat × Nat × List T × Int × Int)
  | 0, _, _, _, _ => none
  | n + 1, n1, l2, i3, i4 =>
    bd (f76_s_l00Srcpick n n1 l2 i3 i4 (129 : Int)) fun r5 =>
    let i6 : Int := r5.1
    let n7 : Nat := r5.2.1
    let l8 : List T := r5.2.2.1
    let i9 : Int := r5.2.2.2.1
    let i10 : Int := r5.2.2.2.2
    let i11 : Int := (IntKind.i64.wrap (i6 - (64 : Int)))
    bd (f129_s_l00Srcone n n7 l8 i9 i10 (4 : Int)) fun r12 =>
    let b13 : Bool := r12.1
    let n14 : Nat := r12.2.1
    let l15 : List T := r12.2.2.1
    let i16 : Int := r12.2.2.2.1
    let i17 : Int := r12.2.2.2.2
    br b13 (
     some ((fdiv FloatKind.f32 (FloatKind.nearest FloatKind.f32 i11) 1088421888), n14, l15, i16, i17)) (
     some ((fdiv FloatKind.f32 (FloatKind.nearest FloatKind.f32 i11) 1098907648), n14, l15, i16, i17))
def sg_flii : Sig (Nat × Nat × List T × Int × Int) where
  pk := fun v => [.flt v.1, .lst v.2.1 v.2.2.1, .int v.2.2.2.1, .int v.2.2.2.2]
  up := fun ls => match ls with
    | [.flt a0, .lst a1 a2, .int a3, .int a4] => some (a0, a1, a2, a3, a4)
    | _ => none
  ok := by
    intro ls v h
    split at h
    · cases h; rfl
    · cases h

def f77_s_l01DrawPlain.P : List Arg := [⟨.iop, ⟨false, [.rf .own [.sl .shr [.leaf], .leaf, .leaf]], [.ref [.lst 0 [], .int .i64 0, .int .u64 0]]⟩⟩]
def f77_s_l01DrawPlain.A : RAlt (Nat × Nat × List T × Int × Int) := .one ⟨[⟨false, [.leaf], [.flt .f32 0]⟩], [some ⟨false, [.rf .own [.sl .shr [.leaf], .leaf, .leaf]], [.ref [.lst 0 [], .int .i64 0, .int .u64 0]]⟩]⟩ sg_flii
def f77_s_l01DrawPlain.F (n : Nat) (v : Nat × List T × Int × Int) := f77_s_l01DrawPlain n v.1 v.2.1 v.2.2.1 v.2.2.2
noncomputable def f77_s_l01DrawPlain.O (n : Nat) : Orc := orcOf (E := E) [f76_s_l00Srcpick.w, f129_s_l00Srcone.w] [] n
theorem f77_s_l01DrawPlain.ok : ∀ n v x, f77_s_l01DrawPlain.F n v = some x → evalFn E n 77 (flAs f77_s_l01DrawPlain.P (sg_lii.pk v)) = some (f77_s_l01DrawPlain.A.enc x) :=
  fn_pure (modes := (fdAt 77).ms) (outs := (fdAt 77).os) (results := (fdAt 77).rs) f77_s_l01DrawPlain.O (c := c77) (keep := keepAt 77) (by kernel_rfl) (fun n => orcOf_cf _ _ n) (fun n => lpOk_of (bs := []) (by kernel_rfl) .nil) (fun _ => rfl) (fun _ _ => by kernel_rfl)
noncomputable def f77_s_l01DrawPlain.w : FnW E := fnW 77 f77_s_l01DrawPlain.P sg_lii f77_s_l01DrawPlain.A f77_s_l01DrawPlain.F f77_s_l01DrawPlain.ok

def f132_s_l00Srcamong : Nat → Nat → List T → Int → Int → Nat → List T → Option (Int × Nat × List T × Int × Int × Nat × List T)
  | 0, _, _, _, _, _, _ => none
  | n + 1, n1, l2, i3, i4, n5, l6 =>
    bd (f76_s_l00Srcpick n n1 l2 i3 i4 ((n5 : Nat) : Int)) fun r7 =>
    let i8 : Int := r7.1
    let n9 : Nat := r7.2.1
    let l10 : List T := r7.2.2.1
    let i11 : Int := r7.2.2.2.1
    let i12 : Int := r7.2.2.2.2
    gd (decide (((0 : Int) ≤ i8) ∧ (i8 < ((n5 : Nat) : Int)))) (
    gd (okAt [(CK.int IntKind.i64)] l6 (Int.toNat i8)) (
    some ((iAt l6 (Int.toNat i8)), n9, l10, i11, i12, n5, l6)))
def sg_liil : Sig (Nat × List T × Int × Int × Nat × List T) where
  pk := fun v => [.lst v.1 v.2.1, .int v.2.2.1, .int v.2.2.2.1, .lst v.2.2.2.2.1 v.2.2.2.2.2]
  up := fun ls => match ls with
    | [.lst a0 a1, .int a2, .int a3, .lst a4 a5] => some (a0, a1, a2, a3, a4, a5)
    | _ => none
  ok := by
    intro ls v h
    split at h
    · cases h; rfl
    · cases h

def sg_iliil : Sig (Int × Nat × List T × Int × Int × Nat × List T) where
  pk := fun v => [.int v.1, .lst v.2.1 v.2.2.1, .int v.2.2.2.1, .int v.2.2.2.2.1, .lst v.2.2.2.2.2.1 v.2.2.2.2.2.2]
  up := fun ls => match ls with
    | [.int a0, .lst a1 a2, .int a3, .int a4, .lst a5 a6] => some (a0, a1, a2, a3, a4, a5, a6)
    | _ => none
  ok := by
    intro ls v h
    split at h
    · cases h; rfl
    · cases h

def f132_s_l00Srcamong.P : List Arg := [⟨.iop, ⟨false, [.rf .own [.sl .shr [.leaf], .leaf, .leaf]], [.ref [.lst 0 [], .int .i64 0, .int .u64 0]]⟩⟩, ⟨.io, ⟨false, [.sl .own [.leaf]], [.lst 0 []]⟩⟩]
def f132_s_l00Srcamong.A : RAlt (Int × Nat × List T × Int × Int × Nat × List T) := .one ⟨[⟨false, [.leaf], [.int .i64 0]⟩], [some ⟨false, [.rf .own [.sl .shr [.leaf], .leaf, .leaf]], [.ref [.lst 0 [], .int .i64 0, .int .u64 0]]⟩, some ⟨false, [.sl .own [.leaf]], [.lst 0 []]⟩]⟩ sg_iliil
def f132_s_l00Srcamong.F (n : Nat) (v : Nat × List T × Int × Int × Nat × List T) := f132_s_l00Srcamong n v.1 v.2.1 v.2.2.1 v.2.2.2.1 v.2.2.2.2.1 v.2.2.2.2.2
noncomputable def f132_s_l00Srcamong.O (n : Nat) : Orc := orcOf (E := E) [f76_s_l00Srcpick.w] [] n
theorem f132_s_l00Srcamong.ok : ∀ n v x, f132_s_l00Srcamong.F n v = some x → evalFn E n 132 (flAs f132_s_l00Srcamong.P (sg_liil.pk v)) = some (f132_s_l00Srcamong.A.enc x) :=
  fn_pure (modes := (fdAt 132).ms) (outs := (fdAt 132).os) (results := (fdAt 132).rs) f132_s_l00Srcamong.O (c := c132) (keep := keepAt 132) (by kernel_rfl) (fun n => orcOf_cf _ _ n) (fun n => lpOk_of (bs := []) (by kernel_rfl) .nil) (fun _ => rfl) (fun _ _ => by kernel_rfl)
noncomputable def f132_s_l00Srcamong.w : FnW E := fnW 132 f132_s_l00Srcamong.P sg_liil f132_s_l00Srcamong.A f132_s_l00Srcamong.F f132_s_l00Srcamong.ok

def f131_s_l01From : Nat → Int → Option (Nat)
  | 0, _ => none
  | n + 1, i1 =>
    bd (xF32frombits n (IntKind.u32.wrap i1)) fun r2 =>
    let x3 : Nat := r2
    some x3
def sg_i : Sig (Int) where
  pk := fun v => [.int v]
  up := fun ls => match ls with
    | [.int a0] => some a0
    | _ => none
  ok := by
    intro ls v h
    split at h
    · cases h; rfl
    · cases h

def sg_f : Sig (Nat) where
  pk := fun v => [.flt v]
  up := fun ls => match ls with
    | [.flt a0] => some a0
    | _ => none
  ok := by
    intro ls v h
    split at h
    · cases h; rfl
    · cases h

def f131_s_l01From.P : List Arg := [⟨.val, ⟨false, [.leaf], [.int .i64 0]⟩⟩]
def f131_s_l01From.A : RAlt (Nat) := .one ⟨[⟨false, [.leaf], [.flt .f32 0]⟩], [none]⟩ sg_f
def f131_s_l01From.F (n : Nat) (v : Int) := f131_s_l01From n v
noncomputable def f131_s_l01From.O (n : Nat) : Orc := orcOf (E := E) [x140.w] [] n
theorem f131_s_l01From.ok : ∀ n v x, f131_s_l01From.F n v = some x → evalFn E n 131 (flAs f131_s_l01From.P (sg_i.pk v)) = some (f131_s_l01From.A.enc x) :=
  fn_pure (modes := (fdAt 131).ms) (outs := (fdAt 131).os) (results := (fdAt 131).rs) f131_s_l01From.O (c := c131) (keep := keepAt 131) (by kernel_rfl) (fun n => orcOf_cf _ _ n) (fun n => lpOk_of (bs := []) (by kernel_rfl) .nil) (fun _ => rfl) (fun _ _ => by kernel_rfl)
noncomputable def f131_s_l01From.w : FnW E := fnW 131 f131_s_l01From.P sg_i f131_s_l01From.A f131_s_l01From.F f131_s_l01From.ok

def f99_s_l01DrawFloat : Nat → Nat → List T → Int → Int → Option (Nat × Nat × List T × Int × Int)
  | 0, _, _, _, _ => none
  | n + 1, n1, l2, i3, i4 =>
    bd (f129_s_l00Srcone n n1 l2 i3 i4 (12 : Int)) fun r5 =>
    let b6 : Bool := r5.1
    let n7 : Nat := r5.2.1
    let l8 : List T := r5.2.2.1
    let i9 : Int := r5.2.2.2.1
    let i10 : Int := r5.2.2.2.2
    br (!b6) (
     bd (f77_s_l01DrawPlain n n7 l8 i9 i10) fun r11 =>
     let x12 : Nat := r11.1
     let n13 : Nat := r11.2.1
     let l14 : List T := r11.2.2.1
     let i15 : Int := r11.2.2.2.1
     let i16 : Int := r11.2.2.2.2
     some (x12, n13, l14, i15, i16)) (
     bd (f76_s_l00Srcpick n n7 l8 i9 i10 (4 : Int)) fun r17 =>
     let i18 : Int := r17.1
     let n19 : Nat := r17.2.1
     let l20 : List T := r17.2.2.1
     let i21 : Int := r17.2.2.2.1
     let i22 : Int := r17.2.2.2.2
     br (i18 == (0 : Int)) (
      bd (f132_s_l00Srcamong n n19 l20 i21 i22 10 (setN (setN (setN (setN (setN (setN (setN (setN (setN (setN (reps 10 [(T.int IntKind.i64 (0 : Int))]) 0 [(T.int IntKind.i64 (0 : Int))]) 1 [(T.int IntKind.i64 (2147483648 : Int))]) 2 [(T.int IntKind.i64 (2139095040 : Int))]) 3 [(T.int IntKind.i64 (4286578688 : Int))]) 4 [(T.int IntKind.i64 (2143289344 : Int))]) 5 [(T.int IntKind.i64 (1 : Int))]) 6 [(T.int IntKind.i64 (2139095039 : Int))]) 7 [(T.int IntKind.i64 (8388608 : Int))]) 8 [(T.int IntKind.i64 (8388607 : Int))]) 9 [(T.int IntKind.i64 (2147483649 : Int))])) fun r23 =>
      let i24 : Int := r23.1
      let n25 : Nat := r23.2.1
      let l26 : List T := r23.2.2.1
      let i27 : Int := r23.2.2.2.1
      let i28 : Int := r23.2.2.2.2.1
      let n29 : Nat := r23.2.2.2.2.2.1
      let l30 : List T := r23.2.2.2.2.2.2
      bd (f131_s_l01From n i24) fun r31 =>
      let x32 : Nat := r31
      some (x32, n25, l26, i27, i28)) (
      br (i18 == (1 : Int)) (
       bd (f76_s_l00Srcpick n n19 l20 i21 i22 (65536 : Int)) fun r33 =>
       let i34 : Int := r33.1
       let n35 : Nat := r33.2.1
       let l36 : List T := r33.2.2.1
       let i37 : Int := r33.2.2.2.1
       let i38 : Int := r33.2.2.2.2
       let i39 : Int := (IntKind.i64.wrap (i34 * (65536 : Int)))
       bd (f76_s_l00Srcpick n n35 l36 i37 i38 (65536 : Int)) fun r40 =>
       let i41 : Int := r40.1
       let n42 : Nat := r40.2.1
       let l43 : List T := r40.2.2.1
       let i44 : Int := r40.2.2.2.1
       let i45 : Int := r40.2.2.2.2
       bd (f131_s_l01From n (IntKind.i64.wrap (i39 + i41))) fun r46 =>
       let x47 : Nat := r46
       some (x47, n42, l43, i44, i45)) (
       br (i18 == (2 : Int)) (
        bd (f76_s_l00Srcpick n n19 l20 i21 i22 (65536 : Int)) fun r48 =>
        let i49 : Int := r48.1
        let n50 : Nat := r48.2.1
        let l51 : List T := r48.2.2.1
        let i52 : Int := r48.2.2.2.1
        let i53 : Int := r48.2.2.2.2
        bd (f131_s_l01From n (IntKind.i64.wrap (i49 * (65536 : Int)))) fun r54 =>
        let x55 : Nat := r54
        some (x55, n50, l51, i52, i53)) (
        bd (f77_s_l01DrawPlain n n19 l20 i21 i22) fun r56 =>
        let x57 : Nat := r56.1
        let n58 : Nat := r56.2.1
        let l59 : List T := r56.2.2.1
        let i60 : Int := r56.2.2.2.1
        let i61 : Int := r56.2.2.2.2
        bd (f132_s_l00Srcamong n n58 l59 i60 i61 4 (setN (setN (setN (setN (reps 4 [(T.int IntKind.i64 (0 : Int))]) 0 [(T.int IntKind.i64 (8388608 : Int))]) 1 [(T.int IntKind.i64 (2130706432 : Int))]) 2 [(T.int IntKind.i64 (1610612736 : Int))]) 3 [(T.int IntKind.i64 (536870912 : Int))])) fun r62 =>
        let i63 : Int := r62.1
        let n64 : Nat := r62.2.1
        let l65 : List T := r62.2.2.1
        let i66 : Int := r62.2.2.2.1
        let i67 : Int := r62.2.2.2.2.1
        let n68 : Nat := r62.2.2.2.2.2.1
        let l69 : List T := r62.2.2.2.2.2.2
        bd (f131_s_l01From n i63) fun r70 =>
        let x71 : Nat := r70
        some ((fmul FloatKind.f32 x57 x71), n64, l65, i66, i67)))))
def f99_s_l01DrawFloat.P : List Arg := [⟨.iop, ⟨false, [.rf .own [.sl .shr [.leaf], .leaf, .leaf]], [.ref [.lst 0 [], .int .i64 0, .int .u64 0]]⟩⟩]
def f99_s_l01DrawFloat.A : RAlt (Nat × Nat × List T × Int × Int) := .one ⟨[⟨false, [.leaf], [.flt .f32 0]⟩], [some ⟨false, [.rf .own [.sl .shr [.leaf], .leaf, .leaf]], [.ref [.lst 0 [], .int .i64 0, .int .u64 0]]⟩]⟩ sg_flii
def f99_s_l01DrawFloat.F (n : Nat) (v : Nat × List T × Int × Int) := f99_s_l01DrawFloat n v.1 v.2.1 v.2.2.1 v.2.2.2
noncomputable def f99_s_l01DrawFloat.O (n : Nat) : Orc := orcOf (E := E) [f76_s_l00Srcpick.w, f129_s_l00Srcone.w, f77_s_l01DrawPlain.w, f132_s_l00Srcamong.w, f131_s_l01From.w] [] n
theorem f99_s_l01DrawFloat.ok : ∀ n v x, f99_s_l01DrawFloat.F n v = some x → evalFn E n 99 (flAs f99_s_l01DrawFloat.P (sg_lii.pk v)) = some (f99_s_l01DrawFloat.A.enc x) :=
  fn_pure (modes := (fdAt 99).ms) (outs := (fdAt 99).os) (results := (fdAt 99).rs) f99_s_l01DrawFloat.O (c := c99) (keep := keepAt 99) (by kernel_rfl) (fun n => orcOf_cf _ _ n) (fun n => lpOk_of (bs := []) (by kernel_rfl) .nil) (fun _ => rfl) (fun _ _ => by kernel_rfl)
noncomputable def f99_s_l01DrawFloat.w : FnW E := fnW 99 f99_s_l01DrawFloat.P sg_lii f99_s_l01DrawFloat.A f99_s_l01DrawFloat.F f99_s_l01DrawFloat.ok

def f81_s_l01DrawFloats.l0 (n : Nat) : Nat → Nat → List T → Int → Int → Int → Nat → List T → Bool → Option (Nat × List T × Int × Int × Nat × List T)
  | 0, _, _, _, _, _, _, _, _ => none
  | m + 1, n1, l2, i3, i4, i5, n6, l7, b8 =>
    br (decide (i5 > (0 : Int))) (
     br b8 (
      bd (f99_s_l01DrawFloat n n1 l2 i3 i4) fun r9 =>
      let x10 : Nat := r9.1
      let n11 : Nat := r9.2.1
      let l12 : List T := r9.2.2.1
      let i13 : Int := r9.2.2.2.1
      let i14 : Int := r9.2.2.2.2
      gd (Nat.ble (n6 + 1) 2147483648) (
      let n15 : Nat := (n6 + 1)
      let l16 : List T := (l7 ++ (setN (reps 1 [(T.flt FloatKind.f32 0)]) 0 [(T.flt FloatKind.f32 x10)]))
      f81_s_l01DrawFloats.l0 n m n11 l12 i13 i14 (IntKind.i64.wrap (i5 - (1 : Int))) n15 l16 b8)) (
      bd (f77_s_l01DrawPlain n n1 l2 i3 i4) fun r17 =>
      let x18 : Nat := r17.1
      let n19 : Nat := r17.2.1
      let l20 : List T := r17.2.2.1
      let i21 : Int := r17.2.2.2.1
      let i22 : Int := r17.2.2.2.2
      gd (Nat.ble (n6 + 1) 2147483648) (
      let n23 : Nat := (n6 + 1)
      let l24 : List T := (l7 ++ (setN (reps 1 [(T.flt FloatKind.f32 0)]) 0 [(T.flt FloatKind.f32 x18)]))
      f81_s_l01DrawFloats.l0 n m n19 l20 i21 i22 (IntKind.i64.wrap (i5 - (1 : Int))) n23 l24 b8))) (
     some (n1, l2, i3, i4, n6, l7))
def f81_s_l01DrawFloats : Nat → Nat → List T → Int → Int → Int → Option (Nat × List T × Nat × List T × Int × Int)
  | 0, _, _, _, _, _ => none
  | n + 1, n1, l2, i3, i4, i5 =>
    bd (f129_s_l00Srcone n n1 l2 i3 i4 (4 : Int)) fun r6 =>
    let b7 : Bool := r6.1
    let n8 : Nat := r6.2.1
    let l9 : List T := r6.2.2.1
    let i10 : Int := r6.2.2.2.1
    let i11 : Int := r6.2.2.2.2
    bd (f81_s_l01DrawFloats.l0 n n n8 l9 i10 i11 i5 0 (reps 0 [(T.flt FloatKind.f32 0)]) b7) fun r12 =>
    let n13 : Nat := r12.1
    let l14 : List T := r12.2.1
    let i15 : Int := r12.2.2.1
    let i16 : Int := r12.2.2.2.1
    let n17 : Nat := r12.2.2.2.2.1
    let l18 : List T := r12.2.2.2.2.2
    some (n17, l18, n13, l14, i15, i16)
def sg_llii : Sig (Nat × List T × Nat × List T × Int × Int) where
  pk := fun v => [.lst v.1 v.2.1, .lst v.2.2.1 v.2.2.2.1, .int v.2.2.2.2.1, .int v.2.2.2.2.2]
  up := fun ls => match ls with
    | [.lst a0 a1, .lst a2 a3, .int a4, .int a5] => some (a0, a1, a2, a3, a4, a5)
    | _ => none
  ok := by
    intro ls v h
    split at h
    · cases h; rfl
    · cases h

def sg_liiilb : Sig (Nat × List T × Int × Int × Int × Nat × List T × Bool) where
  pk := fun v => [.lst v.1 v.2.1, .int v.2.2.1, .int v.2.2.2.1, .int v.2.2.2.2.1, .lst v.2.2.2.2.2.1 v.2.2.2.2.2.2.1, .bool v.2.2.2.2.2.2.2]
  up := fun ls => match ls with
    | [.lst a0 a1, .int a2, .int a3, .int a4, .lst a5 a6, .bool a7] => some (a0, a1, a2, a3, a4, a5, a6, a7)
    | _ => none
  ok := by
    intro ls v h
    split at h
    · cases h; rfl
    · cases h

def f81_s_l01DrawFloats.l0.P : AS := ⟨[(0, .box [.sl .shr [.leaf], .leaf, .leaf] [.lst 0 [], .int .i64 0, .int .u64 0] [] 0), (1, .val false [.leaf] [.int .i64 0] [] 0), (5, .val false [.sl .own [.leaf]] [.lst 0 []] [] 0), (6, .val false [.leaf] [.bool false] [] 0)], 0⟩
def f81_s_l01DrawFloats.l0.A : Alt (Nat × List T × Int × Int × Nat × List T) := .one (.exit 0) ⟨[(0, .box [.sl .shr [.leaf], .leaf, .leaf] [.lst 0 [], .int .i64 0, .int .u64 0] [] 0), (5, .val false [.sl .own [.leaf]] [.lst 0 []] [] 0)], 0⟩ sg_liil
def f81_s_l01DrawFloats.l0.F (n m : Nat) (v : Nat × List T × Int × Int × Int × Nat × List T × Bool) := f81_s_l01DrawFloats.l0 n m v.1 v.2.1 v.2.2.1 v.2.2.2.1 v.2.2.2.2.1 v.2.2.2.2.2.1 v.2.2.2.2.2.2.1 v.2.2.2.2.2.2.2
def f81_s_l01DrawFloats.l0.W (n : Nat) : LpW := .of 48 f81_s_l01DrawFloats.l0.P sg_liiilb f81_s_l01DrawFloats.l0.A (f81_s_l01DrawFloats.l0.F n n)
def f81_s_l01DrawFloats.P : List Arg := [⟨.iop, ⟨false, [.rf .own [.sl .shr [.leaf], .leaf, .leaf]], [.ref [.lst 0 [], .int .i64 0, .int .u64 0]]⟩⟩, ⟨.val, ⟨false, [.leaf], [.int .i64 0]⟩⟩]
def f81_s_l01DrawFloats.A : RAlt (Nat × List T × Nat × List T × Int × Int) := .one ⟨[⟨false, [.sl .own [.leaf]], [.lst 0 []]⟩], [some ⟨false, [.rf .own [.sl .shr [.leaf], .leaf, .leaf]], [.ref [.lst 0 [], .int .i64 0, .int .u64 0]]⟩, none]⟩ sg_llii
def f81_s_l01DrawFloats.F (n : Nat) (v : Nat × List T × Int × Int × Int) := f81_s_l01DrawFloats n v.1 v.2.1 v.2.2.1 v.2.2.2.1 v.2.2.2.2
noncomputable def f81_s_l01DrawFloats.O (n : Nat) : Orc := orcOf (E := E) [f129_s_l00Srcone.w, f77_s_l01DrawPlain.w, f99_s_l01DrawFloat.w] [f81_s_l01DrawFloats.l0.W n] n
theorem f81_s_l01DrawFloats.l0.ok (n : Nat) : LpOk (f81_s_l01DrawFloats.O n) E (evalFn E n) n (keepAt 81) (.loop (loopAt c81 0)) :=
  lp_pure f81_s_l01DrawFloats.l0.P sg_liiilb f81_s_l01DrawFloats.l0.A (f81_s_l01DrawFloats.l0.F n) (orcOf_cf _ _ n) (lpOk_of (bs := []) (by kernel_rfl) .nil) (fun _ => rfl) (fun _ _ => by kernel_rfl) (fun _ _ _ => by kernel_rfl)
theorem f81_s_l01DrawFloats.ok : ∀ n v x, f81_s_l01DrawFloats.F n v = some x → evalFn E n 81 (flAs f81_s_l01DrawFloats.P (sg_liii.pk v)) = some (f81_s_l01DrawFloats.A.enc x) :=
  fn_pure (modes := (fdAt 81).ms) (outs := (fdAt 81).os) (results := (fdAt 81).rs) f81_s_l01DrawFloats.O (c := c81) (keep := keepAt 81) (by kernel_rfl) (fun n => orcOf_cf _ _ n) (fun n => lpOk_of (bs := [loopAt c81 0]) (by kernel_rfl) (.cons (f81_s_l01DrawFloats.l0.ok n) .nil)) (fun _ => rfl) (fun _ _ => by kernel_rfl)
noncomputable def f81_s_l01DrawFloats.w : FnW E := fnW 81 f81_s_l01DrawFloats.P sg_liii f81_s_l01DrawFloats.A f81_s_l01DrawFloats.F f81_s_l01DrawFloats.ok

def f30_s_R8Samples : Nat → Nat → List T → Int → Option (Nat × List T)
  | 0, _, _, _ => none
  | n + 1, n1, l2, i3 =>
    bd (f75_s_l00From n n1 l2) fun r4 =>
    let n5 : Nat := r4.1
    let l6 : List T := r4.2.1
    let i7 : Int := r4.2.2.1
    let i8 : Int := r4.2.2.2
    bd (f76_s_l00Srcpick n n5 l6 i7 i8 (IntKind.i64.wrap (i3 + (1 : Int)))) fun r9 =>
    let i10 : Int := r9.1
    let n11 : Nat := r9.2.1
    let l12 : List T := r9.2.2.1
    let i13 : Int := r9.2.2.2.1
    let i14 : Int := r9.2.2.2.2
    bd (f81_s_l01DrawFloats n n11 l12 i13 i14 i10) fun r15 =>
    let n16 : Nat := r15.1
    let l17 : List T := r15.2.1
    let n18 : Nat := r15.2.2.1
    let l19 : List T := r15.2.2.2.1
    let i20 : Int := r15.2.2.2.2.1
    let i21 : Int := r15.2.2.2.2.2
    some (n16, l17)
def sg_li : Sig (Nat × List T × Int) where
  pk := fun v => [.lst v.1 v.2.1, .int v.2.2]
  up := fun ls => match ls with
    | [.lst a0 a1, .int a2] => some (a0, a1, a2)
    | _ => none
  ok := by
    intro ls v h
    split at h
    · cases h; rfl
    · cases h

def f30_s_R8Samples.P : List Arg := [⟨.val, ⟨false, [.sl .shr [.leaf]], [.lst 0 []]⟩⟩, ⟨.val, ⟨false, [.leaf], [.int .i64 0]⟩⟩]
def f30_s_R8Samples.A : RAlt (Nat × List T) := .one ⟨[⟨false, [.sl .own [.leaf]], [.lst 0 []]⟩], [none, none]⟩ sg_l
def f30_s_R8Samples.F (n : Nat) (v : Nat × List T × Int) := f30_s_R8Samples n v.1 v.2.1 v.2.2
noncomputable def f30_s_R8Samples.O (n : Nat) : Orc := orcOf (E := E) [f75_s_l00From.w, f76_s_l00Srcpick.w, f81_s_l01DrawFloats.w] [] n
theorem f30_s_R8Samples.ok : ∀ n v x, f30_s_R8Samples.F n v = some x → evalFn E n 30 (flAs f30_s_R8Samples.P (sg_li.pk v)) = some (f30_s_R8Samples.A.enc x) :=
  fn_pure (modes := (fdAt 30).ms) (outs := (fdAt 30).os) (results := (fdAt 30).rs) f30_s_R8Samples.O (c := c30) (keep := keepAt 30) (by kernel_rfl) (fun n => orcOf_cf _ _ n) (fun n => lpOk_of (bs := []) (by kernel_rfl) .nil) (fun _ => rfl) (fun _ _ => by kernel_rfl)
noncomputable def f30_s_R8Samples.w : FnW E := fnW 30 f30_s_R8Samples.P sg_li f30_s_R8Samples.A f30_s_R8Samples.F f30_s_R8Samples.ok

def f28_l_r8At : Nat → Nat → List T → Int → Int → Option (Int)
  | 0, _, _, _, _ => none
  | n + 1, n1, l2, i3, i4 =>
    br (decide (i4 ≤ (1 : Int))) (
     some (0 : Int)) (
     br (decide (i3 ≥ ((n1 : Nat) : Int))) (
      some (0 : Int)) (
      gd ((decide (((0 : Int) ≤ i3) ∧ (i3 < ((n1 : Nat) : Int)))) && (okAt [(CK.int IntKind.u8)] l2 (Int.toNat i3))) (
      gd (!(decide (i4 = (0 : Int)))) (
      some (Int.tmod (IntKind.i64.wrap (iAt l2 (Int.toNat i3))) i4)))))
def f28_l_r8At.P : List Arg := [⟨.val, ⟨false, [.sl .shr [.leaf]], [.lst 0 []]⟩⟩, ⟨.val, ⟨false, [.leaf], [.int .i64 0]⟩⟩, ⟨.val, ⟨false, [.leaf], [.int .i64 0]⟩⟩]
def f28_l_r8At.A : RAlt (Int) := .one ⟨[⟨false, [.leaf], [.int .i64 0]⟩], [none, none, none]⟩ sg_i
def f28_l_r8At.F (n : Nat) (v : Nat × List T × Int × Int) := f28_l_r8At n v.1 v.2.1 v.2.2.1 v.2.2.2
noncomputable def f28_l_r8At.O (n : Nat) : Orc := orcOf (E := E) [] [] n
theorem f28_l_r8At.ok : ∀ n v x, f28_l_r8At.F n v = some x → evalFn E n 28 (flAs f28_l_r8At.P (sg_lii.pk v)) = some (f28_l_r8At.A.enc x) :=
  fn_pure (modes := (fdAt 28).ms) (outs := (fdAt 28).os) (results := (fdAt 28).rs) f28_l_r8At.O (c := c28) (keep := keepAt 28) (by kernel_rfl) (fun n => orcOf_cf _ _ n) (fun n => lpOk_of (bs := []) (by kernel_rfl) .nil) (fun _ => rfl) (fun _ _ => by kernel_rfl)
noncomputable def f28_l_r8At.w : FnW E := fnW 28 f28_l_r8At.P sg_lii f28_l_r8At.A f28_l_r8At.F f28_l_r8At.ok

def f94_i_areSamples : Nat → Nat → List T → Option (Bool)
  | 0, _, _ => none
  | n + 1, n1, l2 =>
    some (decide (((n1 : Nat) : Int) ≤ (256 : Int)))
def f94_i_areSamples.P : List Arg := [⟨.val, ⟨false, [.sl .shr [.leaf]], [.lst 0 []]⟩⟩]
def f94_i_areSamples.A : RAlt (Bool) := .one ⟨[⟨false, [.leaf], [.bool false]⟩], [none]⟩ sg_b
def f94_i_areSamples.F (n : Nat) (v : Nat × List T) := f94_i_areSamples n v.1 v.2
noncomputable def f94_i_areSamples.O (n : Nat) : Orc := orcOf (E := E) [] [] n
theorem f94_i_areSamples.ok : ∀ n v x, f94_i_areSamples.F n v = some x → evalFn E n 94 (flAs f94_i_areSamples.P (sg_l.pk v)) = some (f94_i_areSamples.A.enc x) :=
  fn_pure (modes := (fdAt 94).ms) (outs := (fdAt 94).os) (results := (fdAt 94).rs) f94_i_areSamples.O (c := c94) (keep := keepAt 94) (by kernel_rfl) (fun n => orcOf_cf _ _ n) (fun n => lpOk_of (bs := []) (by kernel_rfl) .nil) (fun _ => rfl) (fun _ _ => by kernel_rfl)
noncomputable def f94_i_areSamples.w : FnW E := fnW 94 f94_i_areSamples.P sg_l f94_i_areSamples.A f94_i_areSamples.F f94_i_areSamples.ok

def f83_i_within : Nat → Int → Int → Int → Option (Bool)
  | 0, _, _, _ => none
  | n + 1, i1, i2, i3 =>
    br (decide (i2 ≤ i1)) (
     some (decide (i1 ≤ i3))) (
     some false)
def sg_iii : Sig (Int × Int × Int) where
  pk := fun v => [.int v.1, .int v.2.1, .int v.2.2]
  up := fun ls => match ls with
    | [.int a0, .int a1, .int a2] => some (a0, a1, a2)
    | _ => none
  ok := by
    intro ls v h
    split at h
    · cases h; rfl
    · cases h

def f83_i_within.P : List Arg := [⟨.val, ⟨false, [.leaf], [.int .i64 0]⟩⟩, ⟨.val, ⟨false, [.leaf], [.int .i64 0]⟩⟩, ⟨.val, ⟨false, [.leaf], [.int .i64 0]⟩⟩]
def f83_i_within.A : RAlt (Bool) := .one ⟨[⟨false, [.leaf], [.bool false]⟩], [none, none, none]⟩ sg_b
def f83_i_within.F (n : Nat) (v : Int × Int × Int) := f83_i_within n v.1 v.2.1 v.2.2
noncomputable def f83_i_within.O (n : Nat) : Orc := orcOf (E := E) [] [] n
theorem f83_i_within.ok : ∀ n v x, f83_i_within.F n v = some x → evalFn E n 83 (flAs f83_i_within.P (sg_iii.pk v)) = some (f83_i_within.A.enc x) :=
  fn_pure (modes := (fdAt 83).ms) (outs := (fdAt 83).os) (results := (fdAt 83).rs) f83_i_within.O (c := c83) (keep := keepAt 83) (by kernel_rfl) (fun n => orcOf_cf _ _ n) (fun n => lpOk_of (bs := []) (by kernel_rfl) .nil) (fun _ => rfl) (fun _ _ => by kernel_rfl)
noncomputable def f83_i_within.w : FnW E := fnW 83 f83_i_within.P sg_iii f83_i_within.A f83_i_within.F f83_i_within.ok

def f51_i_SpreadOf.l0 (n : Nat) : Nat → Nat → List T → Int → Nat → List T → Nat → List T → Int → Int → Option (Nat × List T)
  | 0, _, _, _, _, _, _, _, _, _ => none
  | m + 1, n1, l2, i3, n4, l5, n6, l7, i8, i9 =>
    br (decide (i9 < i8)) (
     gd ((decide (((0 : Int) ≤ i9) ∧ (i9 < ((n6 : Nat) : Int)))) && (okAt [(CK.flt FloatKind.f32)] l7 (Int.toNat i9))) (
     let x10 : Nat := (fAt l7 (Int.toNat i9))
     br (fge FloatKind.f32 x10 3212836864) (
      br (flt FloatKind.f32 x10 1065353216) (
       bd ((fltToFlt FloatKind.f32 x10 FloatKind.f64)) fun y11 =>
       bd ((fltToInt FloatKind.f64 (fmul FloatKind.f64 (fdiv FloatKind.f64 (fadd FloatKind.f64 y11 4607182418800017408) 4611686018427387904) (FloatKind.nearest FloatKind.f64 i3)) IntKind.i64)) fun y12 =>
       gd (decide (((0 : Int) ≤ y12) ∧ (y12 < ((n4 : Nat) : Int)))) (
       gd (okAt [(CK.int IntKind.i64)] l5 (Int.toNat y12)) (
       gd (decide (((0 : Int) ≤ y12) ∧ (y12 < ((n4 : Nat) : Int)))) (
       gd (Nat.ble ((Int.toNat y12) + 1) (List.length l5)) (
       let l13 : List T := (setN l5 (Int.toNat y12) [(T.int IntKind.i64 (IntKind.i64.wrap ((iAt l5 (Int.toNat y12)) + (1 : Int))))])
       f51_i_SpreadOf.l0 n m n1 l2 i3 n4 l13 n6 l7 i8 (IntKind.i64.wrap (i9 + (1 : Int)))))))) (
       f51_i_SpreadOf.l0 n m n1 l2 i3 n4 l5 n6 l7 i8 (IntKind.i64.wrap (i9 + (1 : Int))))) (
      f51_i_SpreadOf.l0 n m n1 l2 i3 n4 l5 n6 l7 i8 (IntKind.i64.wrap (i9 + (1 : Int)))))) (
     some (n4, l5))
def f51_i_SpreadOf : Nat → Nat → List T → Int → Option (Nat × List T × Bool)
  | 0, _, _, _ => none
  | n + 1, n1, l2, i3 =>
    bd (f94_i_areSamples n n1 l2) fun r4 =>
    let b5 : Bool := r4
    br (!b5) (
     some (0, [], false)) (
     bd (f83_i_within n i3 (1 : Int) (64 : Int)) fun r6 =>
     let b7 : Bool := r6
     br (!b7) (
      some (0, [], false)) (
      gd (decide (((0 : Int) ≤ i3) ∧ (i3 ≤ (2147483648 : Int)))) (
      let n8 : Nat := (Int.toNat i3)
      let l9 : List T := (reps (Int.toNat i3) [(T.int IntKind.i64 (0 : Int))])
      bd (f51_i_SpreadOf.l0 n n n1 l2 i3 n8 l9 n1 l2 ((n1 : Nat) : Int) (0 : Int)) fun r10 =>
      let n11 : Nat := r10.1
      let l12 : List T := r10.2
      some (n11, l12, true))))
def sg_lb : Sig (Nat × List T × Bool) where
  pk := fun v => [.lst v.1 v.2.1, .bool v.2.2]
  up := fun ls => match ls with
    | [.lst a0 a1, .bool a2] => some (a0, a1, a2)
    | _ => none
  ok := by
    intro ls v h
    split at h
    · cases h; rfl
    · cases h

def sg_lillii : Sig (Nat × List T × Int × Nat × List T × Nat × List T × Int × Int) where
  pk := fun v => [.lst v.1 v.2.1, .int v.2.2.1, .lst v.2.2.2.1 v.2.2.2.2.1, .lst v.2.2.2.2.2.1 v.2.2.2.2.2.2.1, .int v.2.2.2.2.2.2.2.1, .int v.2.2.2.2.2.2.2.2]
  up := fun ls => match ls with
    | [.lst a0 a1, .int a2, .lst a3 a4, .lst a5 a6, .int a7, .int a8] => some (a0, a1, a2, a3, a4, a5, a6, a7, a8)
    | _ => none
  ok := by
    intro ls v h
    split at h
    · cases h; rfl
    · cases h

def f51_i_SpreadOf.l0.P : AS := ⟨[(0, .val false [.sl .shr [.leaf]] [.lst 0 []] [] 0), (1, .val false [.leaf] [.int .i64 0] [] 0), (6, .val false [.sl .own [.leaf]] [.lst 0 []] [] 0), (19, .val false [.sl .shr [.leaf]] [.lst 0 []] [] 0), (20, .val false [.leaf] [.int .i64 0] [] 0), (21, .val false [.leaf] [.int .i64 0] [] 0)], 0⟩
def f51_i_SpreadOf.l0.A : Alt (Nat × List T) := .one (.exit 0) ⟨[(6, .val false [.sl .own [.leaf]] [.lst 0 []] [] 0)], 0⟩ sg_l
def f51_i_SpreadOf.l0.F (n m : Nat) (v : Nat × List T × Int × Nat × List T × Nat × List T × Int × Int) := f51_i_SpreadOf.l0 n m v.1 v.2.1 v.2.2.1 v.2.2.2.1 v.2.2.2.2.1 v.2.2.2.2.2.1 v.2.2.2.2.2.2.1 v.2.2.2.2.2.2.2.1 v.2.2.2.2.2.2.2.2
def f51_i_SpreadOf.l0.W (n : Nat) : LpW := .of 80 f51_i_SpreadOf.l0.P sg_lillii f51_i_SpreadOf.l0.A (f51_i_SpreadOf.l0.F n n)
def f51_i_SpreadOf.P : List Arg := [⟨.val, ⟨false, [.sl .shr [.leaf]], [.lst 0 []]⟩⟩, ⟨.val, ⟨false, [.leaf], [.int .i64 0]⟩⟩]
def f51_i_SpreadOf.A : RAlt (Nat × List T × Bool) := .one ⟨[⟨false, [.sl .own [.leaf]], [.lst 0 []]⟩, ⟨false, [.leaf], [.bool false]⟩], [none, none]⟩ sg_lb
def f51_i_SpreadOf.F (n : Nat) (v : Nat × List T × Int) := f51_i_SpreadOf n v.1 v.2.1 v.2.2
noncomputable def f51_i_SpreadOf.O (n : Nat) : Orc := orcOf (E := E) [f94_i_areSamples.w, f83_i_within.w] [f51_i_SpreadOf.l0.W n] n
theorem f51_i_SpreadOf.l0.ok (n : Nat) : LpOk (f51_i_SpreadOf.O n) E (evalFn E n) n (keepAt 51) (.loop (loopAt c51 0)) :=
  lp_pure f51_i_SpreadOf.l0.P sg_lillii f51_i_SpreadOf.l0.A (f51_i_SpreadOf.l0.F n) (orcOf_cf _ _ n) (lpOk_of (bs := []) (by kernel_rfl) .nil) (fun _ => rfl) (fun _ _ => by kernel_rfl) (fun _ _ _ => by kernel_rfl)
theorem f51_i_SpreadOf.ok : ∀ n v x, f51_i_SpreadOf.F n v = some x → evalFn E n 51 (flAs f51_i_SpreadOf.P (sg_li.pk v)) = some (f51_i_SpreadOf.A.enc x) :=
  fn_pure (modes := (fdAt 51).ms) (outs := (fdAt 51).os) (results := (fdAt 51).rs) f51_i_SpreadOf.O (c := c51) (keep := keepAt 51) (by kernel_rfl) (fun n => orcOf_cf _ _ n) (fun n => lpOk_of (bs := [loopAt c51 0]) (by kernel_rfl) (.cons (f51_i_SpreadOf.l0.ok n) .nil)) (fun _ => rfl) (fun _ _ => by kernel_rfl)
noncomputable def f51_i_SpreadOf.w : FnW E := fnW 51 f51_i_SpreadOf.P sg_li f51_i_SpreadOf.A f51_i_SpreadOf.F f51_i_SpreadOf.ok

def f9_l_FnSpreads.l0 (n : Nat) : Nat → Nat → List T → Nat → List T → Nat → List T → Int → Int → Option ((Bool) ⊕ (Nat × List T × Nat × List T × Int))
  | 0, _, _, _, _, _, _, _, _ => none
  | m + 1, n1, l2, n3, l4, n5, l6, i7, i8 =>
    br (decide (i8 < ((n5 : Nat) : Int))) (
     gd (decide (((0 : Int) ≤ i8) ∧ (i8 < ((n5 : Nat) : Int)))) (
     gd (okAt [(CK.int IntKind.i64)] l6 (Int.toNat i8)) (
     br (decide ((iAt l6 (Int.toNat i8)) < (0 : Int))) (
      some (Sum.inl false)) (
      gd (decide (((0 : Int) ≤ i8) ∧ (i8 < ((n5 : Nat) : Int)))) (
      gd (okAt [(CK.int IntKind.i64)] l6 (Int.toNat i8)) (
      let i9 : Int := (IntKind.i64.wrap (i7 + (iAt l6 (Int.toNat i8))))
      f9_l_FnSpreads.l0 n m n1 l2 n3 l4 n5 l6 i9 (IntKind.i64.wrap (i8 + (1 : Int))))))))) (
     some (Sum.inr (n1, l2, n3, l4, i7)))
def f9_l_FnSpreads.l1 (n : Nat) : Nat → Nat → List T → Nat → List T → Int → Int → Int → Option (Nat × List T × Int × Int)
  | 0, _, _, _, _, _, _, _ => none
  | m + 1, n1, l2, n3, l4, i5, i6, i7 =>
    br (decide (i7 < ((n3 : Nat) : Int))) (
     gd (decide (((0 : Int) ≤ i7) ∧ (i7 < ((n3 : Nat) : Int)))) (
     gd (okAt [(CK.flt FloatKind.f32)] l4 (Int.toNat i7)) (
     br (fge FloatKind.f32 (fAt l4 (Int.toNat i7)) 3212836864) (
      gd (decide (((0 : Int) ≤ i7) ∧ (i7 < ((n3 : Nat) : Int)))) (
      gd (okAt [(CK.flt FloatKind.f32)] l4 (Int.toNat i7)) (
      br (flt FloatKind.f32 (fAt l4 (Int.toNat i7)) 1065353216) (
       let i8 : Int := (IntKind.i64.wrap (i6 + (1 : Int)))
       f9_l_FnSpreads.l1 n m n1 l2 n3 l4 i5 i8 (IntKind.i64.wrap (i7 + (1 : Int)))) (
       f9_l_FnSpreads.l1 n m n1 l2 n3 l4 i5 i6 (IntKind.i64.wrap (i7 + (1 : Int))))))) (
      f9_l_FnSpreads.l1 n m n1 l2 n3 l4 i5 i6 (IntKind.i64.wrap (i7 + (1 : Int))))))) (
     some (n1, l2, i5, i6))
def f110_i_isTenths : Nat → Int → Option (Bool)
  | 0, _ => none
  | n + 1, i1 =>
    bd (f83_i_within n i1 (-2000 : Int) (2000 : Int)) fun r2 =>
    let b3 : Bool := r2
    some b3
def f110_i_isTenths.P : List Arg := [⟨.val, ⟨false, [.leaf], [.int .i64 0]⟩⟩]
def f110_i_isTenths.A : RAlt (Bool) := .one ⟨[⟨false, [.leaf], [.bool false]⟩], [none]⟩ sg_b
def f110_i_isTenths.F (n : Nat) (v : Int) := f110_i_isTenths n v
noncomputable def f110_i_isTenths.O (n : Nat) : Orc := orcOf (E := E) [f83_i_within.w] [] n
theorem f110_i_isTenths.ok : ∀ n v x, f110_i_isTenths.F n v = some x → evalFn E n 110 (flAs f110_i_isTenths.P (sg_i.pk v)) = some (f110_i_isTenths.A.enc x) :=
  fn_pure (modes := (fdAt 110).ms) (outs := (fdAt 110).os) (results := (fdAt 110).rs) f110_i_isTenths.O (c := c110) (keep := keepAt 110) (by kernel_rfl) (fun n => orcOf_cf _ _ n) (fun n => lpOk_of (bs := []) (by kernel_rfl) .nil) (fun _ => rfl) (fun _ _ => by kernel_rfl)
noncomputable def f110_i_isTenths.w : FnW E := fnW 110 f110_i_isTenths.P sg_i f110_i_isTenths.A f110_i_isTenths.F f110_i_isTenths.ok

def f133_mathInf : Nat → Int → Option (Nat)
  | 0, _ => none
  | n + 1, i1 =>
    br (decide (i1 ≥ (0 : Int))) (
     bd (xF64frombits n (9218868437227405312 : Int)) fun r2 =>
     let x3 : Nat := r2
     some x3) (
     bd (xF64frombits n (18442240474082181120 : Int)) fun r4 =>
     let x5 : Nat := r4
     some x5)
def f133_mathInf.P : List Arg := [⟨.val, ⟨false, [.leaf], [.int .i64 0]⟩⟩]
def f133_mathInf.A : RAlt (Nat) := .one ⟨[⟨false, [.leaf], [.flt .f64 0]⟩], [none]⟩ sg_f
def f133_mathInf.F (n : Nat) (v : Int) := f133_mathInf n v
noncomputable def f133_mathInf.O (n : Nat) : Orc := orcOf (E := E) [x141.w] [] n
theorem f133_mathInf.ok : ∀ n v x, f133_mathInf.F n v = some x → evalFn E n 133 (flAs f133_mathInf.P (sg_i.pk v)) = some (f133_mathInf.A.enc x) :=
  fn_pure (modes := (fdAt 133).ms) (outs := (fdAt 133).os) (results := (fdAt 133).rs) f133_mathInf.O (c := c133) (keep := keepAt 133) (by kernel_rfl) (fun n => orcOf_cf _ _ n) (fun n => lpOk_of (bs := []) (by kernel_rfl) .nil) (fun _ => rfl) (fun _ _ => by kernel_rfl)
noncomputable def f133_mathInf.w : FnW E := fnW 133 f133_mathInf.P sg_i f133_mathInf.A f133_mathInf.F f133_mathInf.ok

def f111_i_exponential.l0 (n : Nat) : Nat → Nat → Nat → Nat → Option (Nat)
  | 0, _, _, _ => none
  | m + 1, x1, x2, x3 =>
    br (fge FloatKind.f64 x3 4607182418800017408) (
     let x4 : Nat := (fadd FloatKind.f64 4607182418800017408 (fdiv FloatKind.f64 (fmul FloatKind.f64 x1 x2) x3))
     f111_i_exponential.l0 n m x1 x4 (fsub FloatKind.f64 x3 4607182418800017408)) (
     some x2)
def f111_i_exponential.l1 (n : Nat) : Nat → Nat → Int → Option (Nat)
  | 0, _, _ => none
  | m + 1, x1, i2 =>
    br (decide (i2 < (8 : Int))) (
     let x3 : Nat := (fmul FloatKind.f64 x1 x1)
     f111_i_exponential.l1 n m x3 (IntKind.i64.wrap (i2 + (1 : Int)))) (
     some x1)
def f111_i_exponential : Nat → Nat → Option (Nat)
  | 0, _ => none
  | n + 1, x1 =>
    br (fgt FloatKind.f64 x1 4641240890982006784) (
     bd (f133_mathInf n (1 : Int)) fun r2 =>
     let x3 : Nat := r2
     some x3) (
     br (flt FloatKind.f64 x1 13864612927836782592) (
      some 0) (
      let x4 : Nat := (fdiv FloatKind.f64 x1 4643211215818981376)
      bd (f111_i_exponential.l0 n n x4 4607182418800017408 4622945017495814144) fun r5 =>
      let x6 : Nat := r5
      bd (f111_i_exponential.l1 n n x6 (0 : Int)) fun r7 =>
      let x8 : Nat := r7
      some x8))
def sg_fff : Sig (Nat × Nat × Nat) where
  pk := fun v => [.flt v.1, .flt v.2.1, .flt v.2.2]
  up := fun ls => match ls with
    | [.flt a0, .flt a1, .flt a2] => some (a0, a1, a2)
    | _ => none
  ok := by
    intro ls v h
    split at h
    · cases h; rfl
    · cases h

def sg_fi : Sig (Nat × Int) where
  pk := fun v => [.flt v.1, .int v.2]
  up := fun ls => match ls with
    | [.flt a0, .int a1] => some (a0, a1)
    | _ => none
  ok := by
    intro ls v h
    split at h
    · cases h; rfl
    · cases h

def f111_i_exponential.l0.P : AS := ⟨[(3, .val false [.leaf] [.flt .f64 0] [] 0), (4, .val false [.leaf] [.flt .f64 0] [] 0), (5, .val false [.leaf] [.flt .f64 0] [] 0)], 0⟩
def f111_i_exponential.l0.A : Alt (Nat) := .one (.exit 1) ⟨[(4, .val false [.leaf] [.flt .f64 0] [] 0)], 0⟩ sg_f
def f111_i_exponential.l0.F (n m : Nat) (v : Nat × Nat × Nat) := f111_i_exponential.l0 n m v.1 v.2.1 v.2.2
def f111_i_exponential.l0.W (n : Nat) : LpW := .of 112 f111_i_exponential.l0.P sg_fff f111_i_exponential.l0.A (f111_i_exponential.l0.F n n)
def f111_i_exponential.l1.P : AS := ⟨[(4, .val false [.leaf] [.flt .f64 0] [] 0), (6, .val false [.leaf] [.int .i64 0] [] 0)], 0⟩
def f111_i_exponential.l1.A : Alt (Nat) := .one (.exit 3) ⟨[(4, .val false [.leaf] [.flt .f64 0] [] 0)], 0⟩ sg_f
def f111_i_exponential.l1.F (n m : Nat) (v : Nat × Int) := f111_i_exponential.l1 n m v.1 v.2
def f111_i_exponential.l1.W (n : Nat) : LpW := .of 176 f111_i_exponential.l1.P sg_fi f111_i_exponential.l1.A (f111_i_exponential.l1.F n n)
def f111_i_exponential.P : List Arg := [⟨.val, ⟨false, [.leaf], [.flt .f64 0]⟩⟩]
def f111_i_exponential.A : RAlt (Nat) := .one ⟨[⟨false, [.leaf], [.flt .f64 0]⟩], [none]⟩ sg_f
def f111_i_exponential.F (n : Nat) (v : Nat) := f111_i_exponential n v
noncomputable def f111_i_exponential.O (n : Nat) : Orc := orcOf (E := E) [f133_mathInf.w] [f111_i_exponential.l0.W n, f111_i_exponential.l1.W n] n
theorem f111_i_exponential.l0.ok (n : Nat) : LpOk (f111_i_exponential.O n) E (evalFn E n) n (keepAt 111) (.loop (loopAt c111 0)) :=
  lp_pure f111_i_exponential.l0.P sg_fff f111_i_exponential.l0.A (f111_i_exponential.l0.F n) (orcOf_cf _ _ n) (lpOk_of (bs := []) (by kernel_rfl) .nil) (fun _ => rfl) (fun _ _ => by kernel_rfl) (fun _ _ _ => by kernel_rfl)
theorem f111_i_exponential.l1.ok (n : Nat) : LpOk (f111_i_exponential.O n) E (evalFn E n) n (keepAt 111) (.loop (loopAt c111 1)) :=
  lp_pure f111_i_exponential.l1.P sg_fi f111_i_exponential.l1.A (f111_i_exponential.l1.F n) (orcOf_cf _ _ n) (lpOk_of (bs := []) (by kernel_rfl) .nil) (fun _ => rfl) (fun _ _ => by kernel_rfl) (fun _ _ _ => by kernel_rfl)
theorem f111_i_exponential.ok : ∀ n v x, f111_i_exponential.F n v = some x → evalFn E n 111 (flAs f111_i_exponential.P (sg_f.pk v)) = some (f111_i_exponential.A.enc x) :=
  fn_pure (modes := (fdAt 111).ms) (outs := (fdAt 111).os) (results := (fdAt 111).rs) f111_i_exponential.O (c := c111) (keep := keepAt 111) (by kernel_rfl) (fun n => orcOf_cf _ _ n) (fun n => lpOk_of (bs := [loopAt c111 0, loopAt c111 1]) (by kernel_rfl) (.cons (f111_i_exponential.l0.ok n) (.cons (f111_i_exponential.l1.ok n) .nil))) (fun _ => rfl) (fun _ _ => by kernel_rfl)
noncomputable def f111_i_exponential.w : FnW E := fnW 111 f111_i_exponential.P sg_f f111_i_exponential.A f111_i_exponential.F f111_i_exponential.ok

def f52_i_GainOf : Nat → Int → Option (Nat × Bool)
  | 0, _ => none
  | n + 1, i1 =>
    bd (f110_i_isTenths n i1) fun r2 =>
    let b3 : Bool := r2
    br (!b3) (
     some (0, false)) (
     bd (f111_i_exponential n (fmul FloatKind.f64 (FloatKind.nearest FloatKind.f64 i1) 4577790371455803420)) fun r4 =>
     let x5 : Nat := r4
     bd ((fltToFlt FloatKind.f64 x5 FloatKind.f32)) fun y6 =>
     some (y6, true))
def sg_fb : Sig (Nat × Bool) where
  pk := fun v => [.flt v.1, .bool v.2]
  up := fun ls => match ls with
    | [.flt a0, .bool a1] => some (a0, a1)
    | _ => none
  ok := by
    intro ls v h
    split at h
    · cases h; rfl
    · cases h

def f52_i_GainOf.P : List Arg := [⟨.val, ⟨false, [.leaf], [.int .i64 0]⟩⟩]
def f52_i_GainOf.A : RAlt (Nat × Bool) := .one ⟨[⟨false, [.leaf], [.flt .f32 0]⟩, ⟨false, [.leaf], [.bool false]⟩], [none]⟩ sg_fb
def f52_i_GainOf.F (n : Nat) (v : Int) := f52_i_GainOf n v
noncomputable def f52_i_GainOf.O (n : Nat) : Orc := orcOf (E := E) [f110_i_isTenths.w, f111_i_exponential.w] [] n
theorem f52_i_GainOf.ok : ∀ n v x, f52_i_GainOf.F n v = some x → evalFn E n 52 (flAs f52_i_GainOf.P (sg_i.pk v)) = some (f52_i_GainOf.A.enc x) :=
  fn_pure (modes := (fdAt 52).ms) (outs := (fdAt 52).os) (results := (fdAt 52).rs) f52_i_GainOf.O (c := c52) (keep := keepAt 52) (by kernel_rfl) (fun n => orcOf_cf _ _ n) (fun n => lpOk_of (bs := []) (by kernel_rfl) .nil) (fun _ => rfl) (fun _ _ => by kernel_rfl)
noncomputable def f52_i_GainOf.w : FnW E := fnW 52 f52_i_GainOf.P sg_i f52_i_GainOf.A f52_i_GainOf.F f52_i_GainOf.ok

def f105_i_IsFinite : Nat → Nat → Option (Bool)
  | 0, _ => none
  | n + 1, x1 =>
    some (feq FloatKind.f32 (fsub FloatKind.f32 x1 x1) 0)
def f105_i_IsFinite.P : List Arg := [⟨.val, ⟨false, [.leaf], [.flt .f32 0]⟩⟩]
def f105_i_IsFinite.A : RAlt (Bool) := .one ⟨[⟨false, [.leaf], [.bool false]⟩], [none]⟩ sg_b
def f105_i_IsFinite.F (n : Nat) (v : Nat) := f105_i_IsFinite n v
noncomputable def f105_i_IsFinite.O (n : Nat) : Orc := orcOf (E := E) [] [] n
theorem f105_i_IsFinite.ok : ∀ n v x, f105_i_IsFinite.F n v = some x → evalFn E n 105 (flAs f105_i_IsFinite.P (sg_f.pk v)) = some (f105_i_IsFinite.A.enc x) :=
  fn_pure (modes := (fdAt 105).ms) (outs := (fdAt 105).os) (results := (fdAt 105).rs) f105_i_IsFinite.O (c := c105) (keep := keepAt 105) (by kernel_rfl) (fun n => orcOf_cf _ _ n) (fun n => lpOk_of (bs := []) (by kernel_rfl) .nil) (fun _ => rfl) (fun _ _ => by kernel_rfl)
noncomputable def f105_i_IsFinite.w : FnW E := fnW 105 f105_i_IsFinite.P sg_f f105_i_IsFinite.A f105_i_IsFinite.F f105_i_IsFinite.ok

def f113_i_logarithm.l0 (n : Nat) : Nat → Nat → Nat → Option (Nat × Nat)
  | 0, _, _ => none
  | m + 1, x1, x2 =>
    br (fge FloatKind.f64 x1 4609434218613702656) (
     let x3 : Nat := (fdiv FloatKind.f64 x1 4611686018427387904)
     f113_i_logarithm.l0 n m x3 (fadd FloatKind.f64 x2 4607182418800017408)) (
     some (x1, x2))
def f113_i_logarithm.l1 (n : Nat) : Nat → Nat → Nat → Option (Nat × Nat)
  | 0, _, _ => none
  | m + 1, x1, x2 =>
    br (flt FloatKind.f64 x1 4604930618986332160) (
     let x3 : Nat := (fmul FloatKind.f64 x1 4611686018427387904)
     f113_i_logarithm.l1 n m x3 (fsub FloatKind.f64 x2 4607182418800017408)) (
     some (x1, x2))
def f113_i_logarithm.l2 (n : Nat) : Nat → Nat → Nat → Nat → Nat → Nat → Option (Nat × Nat × Nat)
  | 0, _, _, _, _, _ => none
  | m + 1, x1, x2, x3, x4, x5 =>
    br (fge FloatKind.f64 x5 4607182418800017408) (
     let x6 : Nat := (fadd FloatKind.f64 (fdiv FloatKind.f64 4607182418800017408 x5) (fmul FloatKind.f64 x3 x4))
     f113_i_logarithm.l2 n m x1 x2 x3 x6 (fsub FloatKind.f64 x5 4611686018427387904)) (
     some (x1, x2, x4))
def f113_i_logarithm : Nat → Nat → Option (Nat)
  | 0, _ => none
  | n + 1, x1 =>
    bd (f113_i_logarithm.l0 n n x1 0) fun r2 =>
    let x3 : Nat := r2.1
    let x4 : Nat := r2.2
    bd (f113_i_logarithm.l1 n n x3 x4) fun r5 =>
    let x6 : Nat := r5.1
    let x7 : Nat := r5.2
    let x8 : Nat := (fdiv FloatKind.f64 (fsub FloatKind.f64 x6 4607182418800017408) (fadd FloatKind.f64 x6 4607182418800017408))
    let x9 : Nat := (fmul FloatKind.f64 x8 x8)
    bd (f113_i_logarithm.l2 n n x7 x8 x9 0 4627730092099895296) fun r10 =>
    let x11 : Nat := r10.1
    let x12 : Nat := r10.2.1
    let x13 : Nat := r10.2.2
    some (fadd FloatKind.f64 (fmul FloatKind.f64 4611686018427387904 (fmul FloatKind.f64 x12 x13)) (fmul FloatKind.f64 x11 4604418534313441775))
def sg_ff : Sig (Nat × Nat) where
  pk := fun v => [.flt v.1, .flt v.2]
  up := fun ls => match ls with
    | [.flt a0, .flt a1] => some (a0, a1)
    | _ => none
  ok := by
    intro ls v h
    split at h
    · cases h; rfl
    · cases h

def sg_fffff : Sig (Nat × Nat × Nat × Nat × Nat) where
  pk := fun v => [.flt v.1, .flt v.2.1, .flt v.2.2.1, .flt v.2.2.2.1, .flt v.2.2.2.2]
  up := fun ls => match ls with
    | [.flt a0, .flt a1, .flt a2, .flt a3, .flt a4] => some (a0, a1, a2, a3, a4)
    | _ => none
  ok := by
    intro ls v h
    split at h
    · cases h; rfl
    · cases h

def f113_i_logarithm.l0.P : AS := ⟨[(0, .val false [.leaf] [.flt .f64 0] [] 0), (3, .val false [.leaf] [.flt .f64 0] [] 0)], 0⟩
def f113_i_logarithm.l0.A : Alt (Nat × Nat) := .one (.exit 0) ⟨[(0, .val false [.leaf] [.flt .f64 0] [] 0), (3, .val false [.leaf] [.flt .f64 0] [] 0)], 0⟩ sg_ff
def f113_i_logarithm.l0.F (n m : Nat) (v : Nat × Nat) := f113_i_logarithm.l0 n m v.1 v.2
def f113_i_logarithm.l0.W (n : Nat) : LpW := .of 32 f113_i_logarithm.l0.P sg_ff f113_i_logarithm.l0.A (f113_i_logarithm.l0.F n n)
def f113_i_logarithm.l1.P : AS := ⟨[(0, .val false [.leaf] [.flt .f64 0] [] 0), (3, .val false [.leaf] [.flt .f64 0] [] 0)], 0⟩
def f113_i_logarithm.l1.A : Alt (Nat × Nat) := .one (.exit 2) ⟨[(0, .val false [.leaf] [.flt .f64 0] [] 0), (3, .val false [.leaf] [.flt .f64 0] [] 0)], 0⟩ sg_ff
def f113_i_logarithm.l1.F (n m : Nat) (v : Nat × Nat) := f113_i_logarithm.l1 n m v.1 v.2
def f113_i_logarithm.l1.W (n : Nat) : LpW := .of 80 f113_i_logarithm.l1.P sg_ff f113_i_logarithm.l1.A (f113_i_logarithm.l1.F n n)
def f113_i_logarithm.l2.P : AS := ⟨[(3, .val false [.leaf] [.flt .f64 0] [] 0), (4, .val false [.leaf] [.flt .f64 0] [] 0), (5, .val false [.leaf] [.flt .f64 0] [] 0), (6, .val false [.leaf] [.flt .f64 0] [] 0), (7, .val false [.leaf] [.flt .f64 0] [] 0)], 0⟩
def f113_i_logarithm.l2.A : Alt (Nat × Nat × Nat) := .one (.exit 4) ⟨[(3, .val false [.leaf] [.flt .f64 0] [] 0), (4, .val false [.leaf] [.flt .f64 0] [] 0), (6, .val false [.leaf] [.flt .f64 0] [] 0)], 0⟩ sg_fff
def f113_i_logarithm.l2.F (n m : Nat) (v : Nat × Nat × Nat × Nat × Nat) := f113_i_logarithm.l2 n m v.1 v.2.1 v.2.2.1 v.2.2.2.1 v.2.2.2.2
def f113_i_logarithm.l2.W (n : Nat) : LpW := .of 176 f113_i_logarithm.l2.P sg_fffff f113_i_logarithm.l2.A (f113_i_logarithm.l2.F n n)
def f113_i_logarithm.P : List Arg := [⟨.val, ⟨false, [.leaf], [.flt .f64 0]⟩⟩]
def f113_i_logarithm.A : RAlt (Nat) := .one ⟨[⟨false, [.leaf], [.flt .f64 0]⟩], [none]⟩ sg_f
def f113_i_logarithm.F (n : Nat) (v : Nat) := f113_i_logarithm n v
noncomputable def f113_i_logarithm.O (n : Nat) : Orc := orcOf (E := E) [] [f113_i_logarithm.l0.W n, f113_i_logarithm.l1.W n, f113_i_logarithm.l2.W n] n
theorem f113_i_logarithm.l0.ok (n : Nat) : LpOk (f113_i_logarithm.O n) E (evalFn E n) n (keepAt 113) (.loop (loopAt c113 0)) :=
  lp_pure f113_i_logarithm.l0.P sg_ff f113_i_logarithm.l0.A (f113_i_logarithm.l0.F n) (orcOf_cf _ _ n) (lpOk_of (bs := []) (by kernel_rfl) .nil) (fun _ => rfl) (fun _ _ => by kernel_rfl) (fun _ _ _ => by kernel_rfl)
theorem f113_i_logarithm.l1.ok (n : Nat) : LpOk (f113_i_logarithm.O n) E (evalFn E n) n (keepAt 113) (.loop (loopAt c113 1)) :=
  lp_pure f113_i_logarithm.l1.P sg_ff f113_i_logarithm.l1.A (f113_i_logarithm.l1.F n) (orcOf_cf _ _ n) (lpOk_of (bs := []) (by kernel_rfl) .nil) (fun _ => rfl) (fun _ _ => by kernel_rfl) (fun _ _ _ => by kernel_rfl)
theorem f113_i_logarithm.l2.ok (n : Nat) : LpOk (f113_i_logarithm.O n) E (evalFn E n) n (keepAt 113) (.loop (loopAt c113 2)) :=
  lp_pure f113_i_logarithm.l2.P sg_fffff f113_i_logarithm.l2.A (f113_i_logarithm.l2.F n) (orcOf_cf _ _ n) (lpOk_of (bs := []) (by kernel_rfl) .nil) (fun _ => rfl) (fun _ _ => by kernel_rfl) (fun _ _ _ => by kernel_rfl)
theorem f113_i_logarithm.ok : ∀ n v x, f113_i_logarithm.F n v = some x → evalFn E n 113 (flAs f113_i_logarithm.P (sg_f.pk v)) = some (f113_i_logarithm.A.enc x) :=
  fn_pure (modes := (fdAt 113).ms) (outs := (fdAt 113).os) (results := (fdAt 113).rs) f113_i_logarithm.O (c := c113) (keep := keepAt 113) (by kernel_rfl) (fun n => orcOf_cf _ _ n) (fun n => lpOk_of (bs := [loopAt c113 0, loopAt c113 1, loopAt c113 2]) (by kernel_rfl) (.cons (f113_i_logarithm.l0.ok n) (.cons (f113_i_logarithm.l1.ok n) (.cons (f113_i_logarithm.l2.ok n) .nil)))) (fun _ => rfl) (fun _ _ => by kernel_rfl)
noncomputable def f113_i_logarithm.w : FnW E := fnW 113 f113_i_logarithm.P sg_f f113_i_logarithm.A f113_i_logarithm.F f113_i_logarithm.ok

def f53_i_TenthsOf : Nat → Nat → Option (Int × Bool)
  | 0, _ => none
  | n + 1, x1 =>
    bd (f105_i_IsFinite n x1) fun r2 =>
    let b3 : Bool := r2
    br (!b3) (
     some ((0 : Int), false)) (
     br (fle FloatKind.f32 x1 0) (
      some ((0 : Int), false)) (
      bd ((fltToFlt FloatKind.f32 x1 FloatKind.f64)) fun y4 =>
      bd (f113_i_logarithm n y4) fun r5 =>
      let x6 : Nat := r5
      bd (xIntegral_even n (fdiv FloatKind.f64 (fmul FloatKind.f64 4641240890982006784 x6) 4612367379483415830)) fun r7 =>
      let x8 : Nat := r7
      bd ((fltToInt FloatKind.f64 x8 IntKind.i64)) fun y9 =>
      some (y9, true)))
def sg_ib : Sig (Int × Bool) where
  pk := fun v => [.int v.1, .bool v.2]
  up := fun ls => match ls with
    | [.int a0, .bool a1] => some (a0, a1)
    | _ => none
  ok := by
    intro ls v h
    split at h
    · cases h; rfl
    · cases h

def f53_i_TenthsOf.P : List Arg := [⟨.val, ⟨false, [.leaf], [.flt .f32 0]⟩⟩]
def f53_i_TenthsOf.A : RAlt (Int × Bool) := .one ⟨[⟨false, [.leaf], [.int .i64 0]⟩, ⟨false, [.leaf], [.bool false]⟩], [none]⟩ sg_ib
def f53_i_TenthsOf.F (n : Nat) (v : Nat) := f53_i_TenthsOf n v
noncomputable def f53_i_TenthsOf.O (n : Nat) : Orc := orcOf (E := E) [x112.w, f105_i_IsFinite.w, f113_i_logarithm.w] [] n
theorem f53_i_TenthsOf.ok : ∀ n v x, f53_i_TenthsOf.F n v = some x → evalFn E n 53 (flAs f53_i_TenthsOf.P (sg_f.pk v)) = some (f53_i_TenthsOf.A.enc x) :=
  fn_pure (modes := (fdAt 53).ms) (outs := (fdAt 53).os) (results := (fdAt 53).rs) f53_i_TenthsOf.O (c := c53) (keep := keepAt 53) (by kernel_rfl) (fun n => orcOf_cf _ _ n) (fun n => lpOk_of (bs := []) (by kernel_rfl) .nil) (fun _ => rfl) (fun _ _ => by kernel_rfl)
noncomputable def f53_i_TenthsOf.w : FnW E := fnW 53 f53_i_TenthsOf.P sg_f f53_i_TenthsOf.A f53_i_TenthsOf.F f53_i_TenthsOf.ok

def f9_l_FnSpreads : Nat → Nat → List T → Nat → List T → Option (Bool)
  | 0, _, _, _, _ => none
  | n + 1, n1, l2, n3, l4 =>
    bd (f27_l_r8Long n n1 l2 n3 l4) fun r5 =>
    let b6 : Bool := r5
    br b6 (
     some true) (
     bd (f30_s_R8Samples n n3 l4 (14 : Int)) fun r7 =>
     let n8 : Nat := r7.1
     let l9 : List T := r7.2
     bd (f28_l_r8At n n1 l2 (40 : Int) (9 : Int)) fun r10 =>
     let i11 : Int := r10
     let i12 : Int := (IntKind.i64.wrap ((1 : Int) + i11))
     bd (f51_i_SpreadOf n n8 l9 i12) fun r13 =>
     let n14 : Nat := r13.1
     let l15 : List T := r13.2.1
     let b16 : Bool := r13.2.2
     br (!b16) (
      some false) (
      br (((n14 : Nat) : Int) != i12) (
       some false) (
       bd (f9_l_FnSpreads.l0 n n n1 l2 n8 l9 n14 l15 (0 : Int) (0 : Int)) fun r17 =>
       sm r17 (fun u18 =>
        let b19 : Bool := u18
        some b19) (fun u20 =>
        let n21 : Nat := u20.1
        let l22 : List T := u20.2.1
        let n23 : Nat := u20.2.2.1
        let l24 : List T := u20.2.2.2.1
        let i25 : Int := u20.2.2.2.2
        bd (f9_l_FnSpreads.l1 n n n21 l22 n23 l24 i25 (0 : Int) (0 : Int)) fun r26 =>
        let n27 : Nat := r26.1
        let l28 : List T := r26.2.1
        let i29 : Int := r26.2.2.1
        let i30 : Int := r26.2.2.2
        bd (f28_l_r8At n n27 l28 (41 : Int) (241 : Int)) fun r31 =>
        let i32 : Int := r31
        let i33 : Int := (IntKind.i64.wrap ((IntKind.i64.wrap ((5 : Int) * i32)) - (600 : Int)))
        bd (f52_i_GainOf n i33) fun r34 =>
        let x35 : Nat := r34.1
        let b36 : Bool := r34.2
        bd (f53_i_TenthsOf n x35) fun r37 =>
        let i38 : Int := r37.1
        let b39 : Bool := r37.2
        bd (f53_i_TenthsOf n 0) fun r40 =>
        let i41 : Int := r40.1
        let b42 : Bool := r40.2
        br (i29 == i30) (
         br b36 (
          br b39 (
           br (i38 == i33) (
            some (!b42)) (
            some false)) (
           some false)) (
          some false)) (
         some false)))))
def sg_lllii : Sig (Nat × List T × Nat × List T × Nat × List T × Int × Int) where
  pk := fun v => [.lst v.1 v.2.1, .lst v.2.2.1 v.2.2.2.1, .lst v.2.2.2.2.1 v.2.2.2.2.2.1, .int v.2.2.2.2.2.2.1, .int v.2.2.2.2.2.2.2]
  up := fun ls => match ls with
    | [.lst a0 a1, .lst a2 a3, .lst a4 a5, .int a6, .int a7] => some (a0, a1, a2, a3, a4, a5, a6, a7)
    | _ => none
  ok := by
    intro ls v h
    split at h
    · cases h; rfl
    · cases h

def sg_lli : Sig (Nat × List T × Nat × List T × Int) where
  pk := fun v => [.lst v.1 v.2.1, .lst v.2.2.1 v.2.2.2.1, .int v.2.2.2.2]
  up := fun ls => match ls with
    | [.lst a0 a1, .lst a2 a3, .int a4] => some (a0, a1, a2, a3, a4)
    | _ => none
  ok := by
    intro ls v h
    split at h
    · cases h; rfl
    · cases h

def sg_lliii : Sig (Nat × List T × Nat × List T × Int × Int × Int) where
  pk := fun v => [.lst v.1 v.2.1, .lst v.2.2.1 v.2.2.2.1, .int v.2.2.2.2.1, .int v.2.2.2.2.2.1, .int v.2.2.2.2.2.2]
  up := fun ls => match ls with
    | [.lst a0 a1, .lst a2 a3, .int a4, .int a5, .int a6] => some (a0, a1, a2, a3, a4, a5, a6)
    | _ => none
  ok := by
    intro ls v h
    split at h
    · cases h; rfl
    · cases h

def f9_l_FnSpreads.l0.P : AS := ⟨[(0, .val false [.sl .shr [.leaf]] [.lst 0 []] [] 0), (5, .val false [.sl .own [.leaf]] [.lst 0 []] [] 0), (7, .val false [.sl .own [.leaf]] [.lst 0 []] [] 0), (9, .val false [.leaf] [.int .i64 0] [] 0), (10, .val false [.leaf] [.int .i64 0] [] 0)], 0⟩
def f9_l_FnSpreads.l0.A : Alt ((Bool) ⊕ (Nat × List T × Nat × List T × Int)) := .or (.one .ret ⟨[(0, .dead), (4, .val false [.leaf] [.bool false] [] 0), (5, .dead), (9, .dead)], 0⟩ sg_b) (.one (.exit 0) ⟨[(0, .val false [.sl .shr [.leaf]] [.lst 0 []] [] 0), (4, .dead), (5, .val false [.sl .own [.leaf]] [.lst 0 []] [] 0), (9, .val false [.leaf] [.int .i64 0] [] 0)], 0⟩ sg_lli)
def f9_l_FnSpreads.l0.F (n m : Nat) (v : Nat × List T × Nat × List T × Nat × List T × Int × Int) := f9_l_FnSpreads.l0 n m v.1 v.2.1 v.2.2.1 v.2.2.2.1 v.2.2.2.2.1 v.2.2.2.2.2.1 v.2.2.2.2.2.2.1 v.2.2.2.2.2.2.2
def f9_l_FnSpreads.l0.W (n : Nat) : LpW := .of 160 f9_l_FnSpreads.l0.P sg_lllii f9_l_FnSpreads.l0.A (f9_l_FnSpreads.l0.F n n)
def f9_l_FnSpreads.l1.P : AS := ⟨[(0, .val false [.sl .shr [.leaf]] [.lst 0 []] [] 0), (5, .val false [.sl .own [.leaf]] [.lst 0 []] [] 0), (9, .val false [.leaf] [.int .i64 0] [] 0), (11, .val false [.leaf] [.int .i64 0] [] 0), (12, .val false [.leaf] [.int .i64 0] [] 0)], 0⟩
def f9_l_FnSpreads.l1.A : Alt (Nat × List T × Int × Int) := .one (.exit 2) ⟨[(0, .val false [.sl .shr [.leaf]] [.lst 0 []] [] 0), (9, .val false [.leaf] [.int .i64 0] [] 0), (11, .val false [.leaf] [.int .i64 0] [] 0)], 0⟩ sg_lii
def f9_l_FnSpreads.l1.F (n m : Nat) (v : Nat × List T × Nat × List T × Int × Int × Int) := f9_l_FnSpreads.l1 n m v.1 v.2.1 v.2.2.1 v.2.2.2.1 v.2.2.2.2.1 v.2.2.2.2.2.1 v.2.2.2.2.2.2
def f9_l_FnSpreads.l1.W (n : Nat) : LpW := .of 272 f9_l_FnSpreads.l1.P sg_lliii f9_l_FnSpreads.l1.A (f9_l_FnSpreads.l1.F n n)
def f9_l_FnSpreads.P : List Arg := [⟨.val, ⟨false, [.sl .shr [.leaf]], [.lst 0 []]⟩⟩, ⟨.val, ⟨false, [.sl .shr [.leaf]], [.lst 0 []]⟩⟩]
def f9_l_FnSpreads.A : RAlt (Bool) := .one ⟨[⟨false, [.leaf], [.bool false]⟩], [none, none]⟩ sg_b
def f9_l_FnSpreads.F (n : Nat) (v : Nat × List T × Nat × List T) := f9_l_FnSpreads n v.1 v.2.1 v.2.2.1 v.2.2.2
noncomputable def f9_l_FnSpreads.O (n : Nat) : Orc := orcOf (E := E) [f27_l_r8Long.w, f30_s_R8Samples.w, f28_l_r8At.w, f51_i_SpreadOf.w, f52_i_GainOf.w, f53_i_TenthsOf.w] [f9_l_FnSpreads.l0.W n, f9_l_FnSpreads.l1.W n] n
theorem f9_l_FnSpreads.l0.ok (n : Nat) : LpOk (f9_l_FnSpreads.O n) E (evalFn E n) n (keepAt 9) (.loop (loopAt c9 0)) :=
  lp_pure f9_l_FnSpreads.l0.P sg_lllii f9_l_FnSpreads.l0.A (f9_l_FnSpreads.l0.F n) (orcOf_cf _ _ n) (lpOk_of (bs := []) (by kernel_rfl) .nil) (fun _ => rfl) (fun _ _ => by kernel_rfl) (fun _ _ _ => by kernel_rfl)
theorem f9_l_FnSpreads.l1.ok (n : Nat) : LpOk (f9_l_FnSpreads.O n) E (evalFn E n) n (keepAt 9) (.loop (loopAt c9 1)) :=
  lp_pure f9_l_FnSpreads.l1.P sg_lliii f9_l_FnSpreads.l1.A (f9_l_FnSpreads.l1.F n) (orcOf_cf _ _ n) (lpOk_of (bs := []) (by kernel_rfl) .nil) (fun _ => rfl) (fun _ _ => by kernel_rfl) (fun _ _ _ => by kernel_rfl)
theorem f9_l_FnSpreads.ok : ∀ n v x, f9_l_FnSpreads.F n v = some x → evalFn E n 9 (flAs f9_l_FnSpreads.P (sg_ll.pk v)) = some (f9_l_FnSpreads.A.enc x) :=
  fn_pure (modes := (fdAt 9).ms) (outs := (fdAt 9).os) (results := (fdAt 9).rs) f9_l_FnSpreads.O (c := c9) (keep := keepAt 9) (by kernel_rfl) (fun n => orcOf_cf _ _ n) (fun n => lpOk_of (bs := [loopAt c9 0, loopAt c9 1]) (by kernel_rfl) (.cons (f9_l_FnSpreads.l0.ok n) (.cons (f9_l_FnSpreads.l1.ok n) .nil))) (fun _ => rfl) (fun _ _ => by kernel_rfl)
noncomputable def f9_l_FnSpreads.w : FnW E := fnW 9 f9_l_FnSpreads.P sg_ll f9_l_FnSpreads.A f9_l_FnSpreads.F f9_l_FnSpreads.ok
end Go.Proofs.Ytdejjalkfekjiaa.D
end
section
/- FnSpreads, in plain Lean. -/
namespace Go.Proofs.Ytdejjalkfekjiaa.D
open Go Go.Desk
set_option linter.unusedVariables false
theorem s_from (n l : Nat) (c : List T) : f75_s_l00From (n + 1) l c = some (l, c, 0, 0) := by rw [f75_s_l00From]
theorem s_next (n : Nat) {bs : List Int} (hb : Bytes bs) {a : Int} (h0 : 0 ≤ a) (h1 : a ≤ 1125899906842624) (sd : Int) :
    ∃ r sd', (0 ≤ r ∧ r ≤ 255) ∧ f128_s_l00Srcnext (n + 1) bs.length (its .u8 bs) a sd = some (r, bs.length, its .u8 bs, a + 1, sd') := by
  rw [f128_s_l00Srcnext]
  rw [show IntKind.i64.wrap (a + 1) = a + 1 by rw [wrap64] <;> omega]
  cases h : decide (a < (bs.length : Int))
  · simp only [br_f]
    cases decide (a + 1 ≤ (bs.length : Int))
    · exact ⟨_, _, and255 _, rfl⟩
    · exact ⟨0, _, by omega, rfl⟩
  · simp only [decide_eq_true_eq] at h
    obtain ⟨i, rfl⟩ := Int.eq_ofNat_of_zero_le h0
    have hi : i < bs.length := by omega
    have hr := hb (bs[i]) (List.getElem_mem _)
    simp only [br_t, in_dec hi, Int.toNat_natCast, okAt_its hi, Bool.and_self, gd_t, iAt_its]
    rw [show bs.getD i 0 = bs[i] by simp [List.getD, hi], show IntKind.i64.wrap bs[i] = bs[i] by rw [wrap64] <;> omega]
    cases decide ((i : Int) + 1 ≤ (bs.length : Int))
    · exact ⟨_, _, and255 _, rfl⟩
    · exact ⟨_, _, hr, rfl⟩
theorem s_pick (n : Nat) {bs : List Int} (hb : Bytes bs) {a : Int} (h0 : 0 ≤ a) (h1 : a ≤ 1125899906842622) (sd k : Int) :
    ∃ r a' sd', (0 ≤ r ∧ (1 < k → r < k) ∧ (k ≤ 1 → r = 0)) ∧ (a ≤ a' ∧ a' ≤ a + 2) ∧ f76_s_l00Srcpick (n + 2) bs.length (its .u8 bs) a sd k = some (r, bs.length, its .u8 bs, a', sd') := by
  rw [f76_s_l00Srcpick]
  by_cases hk : k ≤ 1
  · rw [decide_eq_true hk]; exact ⟨0, a, sd, by omega, by omega, rfl⟩
  rw [decide_eq_false hk]
  obtain ⟨r, s1, hr, e1⟩ := s_next n hb h0 (by omega) sd
  simp only [br_f, e1, bd_s]
  have hk0 : (!decide (k = 0)) = true := by simp; omega
  by_cases hk2 : k > 200
  · rw [decide_eq_true hk2]
    obtain ⟨r', s2, hr', e2⟩ := s_next n hb (a := a + 1) (by omega) (by omega) s1
    simp only [br_t, e2, bd_s, hk0, gd_t]
    rw [show IntKind.i64.wrap (r * 256) = r * 256 by rw [wrap64] <;> omega, show IntKind.i64.wrap (r * 256 + r') = r * 256 + r' by rw [wrap64] <;> omega]
    refine ⟨_, _, _, ?_, ?_, rfl⟩
    · rw [Int.tmod_eq_emod_of_nonneg (by omega)]
      have := Int.emod_nonneg (r * 256 + r') (show k ≠ 0 by omega)
      have := Int.emod_lt_of_pos (r * 256 + r') (show 0 < k by omega)
      omega
    · omega
  · rw [decide_eq_false hk2]
    simp only [br_f, hk0, gd_t]
    refine ⟨_, _, _, ?_, ?_, rfl⟩
    · rw [Int.tmod_eq_emod_of_nonneg (by omega)]
      have := Int.emod_nonneg r (show k ≠ 0 by omega)
      have := Int.emod_lt_of_pos r (show 0 < k by omega)
      omega
    · omega
theorem s_one (n : Nat) {bs : List Int} (hb : Bytes bs) {a : Int} (h0 : 0 ≤ a) (h1 : a ≤ 1125899906842622) (sd k : Int) :
    ∃ r a' sd', (a ≤ a' ∧ a' ≤ a + 2) ∧ f129_s_l00Srcone (n + 3) bs.length (its .u8 bs) a sd k = some (r, bs.length, its .u8 bs, a', sd') := by
  obtain ⟨r, a', s', -, ha, e⟩ := s_pick n hb h0 h1 sd k
  rw [f129_s_l00Srcone, e]
  exact ⟨_, _, _, ha, rfl⟩
theorem s_plain (n : Nat) {bs : List Int} (hb : Bytes bs) {a : Int} (h0 : 0 ≤ a) (h1 : a ≤ 1125899906842620) (sd : Int) :
    ∃ x a' sd', Plain x ∧ (a ≤ a' ∧ a' ≤ a + 4) ∧ f77_s_l01DrawPlain (n + 4) bs.length (its .u8 bs) a sd = some (x, bs.length, its .u8 bs, a', sd') := by
  obtain ⟨r, a1, s1, hr, ha, e⟩ := s_pick (n + 1) hb h0 (by omega) sd 129
  obtain ⟨b, a2, s2, ha2, e2⟩ := s_one n hb (a := a1) (by omega) (by omega) s1 4
  rw [f77_s_l01DrawPlain, e]
  simp only [bd_s, e2]
  rw [show IntKind.i64.wrap (r - 64) = r - 64 by rw [wrap64] <;> omega]
  cases b
  · exact ⟨_, a2, s2, ⟨r - 64, by omega, .inr rfl⟩, by omega, rfl⟩
  · exact ⟨_, a2, s2, ⟨r - 64, by omega, .inl rfl⟩, by omega, rfl⟩
theorem s_among (n : Nat) {bs : List Int} (hb : Bytes bs) {a : Int} (h0 : 0 ≤ a) (h1 : a ≤ 1125899906842622) (sd : Int) (L : List Int) (hL : 0 < L.length) :
    ∃ r a' sd', r ∈ L ∧ (a ≤ a' ∧ a' ≤ a + 2) ∧ f132_s_l00Srcamong (n + 3) bs.length (its .u8 bs) a sd L.length (its .i64 L) = some (r, bs.length, its .u8 bs, a', sd', L.length, its .i64 L) := by
  obtain ⟨r, a1, s1, hr, ha, e⟩ := s_pick n hb h0 h1 sd (L.length : Int)
  rw [f132_s_l00Srcamong, e]
  obtain ⟨i, rfl⟩ := Int.eq_ofNat_of_zero_le hr.1
  have hi : i < L.length := by
    by_cases h : (L.length : Int) ≤ 1
    · have := hr.2.2 h; omega
    · have := hr.2.1 (by omega); omega
  simp only [bd_s, in_dec hi, Int.toNat_natCast, okAt_its hi, Bool.and_self, gd_t, iAt_its]
  refine ⟨_, _, _, ?_, ha, rfl⟩
  rw [show L.getD i 0 = L[i] by simp [List.getD, hi]]
  exact List.getElem_mem _
theorem s_from32 (n : Nat) {i : Int} (h0 : 0 ≤ i) (h1 : i < 4294967296) : ∃ x, W32 x ∧ f131_s_l01From (n + 2) i = some x := by
  rw [f131_s_l01From]
  refine ⟨canon .f32 i.toNat, w32_canon (by omega), ?_⟩
  rw [u32_wrap h0 h1]
  show bd (if 0 ≤ i then some (canon .f32 i.toNat) else none) _ = _
  rw [if_pos h0]; rfl
theorem s_float (n : Nat) {bs : List Int} (hb : Bytes bs) {a : Int} (h0 : 0 ≤ a) (h1 : a ≤ 1125899906842600) (sd : Int) :
    ∃ x a' sd', W32 x ∧ (a ≤ a' ∧ a' ≤ a + 16) ∧ f99_s_l01DrawFloat (n + 5) bs.length (its .u8 bs) a sd = some (x, bs.length, its .u8 bs, a', sd') := by
  obtain ⟨b, a1, s1, ha1, e1⟩ := s_one (n + 1) hb h0 (by omega) sd 12
  rw [f99_s_l01DrawFloat, e1]
  simp only [bd_s, br_not]
  cases b
  · obtain ⟨x, a2, s2, hx, ha2, e2⟩ := s_plain n hb (a := a1) (by omega) (by omega) s1
    simp only [br_f, e2, bd_s]
    exact ⟨_, _, _, hx.w32, by omega, rfl⟩
  obtain ⟨q, a2, s2, -, ha2, e2⟩ := s_pick (n + 2) hb (a := a1) (by omega) (by omega) s1 4
  simp only [br_t, e2, bd_s]
  cases q == 0
  case true =>
    obtain ⟨r, a3, s3, hr, ha3, e3⟩ := s_among (n + 1) hb (a := a2) (by omega) (by omega) s2 [0, 2147483648, 2139095040, 4286578688, 2143289344, 1, 2139095039, 8388608, 8388607, 2147483649] (by decide)
    have hr' : 0 ≤ r ∧ r < 4294967296 := by simp only [List.mem_cons, List.not_mem_nil, or_false] at hr; omega
    obtain ⟨x, hx, e4⟩ := s_from32 (n + 2) hr'.1 hr'.2
    rw [br_t]
    refine ⟨x, a3, s3, hx, by omega, ?_⟩
    refine Eq.trans (congrArg (fun o => bd o _) e3) ?_
    simp only [bd_s, e4]
  cases q == 1
  case true =>
    obtain ⟨r, a3, s3, hr, ha3, e3⟩ := s_pick (n + 2) hb (a := a2) (by omega) (by omega) s2 65536
    obtain ⟨r', a4, s4, hr', ha4, e4⟩ := s_pick (n + 2) hb (a := a3) (by omega) (by omega) s3 65536
    obtain ⟨x, hx, e5⟩ := s_from32 (n + 2) (i := r * 65536 + r') (by omega) (by omega)
    simp only [br_f, br_t, e3, e4, bd_s]
    rw [show IntKind.i64.wrap (r * 65536) = r * 65536 by rw [wrap64] <;> omega, show IntKind.i64.wrap (r * 65536 + r') = r * 65536 + r' by rw [wrap64] <;> omega, e5]
    exact ⟨x, _, _, hx, by omega, rfl⟩
  cases q == 2
  case true =>
    obtain ⟨r, a3, s3, hr, ha3, e3⟩ := s_pick (n + 2) hb (a := a2) (by omega) (by omega) s2 65536
    obtain ⟨x, hx, e5⟩ := s_from32 (n + 2) (i := r * 65536) (by omega) (by omega)
    simp only [br_f, br_t, e3, bd_s]
    rw [show IntKind.i64.wrap (r * 65536) = r * 65536 by rw [wrap64] <;> omega, e5]
    exact ⟨x, _, _, hx, by omega, rfl⟩
  obtain ⟨x, a3, s3, hx, ha3, e3⟩ := s_plain n hb (a := a2) (by omega) (by omega) s2
  obtain ⟨r, a4, s4, hr, ha4, e4⟩ := s_among (n + 1) hb (a := a3) (by omega) (by omega) s3 [8388608, 2130706432, 1610612736, 536870912] (by decide)
  have hr' : 0 ≤ r ∧ r < 4294967296 := by simp only [List.mem_cons, List.not_mem_nil, or_false] at hr; omega
  obtain ⟨y, hy, e5⟩ := s_from32 (n + 2) hr'.1 hr'.2
  simp only [br_f, e3, bd_s]
  refine ⟨_, a4, s4, w32_fmul x y, by omega, ?_⟩
  refine Eq.trans (congrArg (fun o => bd o _) e4) ?_
  simp only [bd_s, e5]
theorem s_floats_loop (n : Nat) {bs : List Int} (hb : Bytes bs) (str : Bool) : ∀ (j m : Nat) (a sd : Int) (acc : List Nat), 0 ≤ a → a + 16 * (j : Int) ≤ 1125899906842000 → acc.length + j ≤ 2147483647 → j < m → (∀ x ∈ acc, W32 x) →
    ∃ ys a' sd', ys.length = acc.length + j ∧ (∀ x ∈ ys, W32 x) ∧ (a ≤ a' ∧ a' ≤ a + 16 * (j : Int)) ∧
      f81_s_l01DrawFloats.l0 (n + 5) m bs.length (its .u8 bs) a sd (j : Int) acc.length (fls .f32 acc) str = some (bs.length, its .u8 bs, a', sd', ys.length, fls .f32 ys) := by
  intro j
  induction j with
  | zero =>
    intro m a sd acc h0 h1 hl hm hw
    obtain ⟨m, rfl⟩ : ∃ k, m = k + 1 := ⟨m - 1, by omega⟩
    rw [f81_s_l01DrawFloats.l0]
    exact ⟨acc, a, sd, by omega, hw, by omega, rfl⟩
  | succ j ih =>
    intro m a sd acc h0 h1 hl hm hw
    obtain ⟨m, rfl⟩ : ∃ k, m = k + 1 := ⟨m - 1, by omega⟩
    rw [f81_s_l01DrawFloats.l0, decide_eq_true (show (((j + 1 : Nat) : Int) > 0) by omega), show IntKind.i64.wrap (((j + 1 : Nat) : Int) - 1) = (j : Int) by rw [wrap64] <;> omega]
    have key : ∀ x a1 s1, W32 x → a ≤ a1 → a1 ≤ a + 16 → ∃ ys a' sd', ys.length = acc.length + (j + 1) ∧ (∀ x ∈ ys, W32 x) ∧ (a ≤ a' ∧ a' ≤ a + 16 * ((j + 1 : Nat) : Int)) ∧
        f81_s_l01DrawFloats.l0 (n + 5) m bs.length (its .u8 bs) a1 s1 (j : Int) (acc ++ [x]).length (fls .f32 (acc ++ [x])) str = some (bs.length, its .u8 bs, a', sd', ys.length, fls .f32 ys) := by
      intro x a1 s1 hx h2 h3
      obtain ⟨ys, a', sd', hy, hyw, ha, e⟩ := ih m a1 s1 (acc ++ [x]) (by omega) (by omega) (by simp; omega) (by omega) (by
        intro y hy; simp only [List.mem_append, List.mem_singleton] at hy; rcases hy with hy | rfl
        · exact hw y hy
        · exact hx)
      exact ⟨ys, a', sd', by simp at hy; omega, hyw, by omega, e⟩
    simp only [br_t]
    cases str
    · obtain ⟨x, a1, s1, hx, ha, e⟩ := s_plain (n + 1) hb h0 (by omega) sd
      simp only [br_f, e, bd_s, push_ok (show acc.length < 2147483648 by omega), gd_t, push_fls]
      rw [show acc.length + 1 = (acc ++ [x]).length by simp]
      exact key x a1 s1 hx.w32 (by omega) (by omega)
    · obtain ⟨x, a1, s1, hx, ha, e⟩ := s_float n hb h0 (by omega) sd
      simp only [br_t, e, bd_s, push_ok (show acc.length < 2147483648 by omega), gd_t, push_fls]
      rw [show acc.length + 1 = (acc ++ [x]).length by simp]
      exact key x a1 s1 hx (by omega) (by omega)
theorem s_floats (n : Nat) {bs : List Int} (hb : Bytes bs) {a : Int} (h0 : 0 ≤ a) (j : Nat) (h1 : a + 16 * (j : Int) ≤ 1125899906841000) (hj : j ≤ 2147483647) (hn : j < n) (sd : Int) :
    ∃ ys a' sd', ys.length = j ∧ (∀ x ∈ ys, W32 x) ∧ (a ≤ a' ∧ a' ≤ a + 2 + 16 * (j : Int)) ∧ f81_s_l01DrawFloats (n + 6) bs.length (its .u8 bs) a sd (j : Int) = some (ys.length, fls .f32 ys, bs.length, its .u8 bs, a', sd') := by
  obtain ⟨b, a1, s1, ha1, e1⟩ := s_one (n + 2) hb h0 (by omega) sd 4
  obtain ⟨ys, a2, s2, hy, hw, ha2, e2⟩ := s_floats_loop n hb b j (n + 5) a1 s1 [] (by omega) (by omega) (by simp; omega) (by omega) (by simp)
  rw [f81_s_l01DrawFloats, e1]
  refine ⟨ys, a2, s2, by simpa using hy, hw, by omega, ?_⟩
  have e2 : f81_s_l01DrawFloats.l0 (n + 5) (n + 5) bs.length (its .u8 bs) a1 s1 (j : Int) 0 (reps 0 [(T.flt FloatKind.f32 0)]) b = some (bs.length, its .u8 bs, a2, s2, ys.length, fls .f32 ys) := e2
  simp only [bd_s, e2]
theorem s_r8samples (n : Nat) {bs : List Int} (hb : Bytes bs) (k : Nat) (hk : k ≤ 1000) (hn : k < n) : ∃ xs, xs.length ≤ k ∧ (∀ x ∈ xs, W32 x) ∧ f30_s_R8Samples (n + 7) bs.length (its .u8 bs) (k : Int) = some (xs.length, fls .f32 xs) := by
  obtain ⟨r, a1, s1, hr, ha1, e1⟩ := s_pick (n + 4) hb (a := 0) (by omega) (by omega) 0 ((k : Int) + 1)
  obtain ⟨j, rfl⟩ := Int.eq_ofNat_of_zero_le hr.1
  have hj : j ≤ k := by omega
  obtain ⟨ys, a2, s2, hy, hw, ha2, e2⟩ := s_floats n hb (a := a1) (by omega) j (by omega) (by omega) (by omega) s1
  rw [f30_s_R8Samples, s_from, show IntKind.i64.wrap ((k : Int) + 1) = (k : Int) + 1 by rw [wrap64] <;> omega]
  simp only [bd_s, e1, e2]
  exact ⟨ys, by omega, hw, rfl⟩

theorem l_long (n : Nat) (bs cs : List Int) : f27_l_r8Long (n + 1) bs.length (its .u8 bs) cs.length (its .u8 cs) = some (decide (48 < bs.length ∨ 48 < cs.length)) := by
  rw [f27_l_r8Long]
  by_cases h : 48 < bs.length
  · rw [decide_eq_true (show (bs.length : Int) > 48 by omega), decide_eq_true (Or.inl h)]; rfl
  · rw [decide_eq_false (show ¬ (bs.length : Int) > 48 by omega), br_f]
    congr 1
    simp [h]; omega
theorem l_at (n : Nat) {bs : List Int} (hb : Bytes bs) {i k : Int} (hi : 0 ≤ i) (hk : 1 ≤ k) : ∃ r, (0 ≤ r ∧ r < k) ∧ f28_l_r8At (n + 1) bs.length (its .u8 bs) i k = some r := by
  rw [f28_l_r8At]
  by_cases h : k ≤ 1
  · rw [decide_eq_true h]; exact ⟨0, by omega, rfl⟩
  rw [decide_eq_false h]
  by_cases h2 : i ≥ (bs.length : Int)
  · rw [decide_eq_true h2]; exact ⟨0, by omega, rfl⟩
  rw [decide_eq_false h2]
  obtain ⟨i, rfl⟩ := Int.eq_ofNat_of_zero_le hi
  have hi : i < bs.length := by omega
  have hr := hb (bs[i]) (List.getElem_mem _)
  have hk0 : (!decide (k = 0)) = true := by simp; omega
  simp only [br_f, in_dec hi, Int.toNat_natCast, okAt_its hi, Bool.and_self, gd_t, iAt_its, hk0]
  rw [show bs.getD i 0 = bs[i] by simp [List.getD, hi], show IntKind.i64.wrap bs[i] = bs[i] by rw [wrap64] <;> omega]
  refine ⟨_, ?_, rfl⟩
  rw [Int.tmod_eq_emod_of_nonneg (by omega)]
  have := Int.emod_nonneg bs[i] (show k ≠ 0 by omega)
  have := Int.emod_lt_of_pos bs[i] (show 0 < k by omega)
  omega

theorem i_few (n k : Nat) (l : List T) : f94_i_areSamples (n + 1) k l = some (decide ((k : Int) ≤ 256)) := by rw [f94_i_areSamples]

theorem i_in (n : Nat) (a b c : Int) : f83_i_within (n + 1) a b c = some (decide (b ≤ a ∧ a ≤ c)) := by
  rw [f83_i_within]
  by_cases h : b ≤ a <;> simp [br, h]

theorem rle_mul {a b c : Rat} (h : a ≤ b) (hc : 0 ≤ c) : a * c ≤ b * c := Rat.mul_le_mul_of_nonneg_right h hc
/-- a sample from -1 to less than 1 is in one part -/
theorem part (x p : Nat) (hp : 1 ≤ p ∧ p ≤ 64) (h1 : fge FloatKind.f32 x 3212836864 = true) (h2 : flt FloatKind.f32 x 1065353216 = true) :
    ∃ n : Nat, n < p ∧ fltToInt FloatKind.f64 (fmul FloatKind.f64 (fdiv FloatKind.f64 (fadd FloatKind.f64 (wide x) 4607182418800017408) 4611686018427387904) (FloatKind.nearest FloatKind.f64 (p : Int))) IntKind.i64 = some (n : Int) := by
  obtain ⟨v, hv, v1, v2⟩ := between_val val_neg_one32 val_one32 h1 h2
  have v3 := below_one32 hv v2
  have hw := wide_val hv
  -- the sum
  have hB : mv (2 ^ 24 - 1) (-24) + 1 = mv (2 ^ 25 - 1) (-24) := by
    have e2 : (1 : Rat) = mv (2 ^ 24) (-24) := by rw [mv_pow, show (-24 : Int) + ((24 : Nat) : Int) = 0 by decide, p2_zero]
    rw [e2, ← mv_add]
  have hr1 : Rep0 .f64 (mv (2 ^ 25 - 1) (-24)) := ⟨_, _, by decide, by decide, rfl⟩
  have hs1 : v + 1 ≤ mv (2 ^ 25 - 1) (-24) := by grind
  have hf : ∀ M E : Nat, M ≤ 2 ^ 53 → E ≤ 200 → mv M (-(E : Int)) < p2 (topE .f64) := by
    intro M E h1 _
    have : mv M (-(E : Int)) ≤ mv (2 ^ 53) (-(E : Int)) := mv_le.2 h1
    rw [mv_pow] at this
    exact rlt this (p2_lt (show -(E : Int) + ((53 : Nat) : Int) < 1024 by omega))
  obtain ⟨R1, q1, n1⟩ := add_val hw val_one64 hr1 (hf _ 24 (by decide) (by decide)) hs1 (by have := mv_nonneg (2 ^ 25 - 1) (-24); grind)
  have r1 := (n1 _ hr1.rep).1 hs1
  have r1' := (n1 0 (repZ _)).2 (by grind)
  -- half of it
  have h25 : mv (2 ^ 25 - 1) (-25) * 2 = mv (2 ^ 25 - 1) (-24) := by
    rw [show (2 : Rat) = mv 2 0 by unfold mv; rw [p2_zero, Rat.mul_one]; rfl, ← mv_mul, show (2 ^ 25 - 1) * 2 = (2 ^ 25 - 1) * 2 ^ 1 by decide, mv_shift]; rfl
  have hr2 : Rep0 .f64 (mv (2 ^ 25 - 1) (-25)) := ⟨_, _, by decide, by decide, rfl⟩
  have hd : R1 / 2 ≤ mv (2 ^ 25 - 1) (-25) := by grind
  have hd0 : 0 ≤ R1 / 2 := by grind
  obtain ⟨R2, q2, n2⟩ := div_val q1 val_two64 (by decide) hr2 (hf _ 25 (by decide) (by decide)) hd (by have := mv_nonneg (2 ^ 25 - 1) (-25); grind)
  have r2 := (n2 _ hr2.rep).1 hd
  have r2' := (n2 0 (repZ _)).2 hd0
  -- times the parts
  have hpv : Val .f64 (FloatKind.nearest .f64 (p : Int)) (p : Rat) := by
    have := int_val (k := .f64) (n := (p : Int)) (by have : 2 * FloatKind.f64.format.binade = 2 ^ 53 := by decide
                                                     omega)
    rwa [Rat.intCast_natCast] at this
  have hp0 : (0 : Rat) ≤ (p : Rat) := by exact_mod_cast Nat.zero_le p
  have hr3 : Rep0 .f64 (mv ((2 ^ 25 - 1) * p) (-25)) := ⟨_, _, by have : 2 * FloatKind.f64.format.binade = 2 ^ 53 := by decide
                                                                  omega, by decide, rfl⟩
  have hm3 : mv (2 ^ 25 - 1) (-25) * (p : Rat) = mv ((2 ^ 25 - 1) * p) (-25) := by
    rw [show (p : Rat) = mv p 0 by unfold mv; rw [p2_zero, Rat.mul_one], ← mv_mul]; rfl
  have ht : R2 * (p : Rat) ≤ mv ((2 ^ 25 - 1) * p) (-25) := by rw [← hm3]; exact rle_mul r2 hp0
  have ht0 : 0 ≤ R2 * (p : Rat) := Rat.mul_nonneg r2' hp0
  obtain ⟨R3, q3, n3⟩ := mul_val q2 hpv hr3 (hf _ 25 (by omega) (by decide)) ht (by have := mv_nonneg ((2 ^ 25 - 1) * p) (-25); grind)
  have r3 := (n3 _ hr3.rep).1 ht
  have r3' := (n3 0 (repZ _)).2 ht0
  have hlt : R3 < (p : Rat) := by
    refine rlt r3 ?_
    have e2 : (p : Rat) = mv (2 ^ 25 * p) (-25) := by
      rw [Nat.mul_comm, mv_shift, show (-25 : Int) + ((25 : Nat) : Int) = 0 by decide]; unfold mv; rw [p2_zero, Rat.mul_one]
    rw [e2, mv_lt]; omega
  obtain ⟨n, hn, h3, -⟩ := toInt_nonneg q3 r3' hlt (by omega)
  exact ⟨n, h3, hn⟩

def tells (i : Nat) : Bool := match f52_i_GainOf 998 (5 * (i : Int) - 600) with
  | some (x, b) => b && (match f53_i_TenthsOf 998 x with
    | some (t, c) => c && t == 5 * (i : Int) - 600
    | none => false)
  | none => false
theorem tells_zero : f53_i_TenthsOf 998 0 = some (0, false) := by decide +kernel
theorem tells_0 : ∀ i : Nat, i < 31 → tells (0 + i) = true := by decide +kernel
theorem tells_1 : ∀ i : Nat, i < 31 → tells (31 + i) = true := by decide +kernel
theorem tells_2 : ∀ i : Nat, i < 31 → tells (62 + i) = true := by decide +kernel
theorem tells_3 : ∀ i : Nat, i < 31 → tells (93 + i) = true := by decide +kernel
theorem tells_4 : ∀ i : Nat, i < 31 → tells (124 + i) = true := by decide +kernel
theorem tells_5 : ∀ i : Nat, i < 31 → tells (155 + i) = true := by decide +kernel
theorem tells_6 : ∀ i : Nat, i < 31 → tells (186 + i) = true := by decide +kernel
theorem tells_7 : ∀ i : Nat, i < 31 → tells (217 + i) = true := by decide +kernel
theorem tells_all (i : Nat) (h : i < 241) : tells i = true := by
  have key : ∀ k r : Nat, k < 8 → r < 31 → tells (31 * k + r) = true := by
    intro k r hk hr
    rcases k with _ | _ | _ | _ | _ | _ | _ | _ | k
    · exact tells_0 r hr
    · exact tells_1 r hr
    · exact tells_2 r hr
    · exact tells_3 r hr
    · exact tells_4 r hr
    · exact tells_5 r hr
    · exact tells_6 r hr
    · exact tells_7 r hr
    · omega
  have := key (i / 31) (i % 31) (by omega) (by omega)
  rwa [Nat.div_add_mod] at this
/-- a sample that falls in a part -/
def inb (x : Nat) : Bool := fge .f32 x 3212836864 && flt .f32 x 1065353216
def cnt : List Nat → Nat
  | [] => 0
  | x :: xs => (if inb x then 1 else 0) + cnt xs
theorem cnt_le (xs : List Nat) : cnt xs ≤ xs.length := by
  induction xs with
  | nil => simp [cnt]
  | cons x xs ih => simp only [cnt, List.length_cons]; split <;> omega
theorem sum_nonneg : ∀ ys : List Int, (∀ y ∈ ys, 0 ≤ y) → 0 ≤ ys.sum := by
  intro ys
  induction ys with
  | nil => simp
  | cons y ys ih => intro h; have := ih (fun z hz => h z (by simp [hz])); have := h y (by simp); simp; omega
theorem sum_mem : ∀ (ys : List Int) (i : Nat), (∀ y ∈ ys, 0 ≤ y) → 0 ≤ ys.getD i 0 ∧ ys.getD i 0 ≤ ys.sum := by
  intro ys
  induction ys with
  | nil => intro i _; simp [List.getD]
  | cons y ys ih =>
    intro i h
    have h1 := h y (by simp)
    have h2 := sum_nonneg ys (fun z hz => h z (by simp [hz]))
    cases i with
    | zero => simp [List.getD]; omega
    | succ i => have := ih i (fun z hz => h z (by simp [hz])); simp [List.getD] at this ⊢; omega
theorem sum_set : ∀ (ys : List Int) (i : Nat) (y : Int), i < ys.length → (ys.set i y).sum = ys.sum - ys.getD i 0 + y := by
  intro ys
  induction ys with
  | nil => intro i y h; simp at h
  | cons z ys ih =>
    intro i y h
    cases i with
    | zero => simp [List.getD]; omega
    | succ i => have := ih i y (by simpa using h); simp [List.getD] at this ⊢; omega
theorem spread_loop (n : Nat) (N : Nat) (cs : List T) (P : Nat) (hP : 1 ≤ P ∧ P ≤ 64) : ∀ (zs p : List Nat) (ys : List Int) (m : Nat), ys.length = P → (∀ y ∈ ys, 0 ≤ y) → ys.sum ≤ p.length → p.length + zs.length < 1048576 → zs.length < m →
    ∃ us : List Int, us.length = P ∧ (∀ y ∈ us, 0 ≤ y) ∧ us.sum = ys.sum + cnt zs ∧ f51_i_SpreadOf.l0 n m N cs (P : Int) P (its .i64 ys) (p ++ zs).length (fls .f32 (p ++ zs)) ((p ++ zs).length : Int) (p.length : Int) = some (P, its .i64 us) := by
  intro zs
  induction zs with
  | nil =>
    intro p ys m hy h0 _ _ hm
    obtain ⟨m, rfl⟩ : ∃ k, m = k + 1 := ⟨m - 1, by omega⟩
    rw [f51_i_SpreadOf.l0, lt_end]
    exact ⟨ys, hy, h0, by simp [cnt], rfl⟩
  | cons z zs ih =>
    intro p ys m hy h0 hs hp hm
    obtain ⟨m, rfl⟩ : ∃ k, m = k + 1 := ⟨m - 1, by omega⟩
    rw [f51_i_SpreadOf.l0, lt_mid, in_mid, toNat_len, okAt_mid, fAt_mid]
    have hw := wrap_len (p := p) (z := z) (by simp at hp; omega)
    have skip := ih (p ++ [z]) ys m hy h0 (by simp; omega) (by simp at hp ⊢; omega) (by simp at hm; omega)
    simp only [List.append_assoc, List.singleton_append] at skip
    simp only [br_t, gd_t, Bool.and_self, hw]
    cases h1 : fge .f32 z 3212836864
    · rw [br_f]; simpa [cnt, inb, h1] using skip
    · cases h2 : flt .f32 z 1065353216
      · rw [br_t, br_f]; simpa [cnt, inb, h1, h2] using skip
      · obtain ⟨c, hc, e⟩ := part z P hP h1 h2
        obtain ⟨a1, a2⟩ := sum_mem ys c h0
        have hset := sum_set ys c (ys.getD c 0 + 1) (by omega)
        have h0' : ∀ y ∈ ys.set c (ys.getD c 0 + 1), 0 ≤ y := by
          intro y hy'
          rcases List.mem_or_eq_of_mem_set hy' with h | h
          · exact h0 y h
          · omega
        obtain ⟨us, u1, u2, u3, u4⟩ := ih (p ++ [z]) (ys.set c (ys.getD c 0 + 1)) m (by simp [hy]) h0' (by rw [hset, List.length_append, List.length_singleton]; omega) (by simp at hp ⊢; omega) (by simp at hm; omega)
        simp only [List.append_assoc, List.singleton_append] at u4
        refine ⟨us, u1, u2, ?_, ?_⟩
        · rw [u3, hset]; simp only [cnt, inb, h1, h2, Bool.and_self, if_true]; omega
        · rw [br_t, br_t]
          simp only [fltToFlt_wide, bd_s, e]
          rw [in_dec (show c < P by omega), Int.toNat_natCast, okAt_its (by omega), le_ble (show c + 1 ≤ (its IntKind.i64 ys).length by rw [its_length]; omega), setN_one, iAt_its, show IntKind.i64.wrap (ys.getD c 0 + 1) = ys.getD c 0 + 1 by rw [wrap64] <;> (simp at hp; omega), set_its]
          simp only [gd_t]
          exact u4
theorem spread (n : Nat) (xs : List Nat) (P : Nat) (hP : 1 ≤ P ∧ P ≤ 64) (hl : xs.length ≤ 256) (hn : xs.length < n) :
    ∃ us : List Int, us.length = P ∧ (∀ y ∈ us, 0 ≤ y) ∧ us.sum = cnt xs ∧ f51_i_SpreadOf (n + 2) xs.length (fls .f32 xs) (P : Int) = some (P, its .i64 us, true) := by
  obtain ⟨us, u1, u2, u3, e⟩ := spread_loop (n + 1) xs.length (fls .f32 xs) P hP xs [] (List.replicate P 0) (n + 1) (by simp) (by simp) (by simp) (by simp; omega) (by omega)
  have e : f51_i_SpreadOf.l0 (n + 1) (n + 1) xs.length (fls .f32 xs) (P : Int) P (its .i64 (List.replicate P 0)) xs.length (fls .f32 xs) (xs.length : Int) 0 = some (P, its .i64 us) := e
  refine ⟨us, u1, u2, by rw [u3]; simp, ?_⟩
  rw [f51_i_SpreadOf, i_few, i_in, decide_eq_true (show (xs.length : Int) ≤ 256 by omega), decide_eq_true (show (1 : Int) ≤ (P : Int) ∧ (P : Int) ≤ 64 by omega), decide_eq_true (show (0 : Int) ≤ (P : Int) ∧ (P : Int) ≤ 2147483648 by omega)]
  simp only [bd_s, br_not, br_t, gd_t, Int.toNat_natCast, reps_its, e]
theorem sum_loop (n : Nat) (N1 N2 : Nat) (c1 c2 : List T) : ∀ (zs p : List Int) (a : Int) (m : Nat), (∀ z ∈ zs, 0 ≤ z) → 0 ≤ a → a + zs.sum < 1048576 → p.length + zs.length < 1048576 → zs.length < m →
    f9_l_FnSpreads.l0 n m N1 c1 N2 c2 (p ++ zs).length (its .i64 (p ++ zs)) a (p.length : Int) = some (.inr (N1, c1, N2, c2, a + zs.sum)) := by
  intro zs
  induction zs with
  | nil =>
    intro p a m _ _ _ _ hm
    obtain ⟨m, rfl⟩ : ∃ k, m = k + 1 := ⟨m - 1, by omega⟩
    rw [f9_l_FnSpreads.l0, lt_end]; simp [br_f]
  | cons z zs ih =>
    intro p a m hz h0 ha hp hm
    obtain ⟨m, rfl⟩ : ∃ k, m = k + 1 := ⟨m - 1, by omega⟩
    have h1 := hz z (by simp)
    have h2 := sum_nonneg zs (fun y hy => hz y (by simp [hy]))
    simp only [List.sum_cons] at ha
    have := ih (p ++ [z]) (a + z) m (fun y hy => hz y (by simp [hy])) (by omega) (by omega) (by simp at hp ⊢; omega) (by simp at hm; omega)
    rw [f9_l_FnSpreads.l0, lt_mid, in_mid, toNat_len, okAt_midI, iAt_mid]
    simp only [br_t, gd_t, decide_eq_false (show ¬ z < 0 by omega), br_f, show IntKind.i64.wrap (a + z) = a + z by rw [wrap64] <;> omega, wrap_len (z := z) (show p.length < 4611686018427387904 by simp at hp; omega)]
    rw [List.sum_cons, ← Int.add_assoc]
    simpa using this
theorem cnt_loop (n : Nat) (N1 : Nat) (c1 : List T) (s : Int) : ∀ (zs p : List Nat) (a : Nat) (m : Nat), a + zs.length < 1048576 → p.length + zs.length < 1048576 → zs.length < m →
    f9_l_FnSpreads.l1 n m N1 c1 (p ++ zs).length (fls .f32 (p ++ zs)) s (a : Int) (p.length : Int) = some (N1, c1, s, ((a + cnt zs : Nat) : Int)) := by
  intro zs
  induction zs with
  | nil =>
    intro p a m _ _ hm
    obtain ⟨m, rfl⟩ : ∃ k, m = k + 1 := ⟨m - 1, by omega⟩
    rw [f9_l_FnSpreads.l1, lt_end]; simp [br_f, cnt]
  | cons z zs ih =>
    intro p a m ha hp hm
    obtain ⟨m, rfl⟩ : ∃ k, m = k + 1 := ⟨m - 1, by omega⟩
    rw [f9_l_FnSpreads.l1, lt_mid, in_mid, toNat_len, okAt_mid, fAt_mid]
    have hw := wrap_len (p := p) (z := z) (by simp at hp; omega)
    have skip := ih (p ++ [z]) a m (by simp at ha; omega) (by simp at hp ⊢; omega) (by simp at hm; omega)
    have more := ih (p ++ [z]) (a + 1) m (by simp at ha; omega) (by simp at hp ⊢; omega) (by simp at hm; omega)
    simp only [List.append_assoc, List.singleton_append] at skip more
    simp only [br_t, gd_t, Bool.and_self, hw]
    cases h1 : fge .f32 z 3212836864
    · rw [br_f]; simpa [cnt, inb, h1] using skip
    · cases h2 : flt .f32 z 1065353216
      · rw [br_t, br_f]; simpa [cnt, inb, h1, h2] using skip
      · rw [br_t, br_t, wrap_succ (by simp at ha; omega)]
        simp only [cnt, inb, h1, h2, Bool.and_self, if_true, ← Nat.add_assoc]
        exact more
theorem exact_ (cs : List Int) (hc : ∀ b ∈ cs, GoodI .u8 b) (lc : cs.length ≤ maxLen) (ms : List Int) (hm : ∀ b ∈ ms, GoodI .u8 b) (lm : ms.length ≤ maxLen) : ∃ n, f9_l_FnSpreads n cs.length (its .u8 cs) ms.length (its .u8 ms) = some true := by
  refine ⟨999, ?_⟩
  rw [f9_l_FnSpreads, l_long]
  cases hlong : decide (48 < cs.length ∨ 48 < ms.length)
  case true => rfl
  obtain ⟨xs, hxl, hxw, e1⟩ := s_r8samples 991 (bytes_of hm) 14 (by omega) (by omega)
  have e1 : f30_s_R8Samples 998 ms.length (its .u8 ms) 14 = some (xs.length, fls .f32 xs) := e1
  obtain ⟨c, hc1, e2⟩ := l_at 997 (bytes_of hc) (i := 40) (k := 9) (by omega) (by omega)
  obtain ⟨d, hd1, e3⟩ := l_at 997 (bytes_of hc) (i := 41) (k := 241) (by omega) (by omega)
  have e2 : f28_l_r8At 998 cs.length (its .u8 cs) 40 9 = some c := e2
  have e3 : f28_l_r8At 998 cs.length (its .u8 cs) 41 241 = some d := e3
  obtain ⟨c, rfl⟩ := Int.eq_ofNat_of_zero_le hc1.1
  obtain ⟨d, rfl⟩ := Int.eq_ofNat_of_zero_le hd1.1
  have w1 : IntKind.i64.wrap (1 + (c : Int)) = ((1 + c : Nat) : Int) := by rw [wrap64] <;> omega
  have w2 : IntKind.i64.wrap (IntKind.i64.wrap (5 * (d : Int)) - 600) = 5 * (d : Int) - 600 := by
    rw [show IntKind.i64.wrap (5 * (d : Int)) = 5 * (d : Int) by rw [wrap64] <;> omega]
    rw [wrap64] <;> omega
  obtain ⟨us, u1, u2, u3, e4⟩ := spread 996 xs (1 + c) (by omega) (by omega) (by omega)
  have e4 : f51_i_SpreadOf 998 xs.length (fls .f32 xs) ((1 + c : Nat) : Int) = some (1 + c, its .i64 us, true) := e4
  have hcnt := cnt_le xs
  have e5 := sum_loop 998 cs.length xs.length (its .u8 cs) (fls .f32 xs) us [] 0 998 u2 (by omega) (by omega) (by simp; omega) (by omega)
  have e5 : f9_l_FnSpreads.l0 998 998 cs.length (its .u8 cs) xs.length (fls .f32 xs) us.length (its .i64 us) 0 0 = some (.inr (cs.length, its .u8 cs, xs.length, fls .f32 xs, 0 + us.sum)) := e5
  have e6 := cnt_loop 998 cs.length (its .u8 cs) us.sum xs [] 0 998 (by omega) (by simp; omega) (by omega)
  have e6 : f9_l_FnSpreads.l1 998 998 cs.length (its .u8 cs) xs.length (fls .f32 xs) us.sum 0 0 = some (cs.length, its .u8 cs, us.sum, ((0 + cnt xs : Nat) : Int)) := e6
  have ht := tells_all d (by omega)
  unfold tells at ht
  rw [u1] at e5
  have q1 : ((((1 + c : Nat) : Int)) != (((1 + c : Nat) : Int))) = false := by simp
  simp only [br_f, bd_s, e1, e2, w1, e4, br_not, br_t, q1, e5, sm_r, Int.zero_add, e6, e3, w2]
  rw [show (us.sum == ((0 + cnt xs : Nat) : Int)) = true by simp; omega, tells_zero]
  cases hg : f52_i_GainOf 998 (5 * (d : Int) - 600) with
  | none => rw [hg] at ht; simp at ht
  | some g =>
    obtain ⟨x, b⟩ := g
    rw [hg] at ht
    simp only [Bool.and_eq_true] at ht
    obtain ⟨hb, ht⟩ := ht
    simp only [bd_s]
    cases hq : f53_i_TenthsOf 998 x with
    | none => rw [hq] at ht; simp at ht
    | some q =>
      obtain ⟨t, k⟩ := q
      rw [hq] at ht
      simp only [Bool.and_eq_true] at ht
      obtain ⟨hk, ht⟩ := ht
      simp only [bd_s, hb, hk, ht, br_t, Bool.not_false]
theorem law9 : ∀ args, LawArgs E Try.f9.params.toList args → ∃ N os, evalFn E N 9 args = some ⟨[⟨false, [.leaf], [.bool true]⟩], os⟩ := by
  intro args h0
  have hp : Try.f9.params.toList = [22, 22] := by kernel_rfl
  rw [hp] at h0
  obtain ⟨ts0, r0, rfl, hw0, h1⟩ := h0.cons_inv (d := ⟨false, 1, 24, [.sl .own [.leaf]], [.lst 0 []], .slc 5⟩) (by kernel_rfl)
  obtain ⟨n0, cs0, rfl, gl0, hs0⟩ := hw0.slc_inv (e := 5) (d := ⟨false, 1, 24, [.sl .own [.leaf]], [.lst 0 []], .slc 5⟩) (by kernel_rfl) rfl
  obtain ⟨a0, rfl, rfl, g0⟩ := hs0.ints (k := .u8) (d := ⟨false, 1, 1, [.leaf], [.int .u8 0], .int .u8⟩) (by kernel_rfl) rfl
  obtain ⟨ts1, r1, rfl, hw1, h2⟩ := h1.cons_inv (d := ⟨false, 1, 24, [.sl .own [.leaf]], [.lst 0 []], .slc 5⟩) (by kernel_rfl)
  obtain ⟨n1, cs1, rfl, gl1, hs1⟩ := hw1.slc_inv (e := 5) (d := ⟨false, 1, 24, [.sl .own [.leaf]], [.lst 0 []], .slc 5⟩) (by kernel_rfl) rfl
  obtain ⟨a1, rfl, rfl, g1⟩ := hs1.ints (k := .u8) (d := ⟨false, 1, 1, [.leaf], [.int .u8 0], .int .u8⟩) (by kernel_rfl) rfl
  obtain rfl := h2.nil_inv
  obtain ⟨N, hN⟩ := exact_ a0 g0 gl0 a1 g1 gl1
  exact ⟨N, _, f9_l_FnSpreads.ok N (a0.length, its .u8 a0, a1.length, its .u8 a1) true hN⟩


end Go.Proofs.Ytdejjalkfekjiaa.D
end
section
/- FnSpreads holds: for every input the law returns true, and its arguments read as before. -/
namespace Go.Proofs.Ytdejjalkfekjiaa.fnSpreads
open Go Go.ChangeShapes Go.WideShapes Go.ChangeAt Go.RowKit Go.Desk
set_option linter.unusedVariables false
theorem own : ownKnob Try.prog.godebug = none := by kernel_rfl
theorem laidOut : laidOutB Try.prog = true := by kernel_rfl
set_option maxRecDepth 100000 in
theorem lifted (os : Os) (started : os.Started) (H : Type) (enc : TypeId × Value → H) :
    ReturnsInHanded {} Try.checked os 9 .any (Rows.fnSpreadsSpec.pre6 enc Try.prog Try.f9 Rows.fnSpreadsRow.domain false) (Rows.fnSpreadsSpec.post enc Try.prog Try.f9 false true false false) := by
  refine returnsInHanded_of_change (C := Try.checked) own started (by kernel_rfl) Try.func9
    (ChangeSpec.witness6 (enc := enc) (C := Try.checked) false ⟨#[], #[.slice none 0 0, .slice none 0 0], []⟩ 8 (by kernel_rfl) (by kernel_rfl) (by kernel_rfl) (by kernel_rfl)) ?_
  intro W base args ds gs before hval hW hcnd _
  exact law_contract (c := D.c9) Try.checked.mixed D.tysOk D.fnOk Try.func9 (by kernel_rfl) (by kernel_rfl) (by kernel_rfl) Try.underlying4 rfl
    (fun ds h => by
      rw [show Try.f9.params.toList.length = 2 by kernel_rfl] at h
      match ds, h with
      | [_, _], _ => rfl)
    laidOut (N := 8) (by kernel_rfl) (by kernel_rfl) D.law9 hval hW
theorem over : Rows.fnSpreadsRow.holds Try.pinned (OpenSpec.ofChange Rows.fnSpreadsSpec) :=
  OpenClaim.holds_of_wide 9 Try.f9 rfl rfl rfl rfl rfl rfl rfl ⟨rfl, rfl, rfl, rfl, rfl⟩ rfl rfl rfl rfl rfl (by kernel_rfl) Try.func9 (by kernel_rfl)
    (of_decide_eq_true (by kernel_rfl)) (by unfold Func.isWrapper; first | (rw [if_pos (by decide +kernel)]; kernel_rfl) | (rw [if_neg (by decide +kernel)]; exact ⟨rfl, rfl⟩))
    (fun os started H enc _ => lifted os started H enc)
theorem proved : Rows.FnSpreadsSaid := over
#print axioms proved
end Go.Proofs.Ytdejjalkfekjiaa.fnSpreads
namespace Go.Proofs.Ytdejjalkfekjiaa
/-- The row, under a short name, for the claim. -/
theorem fnSpreads_holds : Rows.FnSpreadsSaid := fnSpreads.proved
end Go.Proofs.Ytdejjalkfekjiaa
end
