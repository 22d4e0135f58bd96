/- FnLoudness holds: for every input the law returns true, and its arguments read as before. -/
import Derived.Test.YtdobhipbgpiceaaChecked
import Derived.Test.YtdobhipbgpiceaaDeskF
import Derived.KernelRfl
import Derived.Test.YtdobhipbgpiceaaRows
import Derived.WalkKit
import Derived.ProofKit
import Derived.OpenShut
import Derived.ShutString
import Derived.ChangeOld
import Derived.Below
import Derived.SizedLaws
set_option linter.all false
section
/- The tables of the reading: types and functions of the translation, with what is kept at each region's beginning (written by a program of this workplace). -/
namespace Go.Proofs.Ytdobhipbgpiceaa.D
open Go Go.Desk
def bodyOf (f : Func) : Code := match f.body with
  | some c => c
  | none => .skip
def tyTab : List (Nat × TD) := [
  (2, ⟨false, 1, 8, [.leaf], [.int .i64 0], .int .i64⟩),
  (3, ⟨false, 1, 8, [.leaf], [.int .i64 0], .int .i64⟩),
  (4, ⟨false, 1, 1, [.leaf], [.bool false], .bool⟩),
  (5, ⟨false, 1, 1, [.leaf], [.int .u8 0], .int .u8⟩),
  (22, ⟨false, 1, 24, [.sl .own [.leaf]], [.lst 0 []], .slc 5⟩),
  (24, ⟨false, 1, 24, [.sl .own [.leaf]], [.lst 0 []], .slc 29⟩),
  (29, ⟨false, 1, 4, [.leaf], [.flt .f32 0], .flt .f32⟩),
  (34, ⟨false, 1, 8, [.leaf], [.flt .f64 0], .flt .f64⟩),
  (105, ⟨false, 1, 8, [.leaf], [.nil], .ptr 170⟩),
  (113, ⟨false, 1, 4, [.leaf], [.int .u32 0], .int .u32⟩),
  (168, ⟨false, 1, 8, [.leaf], [.int .u64 0], .int .u64⟩),
  (170, ⟨true, 3, 40, [.sl .own [.leaf], .leaf, .leaf], [.lst 0 [], .int .i64 0, .int .u64 0], .st [(0, 22), (1, 3), (2, 168)]⟩),
  (211, ⟨false, 1, 8, [.leaf], [.int .u64 0], .int .u64⟩)]
noncomputable def c3 : Code := bodyOf Try.f3
noncomputable def c12 : Code := bodyOf Try.f12
noncomputable def c13 : Code := bodyOf Try.f13
noncomputable def c14 : Code := bodyOf Try.f14
noncomputable def c15 : Code := bodyOf Try.f15
noncomputable def c16 : Code := bodyOf Try.f16
noncomputable def c17 : Code := bodyOf Try.f17
noncomputable def c18 : Code := bodyOf Try.f18
noncomputable def c64 : Code := bodyOf Try.f64
noncomputable def c65 : Code := bodyOf Try.f65
noncomputable def c66 : Code := bodyOf Try.f66
noncomputable def c67 : Code := bodyOf Try.f67
noncomputable def c68 : Code := bodyOf Try.f68
noncomputable def c69 : Code := bodyOf Try.f69
noncomputable def c74 : Code := bodyOf Try.f74
noncomputable def c130 : Code := bodyOf Try.f130
noncomputable def c131 : Code := bodyOf Try.f131
noncomputable def c134 : Code := bodyOf Try.f134
noncomputable def fnTab : List (Nat × FD) := [
  (3, .code c3 [.val, .val] [] [(4, none)] [(0, [0, 1]), (1, [0, 1]), (2, []), (3, [0, 1]), (4, [0, 5]), (5, [0, 5, 6]), (6, [5, 6, 7]), (7, [5, 6, 7, 8, 9]), (8, [5, 6, 7, 8, 9, 10, 11]), (9, [5, 6, 7, 8, 9, 10, 11, 12]), (10, [5, 6, 7, 8, 9, 10, 11, 12, 13]), (11, [5, 6, 7, 8, 9, 10, 11, 12, 13]), (12, [5, 6, 7, 8, 9, 10, 11, 12, 13]), (13, [5, 6, 7, 8, 9, 10, 11, 12]), (14, [5, 6, 7, 8, 9, 10, 11, 14, 15]), (15, [5, 6, 7, 8, 9, 10, 11, 14, 15, 16]), (16, [5, 6, 7, 8, 9, 10, 11, 14, 15, 16, 17]), (17, [5, 6, 7, 8, 9, 10, 11, 14, 15, 16]), (18, [5, 6, 7, 8, 9, 10, 11, 14, 15, 17]), (19, []), (20, [5, 6, 7, 8, 10, 11, 14]), (21, []), (22, [5, 6, 7, 8, 10, 14]), (23, [5, 6, 7, 8, 10, 14, 18]), (24, [5, 6, 7, 8, 10, 14, 18, 19]), (25, [5, 6, 7, 8, 10, 14, 18, 19, 20]), (26, [5, 6, 7, 8, 10, 14, 18, 19, 20]), (27, [5, 6, 7, 8, 10, 14, 18, 19, 20]), (28, [5, 6, 7, 8, 10, 14, 18, 19, 20, 21]), (29, [5, 6, 7, 8, 10, 14, 18, 19, 20, 22, 23]), (30, []), (31, [5, 6, 7, 8, 10, 14, 18, 19, 20]), (32, [5, 6, 7, 8, 10, 14, 18, 19, 20]), (33, [10, 14, 18, 19]), (1000010, [5, 6, 7, 8, 9, 10, 11, 12]), (1000025, [4, 10, 14, 18, 19])]),
  (12, .code c12 [.val, .val] [] [(4, none)] [(0, [0, 1]), (1, [0, 1])]),
  (13, .code c13 [.val, .val] [] [(4, none)] [(0, [0, 1]), (1, [0, 1]), (2, [1, 5]), (3, [1, 5, 6]), (4, [1, 5, 6, 7]), (5, [1, 5, 6, 7]), (6, [1, 5, 6, 7]), (7, [6]), (1000004, [6])]),
  (14, .code c14 [.val, .val, .val] [] [(6, none)] [(0, [0, 1, 2]), (1, [0, 1, 2]), (2, []), (3, [0, 1, 2])]),
  (15, .code c15 [.val, .val, .val] [] [(6, none), (7, none)] [(0, [0, 1, 2]), (1, [0, 1, 2]), (2, []), (3, [0, 1, 2]), (4, [0, 1, 2, 8]), (5, [0, 1, 2, 8, 9]), (6, [0, 1, 2, 8, 9]), (7, [0, 1, 2, 8, 9]), (8, [0, 1, 2, 8, 9, 10]), (9, [8]), (1000005, [8])]),
  (16, .code c16 [.val, .val, .val, .val] [] [(8, none), (9, none)] [(0, [0, 1, 2, 3]), (1, [0, 1, 2, 3]), (2, [3, 10, 11]), (3, []), (4, [3, 10]), (5, [12, 13]), (6, []), (7, [12, 13]), (8, [12, 13]), (9, []), (10, [13])]),
  (17, .code c17 [.val, .val] [] [(4, none), (5, none)] [(0, [0, 1]), (1, [0, 1]), (2, []), (3, [0, 1])]),
  (18, .code c18 [.val, .val] [] [(4, none)] [(0, [0, 1]), (1, [0, 1]), (2, [0, 1]), (3, [0, 1])]),
  (64, .code c64 [.val] [] [(2, none)] [(0, [0]), (1, [0])]),
  (65, .code c65 [.iop] [0] [(2, none)] [(0, [0]), (1, [0]), (2, [0, 3]), (3, [0, 3]), (4, [0, 3])]),
  (66, .code c66 [.val] [] [(2, none)] [(0, [0]), (1, [0])]),
  (67, .code c67 [.val, .val, .val] [] [(6, none)] [(0, [0, 1, 2]), (1, [0, 1, 2])]),
  (68, .code c68 [.val, .val] [] [(4, none)] [(0, [0, 1]), (1, [0, 1]), (2, [0, 1, 5]), (3, [0, 1, 5, 8, 9]), (4, [0, 1, 5, 8, 9]), (5, [0, 1, 5, 6, 8, 9]), (6, [0, 1, 5, 8, 9]), (7, [5]), (1000003, [5])]),
  (69, .code c69 [.val, .val] [] [(4, none), (5, none)] [(0, [0, 1]), (1, [0, 1]), (2, [0, 1, 6]), (3, [0, 1, 6, 9, 10, 11]), (4, [0, 1, 6, 9, 10, 11]), (5, [0, 1, 6, 8, 9, 10, 11]), (6, [0, 1, 6, 8, 9, 10, 11]), (7, [0, 1, 6, 9, 10, 11]), (8, [6]), (1000003, [6])]),
  (70, .ext (pF32bits)),
  (74, .code c74 [.iop, .val] [0] [(4, none)] [(0, [0, 1]), (1, [0, 1]), (2, [0]), (3, [0, 1]), (4, [0, 1, 5]), (5, [0, 1, 5]), (6, [0, 1, 5])]),
  (130, .code c130 [.iop, .val] [0] [(4, none)] [(0, [0, 1]), (1, [0, 1])]),
  (131, .code c131 [.val] [] [(2, none)] [(0, [0]), (1, [0]), (2, [0, 3]), (3, [0, 3, 6, 7, 8]), (4, [0, 3, 6, 7, 8]), (5, [0, 3, 5, 6, 7, 8]), (6, [0, 3, 6, 7, 8]), (7, [3]), (1000003, [3])]),
  (134, .code c134 [.iop] [0] [(2, none)] [(0, [0]), (1, [0]), (2, [0, 3]), (3, [0]), (4, [0, 3]), (5, [0, 3]), (6, [0, 3]), (7, [0, 3]), (8, [0])])]
noncomputable def E : Env := ⟨fun t => lookT tyTab t, lookF fnTab⟩
noncomputable def fdAt (n : Nat) : FD := match lookF fnTab n with
  | some d => d
  | none => .ext fun _ => none
noncomputable def keepAt (n : Nat) : List (Nat × List Nat) := match lookF fnTab n with
  | some d => d.keep
  | none => []
theorem tysOk : TysOk Try.prog E := tysOk_of (l := tyTab) (fun _ => rfl) (by kernel_rfl)
theorem ft3 : FnTab Try.prog E 3 (fdAt 3) := fnTab_code (c := c3) (modes := (fdAt 3).ms) (outs := (fdAt 3).os) (results := (fdAt 3).rs) (keep := (fdAt 3).keep) Try.func3 (by kernel_rfl) (by kernel_rfl) (by kernel_rfl)
theorem ft12 : FnTab Try.prog E 12 (fdAt 12) := fnTab_code (c := c12) (modes := (fdAt 12).ms) (outs := (fdAt 12).os) (results := (fdAt 12).rs) (keep := (fdAt 12).keep) Try.func12 (by kernel_rfl) (by kernel_rfl) (by kernel_rfl)
theorem ft13 : FnTab Try.prog E 13 (fdAt 13) := fnTab_code (c := c13) (modes := (fdAt 13).ms) (outs := (fdAt 13).os) (results := (fdAt 13).rs) (keep := (fdAt 13).keep) Try.func13 (by kernel_rfl) (by kernel_rfl) (by kernel_rfl)
theorem ft14 : FnTab Try.prog E 14 (fdAt 14) := fnTab_code (c := c14) (modes := (fdAt 14).ms) (outs := (fdAt 14).os) (results := (fdAt 14).rs) (keep := (fdAt 14).keep) Try.func14 (by kernel_rfl) (by kernel_rfl) (by kernel_rfl)
theorem ft15 : FnTab Try.prog E 15 (fdAt 15) := fnTab_code (c := c15) (modes := (fdAt 15).ms) (outs := (fdAt 15).os) (results := (fdAt 15).rs) (keep := (fdAt 15).keep) Try.func15 (by kernel_rfl) (by kernel_rfl) (by kernel_rfl)
theorem ft16 : FnTab Try.prog E 16 (fdAt 16) := fnTab_code (c := c16) (modes := (fdAt 16).ms) (outs := (fdAt 16).os) (results := (fdAt 16).rs) (keep := (fdAt 16).keep) Try.func16 (by kernel_rfl) (by kernel_rfl) (by kernel_rfl)
theorem ft17 : FnTab Try.prog E 17 (fdAt 17) := fnTab_code (c := c17) (modes := (fdAt 17).ms) (outs := (fdAt 17).os) (results := (fdAt 17).rs) (keep := (fdAt 17).keep) Try.func17 (by kernel_rfl) (by kernel_rfl) (by kernel_rfl)
theorem ft18 : FnTab Try.prog E 18 (fdAt 18) := fnTab_code (c := c18) (modes := (fdAt 18).ms) (outs := (fdAt 18).os) (results := (fdAt 18).rs) (keep := (fdAt 18).keep) Try.func18 (by kernel_rfl) (by kernel_rfl) (by kernel_rfl)
theorem ft64 : FnTab Try.prog E 64 (fdAt 64) := fnTab_code (c := c64) (modes := (fdAt 64).ms) (outs := (fdAt 64).os) (results := (fdAt 64).rs) (keep := (fdAt 64).keep) Try.func64 (by kernel_rfl) (by kernel_rfl) (by kernel_rfl)
theorem ft65 : FnTab Try.prog E 65 (fdAt 65) := fnTab_code (c := c65) (modes := (fdAt 65).ms) (outs := (fdAt 65).os) (results := (fdAt 65).rs) (keep := (fdAt 65).keep) Try.func65 (by kernel_rfl) (by kernel_rfl) (by kernel_rfl)
theorem ft66 : FnTab Try.prog E 66 (fdAt 66) := fnTab_code (c := c66) (modes := (fdAt 66).ms) (outs := (fdAt 66).os) (results := (fdAt 66).rs) (keep := (fdAt 66).keep) Try.func66 (by kernel_rfl) (by kernel_rfl) (by kernel_rfl)
theorem ft67 : FnTab Try.prog E 67 (fdAt 67) := fnTab_code (c := c67) (modes := (fdAt 67).ms) (outs := (fdAt 67).os) (results := (fdAt 67).rs) (keep := (fdAt 67).keep) Try.func67 (by kernel_rfl) (by kernel_rfl) (by kernel_rfl)
theorem ft68 : FnTab Try.prog E 68 (fdAt 68) := fnTab_code (c := c68) (modes := (fdAt 68).ms) (outs := (fdAt 68).os) (results := (fdAt 68).rs) (keep := (fdAt 68).keep) Try.func68 (by kernel_rfl) (by kernel_rfl) (by kernel_rfl)
theorem ft69 : FnTab Try.prog E 69 (fdAt 69) := fnTab_code (c := c69) (modes := (fdAt 69).ms) (outs := (fdAt 69).os) (results := (fdAt 69).rs) (keep := (fdAt 69).keep) Try.func69 (by kernel_rfl) (by kernel_rfl) (by kernel_rfl)
theorem ft70 : FnTab Try.prog E 70 (.ext (pF32bits)) := ext_pF32bits Try.func70 (by kernel_rfl) (by kernel_rfl) (by kernel_rfl) (by kernel_rfl)
theorem ft74 : FnTab Try.prog E 74 (fdAt 74) := fnTab_code (c := c74) (modes := (fdAt 74).ms) (outs := (fdAt 74).os) (results := (fdAt 74).rs) (keep := (fdAt 74).keep) Try.func74 (by kernel_rfl) (by kernel_rfl) (by kernel_rfl)
theorem ft130 : FnTab Try.prog E 130 (fdAt 130) := fnTab_code (c := c130) (modes := (fdAt 130).ms) (outs := (fdAt 130).os) (results := (fdAt 130).rs) (keep := (fdAt 130).keep) Try.func130 (by kernel_rfl) (by kernel_rfl) (by kernel_rfl)
theorem ft131 : FnTab Try.prog E 131 (fdAt 131) := fnTab_code (c := c131) (modes := (fdAt 131).ms) (outs := (fdAt 131).os) (results := (fdAt 131).rs) (keep := (fdAt 131).keep) Try.func131 (by kernel_rfl) (by kernel_rfl) (by kernel_rfl)
theorem ft134 : FnTab Try.prog E 134 (fdAt 134) := fnTab_code (c := c134) (modes := (fdAt 134).ms) (outs := (fdAt 134).os) (results := (fdAt 134).rs) (keep := (fdAt 134).keep) Try.func134 (by kernel_rfl) (by kernel_rfl) (by kernel_rfl)
theorem allFns : AllFns Try.prog E fnTab := .cons ft3 (.cons ft12 (.cons ft13 (.cons ft14 (.cons ft15 (.cons ft16 (.cons ft17 (.cons ft18 (.cons ft64 (.cons ft65 (.cons ft66 (.cons ft67 (.cons ft68 (.cons ft69 (.cons ft70 (.cons ft74 (.cons ft130 (.cons ft131 (.cons ft134 (.nil)))))))))))))))))))
theorem fnOk : ∀ f fd, E.fn f = some fd → FnTab Try.prog E f fd := fnTab_of (l := fnTab) (fun _ => rfl) allFns
end Go.Proofs.Ytdobhipbgpiceaa.D
end
section
/- Plain functions for the law's Go functions, each tied to the reading by the kernel (printed by a program of this workplace). -/
namespace Go.Proofs.Ytdobhipbgpiceaa.D
open Go Go.Desk
set_option linter.unusedVariables false
noncomputable def x70.w : FnW E := xF32bits.w 70 (by kernel_rfl)

def f12_l_r8Long : Nat → Nat → List T → Nat → List T → Option (Bool)
  | 0, _, _, _, _ => none
  | n + 1, n1, l2, n3, l4 =>
    br (decide (((n1 : Nat) : Int) > (48 : Int))) (
     some true) (
     some (decide (((n3 : Nat) : Int) > (48 : Int))))
def sg_ll : Sig (Nat × List T × Nat × List T) where
  pk := fun v => [.lst v.1 v.2.1, .lst v.2.2.1 v.2.2.2]
  up := fun ls => match ls with
    | [.lst a0 a1, .lst a2 a3] => some (a0, a1, a2, a3)
    | _ => none
  ok := by
    intro ls v h
    split at h
    · cases h; rfl
    · cases h

def sg_b : Sig (Bool) where
  pk := fun v => [.bool v]
  up := fun ls => match ls with
    | [.bool a0] => some a0
    | _ => none
  ok := by
    intro ls v h
    split at h
    · cases h; rfl
    · cases h

def f12_l_r8Long.P : List Arg := [⟨.val, ⟨false, [.sl .shr [.leaf]], [.lst 0 []]⟩⟩, ⟨.val, ⟨false, [.sl .shr [.leaf]], [.lst 0 []]⟩⟩]
def f12_l_r8Long.A : RAlt (Bool) := .one ⟨[⟨false, [.leaf], [.bool false]⟩], [none, none]⟩ sg_b
def f12_l_r8Long.F (n : Nat) (v : Nat × List T × Nat × List T) := f12_l_r8Long n v.1 v.2.1 v.2.2.1 v.2.2.2
noncomputable def f12_l_r8Long.O (n : Nat) : Orc := orcOf (E := E) [] [] n
theorem f12_l_r8Long.ok : ∀ n v x, f12_l_r8Long.F n v = some x → evalFn E n 12 (flAs f12_l_r8Long.P (sg_ll.pk v)) = some (f12_l_r8Long.A.enc x) :=
  fn_pure (modes := (fdAt 12).ms) (outs := (fdAt 12).os) (results := (fdAt 12).rs) f12_l_r8Long.O (c := c12) (keep := keepAt 12) (by kernel_rfl) (fun n => orcOf_cf _ _ n) (fun n => lpOk_of (bs := []) (by kernel_rfl) .nil) (fun _ => rfl) (fun _ _ => by kernel_rfl)
noncomputable def f12_l_r8Long.w : FnW E := fnW 12 f12_l_r8Long.P sg_ll f12_l_r8Long.A f12_l_r8Long.F f12_l_r8Long.ok

def f14_l_r8At : Nat → Nat → List T → Int → Int → Option (Int)
  | 0, _, _, _, _ => none
  | n + 1, n1, l2, i3, i4 =>
    br (decide (i4 ≤ (1 : Int))) (
     some (0 : Int)) (
     br (decide (i3 ≥ ((n1 : Nat) : Int))) (
      some (0 : Int)) (
      gd ((decide (((0 : Int) ≤ i3) ∧ (i3 < ((n1 : Nat) : Int)))) && (okAt [(CK.int IntKind.u8)] l2 (Int.toNat i3))) (
      gd (!(decide (i4 = (0 : Int)))) (
      some (Int.tmod (IntKind.i64.wrap (iAt l2 (Int.toNat i3))) i4)))))
def sg_lii : Sig (Nat × List T × Int × Int) where
  pk := fun v => [.lst v.1 v.2.1, .int v.2.2.1, .int v.2.2.2]
  up := fun ls => match ls with
    | [.lst a0 a1, .int a2, .int a3] => some (a0, a1, a2, a3)
    | _ => none
  ok := by
    intro ls v h
    split at h
    · cases h; rfl
    · cases h

def sg_i : Sig (Int) where
  pk := fun v => [.int v]
  up := fun ls => match ls with
    | [.int a0] => some a0
    | _ => none
  ok := by
    intro ls v h
    split at h
    · cases h; rfl
    · cases h

def f14_l_r8At.P : List Arg := [⟨.val, ⟨false, [.sl .shr [.leaf]], [.lst 0 []]⟩⟩, ⟨.val, ⟨false, [.leaf], [.int .i64 0]⟩⟩, ⟨.val, ⟨false, [.leaf], [.int .i64 0]⟩⟩]
def f14_l_r8At.A : RAlt (Int) := .one ⟨[⟨false, [.leaf], [.int .i64 0]⟩], [none, none, none]⟩ sg_i
def f14_l_r8At.F (n : Nat) (v : Nat × List T × Int × Int) := f14_l_r8At n v.1 v.2.1 v.2.2.1 v.2.2.2
noncomputable def f14_l_r8At.O (n : Nat) : Orc := orcOf (E := E) [] [] n
theorem f14_l_r8At.ok : ∀ n v x, f14_l_r8At.F n v = some x → evalFn E n 14 (flAs f14_l_r8At.P (sg_lii.pk v)) = some (f14_l_r8At.A.enc x) :=
  fn_pure (modes := (fdAt 14).ms) (outs := (fdAt 14).os) (results := (fdAt 14).rs) f14_l_r8At.O (c := c14) (keep := keepAt 14) (by kernel_rfl) (fun n => orcOf_cf _ _ n) (fun n => lpOk_of (bs := []) (by kernel_rfl) .nil) (fun _ => rfl) (fun _ _ => by kernel_rfl)
noncomputable def f14_l_r8At.w : FnW E := fnW 14 f14_l_r8At.P sg_lii f14_l_r8At.A f14_l_r8At.F f14_l_r8At.ok

def f64_s_l00From : Nat → Nat → List T → Option (Nat × List T × Int × Int)
  | 0, _, _ => none
  | n + 1, n1, l2 =>
    some (n1, l2, (0 : Int), (0 : Int))
def sg_l : Sig (Nat × List T) where
  pk := fun v => [.lst v.1 v.2]
  up := fun ls => match ls with
    | [.lst a0 a1] => some (a0, a1)
    | _ => none
  ok := by
    intro ls v h
    split at h
    · cases h; rfl
    · cases h

def f64_s_l00From.P : List Arg := [⟨.val, ⟨false, [.sl .shr [.leaf]], [.lst 0 []]⟩⟩]
def f64_s_l00From.A : RAlt (Nat × List T × Int × Int) := .one ⟨[⟨false, [.rf .own [.sl .shr [.leaf], .leaf, .leaf]], [.ref [.lst 0 [], .int .i64 0, .int .u64 0]]⟩], [none]⟩ sg_lii
def f64_s_l00From.F (n : Nat) (v : Nat × List T) := f64_s_l00From n v.1 v.2
noncomputable def f64_s_l00From.O (n : Nat) : Orc := orcOf (E := E) [] [] n
theorem f64_s_l00From.ok : ∀ n v x, f64_s_l00From.F n v = some x → evalFn E n 64 (flAs f64_s_l00From.P (sg_l.pk v)) = some (f64_s_l00From.A.enc x) :=
  fn_pure (modes := (fdAt 64).ms) (outs := (fdAt 64).os) (results := (fdAt 64).rs) f64_s_l00From.O (c := c64) (keep := keepAt 64) (by kernel_rfl) (fun n => orcOf_cf _ _ n) (fun n => lpOk_of (bs := []) (by kernel_rfl) .nil) (fun _ => rfl) (fun _ _ => by kernel_rfl)
noncomputable def f64_s_l00From.w : FnW E := fnW 64 f64_s_l00From.P sg_l f64_s_l00From.A f64_s_l00From.F f64_s_l00From.ok

def f134_s_l00Srcnext : Nat → Nat → List T → Int → Int → Option (Int × Nat × List T × Int × Int)
  | 0, _, _, _, _ => none
  | n + 1, n1, l2, i3, i4 =>
    br (decide (i3 < ((n1 : Nat) : Int))) (
     gd ((decide (((0 : Int) ≤ i3) ∧ (i3 < ((n1 : Nat) : Int)))) && (okAt [(CK.int IntKind.u8)] l2 (Int.toNat i3))) (
     let i5 : Int := (IntKind.i64.wrap (iAt l2 (Int.toNat i3)))
     let i6 : Int := (IntKind.i64.wrap (i3 + (1 : Int)))
     let i7 : Int := (IntKind.u64.wrap ((IntKind.u64.wrap ((IntKind.u64.wrap (i4 * (6364136223846793005 : Int))) + (IntKind.u64.wrap i5))) + (1442695040888963407 : Int)))
     br (decide (i6 ≤ ((n1 : Nat) : Int))) (
      some (i5, n1, l2, i6, i7)) (
      some ((IntKind.i64.wrap (intBits BinOp.and IntKind.u64 (Int.fdiv i7 (1099511627776 : Int)) (255 : Int))), n1, l2, i6, i7)))) (
     let i8 : Int := (IntKind.i64.wrap (i3 + (1 : Int)))
     let i9 : Int := (IntKind.u64.wrap ((IntKind.u64.wrap ((IntKind.u64.wrap (i4 * (6364136223846793005 : Int))) + (0 : Int))) + (1442695040888963407 : Int)))
     br (decide (i8 ≤ ((n1 : Nat) : Int))) (
      some ((0 : Int), n1, l2, i8, i9)) (
      some ((IntKind.i64.wrap (intBits BinOp.and IntKind.u64 (Int.fdiv i9 (1099511627776 : Int)) (255 : Int))), n1, l2, i8, i9)))
def sg_ilii : Sig (Int × Nat × List T × Int × Int) where
  pk := fun v => [.int v.1, .lst v.2.1 v.2.2.1, .int v.2.2.2.1, .int v.2.2.2.2]
  up := fun ls => match ls with
    | [.int a0, .lst a1 a2, .int a3, .int a4] => some (a0, a1, a2, a3, a4)
    | _ => none
  ok := by
    intro ls v h
    split at h
    · cases h; rfl
    · cases h

def f134_s_l00Srcnext.P : List Arg := [⟨.iop, ⟨false, [.rf .own [.sl .shr [.leaf], .leaf, .leaf]], [.ref [.lst 0 [], .int .i64 0, .int .u64 0]]⟩⟩]
def f134_s_l00Srcnext.A : RAlt (Int × Nat × List T × Int × Int) := .one ⟨[⟨false, [.leaf], [.int .i64 0]⟩], [some ⟨false, [.rf .own [.sl .shr [.leaf], .leaf, .leaf]], [.ref [.lst 0 [], .int .i64 0, .int .u64 0]]⟩]⟩ sg_ilii
def f134_s_l00Srcnext.F (n : Nat) (v : Nat × List T × Int × Int) := f134_s_l00Srcnext n v.1 v.2.1 v.2.2.1 v.2.2.2
noncomputable def f134_s_l00Srcnext.O (n : Nat) : Orc := orcOf (E := E) [] [] n
theorem f134_s_l00Srcnext.ok : ∀ n v x, f134_s_l00Srcnext.F n v = some x → evalFn E n 134 (flAs f134_s_l00Srcnext.P (sg_lii.pk v)) = some (f134_s_l00Srcnext.A.enc x) :=
  fn_pure (modes := (fdAt 134).ms) (outs := (fdAt 134).os) (results := (fdAt 134).rs) f134_s_l00Srcnext.O (c := c134) (keep := keepAt 134) (by kernel_rfl) (fun n => orcOf_cf _ _ n) (fun n => lpOk_of (bs := []) (by kernel_rfl) .nil) (fun _ => rfl) (fun _ _ => by kernel_rfl)
noncomputable def f134_s_l00Srcnext.w : FnW E := fnW 134 f134_s_l00Srcnext.P sg_lii f134_s_l00Srcnext.A f134_s_l00Srcnext.F f134_s_l00Srcnext.ok

def f74_s_l00Srcpick : Nat → Nat → List T → Int → Int → Int → Option (Int × Nat × List T × Int × Int)
  | 0, _, _, _, _, _ => none
  | n + 1, n1, l2, i3, i4, i5 =>
    br (decide (i5 ≤ (1 : Int))) (
     some ((0 : Int), n1, l2, i3, i4)) (
     bd (f134_s_l00Srcnext n n1 l2 i3 i4) fun r6 =>
     let i7 : Int := r6.1
     let n8 : Nat := r6.2.1
     let l9 : List T := r6.2.2.1
     let i10 : Int := r6.2.2.2.1
     let i11 : Int := r6.2.2.2.2
     br (decide (i5 > (200 : Int))) (
      bd (f134_s_l00Srcnext n n8 l9 i10 i11) fun r12 =>
      let i13 : Int := r12.1
      let n14 : Nat := r12.2.1
      let l15 : List T := r12.2.2.1
      let i16 : Int := r12.2.2.2.1
      let i17 : Int := r12.2.2.2.2
      let i18 : Int := (IntKind.i64.wrap ((IntKind.i64.wrap (i7 * (256 : Int))) + i13))
      gd (!(decide (i5 = (0 : Int)))) (
      some ((Int.tmod i18 i5), n14, l15, i16, i17))) (
      gd (!(decide (i5 = (0 : Int)))) (
      some ((Int.tmod i7 i5), n8, l9, i10, i11))))
def sg_liii : Sig (Nat × List T × Int × Int × Int) where
  pk := fun v => [.lst v.1 v.2.1, .int v.2.2.1, .int v.2.2.2.1, .int v.2.2.2.2]
  up := fun ls => match ls with
    | [.lst a0 a1, .int a2, .int a3, .int a4] => some (a0, a1, a2, a3, a4)
    | _ => none
  ok := by
    intro ls v h
    split at h
    · cases h; rfl
    · cases h

def f74_s_l00Srcpick.P : List Arg := [⟨.iop, ⟨false, [.rf .own [.sl .shr [.leaf], .leaf, .leaf]], [.ref [.lst 0 [], .int .i64 0, .int .u64 0]]⟩⟩, ⟨.val, ⟨false, [.leaf], [.int .i64 0]⟩⟩]
def f74_s_l00Srcpick.A : RAlt (Int × Nat × List T × Int × Int) := .one ⟨[⟨false, [.leaf], [.int .i64 0]⟩], [some ⟨false, [.rf .own [.sl .shr [.leaf], .leaf, .leaf]], [.ref [.lst 0 [], .int .i64 0, .int .u64 0]]⟩, none]⟩ sg_ilii
def f74_s_l00Srcpick.F (n : Nat) (v : Nat × List T × Int × Int × Int) := f74_s_l00Srcpick n v.1 v.2.1 v.2.2.1 v.2.2.2.1 v.2.2.2.2
noncomputable def f74_s_l00Srcpick.O (n : Nat) : Orc := orcOf (E := E) [f134_s_l00Srcnext.w] [] n
theorem f74_s_l00Srcpick.ok : ∀ n v x, f74_s_l00Srcpick.F n v = some x → evalFn E n 74 (flAs f74_s_l00Srcpick.P (sg_liii.pk v)) = some (f74_s_l00Srcpick.A.enc x) :=
  fn_pure (modes := (fdAt 74).ms) (outs := (fdAt 74).os) (results := (fdAt 74).rs) f74_s_l00Srcpick.O (c := c74) (keep := keepAt 74) (by kernel_rfl) (fun n => orcOf_cf _ _ n) (fun n => lpOk_of (bs := []) (by kernel_rfl) .nil) (fun _ => rfl) (fun _ _ => by kernel_rfl)
noncomputable def f74_s_l00Srcpick.w : FnW E := fnW 74 f74_s_l00Srcpick.P sg_liii f74_s_l00Srcpick.A f74_s_l00Srcpick.F f74_s_l00Srcpick.ok

def f130_s_l00Srcone : Nat → Nat → List T → Int → Int → Int → Option (Bool × Nat × List T × Int × Int)
  | 0, _, _, _, _, _ => none
  | n + 1, n1, l2, i3, i4, i5 =>
    bd (f74_s_l00Srcpick n n1 l2 i3 i4 i5) fun r6 =>
    let i7 : Int := r6.1
    let n8 : Nat := r6.2.1
    let l9 : List T := r6.2.2.1
    let i10 : Int := r6.2.2.2.1
    let i11 : Int := r6.2.2.2.2
    some ((i7 == (0 : Int)), n8, l9, i10, i11)
def sg_blii : Sig (Bool × Nat × List T × Int × Int) where
  pk := fun v => [.bool v.1, .lst v.2.1 v.2.2.1, .int v.2.2.2.1, .int v.2.2.2.2]
  up := fun ls => match ls with
    | [.bool a0, .lst a1 a2, .int a3, .int a4] => some (a0, a1, a2, a3, a4)
    | _ => none
  ok := by
    intro ls v h
    split at h
    · cases h; rfl
    · cases h

def f130_s_l00Srcone.P : List Arg := [⟨.iop, ⟨false, [.rf .own [.sl .shr [.leaf], .leaf, .leaf]], [.ref [.lst 0 [], .int .i64 0, .int .u64 0]]⟩⟩, ⟨.val, ⟨false, [.leaf], [.int .i64 0]⟩⟩]
def f130_s_l00Srcone.A : RAlt (Bool × Nat × List T × Int × Int) := .one ⟨[⟨false, [.leaf], [.bool false]⟩], [some ⟨false, [.rf .own [.sl .shr [.leaf], .leaf, .leaf]], [.ref [.lst 0 [], .int .i64 0, .int .u64 0]]⟩, none]⟩ sg_blii
def f130_s_l00Srcone.F (n : Nat) (v : Nat × List T × Int × Int × Int) := f130_s_l00Srcone n v.1 v.2.1 v.2.2.1 v.2.2.2.1 v.2.2.2.2
noncomputable def f130_s_l00Srcone.O (n : Nat) : Orc := orcOf (E := E) [f74_s_l00Srcpick.w] [] n
theorem f130_s_l00Srcone.ok : ∀ n v x, f130_s_l00Srcone.F n v = some x → evalFn E n 130 (flAs f130_s_l00Srcone.P (sg_liii.pk v)) = some (f130_s_l00Srcone.A.enc x) :=
  fn_pure (modes := (fdAt 130).ms) (outs := (fdAt 130).os) (results := (fdAt 130).rs) f130_s_l00Srcone.O (c := c130) (keep := keepAt 130) (by kernel_rfl) (fun n => orcOf_cf _ _ n) (fun n => lpOk_of (bs := []) (by kernel_rfl) .nil) (fun _ => rfl) (fun _ _ => by kernel_rfl)
noncomputable def f130_s_l00Srcone.w : FnW E := fnW 130 f130_s_l00Srcone.P sg_liii f130_s_l00Srcone.A f130_s_l00Srcone.F f130_s_l00Srcone.ok

def f65_s_l01DrawPlain : Nat → Nat → List T → Int → Int → Option (Nat × Nat × List T × Int × Int)
  | 0, _, _, _, _ => none
  | n + 1, n1, l2, i3, i4 =>
    bd (f74_s_l00Srcpick n n1 l2 i3 i4 (129 : Int)) fun r5 =>
    let i6 : Int := r5.1
    let n7 : Nat := r5.2.1
    let l8 : List T := r5.2.2.1
    let i9 : Int := r5.2.2.2.1
    let i10 : Int := r5.2.2.2.2
    let i11 : Int := (IntKind.i64.wrap (i6 - (64 : Int)))
    bd (f130_s_l00Srcone n n7 l8 i9 i10 (4 : Int)) fun r12 =>
    let b13 : Bool := r12.1
    let n14 : Nat := r12.2.1
    let l15 : List T := r12.2.2.1
    let i16 : Int := r12.2.2.2.1
    let i17 : Int := r12.2.2.2.2
    br b13 (
     some ((fdiv FloatKind.f32 (FloatKind.nearest FloatKind.f32 i11) 1088421888), n14, l15, i16, i17)) (
     some ((fdiv FloatKind.f32 (FloatKind.nearest FloatKind.f32 i11) 1098907648), n14, l15, i16, i17))
def sg_flii : Sig (Nat × Nat × List T × Int × Int) where
  pk := fun v => [.flt v.1, .lst v.2.1 v.2.2.1, .int v.2.2.2.1, .int v.2.2.2.2]
  up := fun ls => match ls with
    | [.flt a0, .lst a1 a2, .int a3, .int a4] => some (a0, a1, a2, a3, a4)
    | _ => none
  ok := by
    intro ls v h
    split at h
    · cases h; rfl
    · cases h

def f65_s_l01DrawPlain.P : List Arg := [⟨.iop, ⟨false, [.rf .own [.sl .shr [.leaf], .leaf, .leaf]], [.ref [.lst 0 [], .int .i64 0, .int .u64 0]]⟩⟩]
def f65_s_l01DrawPlain.A : RAlt (Nat × Nat × List T × Int × Int) := .one ⟨[⟨false, [.leaf], [.flt .f32 0]⟩], [some ⟨false, [.rf .own [.sl .shr [.leaf], .leaf, .leaf]], [.ref [.lst 0 [], .int .i64 0, .int .u64 0]]⟩]⟩ sg_flii
def f65_s_l01DrawPlain.F (n : Nat) (v : Nat × List T × Int × Int) := f65_s_l01DrawPlain n v.1 v.2.1 v.2.2.1 v.2.2.2
noncomputable def f65_s_l01DrawPlain.O (n : Nat) : Orc := orcOf (E := E) [f74_s_l00Srcpick.w, f130_s_l00Srcone.w] [] n
theorem f65_s_l01DrawPlain.ok : ∀ n v x, f65_s_l01DrawPlain.F n v = some x → evalFn E n 65 (flAs f65_s_l01DrawPlain.P (sg_lii.pk v)) = some (f65_s_l01DrawPlain.A.enc x) :=
  fn_pure (modes := (fdAt 65).ms) (outs := (fdAt 65).os) (results := (fdAt 65).rs) f65_s_l01DrawPlain.O (c := c65) (keep := keepAt 65) (by kernel_rfl) (fun n => orcOf_cf _ _ n) (fun n => lpOk_of (bs := []) (by kernel_rfl) .nil) (fun _ => rfl) (fun _ _ => by kernel_rfl)
noncomputable def f65_s_l01DrawPlain.w : FnW E := fnW 65 f65_s_l01DrawPlain.P sg_lii f65_s_l01DrawPlain.A f65_s_l01DrawPlain.F f65_s_l01DrawPlain.ok

def f13_s_R8Plain.l0 (n : Nat) : Nat → Int → Nat → List T → Int → Int → Nat → List T → Int → Option (Nat × List T)
  | 0, _, _, _, _, _, _, _, _ => none
  | m + 1, i1, n2, l3, i4, i5, n6, l7, i8 =>
    br (decide (i8 < i1)) (
     bd (f65_s_l01DrawPlain n n2 l3 i4 i5) fun r9 =>
     let x10 : Nat := r9.1
     let n11 : Nat := r9.2.1
     let l12 : List T := r9.2.2.1
     let i13 : Int := r9.2.2.2.1
     let i14 : Int := r9.2.2.2.2
     gd (Nat.ble (n6 + 1) 2147483648) (
     let n15 : Nat := (n6 + 1)
     let l16 : List T := (l7 ++ (setN (reps 1 [(T.flt FloatKind.f32 0)]) 0 [(T.flt FloatKind.f32 x10)]))
     f13_s_R8Plain.l0 n m i1 n11 l12 i13 i14 n15 l16 (IntKind.i64.wrap (i8 + (1 : Int))))) (
     some (n6, l7))
def f13_s_R8Plain : Nat → Nat → List T → Int → Option (Nat × List T)
  | 0, _, _, _ => none
  | n + 1, n1, l2, i3 =>
    bd (f64_s_l00From n n1 l2) fun r4 =>
    let n5 : Nat := r4.1
    let l6 : List T := r4.2.1
    let i7 : Int := r4.2.2.1
    let i8 : Int := r4.2.2.2
    bd (f13_s_R8Plain.l0 n n i3 n5 l6 i7 i8 0 (reps 0 [(T.flt FloatKind.f32 0)]) (0 : Int)) fun r9 =>
    let n10 : Nat := r9.1
    let l11 : List T := r9.2
    some (n10, l11)
def sg_li : Sig (Nat × List T × Int) where
  pk := fun v => [.lst v.1 v.2.1, .int v.2.2]
  up := fun ls => match ls with
    | [.lst a0 a1, .int a2] => some (a0, a1, a2)
    | _ => none
  ok := by
    intro ls v h
    split at h
    · cases h; rfl
    · cases h

def sg_iliili : Sig (Int × Nat × List T × Int × Int × Nat × List T × Int) where
  pk := fun v => [.int v.1, .lst v.2.1 v.2.2.1, .int v.2.2.2.1, .int v.2.2.2.2.1, .lst v.2.2.2.2.2.1 v.2.2.2.2.2.2.1, .int v.2.2.2.2.2.2.2]
  up := fun ls => match ls with
    | [.int a0, .lst a1 a2, .int a3, .int a4, .lst a5 a6, .int a7] => some (a0, a1, a2, a3, a4, a5, a6, a7)
    | _ => none
  ok := by
    intro ls v h
    split at h
    · cases h; rfl
    · cases h

def f13_s_R8Plain.l0.P : AS := ⟨[(1, .val false [.leaf] [.int .i64 0] [] 0), (5, .box [.sl .shr [.leaf], .leaf, .leaf] [.lst 0 [], .int .i64 0, .int .u64 0] [] 0), (6, .val false [.sl .own [.leaf]] [.lst 0 []] [] 0), (7, .val false [.leaf] [.int .i64 0] [] 0)], 0⟩
def f13_s_R8Plain.l0.A : Alt (Nat × List T) := .one (.exit 0) ⟨[(6, .val false [.sl .own [.leaf]] [.lst 0 []] [] 0)], 0⟩ sg_l
def f13_s_R8Plain.l0.F (n m : Nat) (v : Int × Nat × List T × Int × Int × Nat × List T × Int) := f13_s_R8Plain.l0 n m v.1 v.2.1 v.2.2.1 v.2.2.2.1 v.2.2.2.2.1 v.2.2.2.2.2.1 v.2.2.2.2.2.2.1 v.2.2.2.2.2.2.2
def f13_s_R8Plain.l0.W (n : Nat) : LpW := .of 64 f13_s_R8Plain.l0.P sg_iliili f13_s_R8Plain.l0.A (f13_s_R8Plain.l0.F n n)
def f13_s_R8Plain.P : List Arg := [⟨.val, ⟨false, [.sl .shr [.leaf]], [.lst 0 []]⟩⟩, ⟨.val, ⟨false, [.leaf], [.int .i64 0]⟩⟩]
def f13_s_R8Plain.A : RAlt (Nat × List T) := .one ⟨[⟨false, [.sl .own [.leaf]], [.lst 0 []]⟩], [none, none]⟩ sg_l
def f13_s_R8Plain.F (n : Nat) (v : Nat × List T × Int) := f13_s_R8Plain n v.1 v.2.1 v.2.2
noncomputable def f13_s_R8Plain.O (n : Nat) : Orc := orcOf (E := E) [f64_s_l00From.w, f65_s_l01DrawPlain.w] [f13_s_R8Plain.l0.W n] n
theorem f13_s_R8Plain.l0.ok (n : Nat) : LpOk (f13_s_R8Plain.O n) E (evalFn E n) n (keepAt 13) (.loop (loopAt c13 0)) :=
  lp_pure f13_s_R8Plain.l0.P sg_iliili f13_s_R8Plain.l0.A (f13_s_R8Plain.l0.F n) (orcOf_cf _ _ n) (lpOk_of (bs := []) (by kernel_rfl) .nil) (fun _ => rfl) (fun _ _ => by kernel_rfl) (fun _ _ _ => by kernel_rfl)
theorem f13_s_R8Plain.ok : ∀ n v x, f13_s_R8Plain.F n v = some x → evalFn E n 13 (flAs f13_s_R8Plain.P (sg_li.pk v)) = some (f13_s_R8Plain.A.enc x) :=
  fn_pure (modes := (fdAt 13).ms) (outs := (fdAt 13).os) (results := (fdAt 13).rs) f13_s_R8Plain.O (c := c13) (keep := keepAt 13) (by kernel_rfl) (fun n => orcOf_cf _ _ n) (fun n => lpOk_of (bs := [loopAt c13 0]) (by kernel_rfl) (.cons (f13_s_R8Plain.l0.ok n) .nil)) (fun _ => rfl) (fun _ _ => by kernel_rfl)
noncomputable def f13_s_R8Plain.w : FnW E := fnW 13 f13_s_R8Plain.P sg_li f13_s_R8Plain.A f13_s_R8Plain.F f13_s_R8Plain.ok

def f66_i_areSamples : Nat → Nat → List T → Option (Bool)
  | 0, _, _ => none
  | n + 1, n1, l2 =>
    some (decide (((n1 : Nat) : Int) ≤ (256 : Int)))
def f66_i_areSamples.P : List Arg := [⟨.val, ⟨false, [.sl .shr [.leaf]], [.lst 0 []]⟩⟩]
def f66_i_areSamples.A : RAlt (Bool) := .one ⟨[⟨false, [.leaf], [.bool false]⟩], [none]⟩ sg_b
def f66_i_areSamples.F (n : Nat) (v : Nat × List T) := f66_i_areSamples n v.1 v.2
noncomputable def f66_i_areSamples.O (n : Nat) : Orc := orcOf (E := E) [] [] n
theorem f66_i_areSamples.ok : ∀ n v x, f66_i_areSamples.F n v = some x → evalFn E n 66 (flAs f66_i_areSamples.P (sg_l.pk v)) = some (f66_i_areSamples.A.enc x) :=
  fn_pure (modes := (fdAt 66).ms) (outs := (fdAt 66).os) (results := (fdAt 66).rs) f66_i_areSamples.O (c := c66) (keep := keepAt 66) (by kernel_rfl) (fun n => orcOf_cf _ _ n) (fun n => lpOk_of (bs := []) (by kernel_rfl) .nil) (fun _ => rfl) (fun _ _ => by kernel_rfl)
noncomputable def f66_i_areSamples.w : FnW E := fnW 66 f66_i_areSamples.P sg_l f66_i_areSamples.A f66_i_areSamples.F f66_i_areSamples.ok

def f67_i_within : Nat → Int → Int → Int → Option (Bool)
  | 0, _, _, _ => none
  | n + 1, i1, i2, i3 =>
    br (decide (i2 ≤ i1)) (
     some (decide (i1 ≤ i3))) (
     some false)
def sg_iii : Sig (Int × Int × Int) where
  pk := fun v => [.int v.1, .int v.2.1, .int v.2.2]
  up := fun ls => match ls with
    | [.int a0, .int a1, .int a2] => some (a0, a1, a2)
    | _ => none
  ok := by
    intro ls v h
    split at h
    · cases h; rfl
    · cases h

def f67_i_within.P : List Arg := [⟨.val, ⟨false, [.leaf], [.int .i64 0]⟩⟩, ⟨.val, ⟨false, [.leaf], [.int .i64 0]⟩⟩, ⟨.val, ⟨false, [.leaf], [.int .i64 0]⟩⟩]
def f67_i_within.A : RAlt (Bool) := .one ⟨[⟨false, [.leaf], [.bool false]⟩], [none, none, none]⟩ sg_b
def f67_i_within.F (n : Nat) (v : Int × Int × Int) := f67_i_within n v.1 v.2.1 v.2.2
noncomputable def f67_i_within.O (n : Nat) : Orc := orcOf (E := E) [] [] n
theorem f67_i_within.ok : ∀ n v x, f67_i_within.F n v = some x → evalFn E n 67 (flAs f67_i_within.P (sg_iii.pk v)) = some (f67_i_within.A.enc x) :=
  fn_pure (modes := (fdAt 67).ms) (outs := (fdAt 67).os) (results := (fdAt 67).rs) f67_i_within.O (c := c67) (keep := keepAt 67) (by kernel_rfl) (fun n => orcOf_cf _ _ n) (fun n => lpOk_of (bs := []) (by kernel_rfl) .nil) (fun _ => rfl) (fun _ _ => by kernel_rfl)
noncomputable def f67_i_within.w : FnW E := fnW 67 f67_i_within.P sg_iii f67_i_within.A f67_i_within.F f67_i_within.ok

def f68_i_dot.l0 (n : Nat) : Nat → Nat → List T → Nat → List T → Nat → Int → Int → Option (Nat)
  | 0, _, _, _, _, _, _, _ => none
  | m + 1, n1, l2, n3, l4, x5, i6, i7 =>
    br (decide (i7 < i6)) (
     gd ((decide (((0 : Int) ≤ i7) ∧ (i7 < ((n1 : Nat) : Int)))) && (okAt [(CK.flt FloatKind.f32)] l2 (Int.toNat i7))) (
     gd ((decide (((0 : Int) ≤ i7) ∧ (i7 < ((n3 : Nat) : Int)))) && (okAt [(CK.flt FloatKind.f32)] l4 (Int.toNat i7))) (
     let x8 : Nat := (fadd FloatKind.f32 x5 (fmul FloatKind.f32 (fAt l2 (Int.toNat i7)) (fAt l4 (Int.toNat i7))))
     f68_i_dot.l0 n m n1 l2 n3 l4 x8 i6 (IntKind.i64.wrap (i7 + (1 : Int)))))) (
     some x5)
def f68_i_dot : Nat → Nat → List T → Nat → List T → Option (Nat)
  | 0, _, _, _, _ => none
  | n + 1, n1, l2, n3, l4 =>
    bd (f68_i_dot.l0 n n n1 l2 n3 l4 0 ((n1 : Nat) : Int) (0 : Int)) fun r5 =>
    let x6 : Nat := r5
    some x6
def sg_f : Sig (Nat) where
  pk := fun v => [.flt v]
  up := fun ls => match ls with
    | [.flt a0] => some a0
    | _ => none
  ok := by
    intro ls v h
    split at h
    · cases h; rfl
    · cases h

def sg_llfii : Sig (Nat × List T × Nat × List T × Nat × Int × Int) where
  pk := fun v => [.lst v.1 v.2.1, .lst v.2.2.1 v.2.2.2.1, .flt v.2.2.2.2.1, .int v.2.2.2.2.2.1, .int v.2.2.2.2.2.2]
  up := fun ls => match ls with
    | [.lst a0 a1, .lst a2 a3, .flt a4, .int a5, .int a6] => some (a0, a1, a2, a3, a4, a5, a6)
    | _ => none
  ok := by
    intro ls v h
    split at h
    · cases h; rfl
    · cases h

def f68_i_dot.l0.P : AS := ⟨[(0, .val false [.sl .shr [.leaf]] [.lst 0 []] [] 0), (1, .val false [.sl .shr [.leaf]] [.lst 0 []] [] 0), (5, .val false [.leaf] [.flt .f32 0] [] 0), (8, .val false [.leaf] [.int .i64 0] [] 0), (9, .val false [.leaf] [.int .i64 0] [] 0)], 0⟩
def f68_i_dot.l0.A : Alt (Nat) := .one (.exit 0) ⟨[(5, .val false [.leaf] [.flt .f32 0] [] 0)], 0⟩ sg_f
def f68_i_dot.l0.F (n m : Nat) (v : Nat × List T × Nat × List T × Nat × Int × Int) := f68_i_dot.l0 n m v.1 v.2.1 v.2.2.1 v.2.2.2.1 v.2.2.2.2.1 v.2.2.2.2.2.1 v.2.2.2.2.2.2
def f68_i_dot.l0.W (n : Nat) : LpW := .of 48 f68_i_dot.l0.P sg_llfii f68_i_dot.l0.A (f68_i_dot.l0.F n n)
def f68_i_dot.P : List Arg := [⟨.val, ⟨false, [.sl .shr [.leaf]], [.lst 0 []]⟩⟩, ⟨.val, ⟨false, [.sl .shr [.leaf]], [.lst 0 []]⟩⟩]
def f68_i_dot.A : RAlt (Nat) := .one ⟨[⟨false, [.leaf], [.flt .f32 0]⟩], [none, none]⟩ sg_f
def f68_i_dot.F (n : Nat) (v : Nat × List T × Nat × List T) := f68_i_dot n v.1 v.2.1 v.2.2.1 v.2.2.2
noncomputable def f68_i_dot.O (n : Nat) : Orc := orcOf (E := E) [] [f68_i_dot.l0.W n] n
theorem f68_i_dot.l0.ok (n : Nat) : LpOk (f68_i_dot.O n) E (evalFn E n) n (keepAt 68) (.loop (loopAt c68 0)) :=
  lp_pure f68_i_dot.l0.P sg_llfii f68_i_dot.l0.A (f68_i_dot.l0.F n) (orcOf_cf _ _ n) (lpOk_of (bs := []) (by kernel_rfl) .nil) (fun _ => rfl) (fun _ _ => by kernel_rfl) (fun _ _ _ => by kernel_rfl)
theorem f68_i_dot.ok : ∀ n v x, f68_i_dot.F n v = some x → evalFn E n 68 (flAs f68_i_dot.P (sg_ll.pk v)) = some (f68_i_dot.A.enc x) :=
  fn_pure (modes := (fdAt 68).ms) (outs := (fdAt 68).os) (results := (fdAt 68).rs) f68_i_dot.O (c := c68) (keep := keepAt 68) (by kernel_rfl) (fun n => orcOf_cf _ _ n) (fun n => lpOk_of (bs := [loopAt c68 0]) (by kernel_rfl) (.cons (f68_i_dot.l0.ok n) .nil)) (fun _ => rfl) (fun _ _ => by kernel_rfl)
noncomputable def f68_i_dot.w : FnW E := fnW 68 f68_i_dot.P sg_ll f68_i_dot.A f68_i_dot.F f68_i_dot.ok

def f15_i_WindowPowers.l0 (n : Nat) : Nat → Nat → List T → Int → Int → Nat → List T → Int → Option (Nat × List T)
  | 0, _, _, _, _, _, _, _ => none
  | m + 1, n1, l2, i3, i4, n5, l6, i7 =>
    br (decide ((IntKind.i64.wrap (i7 + i3)) ≤ ((n1 : Nat) : Int))) (
     gd (decide (((0 : Int) ≤ i7) ∧ ((i7 ≤ (IntKind.i64.wrap (i7 + i3))) ∧ ((IntKind.i64.wrap (i7 + i3)) ≤ ((n1 : Nat) : Int))))) (
     let n8 : Nat := ((Int.toNat (IntKind.i64.wrap (i7 + i3))) - (Int.toNat i7))
     let l9 : List T := (List.take ((Int.toNat (IntKind.i64.wrap (i7 + i3))) - (Int.toNat i7)) (List.drop (Int.toNat i7) l2))
     bd (f68_i_dot n n8 l9 n8 l9) fun r10 =>
     let x11 : Nat := r10
     gd (Nat.ble (n5 + 1) 2147483648) (
     let n12 : Nat := (n5 + 1)
     let l13 : List T := (l6 ++ (setN (reps 1 [(T.flt FloatKind.f32 0)]) 0 [(T.flt FloatKind.f32 (fdiv FloatKind.f32 x11 (FloatKind.nearest FloatKind.f32 i3)))]))
     f15_i_WindowPowers.l0 n m n1 l2 i3 i4 n12 l13 (IntKind.i64.wrap (i7 + i4))))) (
     some (n5, l6))
def f15_i_WindowPowers : Nat → Nat → List T → Int → Int → Option (Nat × List T × Bool)
  | 0, _, _, _, _ => none
  | n + 1, n1, l2, i3, i4 =>
    bd (f66_i_areSamples n n1 l2) fun r5 =>
    let b6 : Bool := r5
    br (!b6) (
     some (0, [], false)) (
     bd (f67_i_within n i3 (1 : Int) (256 : Int)) fun r7 =>
     let b8 : Bool := r7
     br (!b8) (
      some (0, [], false)) (
      bd (f67_i_within n i4 (1 : Int) (256 : Int)) fun r9 =>
      let b10 : Bool := r9
      br (!b10) (
       some (0, [], false)) (
       bd (f15_i_WindowPowers.l0 n n n1 l2 i3 i4 0 [] (0 : Int)) fun r11 =>
       let n12 : Nat := r11.1
       let l13 : List T := r11.2
       some (n12, l13, true))))
def sg_lb : Sig (Nat × List T × Bool) where
  pk := fun v => [.lst v.1 v.2.1, .bool v.2.2]
  up := fun ls => match ls with
    | [.lst a0 a1, .bool a2] => some (a0, a1, a2)
    | _ => none
  ok := by
    intro ls v h
    split at h
    · cases h; rfl
    · cases h

def sg_liili : Sig (Nat × List T × Int × Int × Nat × List T × Int) where
  pk := fun v => [.lst v.1 v.2.1, .int v.2.2.1, .int v.2.2.2.1, .lst v.2.2.2.2.1 v.2.2.2.2.2.1, .int v.2.2.2.2.2.2]
  up := fun ls => match ls with
    | [.lst a0 a1, .int a2, .int a3, .lst a4 a5, .int a6] => some (a0, a1, a2, a3, a4, a5, a6)
    | _ => none
  ok := by
    intro ls v h
    split at h
    · cases h; rfl
    · cases h

def f15_i_WindowPowers.l0.P : AS := ⟨[(0, .val false [.sl .shr [.leaf]] [.lst 0 []] [] 0), (1, .val false [.leaf] [.int .i64 0] [] 0), (2, .val false [.leaf] [.int .i64 0] [] 0), (8, .val false [.sl .own [.leaf]] [.lst 0 []] [] 0), (9, .val false [.leaf] [.int .i64 0] [] 0)], 0⟩
def f15_i_WindowPowers.l0.A : Alt (Nat × List T) := .one (.exit 0) ⟨[(8, .val false [.sl .own [.leaf]] [.lst 0 []] [] 0)], 0⟩ sg_l
def f15_i_WindowPowers.l0.F (n m : Nat) (v : Nat × List T × Int × Int × Nat × List T × Int) := f15_i_WindowPowers.l0 n m v.1 v.2.1 v.2.2.1 v.2.2.2.1 v.2.2.2.2.1 v.2.2.2.2.2.1 v.2.2.2.2.2.2
def f15_i_WindowPowers.l0.W (n : Nat) : LpW := .of 80 f15_i_WindowPowers.l0.P sg_liili f15_i_WindowPowers.l0.A (f15_i_WindowPowers.l0.F n n)
def f15_i_WindowPowers.P : List Arg := [⟨.val, ⟨false, [.sl .shr [.leaf]], [.lst 0 []]⟩⟩, ⟨.val, ⟨false, [.leaf], [.int .i64 0]⟩⟩, ⟨.val, ⟨false, [.leaf], [.int .i64 0]⟩⟩]
def f15_i_WindowPowers.A : RAlt (Nat × List T × Bool) := .one ⟨[⟨false, [.sl .own [.leaf]], [.lst 0 []]⟩, ⟨false, [.leaf], [.bool false]⟩], [none, none, none]⟩ sg_lb
def f15_i_WindowPowers.F (n : Nat) (v : Nat × List T × Int × Int) := f15_i_WindowPowers n v.1 v.2.1 v.2.2.1 v.2.2.2
noncomputable def f15_i_WindowPowers.O (n : Nat) : Orc := orcOf (E := E) [f66_i_areSamples.w, f67_i_within.w, f68_i_dot.w] [f15_i_WindowPowers.l0.W n] n
theorem f15_i_WindowPowers.l0.ok (n : Nat) : LpOk (f15_i_WindowPowers.O n) E (evalFn E n) n (keepAt 15) (.loop (loopAt c15 0)) :=
  lp_pure f15_i_WindowPowers.l0.P sg_liili f15_i_WindowPowers.l0.A (f15_i_WindowPowers.l0.F n) (orcOf_cf _ _ n) (lpOk_of (bs := []) (by kernel_rfl) .nil) (fun _ => rfl) (fun _ _ => by kernel_rfl) (fun _ _ _ => by kernel_rfl)
theorem f15_i_WindowPowers.ok : ∀ n v x, f15_i_WindowPowers.F n v = some x → evalFn E n 15 (flAs f15_i_WindowPowers.P (sg_lii.pk v)) = some (f15_i_WindowPowers.A.enc x) :=
  fn_pure (modes := (fdAt 15).ms) (outs := (fdAt 15).os) (results := (fdAt 15).rs) f15_i_WindowPowers.O (c := c15) (keep := keepAt 15) (by kernel_rfl) (fun n => orcOf_cf _ _ n) (fun n => lpOk_of (bs := [loopAt c15 0]) (by kernel_rfl) (.cons (f15_i_WindowPowers.l0.ok n) .nil)) (fun _ => rfl) (fun _ _ => by kernel_rfl)
noncomputable def f15_i_WindowPowers.w : FnW E := fnW 15 f15_i_WindowPowers.P sg_lii f15_i_WindowPowers.A f15_i_WindowPowers.F f15_i_WindowPowers.ok

def f69_i_atLeast.l0 (n : Nat) : Nat → Nat → List T → Nat → Nat → List T → Nat → List T → Int → Int → Option (Nat × List T)
  | 0, _, _, _, _, _, _, _, _, _ => none
  | m + 1, n1, l2, x3, n4, l5, n6, l7, i8, i9 =>
    br (decide (i9 < i8)) (
     gd ((decide (((0 : Int) ≤ i9) ∧ (i9 < ((n6 : Nat) : Int)))) && (okAt [(CK.flt FloatKind.f32)] l7 (Int.toNat i9))) (
     let x10 : Nat := (fAt l7 (Int.toNat i9))
     br (fge FloatKind.f32 x10 x3) (
      gd (Nat.ble (n4 + 1) 2147483648) (
      let n11 : Nat := (n4 + 1)
      let l12 : List T := (l5 ++ (setN (reps 1 [(T.flt FloatKind.f32 0)]) 0 [(T.flt FloatKind.f32 x10)]))
      f69_i_atLeast.l0 n m n1 l2 x3 n11 l12 n6 l7 i8 (IntKind.i64.wrap (i9 + (1 : Int))))) (
      f69_i_atLeast.l0 n m n1 l2 x3 n4 l5 n6 l7 i8 (IntKind.i64.wrap (i9 + (1 : Int)))))) (
     some (n4, l5))
def f131_i_sumOf.l0 (n : Nat) : Nat → Nat → List T → Nat → Nat → List T → Int → Int → Option (Nat)
  | 0, _, _, _, _, _, _, _ => none
  | m + 1, n1, l2, x3, n4, l5, i6, i7 =>
    br (decide (i7 < i6)) (
     gd ((decide (((0 : Int) ≤ i7) ∧ (i7 < ((n4 : Nat) : Int)))) && (okAt [(CK.flt FloatKind.f32)] l5 (Int.toNat i7))) (
     let x8 : Nat := (fAt l5 (Int.toNat i7))
     let x9 : Nat := (fadd FloatKind.f32 x3 x8)
     f131_i_sumOf.l0 n m n1 l2 x9 n4 l5 i6 (IntKind.i64.wrap (i7 + (1 : Int))))) (
     some x3)
def f131_i_sumOf : Nat → Nat → List T → Option (Nat)
  | 0, _, _ => none
  | n + 1, n1, l2 =>
    bd (f131_i_sumOf.l0 n n n1 l2 0 n1 l2 ((n1 : Nat) : Int) (0 : Int)) fun r3 =>
    let x4 : Nat := r3
    some x4
def sg_lflii : Sig (Nat × List T × Nat × Nat × List T × Int × Int) where
  pk := fun v => [.lst v.1 v.2.1, .flt v.2.2.1, .lst v.2.2.2.1 v.2.2.2.2.1, .int v.2.2.2.2.2.1, .int v.2.2.2.2.2.2]
  up := fun ls => match ls with
    | [.lst a0 a1, .flt a2, .lst a3 a4, .int a5, .int a6] => some (a0, a1, a2, a3, a4, a5, a6)
    | _ => none
  ok := by
    intro ls v h
    split at h
    · cases h; rfl
    · cases h

def f131_i_sumOf.l0.P : AS := ⟨[(0, .val false [.sl .shr [.leaf]] [.lst 0 []] [] 0), (3, .val false [.leaf] [.flt .f32 0] [] 0), (6, .val false [.sl .shr [.leaf]] [.lst 0 []] [] 0), (7, .val false [.leaf] [.int .i64 0] [] 0), (8, .val false [.leaf] [.int .i64 0] [] 0)], 0⟩
def f131_i_sumOf.l0.A : Alt (Nat) := .one (.exit 0) ⟨[(3, .val false [.leaf] [.flt .f32 0] [] 0)], 0⟩ sg_f
def f131_i_sumOf.l0.F (n m : Nat) (v : Nat × List T × Nat × Nat × List T × Int × Int) := f131_i_sumOf.l0 n m v.1 v.2.1 v.2.2.1 v.2.2.2.1 v.2.2.2.2.1 v.2.2.2.2.2.1 v.2.2.2.2.2.2
def f131_i_sumOf.l0.W (n : Nat) : LpW := .of 48 f131_i_sumOf.l0.P sg_lflii f131_i_sumOf.l0.A (f131_i_sumOf.l0.F n n)
def f131_i_sumOf.P : List Arg := [⟨.val, ⟨false, [.sl .shr [.leaf]], [.lst 0 []]⟩⟩]
def f131_i_sumOf.A : RAlt (Nat) := .one ⟨[⟨false, [.leaf], [.flt .f32 0]⟩], [none]⟩ sg_f
def f131_i_sumOf.F (n : Nat) (v : Nat × List T) := f131_i_sumOf n v.1 v.2
noncomputable def f131_i_sumOf.O (n : Nat) : Orc := orcOf (E := E) [] [f131_i_sumOf.l0.W n] n
theorem f131_i_sumOf.l0.ok (n : Nat) : LpOk (f131_i_sumOf.O n) E (evalFn E n) n (keepAt 131) (.loop (loopAt c131 0)) :=
  lp_pure f131_i_sumOf.l0.P sg_lflii f131_i_sumOf.l0.A (f131_i_sumOf.l0.F n) (orcOf_cf _ _ n) (lpOk_of (bs := []) (by kernel_rfl) .nil) (fun _ => rfl) (fun _ _ => by kernel_rfl) (fun _ _ _ => by kernel_rfl)
theorem f131_i_sumOf.ok : ∀ n v x, f131_i_sumOf.F n v = some x → evalFn E n 131 (flAs f131_i_sumOf.P (sg_l.pk v)) = some (f131_i_sumOf.A.enc x) :=
  fn_pure (modes := (fdAt 131).ms) (outs := (fdAt 131).os) (results := (fdAt 131).rs) f131_i_sumOf.O (c := c131) (keep := keepAt 131) (by kernel_rfl) (fun n => orcOf_cf _ _ n) (fun n => lpOk_of (bs := [loopAt c131 0]) (by kernel_rfl) (.cons (f131_i_sumOf.l0.ok n) .nil)) (fun _ => rfl) (fun _ _ => by kernel_rfl)
noncomputable def f131_i_sumOf.w : FnW E := fnW 131 f131_i_sumOf.P sg_l f131_i_sumOf.A f131_i_sumOf.F f131_i_sumOf.ok

def f69_i_atLeast : Nat → Nat → List T → Nat → Option (Nat × List T × Nat)
  | 0, _, _, _ => none
  | n + 1, n1, l2, x3 =>
    bd (f69_i_atLeast.l0 n n n1 l2 x3 0 [] n1 l2 ((n1 : Nat) : Int) (0 : Int)) fun r4 =>
    let n5 : Nat := r4.1
    let l6 : List T := r4.2
    bd (f131_i_sumOf n n5 l6) fun r7 =>
    let x8 : Nat := r7
    some (n5, l6, (fdiv FloatKind.f32 x8 (FloatKind.nearest FloatKind.f32 ((n5 : Nat) : Int))))
def sg_lf : Sig (Nat × List T × Nat) where
  pk := fun v => [.lst v.1 v.2.1, .flt v.2.2]
  up := fun ls => match ls with
    | [.lst a0 a1, .flt a2] => some (a0, a1, a2)
    | _ => none
  ok := by
    intro ls v h
    split at h
    · cases h; rfl
    · cases h

def sg_lfllii : Sig (Nat × List T × Nat × Nat × List T × Nat × List T × Int × Int) where
  pk := fun v => [.lst v.1 v.2.1, .flt v.2.2.1, .lst v.2.2.2.1 v.2.2.2.2.1, .lst v.2.2.2.2.2.1 v.2.2.2.2.2.2.1, .int v.2.2.2.2.2.2.2.1, .int v.2.2.2.2.2.2.2.2]
  up := fun ls => match ls with
    | [.lst a0 a1, .flt a2, .lst a3 a4, .lst a5 a6, .int a7, .int a8] => some (a0, a1, a2, a3, a4, a5, a6, a7, a8)
    | _ => none
  ok := by
    intro ls v h
    split at h
    · cases h; rfl
    · cases h

def f69_i_atLeast.l0.P : AS := ⟨[(0, .val false [.sl .shr [.leaf]] [.lst 0 []] [] 0), (1, .val false [.leaf] [.flt .f32 0] [] 0), (6, .val false [.sl .own [.leaf]] [.lst 0 []] [] 0), (9, .val false [.sl .shr [.leaf]] [.lst 0 []] [] 0), (10, .val false [.leaf] [.int .i64 0] [] 0), (11, .val false [.leaf] [.int .i64 0] [] 0)], 0⟩
def f69_i_atLeast.l0.A : Alt (Nat × List T) := .one (.exit 0) ⟨[(6, .val false [.sl .own [.leaf]] [.lst 0 []] [] 0)], 0⟩ sg_l
def f69_i_atLeast.l0.F (n m : Nat) (v : Nat × List T × Nat × Nat × List T × Nat × List T × Int × Int) := f69_i_atLeast.l0 n m v.1 v.2.1 v.2.2.1 v.2.2.2.1 v.2.2.2.2.1 v.2.2.2.2.2.1 v.2.2.2.2.2.2.1 v.2.2.2.2.2.2.2.1 v.2.2.2.2.2.2.2.2
def f69_i_atLeast.l0.W (n : Nat) : LpW := .of 48 f69_i_atLeast.l0.P sg_lfllii f69_i_atLeast.l0.A (f69_i_atLeast.l0.F n n)
def f69_i_atLeast.P : List Arg := [⟨.val, ⟨false, [.sl .shr [.leaf]], [.lst 0 []]⟩⟩, ⟨.val, ⟨false, [.leaf], [.flt .f32 0]⟩⟩]
def f69_i_atLeast.A : RAlt (Nat × List T × Nat) := .one ⟨[⟨false, [.sl .own [.leaf]], [.lst 0 []]⟩, ⟨false, [.leaf], [.flt .f32 0]⟩], [none, none]⟩ sg_lf
def f69_i_atLeast.F (n : Nat) (v : Nat × List T × Nat) := f69_i_atLeast n v.1 v.2.1 v.2.2
noncomputable def f69_i_atLeast.O (n : Nat) : Orc := orcOf (E := E) [f131_i_sumOf.w] [f69_i_atLeast.l0.W n] n
theorem f69_i_atLeast.l0.ok (n : Nat) : LpOk (f69_i_atLeast.O n) E (evalFn E n) n (keepAt 69) (.loop (loopAt c69 0)) :=
  lp_pure f69_i_atLeast.l0.P sg_lfllii f69_i_atLeast.l0.A (f69_i_atLeast.l0.F n) (orcOf_cf _ _ n) (lpOk_of (bs := []) (by kernel_rfl) .nil) (fun _ => rfl) (fun _ _ => by kernel_rfl) (fun _ _ _ => by kernel_rfl)
theorem f69_i_atLeast.ok : ∀ n v x, f69_i_atLeast.F n v = some x → evalFn E n 69 (flAs f69_i_atLeast.P (sg_lf.pk v)) = some (f69_i_atLeast.A.enc x) :=
  fn_pure (modes := (fdAt 69).ms) (outs := (fdAt 69).os) (results := (fdAt 69).rs) f69_i_atLeast.O (c := c69) (keep := keepAt 69) (by kernel_rfl) (fun n => orcOf_cf _ _ n) (fun n => lpOk_of (bs := [loopAt c69 0]) (by kernel_rfl) (.cons (f69_i_atLeast.l0.ok n) .nil)) (fun _ => rfl) (fun _ _ => by kernel_rfl)
noncomputable def f69_i_atLeast.w : FnW E := fnW 69 f69_i_atLeast.P sg_lf f69_i_atLeast.A f69_i_atLeast.F f69_i_atLeast.ok

def f16_i_LoudnessOf : Nat → Nat → List T → Int → Int → Nat → Option (Nat × Bool)
  | 0, _, _, _, _, _ => none
  | n + 1, n1, l2, i3, i4, x5 =>
    bd (f15_i_WindowPowers n n1 l2 i3 i4) fun r6 =>
    let n7 : Nat := r6.1
    let l8 : List T := r6.2.1
    let b9 : Bool := r6.2.2
    br (!b9) (
     some (0, false)) (
     bd (f69_i_atLeast n n7 l8 x5) fun r10 =>
     let n11 : Nat := r10.1
     let l12 : List T := r10.2.1
     let x13 : Nat := r10.2.2
     br (((n11 : Nat) : Int) == (0 : Int)) (
      some (0, false)) (
      bd (f69_i_atLeast n n11 l12 (fmul FloatKind.f32 1036831949 x13)) fun r14 =>
      let n15 : Nat := r14.1
      let l16 : List T := r14.2.1
      let x17 : Nat := r14.2.2
      br (((n15 : Nat) : Int) == (0 : Int)) (
       some (0, false)) (
       some (x17, true))))
def sg_liif : Sig (Nat × List T × Int × Int × Nat) where
  pk := fun v => [.lst v.1 v.2.1, .int v.2.2.1, .int v.2.2.2.1, .flt v.2.2.2.2]
  up := fun ls => match ls with
    | [.lst a0 a1, .int a2, .int a3, .flt a4] => some (a0, a1, a2, a3, a4)
    | _ => none
  ok := by
    intro ls v h
    split at h
    · cases h; rfl
    · cases h

def sg_fb : Sig (Nat × Bool) where
  pk := fun v => [.flt v.1, .bool v.2]
  up := fun ls => match ls with
    | [.flt a0, .bool a1] => some (a0, a1)
    | _ => none
  ok := by
    intro ls v h
    split at h
    · cases h; rfl
    · cases h

def f16_i_LoudnessOf.P : List Arg := [⟨.val, ⟨false, [.sl .shr [.leaf]], [.lst 0 []]⟩⟩, ⟨.val, ⟨false, [.leaf], [.int .i64 0]⟩⟩, ⟨.val, ⟨false, [.leaf], [.int .i64 0]⟩⟩, ⟨.val, ⟨false, [.leaf], [.flt .f32 0]⟩⟩]
def f16_i_LoudnessOf.A : RAlt (Nat × Bool) := .one ⟨[⟨false, [.leaf], [.flt .f32 0]⟩, ⟨false, [.leaf], [.bool false]⟩], [none, none, none, none]⟩ sg_fb
def f16_i_LoudnessOf.F (n : Nat) (v : Nat × List T × Int × Int × Nat) := f16_i_LoudnessOf n v.1 v.2.1 v.2.2.1 v.2.2.2.1 v.2.2.2.2
noncomputable def f16_i_LoudnessOf.O (n : Nat) : Orc := orcOf (E := E) [f15_i_WindowPowers.w, f69_i_atLeast.w] [] n
theorem f16_i_LoudnessOf.ok : ∀ n v x, f16_i_LoudnessOf.F n v = some x → evalFn E n 16 (flAs f16_i_LoudnessOf.P (sg_liif.pk v)) = some (f16_i_LoudnessOf.A.enc x) :=
  fn_pure (modes := (fdAt 16).ms) (outs := (fdAt 16).os) (results := (fdAt 16).rs) f16_i_LoudnessOf.O (c := c16) (keep := keepAt 16) (by kernel_rfl) (fun n => orcOf_cf _ _ n) (fun n => lpOk_of (bs := []) (by kernel_rfl) .nil) (fun _ => rfl) (fun _ _ => by kernel_rfl)
noncomputable def f16_i_LoudnessOf.w : FnW E := fnW 16 f16_i_LoudnessOf.P sg_liif f16_i_LoudnessOf.A f16_i_LoudnessOf.F f16_i_LoudnessOf.ok

def f3_l_FnLoudness.l0 (n : Nat) : Nat → Nat → List T → Int → Int → Nat → List T → Bool → Nat → Bool → Nat → List T → Int → Option (Nat × List T × Int × Int × Nat × List T × Bool × Nat × Bool × Nat × List T)
  | 0, _, _, _, _, _, _, _, _, _, _, _, _ => none
  | m + 1, n1, l2, i3, i4, n5, l6, b7, x8, b9, n10, l11, i12 =>
    br (decide (i12 < ((n1 : Nat) : Int))) (
     gd (decide (((0 : Int) ≤ i12) ∧ (i12 < ((n1 : Nat) : Int)))) (
     gd (okAt [(CK.flt FloatKind.f32)] l2 (Int.toNat i12)) (
     gd (Nat.ble (n10 + 1) 2147483648) (
     let n13 : Nat := (n10 + 1)
     let l14 : List T := (l11 ++ (setN (reps 1 [(T.flt FloatKind.f32 0)]) 0 [(T.flt FloatKind.f32 (fmul FloatKind.f32 1073741824 (fAt l2 (Int.toNat i12))))]))
     f3_l_FnLoudness.l0 n m n1 l2 i3 i4 n5 l6 b7 x8 b9 n13 l14 (IntKind.i64.wrap (i12 + (1 : Int))))))) (
     some (n1, l2, i3, i4, n5, l6, b7, x8, b9, n10, l11))
termination_by structural x => x
def f17_i_DotNumbers : Nat → Nat → List T → Nat → List T → Option (Nat × Bool)
  | 0, _, _, _, _ => none
  | n + 1, n1, l2, n3, l4 =>
    bd (f66_i_areSamples n n1 l2) fun r5 =>
    let b6 : Bool := r5
    br (!b6) (
     some (0, false)) (
     br (((n1 : Nat) : Int) != ((n3 : Nat) : Int)) (
      some (0, false)) (
      bd (f68_i_dot n n1 l2 n3 l4) fun r7 =>
      let x8 : Nat := r7
      some (x8, true)))
def f17_i_DotNumbers.P : List Arg := [⟨.val, ⟨false, [.sl .shr [.leaf]], [.lst 0 []]⟩⟩, ⟨.val, ⟨false, [.sl .shr [.leaf]], [.lst 0 []]⟩⟩]
def f17_i_DotNumbers.A : RAlt (Nat × Bool) := .one ⟨[⟨false, [.leaf], [.flt .f32 0]⟩, ⟨false, [.leaf], [.bool false]⟩], [none, none]⟩ sg_fb
def f17_i_DotNumbers.F (n : Nat) (v : Nat × List T × Nat × List T) := f17_i_DotNumbers n v.1 v.2.1 v.2.2.1 v.2.2.2
noncomputable def f17_i_DotNumbers.O (n : Nat) : Orc := orcOf (E := E) [f66_i_areSamples.w, f68_i_dot.w] [] n
theorem f17_i_DotNumbers.ok : ∀ n v x, f17_i_DotNumbers.F n v = some x → evalFn E n 17 (flAs f17_i_DotNumbers.P (sg_ll.pk v)) = some (f17_i_DotNumbers.A.enc x) :=
  fn_pure (modes := (fdAt 17).ms) (outs := (fdAt 17).os) (results := (fdAt 17).rs) f17_i_DotNumbers.O (c := c17) (keep := keepAt 17) (by kernel_rfl) (fun n => orcOf_cf _ _ n) (fun n => lpOk_of (bs := []) (by kernel_rfl) .nil) (fun _ => rfl) (fun _ _ => by kernel_rfl)
noncomputable def f17_i_DotNumbers.w : FnW E := fnW 17 f17_i_DotNumbers.P sg_ll f17_i_DotNumbers.A f17_i_DotNumbers.F f17_i_DotNumbers.ok

def f18_i_SameNumber : Nat → Nat → Nat → Option (Bool)
  | 0, _, _ => none
  | n + 1, x1, x2 =>
    br (fne FloatKind.f32 x1 x1) (
     br (fne FloatKind.f32 x1 x1) (
      some (fne FloatKind.f32 x2 x2)) (
      some false)) (
     br (fne FloatKind.f32 x2 x2) (
      br (fne FloatKind.f32 x1 x1) (
       some (fne FloatKind.f32 x2 x2)) (
       some false)) (
      bd (xF32bits n x1) fun r3 =>
      let i4 : Int := r3
      bd (xF32bits n x2) fun r5 =>
      let i6 : Int := r5
      some (i4 == i6)))
def sg_ff : Sig (Nat × Nat) where
  pk := fun v => [.flt v.1, .flt v.2]
  up := fun ls => match ls with
    | [.flt a0, .flt a1] => some (a0, a1)
    | _ => none
  ok := by
    intro ls v h
    split at h
    · cases h; rfl
    · cases h

def f18_i_SameNumber.P : List Arg := [⟨.val, ⟨false, [.leaf], [.flt .f32 0]⟩⟩, ⟨.val, ⟨false, [.leaf], [.flt .f32 0]⟩⟩]
def f18_i_SameNumber.A : RAlt (Bool) := .one ⟨[⟨false, [.leaf], [.bool false]⟩], [none, none]⟩ sg_b
def f18_i_SameNumber.F (n : Nat) (v : Nat × Nat) := f18_i_SameNumber n v.1 v.2
noncomputable def f18_i_SameNumber.O (n : Nat) : Orc := orcOf (E := E) [x70.w] [] n
theorem f18_i_SameNumber.ok : ∀ n v x, f18_i_SameNumber.F n v = some x → evalFn E n 18 (flAs f18_i_SameNumber.P (sg_ff.pk v)) = some (f18_i_SameNumber.A.enc x) :=
  fn_pure (modes := (fdAt 18).ms) (outs := (fdAt 18).os) (results := (fdAt 18).rs) f18_i_SameNumber.O (c := c18) (keep := keepAt 18) (by kernel_rfl) (fun n => orcOf_cf _ _ n) (fun n => lpOk_of (bs := []) (by kernel_rfl) .nil) (fun _ => rfl) (fun _ _ => by kernel_rfl)
noncomputable def f18_i_SameNumber.w : FnW E := fnW 18 f18_i_SameNumber.P sg_ff f18_i_SameNumber.A f18_i_SameNumber.F f18_i_SameNumber.ok

def f3_l_FnLoudness.l1 (n : Nat) : Nat → Nat → List T → Int → Int → Nat → List T → Nat → Nat → Nat → Nat → Int → Option ((Bool) ⊕ (Nat × Nat × Nat × Nat))
  | 0, _, _, _, _, _, _, _, _, _, _, _ => none
  | m + 1, n1, l2, i3, i4, n5, l6, x7, x8, x9, x10, i11 =>
    br (decide (i11 < ((n5 : Nat) : Int))) (
     let i12 : Int := (IntKind.i64.wrap (i11 * i4))
     gd (decide (((0 : Int) ≤ i12) ∧ ((i12 ≤ (IntKind.i64.wrap (i12 + i3))) ∧ ((IntKind.i64.wrap (i12 + i3)) ≤ ((n1 : Nat) : Int))))) (
     gd (decide (((0 : Int) ≤ i12) ∧ ((i12 ≤ (IntKind.i64.wrap (i12 + i3))) ∧ ((IntKind.i64.wrap (i12 + i3)) ≤ ((n1 : Nat) : Int))))) (
     bd (f17_i_DotNumbers n ((Int.toNat (IntKind.i64.wrap (i12 + i3))) - (Int.toNat i12)) (List.take ((Int.toNat (IntKind.i64.wrap (i12 + i3))) - (Int.toNat i12)) (List.drop (Int.toNat i12) l2)) ((Int.toNat (IntKind.i64.wrap (i12 + i3))) - (Int.toNat i12)) (List.take ((Int.toNat (IntKind.i64.wrap (i12 + i3))) - (Int.toNat i12)) (List.drop (Int.toNat i12) l2))) fun r13 =>
     let x14 : Nat := r13.1
     let b15 : Bool := r13.2
     br (!b15) (
      some (Sum.inl false)) (
      gd (decide (((0 : Int) ≤ i11) ∧ (i11 < ((n5 : Nat) : Int)))) (
      gd (okAt [(CK.flt FloatKind.f32)] l6 (Int.toNat i11)) (
      bd (f18_i_SameNumber n (fAt l6 (Int.toNat i11)) (fdiv FloatKind.f32 x14 (FloatKind.nearest FloatKind.f32 i3))) fun r16 =>
      let b17 : Bool := r16
      br (!b17) (
       some (Sum.inl false)) (
       gd (decide (((0 : Int) ≤ i11) ∧ (i11 < ((n5 : Nat) : Int)))) (
       gd (okAt [(CK.flt FloatKind.f32)] l6 (Int.toNat i11)) (
       let x18 : Nat := (fmx false FloatKind.f32 x9 (fAt l6 (Int.toNat i11)))
       gd (decide (((0 : Int) ≤ i11) ∧ (i11 < ((n5 : Nat) : Int)))) (
       gd (okAt [(CK.flt FloatKind.f32)] l6 (Int.toNat i11)) (
       let x19 : Nat := (fmx true FloatKind.f32 x10 (fAt l6 (Int.toNat i11)))
       f3_l_FnLoudness.l1 n m n1 l2 i3 i4 n5 l6 x7 x8 x18 x19 (IntKind.i64.wrap (i11 + (1 : Int)))))))))))))) (
     some (Sum.inr (x7, x8, x9, x10)))
def f3_l_FnLoudness : Nat → Nat → List T → Nat → List T → Option (Bool)
  | 0, _, _, _, _ => none
  | n + 1, n1, l2, n3, l4 =>
    bd (f12_l_r8Long n n1 l2 n3 l4) fun r5 =>
    let b6 : Bool := r5
    br b6 (
     some true) (
     bd (f14_l_r8At n n1 l2 (40 : Int) (14 : Int)) fun r7 =>
     let i8 : Int := r7
     bd (f13_s_R8Plain n n3 l4 (IntKind.i64.wrap ((1 : Int) + i8))) fun r9 =>
     let n10 : Nat := r9.1
     let l11 : List T := r9.2
     bd (f14_l_r8At n n1 l2 (41 : Int) (4 : Int)) fun r12 =>
     let i13 : Int := r12
     let i14 : Int := (IntKind.i64.wrap ((1 : Int) + i13))
     bd (f14_l_r8At n n1 l2 (42 : Int) (3 : Int)) fun r15 =>
     let i16 : Int := r15
     let i17 : Int := (IntKind.i64.wrap ((1 : Int) + i16))
     bd (f15_i_WindowPowers n n10 l11 i14 i17) fun r18 =>
     let n19 : Nat := r18.1
     let l20 : List T := r18.2.1
     let b21 : Bool := r18.2.2
     bd (f16_i_LoudnessOf n n10 l11 i14 i17 0) fun r22 =>
     let x23 : Nat := r22.1
     let b24 : Bool := r22.2
     bd (f3_l_FnLoudness.l0 n n n10 l11 i14 i17 n19 l20 b21 x23 b24 0 (reps 0 [(T.flt FloatKind.f32 0)]) (0 : Int)) fun r25 =>
     let n26 : Nat := r25.1
     let l27 : List T := r25.2.1
     let i28 : Int := r25.2.2.1
     let i29 : Int := r25.2.2.2.1
     let n30 : Nat := r25.2.2.2.2.1
     let l31 : List T := r25.2.2.2.2.2.1
     let b32 : Bool := r25.2.2.2.2.2.2.1
     let x33 : Nat := r25.2.2.2.2.2.2.2.1
     let b34 : Bool := r25.2.2.2.2.2.2.2.2.1
     let n35 : Nat := r25.2.2.2.2.2.2.2.2.2.1
     let l36 : List T := r25.2.2.2.2.2.2.2.2.2.2
     bd (f16_i_LoudnessOf n n35 l36 i28 i29 0) fun r37 =>
     let x38 : Nat := r37.1
     let b39 : Bool := r37.2
     let i40 : Int := ((n26 : Nat) : Int)
     br (decide (i40 ≥ i28)) (
      gd (!(decide (i29 = (0 : Int)))) (
      let i41 : Int := (IntKind.i64.wrap ((IntKind.i64.wrap (Int.tdiv (IntKind.i64.wrap (i40 - i28)) i29)) + (1 : Int)))
      br (!b32) (
       some false) (
       br (((n30 : Nat) : Int) != i41) (
        some false) (
        br (!(b34 == (decide (i41 > (0 : Int))))) (
         some false) (
         br (!(b39 == b34)) (
          some false) (
          br (!b34) (
           some true) (
           gd (decide (((0 : Int) ≤ (0 : Int)) ∧ ((0 : Int) < ((n30 : Nat) : Int)))) (
           gd (okAt [(CK.flt FloatKind.f32)] l31 0) (
           let x42 : Nat := (fAt l31 0)
           gd (decide (((0 : Int) ≤ (0 : Int)) ∧ ((0 : Int) < ((n30 : Nat) : Int)))) (
           gd (okAt [(CK.flt FloatKind.f32)] l31 0) (
           let x43 : Nat := (fAt l31 0)
           bd (f3_l_FnLoudness.l1 n n n26 l27 i28 i29 n30 l31 x33 x38 x42 x43 (0 : Int)) fun r44 =>
           sm r44 (fun u45 =>
            let b46 : Bool := u45
            some b46) (fun u47 =>
            let x48 : Nat := u47.1
            let x49 : Nat := u47.2.1
            let x50 : Nat := u47.2.2.1
            let x51 : Nat := u47.2.2.2
            br (feq FloatKind.f32 x49 (fmul FloatKind.f32 1082130432 x48)) (
             bd ((fltToFlt FloatKind.f32 x48 FloatKind.f64)) fun y52 =>
             bd ((fltToFlt FloatKind.f32 x51 FloatKind.f64)) fun y53 =>
             br (fle FloatKind.f64 y52 (fmul FloatKind.f64 4607182869159980145 y53)) (
              bd ((fltToFlt FloatKind.f32 x48 FloatKind.f64)) fun y54 =>
              bd ((fltToFlt FloatKind.f32 x50 FloatKind.f64)) fun y55 =>
              some (fge FloatKind.f64 (fmul FloatKind.f64 4607182869159980145 y54) y55)) (
              some false)) (
             some false))))))))))))) (
      br (!b32) (
       some false) (
       br (((n30 : Nat) : Int) != (0 : Int)) (
        some false) (
        br (!(b34 == false)) (
         some false) (
         br (!(b39 == b34)) (
          some false) (
          br (!b34) (
           some true) (
           gd (decide (((0 : Int) ≤ (0 : Int)) ∧ ((0 : Int) < ((n30 : Nat) : Int)))) (
           gd (okAt [(CK.flt FloatKind.f32)] l31 0) (
           let x56 : Nat := (fAt l31 0)
           gd (decide (((0 : Int) ≤ (0 : Int)) ∧ ((0 : Int) < ((n30 : Nat) : Int)))) (
           gd (okAt [(CK.flt FloatKind.f32)] l31 0) (
           let x57 : Nat := (fAt l31 0)
           bd (f3_l_FnLoudness.l1 n n n26 l27 i28 i29 n30 l31 x33 x38 x56 x57 (0 : Int)) fun r58 =>
           sm r58 (fun u59 =>
            let b60 : Bool := u59
            some b60) (fun u61 =>
            let x62 : Nat := u61.1
            let x63 : Nat := u61.2.1
            let x64 : Nat := u61.2.2.1
            let x65 : Nat := u61.2.2.2
            br (feq FloatKind.f32 x63 (fmul FloatKind.f32 1082130432 x62)) (
             bd ((fltToFlt FloatKind.f32 x62 FloatKind.f64)) fun y66 =>
             bd ((fltToFlt FloatKind.f32 x65 FloatKind.f64)) fun y67 =>
             br (fle FloatKind.f64 y66 (fmul FloatKind.f64 4607182869159980145 y67)) (
              bd ((fltToFlt FloatKind.f32 x62 FloatKind.f64)) fun y68 =>
              bd ((fltToFlt FloatKind.f32 x64 FloatKind.f64)) fun y69 =>
              some (fge FloatKind.f64 (fmul FloatKind.f64 4607182869159980145 y68) y69)) (
              some false)) (
             some false)))))))))))))
def sg_liilbfbli : Sig (Nat × List T × Int × Int × Nat × List T × Bool × Nat × Bool × Nat × List T × Int) where
  pk := fun v => [.lst v.1 v.2.1, .int v.2.2.1, .int v.2.2.2.1, .lst v.2.2.2.2.1 v.2.2.2.2.2.1, .bool v.2.2.2.2.2.2.1, .flt v.2.2.2.2.2.2.2.1, .bool v.2.2.2.2.2.2.2.2.1, .lst v.2.2.2.2.2.2.2.2.2.1 v.2.2.2.2.2.2.2.2.2.2.1, .int v.2.2.2.2.2.2.2.2.2.2.2]
  up := fun ls => match ls with
    | [.lst a0 a1, .int a2, .int a3, .lst a4 a5, .bool a6, .flt a7, .bool a8, .lst a9 a10, .int a11] => some (a0, a1, a2, a3, a4, a5, a6, a7, a8, a9, a10, a11)
    | _ => none
  ok := by
    intro ls v h
    split at h
    · cases h; rfl
    · cases h

def sg_liilbfbl : Sig (Nat × List T × Int × Int × Nat × List T × Bool × Nat × Bool × Nat × List T) where
  pk := fun v => [.lst v.1 v.2.1, .int v.2.2.1, .int v.2.2.2.1, .lst v.2.2.2.2.1 v.2.2.2.2.2.1, .bool v.2.2.2.2.2.2.1, .flt v.2.2.2.2.2.2.2.1, .bool v.2.2.2.2.2.2.2.2.1, .lst v.2.2.2.2.2.2.2.2.2.1 v.2.2.2.2.2.2.2.2.2.2]
  up := fun ls => match ls with
    | [.lst a0 a1, .int a2, .int a3, .lst a4 a5, .bool a6, .flt a7, .bool a8, .lst a9 a10] => some (a0, a1, a2, a3, a4, a5, a6, a7, a8, a9, a10)
    | _ => none
  ok := by
    intro ls v h
    split at h
    · cases h; rfl
    · cases h

def sg_liilffffi : Sig (Nat × List T × Int × Int × Nat × List T × Nat × Nat × Nat × Nat × Int) where
  pk := fun v => [.lst v.1 v.2.1, .int v.2.2.1, .int v.2.2.2.1, .lst v.2.2.2.2.1 v.2.2.2.2.2.1, .flt v.2.2.2.2.2.2.1, .flt v.2.2.2.2.2.2.2.1, .flt v.2.2.2.2.2.2.2.2.1, .flt v.2.2.2.2.2.2.2.2.2.1, .int v.2.2.2.2.2.2.2.2.2.2]
  up := fun ls => match ls with
    | [.lst a0 a1, .int a2, .int a3, .lst a4 a5, .flt a6, .flt a7, .flt a8, .flt a9, .int a10] => some (a0, a1, a2, a3, a4, a5, a6, a7, a8, a9, a10)
    | _ => none
  ok := by
    intro ls v h
    split at h
    · cases h; rfl
    · cases h

def sg_ffff : Sig (Nat × Nat × Nat × Nat) where
  pk := fun v => [.flt v.1, .flt v.2.1, .flt v.2.2.1, .flt v.2.2.2]
  up := fun ls => match ls with
    | [.flt a0, .flt a1, .flt a2, .flt a3] => some (a0, a1, a2, a3)
    | _ => none
  ok := by
    intro ls v h
    split at h
    · cases h; rfl
    · cases h

def f3_l_FnLoudness.l0.P : AS := ⟨[(5, .val false [.sl .own [.leaf]] [.lst 0 []] [] 0), (6, .val false [.leaf] [.int .i64 0] [] 0), (7, .val false [.leaf] [.int .i64 0] [] 0), (8, .val false [.sl .own [.leaf]] [.lst 0 []] [] 0), (9, .val false [.leaf] [.bool false] [] 0), (10, .val false [.leaf] [.flt .f32 0] [] 0), (11, .val false [.leaf] [.bool false] [] 0), (12, .val false [.sl .own [.leaf]] [.lst 0 []] [] 0), (13, .val false [.leaf] [.int .i64 0] [] 0)], 0⟩
def f3_l_FnLoudness.l0.A : Alt (Nat × List T × Int × Int × Nat × List T × Bool × Nat × Bool × Nat × List T) := .one (.exit 0) ⟨[(5, .val false [.sl .own [.leaf]] [.lst 0 []] [] 0), (6, .val false [.leaf] [.int .i64 0] [] 0), (7, .val false [.leaf] [.int .i64 0] [] 0), (8, .val false [.sl .own [.leaf]] [.lst 0 []] [] 0), (9, .val false [.leaf] [.bool false] [] 0), (10, .val false [.leaf] [.flt .f32 0] [] 0), (11, .val false [.leaf] [.bool false] [] 0), (12, .val false [.sl .own [.leaf]] [.lst 0 []] [] 0)], 0⟩ sg_liilbfbl
def f3_l_FnLoudness.l0.F (n m : Nat) (v : Nat × List T × Int × Int × Nat × List T × Bool × Nat × Bool × Nat × List T × Int) := f3_l_FnLoudness.l0 n m v.1 v.2.1 v.2.2.1 v.2.2.2.1 v.2.2.2.2.1 v.2.2.2.2.2.1 v.2.2.2.2.2.2.1 v.2.2.2.2.2.2.2.1 v.2.2.2.2.2.2.2.2.1 v.2.2.2.2.2.2.2.2.2.1 v.2.2.2.2.2.2.2.2.2.2.1 v.2.2.2.2.2.2.2.2.2.2.2
def f3_l_FnLoudness.l0.W (n : Nat) : LpW := .of 160 f3_l_FnLoudness.l0.P sg_liilbfbli f3_l_FnLoudness.l0.A (f3_l_FnLoudness.l0.F n n)
def f3_l_FnLoudness.l1.P : AS := ⟨[(5, .val false [.sl .own [.leaf]] [.lst 0 []] [] 0), (6, .val false [.leaf] [.int .i64 0] [] 0), (7, .val false [.leaf] [.int .i64 0] [] 0), (8, .val false [.sl .own [.leaf]] [.lst 0 []] [] 0), (10, .val false [.leaf] [.flt .f32 0] [] 0), (14, .val false [.leaf] [.flt .f32 0] [] 0), (18, .val false [.leaf] [.flt .f32 0] [] 0), (19, .val false [.leaf] [.flt .f32 0] [] 0), (20, .val false [.leaf] [.int .i64 0] [] 0)], 0⟩
def f3_l_FnLoudness.l1.A : Alt ((Bool) ⊕ (Nat × Nat × Nat × Nat)) := .or (.one .ret ⟨[(4, .val false [.leaf] [.bool false] [] 0), (10, .dead), (14, .dead), (18, .dead), (19, .dead)], 0⟩ sg_b) (.one (.exit 2) ⟨[(4, .dead), (10, .val false [.leaf] [.flt .f32 0] [] 0), (14, .val false [.leaf] [.flt .f32 0] [] 0), (18, .val false [.leaf] [.flt .f32 0] [] 0), (19, .val false [.leaf] [.flt .f32 0] [] 0)], 0⟩ sg_ffff)
def f3_l_FnLoudness.l1.F (n m : Nat) (v : Nat × List T × Int × Int × Nat × List T × Nat × Nat × Nat × Nat × Int) := f3_l_FnLoudness.l1 n m v.1 v.2.1 v.2.2.1 v.2.2.2.1 v.2.2.2.2.1 v.2.2.2.2.2.1 v.2.2.2.2.2.2.1 v.2.2.2.2.2.2.2.1 v.2.2.2.2.2.2.2.2.1 v.2.2.2.2.2.2.2.2.2.1 v.2.2.2.2.2.2.2.2.2.2
def f3_l_FnLoudness.l1.W (n : Nat) : LpW := .of 400 f3_l_FnLoudness.l1.P sg_liilffffi f3_l_FnLoudness.l1.A (f3_l_FnLoudness.l1.F n n)
def f3_l_FnLoudness.P : List Arg := [⟨.val, ⟨false, [.sl .shr [.leaf]], [.lst 0 []]⟩⟩, ⟨.val, ⟨false, [.sl .shr [.leaf]], [.lst 0 []]⟩⟩]
def f3_l_FnLoudness.A : RAlt (Bool) := .one ⟨[⟨false, [.leaf], [.bool false]⟩], [none, none]⟩ sg_b
def f3_l_FnLoudness.F (n : Nat) (v : Nat × List T × Nat × List T) := f3_l_FnLoudness n v.1 v.2.1 v.2.2.1 v.2.2.2
noncomputable def f3_l_FnLoudness.O (n : Nat) : Orc := orcOf (E := E) [f12_l_r8Long.w, f14_l_r8At.w, f13_s_R8Plain.w, f15_i_WindowPowers.w, f16_i_LoudnessOf.w, f17_i_DotNumbers.w, f18_i_SameNumber.w] [f3_l_FnLoudness.l0.W n, f3_l_FnLoudness.l1.W n] n
theorem f3_l_FnLoudness.l0.ok (n : Nat) : LpOk (f3_l_FnLoudness.O n) E (evalFn E n) n (keepAt 3) (.loop (loopAt c3 0)) :=
  lp_pure f3_l_FnLoudness.l0.P sg_liilbfbli f3_l_FnLoudness.l0.A (f3_l_FnLoudness.l0.F n) (orcOf_cf _ _ n) (lpOk_of (bs := []) (by kernel_rfl) .nil) (fun _ => rfl) (fun _ _ => by kernel_rfl) (fun _ _ _ => by kernel_rfl)
theorem f3_l_FnLoudness.l1.ok (n : Nat) : LpOk (f3_l_FnLoudness.O n) E (evalFn E n) n (keepAt 3) (.loop (loopAt c3 1)) :=
  lp_pure f3_l_FnLoudness.l1.P sg_liilffffi f3_l_FnLoudness.l1.A (f3_l_FnLoudness.l1.F n) (orcOf_cf _ _ n) (lpOk_of (bs := []) (by kernel_rfl) .nil) (fun _ => rfl) (fun _ _ => by kernel_rfl) (fun _ _ _ => by kernel_rfl)
theorem f3_l_FnLoudness.ok : ∀ n v x, f3_l_FnLoudness.F n v = some x → evalFn E n 3 (flAs f3_l_FnLoudness.P (sg_ll.pk v)) = some (f3_l_FnLoudness.A.enc x) :=
  fn_pure (modes := (fdAt 3).ms) (outs := (fdAt 3).os) (results := (fdAt 3).rs) f3_l_FnLoudness.O (c := c3) (keep := keepAt 3) (by kernel_rfl) (fun n => orcOf_cf _ _ n) (fun n => lpOk_of (bs := [loopAt c3 0, loopAt c3 1]) (by kernel_rfl) (.cons (f3_l_FnLoudness.l0.ok n) (.cons (f3_l_FnLoudness.l1.ok n) .nil))) (fun _ => rfl) (fun _ _ => by kernel_rfl)
noncomputable def f3_l_FnLoudness.w : FnW E := fnW 3 f3_l_FnLoudness.P sg_ll f3_l_FnLoudness.A f3_l_FnLoudness.F f3_l_FnLoudness.ok
end Go.Proofs.Ytdobhipbgpiceaa.D
end
section
/- FnLoudness, in plain Lean. -/
namespace Go.Proofs.Ytdobhipbgpiceaa.D
open Go Go.Desk
set_option linter.unusedVariables false
theorem s_from (n l : Nat) (c : List T) : f64_s_l00From (n + 1) l c = some (l, c, 0, 0) := by rw [f64_s_l00From]
theorem s_next (n : Nat) {bs : List Int} (hb : Bytes bs) {a : Int} (h0 : 0 ≤ a) (h1 : a ≤ 1125899906842624) (sd : Int) :
    ∃ r sd', (0 ≤ r ∧ r ≤ 255) ∧ f134_s_l00Srcnext (n + 1) bs.length (its .u8 bs) a sd = some (r, bs.length, its .u8 bs, a + 1, sd') := by
  rw [f134_s_l00Srcnext]
  rw [show IntKind.i64.wrap (a + 1) = a + 1 by rw [wrap64] <;> omega]
  cases h : decide (a < (bs.length : Int))
  · simp only [br_f]
    cases decide (a + 1 ≤ (bs.length : Int))
    · exact ⟨_, _, and255 _, rfl⟩
    · exact ⟨0, _, by omega, rfl⟩
  · simp only [decide_eq_true_eq] at h
    obtain ⟨i, rfl⟩ := Int.eq_ofNat_of_zero_le h0
    have hi : i < bs.length := by omega
    have hr := hb (bs[i]) (List.getElem_mem _)
    simp only [br_t, in_dec hi, Int.toNat_natCast, okAt_its hi, Bool.and_self, gd_t, iAt_its]
    rw [show bs.getD i 0 = bs[i] by simp [List.getD, hi], show IntKind.i64.wrap bs[i] = bs[i] by rw [wrap64] <;> omega]
    cases decide ((i : Int) + 1 ≤ (bs.length : Int))
    · exact ⟨_, _, and255 _, rfl⟩
    · exact ⟨_, _, hr, rfl⟩
theorem s_pick (n : Nat) {bs : List Int} (hb : Bytes bs) {a : Int} (h0 : 0 ≤ a) (h1 : a ≤ 1125899906842622) (sd k : Int) :
    ∃ r a' sd', (0 ≤ r ∧ (1 < k → r < k) ∧ (k ≤ 1 → r = 0)) ∧ (a ≤ a' ∧ a' ≤ a + 2) ∧ f74_s_l00Srcpick (n + 2) bs.length (its .u8 bs) a sd k = some (r, bs.length, its .u8 bs, a', sd') := by
  rw [f74_s_l00Srcpick]
  by_cases hk : k ≤ 1
  · rw [decide_eq_true hk]; exact ⟨0, a, sd, by omega, by omega, rfl⟩
  rw [decide_eq_false hk]
  obtain ⟨r, s1, hr, e1⟩ := s_next n hb h0 (by omega) sd
  simp only [br_f, e1, bd_s]
  have hk0 : (!decide (k = 0)) = true := by simp; omega
  by_cases hk2 : k > 200
  · rw [decide_eq_true hk2]
    obtain ⟨r', s2, hr', e2⟩ := s_next n hb (a := a + 1) (by omega) (by omega) s1
    simp only [br_t, e2, bd_s, hk0, gd_t]
    rw [show IntKind.i64.wrap (r * 256) = r * 256 by rw [wrap64] <;> omega, show IntKind.i64.wrap (r * 256 + r') = r * 256 + r' by rw [wrap64] <;> omega]
    refine ⟨_, _, _, ?_, ?_, rfl⟩
    · rw [Int.tmod_eq_emod_of_nonneg (by omega)]
      have := Int.emod_nonneg (r * 256 + r') (show k ≠ 0 by omega)
      have := Int.emod_lt_of_pos (r * 256 + r') (show 0 < k by omega)
      omega
    · omega
  · rw [decide_eq_false hk2]
    simp only [br_f, hk0, gd_t]
    refine ⟨_, _, _, ?_, ?_, rfl⟩
    · rw [Int.tmod_eq_emod_of_nonneg (by omega)]
      have := Int.emod_nonneg r (show k ≠ 0 by omega)
      have := Int.emod_lt_of_pos r (show 0 < k by omega)
      omega
    · omega
theorem s_one (n : Nat) {bs : List Int} (hb : Bytes bs) {a : Int} (h0 : 0 ≤ a) (h1 : a ≤ 1125899906842622) (sd k : Int) :
    ∃ r a' sd', (a ≤ a' ∧ a' ≤ a + 2) ∧ f130_s_l00Srcone (n + 3) bs.length (its .u8 bs) a sd k = some (r, bs.length, its .u8 bs, a', sd') := by
  obtain ⟨r, a', s', -, ha, e⟩ := s_pick n hb h0 h1 sd k
  rw [f130_s_l00Srcone, e]
  exact ⟨_, _, _, ha, rfl⟩
theorem s_plain (n : Nat) {bs : List Int} (hb : Bytes bs) {a : Int} (h0 : 0 ≤ a) (h1 : a ≤ 1125899906842620) (sd : Int) :
    ∃ x a' sd', Plain x ∧ (a ≤ a' ∧ a' ≤ a + 4) ∧ f65_s_l01DrawPlain (n + 4) bs.length (its .u8 bs) a sd = some (x, bs.length, its .u8 bs, a', sd') := by
  obtain ⟨r, a1, s1, hr, ha, e⟩ := s_pick (n + 1) hb h0 (by omega) sd 129
  obtain ⟨b, a2, s2, ha2, e2⟩ := s_one n hb (a := a1) (by omega) (by omega) s1 4
  rw [f65_s_l01DrawPlain, e]
  simp only [bd_s, e2]
  rw [show IntKind.i64.wrap (r - 64) = r - 64 by rw [wrap64] <;> omega]
  cases b
  · exact ⟨_, a2, s2, ⟨r - 64, by omega, .inr rfl⟩, by omega, rfl⟩
  · exact ⟨_, a2, s2, ⟨r - 64, by omega, .inl rfl⟩, by omega, rfl⟩
theorem s_r8plain_loop (n : Nat) {bs : List Int} (hb : Bytes bs) (k : Nat) : ∀ (j m : Nat) (a sd : Int) (acc : List Nat), 0 ≤ a → a + 4 * (j : Int) ≤ 1125899906842000 → k = acc.length + j → k ≤ 1000 → j < m → (∀ x ∈ acc, Plain x) →
    ∃ ys, ys.length = k ∧ (∀ x ∈ ys, Plain x) ∧
      (∃ u, f13_s_R8Plain.l0 (n + 4) m (k : Int) bs.length (its .u8 bs) a sd acc.length (fls .f32 acc) (acc.length : Int) = some u ∧ u = (ys.length, fls .f32 ys)) := by
  intro j
  induction j with
  | zero =>
    intro m a sd acc h0 h1 hl hk hm hw
    obtain ⟨m, rfl⟩ : ∃ k, m = k + 1 := ⟨m - 1, by omega⟩
    rw [f13_s_R8Plain.l0, decide_eq_false (show ¬ ((acc.length : Int) < (k : Int)) by omega)]
    exact ⟨acc, by omega, hw, _, rfl, rfl⟩
  | succ j ih =>
    intro m a sd acc h0 h1 hl hk hm hw
    obtain ⟨m, rfl⟩ : ∃ k, m = k + 1 := ⟨m - 1, by omega⟩
    obtain ⟨x, a1, s1, hx, ha, e⟩ := s_plain n hb h0 (by omega) sd
    rw [f13_s_R8Plain.l0, decide_eq_true (show ((acc.length : Int) < (k : Int)) by omega)]
    simp only [br_t, e, bd_s, push_ok (show acc.length < 2147483648 by omega), gd_t, push_fls]
    rw [wrap_len (z := x) (by omega), show acc.length + 1 = (acc ++ [x]).length by simp]
    exact ih m a1 s1 (acc ++ [x]) (by omega) (by omega) (by simp; omega) hk (by omega) (by
        intro y hy; simp only [List.mem_append, List.mem_singleton] at hy; rcases hy with hy | rfl
        · exact hw y hy
        · exact hx)
theorem s_r8plain (n : Nat) {bs : List Int} (hb : Bytes bs) (k : Nat) (hk : k ≤ 1000) (hn : k < n) : ∃ xs, xs.length = k ∧ (∀ x ∈ xs, Plain x) ∧ f13_s_R8Plain (n + 5) bs.length (its .u8 bs) (k : Int) = some (xs.length, fls .f32 xs) := by
  obtain ⟨ys, hy, hw, u, e, rfl⟩ := s_r8plain_loop n hb k k (n + 4) 0 0 [] (by omega) (by omega) (by simp) hk (by omega) (by simp)
  rw [f13_s_R8Plain, s_from]
  have e : f13_s_R8Plain.l0 (n + 4) (n + 4) (k : Int) bs.length (its .u8 bs) 0 0 0 (reps 0 [(T.flt FloatKind.f32 0)]) 0 = some (ys.length, fls .f32 ys) := e
  refine ⟨ys, hy, hw, ?_⟩
  simp only [bd_s, e]

theorem l_long (n : Nat) (bs cs : List Int) : f12_l_r8Long (n + 1) bs.length (its .u8 bs) cs.length (its .u8 cs) = some (decide (48 < bs.length ∨ 48 < cs.length)) := by
  rw [f12_l_r8Long]
  by_cases h : 48 < bs.length
  · rw [decide_eq_true (show (bs.length : Int) > 48 by omega), decide_eq_true (Or.inl h)]; rfl
  · rw [decide_eq_false (show ¬ (bs.length : Int) > 48 by omega), br_f]
    congr 1
    simp [h]; omega
theorem l_at (n : Nat) {bs : List Int} (hb : Bytes bs) {i k : Int} (hi : 0 ≤ i) (hk : 1 ≤ k) : ∃ r, (0 ≤ r ∧ r < k) ∧ f14_l_r8At (n + 1) bs.length (its .u8 bs) i k = some r := by
  rw [f14_l_r8At]
  by_cases h : k ≤ 1
  · rw [decide_eq_true h]; exact ⟨0, by omega, rfl⟩
  rw [decide_eq_false h]
  by_cases h2 : i ≥ (bs.length : Int)
  · rw [decide_eq_true h2]; exact ⟨0, by omega, rfl⟩
  rw [decide_eq_false h2]
  obtain ⟨i, rfl⟩ := Int.eq_ofNat_of_zero_le hi
  have hi : i < bs.length := by omega
  have hr := hb (bs[i]) (List.getElem_mem _)
  have hk0 : (!decide (k = 0)) = true := by simp; omega
  simp only [br_f, in_dec hi, Int.toNat_natCast, okAt_its hi, Bool.and_self, gd_t, iAt_its, hk0]
  rw [show bs.getD i 0 = bs[i] by simp [List.getD, hi], show IntKind.i64.wrap bs[i] = bs[i] by rw [wrap64] <;> omega]
  refine ⟨_, ?_, rfl⟩
  rw [Int.tmod_eq_emod_of_nonneg (by omega)]
  have := Int.emod_nonneg bs[i] (show k ≠ 0 by omega)
  have := Int.emod_lt_of_pos bs[i] (show 0 < k by omega)
  omega
theorem i_same (n : Nat) {x y : Nat} (hx : W32 x) (hy : W32 y) : f18_i_SameNumber (n + 2) x y = some (x == y) := by
  rw [f18_i_SameNumber]
  simp only [fne_nan]
  cases hn : isNaN .f32 x
  · cases hm : isNaN .f32 y
    · simp only [br_f]
      have e1 : ∀ z, isNaN .f32 z = false → xF32bits (n + 1) z = some (z : Int) := fun z hz => by simp [xF32bits, hz]
      simp only [e1 x hn, e1 y hm, bd_s, Option.some.injEq]
      rw [Bool.eq_iff_iff]; simp; constructor <;> omega
    · simp only [br_f, br_t]
      have : x ≠ y := fun e => by rw [e, hm] at hn; cases hn
      simp [this]
  · cases hm : isNaN .f32 y
    · simp only [br_f, br_t]
      have : x ≠ y := fun e => by rw [e, hm] at hn; cases hn
      simp [this]
    · simp only [br_t]
      have : x = y := by rw [← hx.2, ← hy.2, canon_nan hn, canon_nan hm]
      simp [this]

theorem i_few (n k : Nat) (l : List T) : f66_i_areSamples (n + 1) k l = some (decide ((k : Int) ≤ 256)) := by rw [f66_i_areSamples]


theorem i_in (n : Nat) (a b c : Int) : f67_i_within (n + 1) a b c = some (decide (b ≤ a ∧ a ≤ c)) := by
  rw [f67_i_within]
  by_cases h : b ≤ a <;> simp [br, h]


theorem i_dot_loop (n : Nat) (N : Nat) (cs : List T) : ∀ (zs ys p q : List Nat) (s m : Nat), ys.length = zs.length → q.length = p.length → p.length + zs.length < 1048576 → zs.length < m →
    f68_i_dot.l0 n m (p ++ zs).length (fls .f32 (p ++ zs)) (q ++ ys).length (fls .f32 (q ++ ys)) s ((p ++ zs).length : Int) (p.length : Int) = some (dotM s zs ys) := by
  intro zs
  induction zs with
  | nil =>
    intro ys p q s m _ _ _ hm
    obtain ⟨m, rfl⟩ : ∃ k, m = k + 1 := ⟨m - 1, by omega⟩
    rw [f68_i_dot.l0, lt_end]
    simp [br_f, dotM]
  | cons z zs ih =>
    intro ys p q s m hl hq hp hm
    obtain ⟨m, rfl⟩ : ∃ k, m = k + 1 := ⟨m - 1, by omega⟩
    cases ys with
    | nil => simp at hl
    | cons y ys =>
      have e1 : okAt [.flt .f32] (fls .f32 (q ++ y :: ys)) p.length = true := by rw [← hq]; exact okAt_mid
      have e2 : fAt (fls .f32 (q ++ y :: ys)) p.length = y := by rw [← hq]; exact fAt_mid
      have e3 : decide ((0 : Int) ≤ (p.length : Int) ∧ (p.length : Int) < ((q ++ y :: ys).length : Int)) = true := by rw [← hq]; exact in_mid
      rw [f68_i_dot.l0, lt_mid, in_mid, toNat_len, okAt_mid, fAt_mid, e1, e2, e3]
      have := ih ys (p ++ [z]) (q ++ [y]) (fadd .f32 s (fmul .f32 z y)) m (by simpa using hl) (by simp [hq]) (by simp at hp ⊢; omega) (by simp at hm; omega)
      simp only [br_t, gd_t, Bool.and_self, wrap_len (z := z) (show p.length < 4611686018427387904 by simp at hp; omega)]
      simpa [dotM] using this
theorem i_dotted (n : Nat) (xs ys : List Nat) (hl : ys.length = xs.length) (hx : xs.length < 1048576) (hn : xs.length < n) : f68_i_dot (n + 1) xs.length (fls .f32 xs) ys.length (fls .f32 ys) = some (dotM 0 xs ys) := by
  rw [f68_i_dot]
  have e := i_dot_loop n xs.length (fls .f32 xs) xs ys [] [] 0 n hl rfl (by simpa using hx) (by omega)
  have e : f68_i_dot.l0 n n xs.length (fls .f32 xs) ys.length (fls .f32 ys) 0 (xs.length : Int) 0 = some (dotM 0 xs ys) := e
  rw [e]; rfl
theorem i_dotnumbers (n : Nat) (xs ys : List Nat) (hl : ys.length = xs.length) (hx : xs.length ≤ 256) (hn : xs.length < n) : f17_i_DotNumbers (n + 2) xs.length (fls .f32 xs) ys.length (fls .f32 ys) = some (dotM 0 xs ys, true) := by
  rw [f17_i_DotNumbers, i_few, decide_eq_true (show (xs.length : Int) ≤ 256 by omega), show (((xs.length : Nat) : Int) != ((ys.length : Nat) : Int)) = false by simp [hl]]
  simp only [bd_s, br_not, br_t, br_f, i_dotted n xs ys hl (by omega) hn]


/-! rounding depends on the value alone -/
theorem log2_scale {n : Nat} (hn : n ≠ 0) (c : Nat) : (n * 2 ^ c).log2 = n.log2 + c := by
  have h1 : 2 ^ (n.log2 + c) ≤ n * 2 ^ c := by
    rw [Nat.pow_add]; exact Nat.mul_le_mul_right _ (Nat.log2_self_le hn)
  have h2 : n * 2 ^ c < 2 ^ (n.log2 + c + 1) := by
    rw [show n.log2 + c + 1 = (n.log2 + 1) + c by omega, Nat.pow_add]
    exact Nat.mul_lt_mul_of_pos_right Nat.lt_log2_self (Nat.two_pow_pos c)
  have hp := Nat.two_pow_pos c
  have hne : n * 2 ^ c ≠ 0 := by
    have : 0 < n * 2 ^ c := Nat.mul_pos (by omega) hp
    omega
  have a1 := (Nat.le_log2 hne).2 h1
  have a2 := (Nat.log2_lt hne).2 h2
  omega
theorem cut_scale (s : Bool) {n : Nat} (hn : n ≠ 0) (c d : Nat) : Ieee.Toward.cut .even s (n * 2 ^ c) (d + c) = Ieee.Toward.cut .even s n d := by
  have hp := Nat.two_pow_pos c
  unfold Ieee.Toward.cut
  simp only [log2_scale hn, Nat.shiftLeft_eq, Nat.one_mul]
  rw [show min (d + c) (n.log2 + c + 2) = min d (n.log2 + 2) + c by omega, Nat.pow_add]
  generalize 2 ^ min d (n.log2 + 2) = g
  rw [Nat.mul_div_mul_right _ _ hp, Nat.mul_mod_mul_right]
  have h1 : decide (g * 2 ^ c < 2 * (n % g * 2 ^ c)) = decide (g < 2 * (n % g)) := by
    rw [decide_eq_decide, ← Nat.mul_assoc]; exact Nat.mul_lt_mul_right hp
  have h2 : (g * 2 ^ c == 2 * (n % g * 2 ^ c)) = (g == 2 * (n % g)) := by
    rw [Bool.eq_iff_iff, beq_iff_eq, beq_iff_eq, ← Nat.mul_assoc]; exact Nat.mul_left_inj (by omega)
  rw [h1, h2]
theorem two_logs {m n : Nat} {e i : Int} (hm : m ≠ 0) (hn : n ≠ 0) (h : mv m e = mv n i) : e + (m.log2 : Int) = i + (n.log2 : Int) := by
  have low : ∀ (m : Nat) (e : Int), m ≠ 0 → p2 (e + (m.log2 : Int)) ≤ mv m e := by
    intro m e hm
    have : 2 ^ m.log2 ≤ m := Nat.log2_self_le hm
    have h := (mv_le (e := e)).2 this
    rwa [mv_pow] at h
  have high : ∀ (m : Nat) (e : Int), mv m e < p2 (e + (m.log2 : Int) + 1) := by
    intro m e
    have : m < 2 ^ (m.log2 + 1) := Nat.lt_log2_self
    have h := (mv_lt (e := e)).2 this
    rw [mv_pow] at h
    rw [show e + (m.log2 : Int) + 1 = e + ((m.log2 + 1 : Nat) : Int) by omega]; exact h
  have a1 := low m e hm
  have a2 := high m e
  have b1 := low n i hn
  have b2 := high n i
  rw [h] at a1 a2
  rcases Int.lt_trichotomy (e + (m.log2 : Int)) (i + (n.log2 : Int)) with c | c | c
  · have := p2_le (show e + (m.log2 : Int) + 1 ≤ i + (n.log2 : Int) by omega); grind
  · exact c
  · have := p2_le (show i + (n.log2 : Int) + 1 ≤ e + (m.log2 : Int) by omega); grind
/-- the same number twice as long, two places apart or more: the same word, places on -/
theorem nearest_shift (k : FloatKind) (s : Bool) {m : Nat} (hm : m ≠ 0) (c : Nat) (e : Int) : k.format.nearest s (m * 2 ^ c) (e - (c : Int)) = k.format.nearest s m e := by
  have hp := Nat.two_pow_pos c
  have hne : m * 2 ^ c ≠ 0 := by
    have : 0 < m * 2 ^ c := Nat.mul_pos (by omega) hp
    omega
  unfold Ieee.Format.nearest
  rw [if_neg hne, if_neg hm]
  simp only [log2_scale hm]
  rw [show e - (c : Int) + ((m.log2 + c : Nat) : Int) - (k.format.fractionBits : Int) = e + (m.log2 : Int) - (k.format.fractionBits : Int) by omega]
  generalize max (e + (m.log2 : Int) - (k.format.fractionBits : Int)) k.format.leastPlace = last
  have hcut : Ieee.Toward.cut .even s ((m * 2 ^ c) <<< (e - (c : Int) - last).toNat) (last - (e - (c : Int))).toNat = Ieee.Toward.cut .even s (m <<< (e - last).toNat) (last - e).toNat := by
    rw [Nat.shiftLeft_eq, Nat.shiftLeft_eq]
    by_cases h : e ≤ last
    · rw [show (e - (c : Int) - last).toNat = 0 by omega, show (e - last).toNat = 0 by omega, Nat.pow_zero, Nat.mul_one, Nat.mul_one, show (last - (e - (c : Int))).toNat = (last - e).toNat + c by omega]
      exact cut_scale s hm c _
    · by_cases h2 : e - (c : Int) ≤ last
      · obtain ⟨a, ha⟩ : ∃ a : Nat, e - last = (a : Int) := ⟨(e - last).toNat, by omega⟩
        have hac : a ≤ c := by omega
        rw [show (e - (c : Int) - last).toNat = 0 by omega, show (e - last).toNat = a by omega, show (last - e).toNat = 0 by omega, show (last - (e - (c : Int))).toNat = 0 + (c - a) by omega, Nat.pow_zero, Nat.mul_one]
        have hm2 : m * 2 ^ a ≠ 0 := by
          have : 0 < m * 2 ^ a := Nat.mul_pos (by omega) (Nat.two_pow_pos a)
          omega
        rw [show m * 2 ^ c = m * 2 ^ a * 2 ^ (c - a) by rw [Nat.mul_assoc, ← Nat.pow_add]; congr 2; omega]
        exact cut_scale s hm2 (c - a) 0
      · rw [show (last - (e - (c : Int))).toNat = 0 by omega, show (last - e).toNat = 0 by omega, Nat.mul_assoc, ← Nat.pow_add, show c + (e - (c : Int) - last).toNat = (e - last).toNat by omega]
  rw [hcut]
/-- one number, one word -/
theorem nearest_same (k : FloatKind) (s : Bool) {m m' : Nat} {e e' : Int} (hm : m ≠ 0) (hm' : m' ≠ 0) (h : mv m e = mv m' e') : k.format.nearest s m e = k.format.nearest s m' e' := by
  rcases Int.le_total e e' with hle | hle
  · have h1 : mv m' e' = mv (m' * 2 ^ (e' - e).toNat) e := by rw [mv_shift]; congr 1; omega
    rw [h1] at h
    have h2 := mv_le.1 (h ▸ Rat.le_refl : mv m e ≤ mv (m' * 2 ^ (e' - e).toNat) e)
    have h3 := mv_le.1 (h ▸ Rat.le_refl : mv (m' * 2 ^ (e' - e).toNat) e ≤ mv m e)
    have hmm : m = m' * 2 ^ (e' - e).toNat := Nat.le_antisymm h2 h3
    have := nearest_shift k s hm' (e' - e).toNat e'
    rw [← hmm, show e' - ((e' - e).toNat : Int) = e by omega] at this
    exact this
  · have h1 : mv m e = mv (m * 2 ^ (e - e').toNat) e' := by rw [mv_shift]; congr 1; omega
    rw [h1] at h
    have h2 := mv_le.1 (h ▸ Rat.le_refl : mv (m * 2 ^ (e - e').toNat) e' ≤ mv m' e')
    have h3 := mv_le.1 (h ▸ Rat.le_refl : mv m' e' ≤ mv (m * 2 ^ (e - e').toNat) e')
    have hmm : m' = m * 2 ^ (e - e').toNat := Nat.le_antisymm h3 h2
    have := nearest_shift k s hm (e - e').toNat e
    rw [← hmm, show e - ((e - e').toNat : Int) = e' by omega] at this
    exact this.symm
theorem read_high {s : Bool} {r : Nat} (h1 : 8388608 ≤ r) (h2 : r < 2139095040) : FloatKind.f32.decode (FloatKind.f32.format.word s r) = .number s (8388608 + r % 8388608) (-149 + ((r / 8388608 - 1 : Nat) : Int)) := by
  have hsw : FloatKind.f32.format.signWeight = 2147483648 := rfl
  have hb : FloatKind.f32.format.binade = 8388608 := by decide
  have hi : FloatKind.f32.format.infRung = 2139095040 := rfl
  have hl : FloatKind.f32.format.leastPlace = -149 := by decide
  have hm : FloatKind.f32.format.word s r % 2147483648 = r ∧ (FloatKind.f32.format.word s r / 2147483648 % 2 == 1) = s := by
    unfold Ieee.Format.word
    rw [hsw]
    cases s
    · simp; omega
    · simp; omega
  show FloatKind.f32.format.read _ = _
  unfold Ieee.Format.read
  simp only [hsw, hb, hi, hl, hm.1, hm.2]
  rw [if_neg (by omega), if_pos h2]
theorem enc_four {s : Bool} {m : Nat} {e : Int} {R : Rat} (hm : m ≠ 0) (h1 : -126 ≤ e + (m.log2 : Int)) (h2 : e + (m.log2 : Int) ≤ 100) (h : Val .f32 (FloatKind.f32.encode (.number s m e)) R) : Val .f32 (FloatKind.f32.encode (.number s m (e + 2))) (4 * R) := by
  have hb : FloatKind.f32.format.binade = 8388608 := by decide
  have hi : FloatKind.f32.format.infRung = 2139095040 := rfl
  have hl : FloatKind.f32.format.leastPlace = -149 := by decide
  have hf : ((FloatKind.f32.format.fractionBits : Nat) : Int) = 23 := rfl
  obtain ⟨K, hK⟩ : ∃ K, K = Ieee.Toward.cut .even s (m <<< (e - (e + (m.log2 : Int) - 23)).toNat) ((e + (m.log2 : Int) - 23) - e).toNat := ⟨_, rfl⟩
  have lo : 2 ^ m.log2 ≤ m := Nat.log2_self_le hm
  have hi2 : m < 2 ^ (m.log2 + 1) := Nat.lt_log2_self
  have hKb : 8388608 ≤ K ∧ K ≤ 16777216 := by
    rw [hK]
    rcases Nat.lt_or_ge m.log2 23 with hc | hc
    · rw [show ((e + (m.log2 : Int) - 23) - e).toNat = 0 by omega, show (e - (e + (m.log2 : Int) - 23)).toNat = 23 - m.log2 by omega, Nat.shiftLeft_eq]
      have g1 : 2 ^ m.log2 * 2 ^ (23 - m.log2) ≤ m * 2 ^ (23 - m.log2) := Nat.mul_le_mul_right _ lo
      have g2 : m * 2 ^ (23 - m.log2) ≤ 2 ^ (m.log2 + 1) * 2 ^ (23 - m.log2) := Nat.mul_le_mul_right _ (Nat.le_of_lt hi2)
      rw [← Nat.pow_add, show m.log2 + (23 - m.log2) = 23 by omega] at g1
      rw [← Nat.pow_add, show m.log2 + 1 + (23 - m.log2) = 24 by omega] at g2
      exact ⟨(cut_bounds s _ 0 8388608).2 (by omega), (cut_bounds s _ 0 16777216).1 (by omega)⟩
    · rw [show ((e + (m.log2 : Int) - 23) - e).toNat = m.log2 - 23 by omega, show (e - (e + (m.log2 : Int) - 23)).toNat = 0 by omega, Nat.shiftLeft_zero]
      have g1 : 8388608 * 2 ^ (m.log2 - 23) = 2 ^ m.log2 := by rw [show (8388608 : Nat) = 2 ^ 23 by decide, ← Nat.pow_add]; congr 1; omega
      have g2 : 16777216 * 2 ^ (m.log2 - 23) = 2 ^ (m.log2 + 1) := by rw [show (16777216 : Nat) = 2 ^ 24 by decide, ← Nat.pow_add]; congr 1; omega
      exact ⟨(cut_bounds s m (m.log2 - 23) 8388608).2 (by omega), (cut_bounds s m (m.log2 - 23) 16777216).1 (by omega)⟩
  have key : ∀ f : Int, -126 ≤ f + (m.log2 : Int) → f + (m.log2 : Int) ≤ 102 → FloatKind.f32.encode (.number s m f) = FloatKind.f32.format.word s ((f + (m.log2 : Int) - 23 - -149).toNat * 8388608 + K) := by
    intro f f1 f2
    show FloatKind.f32.format.nearest s m f = _
    unfold Ieee.Format.nearest
    rw [if_neg hm]
    simp only [hf, hl, hb, hi]
    rw [show max (f + (m.log2 : Int) - 23) (-149) = f + (m.log2 : Int) - 23 by omega, show f - (f + (m.log2 : Int) - 23) = e - (e + (m.log2 : Int) - 23) by omega, show f + (m.log2 : Int) - 23 - f = e + (m.log2 : Int) - 23 - e by omega, ← hK]
    have hle : (f + (m.log2 : Int) - 23 - -149).toNat * 8388608 + K ≤ 2139095040 := by omega
    rw [Nat.min_eq_left hle]
  have k1 := key e h1 (by omega)
  have k2 := key (e + 2) (by omega) (by omega)
  rw [show (e + 2 + (m.log2 : Int) - 23 - -149).toNat = (e + (m.log2 : Int) - 23 - -149).toNat + 2 by omega] at k2
  generalize ha : (e + (m.log2 : Int) - 23 - -149).toNat = a at k1 k2
  have ha2 : a ≤ 226 := by omega
  have r1 := read_high (s := s) (r := a * 8388608 + K) (by omega) (by omega)
  have r2 := read_high (s := s) (r := (a + 2) * 8388608 + K) (by omega) (by omega)
  rw [← k1] at r1
  rw [← k2] at r2
  have v1 := h.inj (read_val r1)
  have v2 := read_val r2
  have e1 : ((a + 2) * 8388608 + K) % 8388608 = (a * 8388608 + K) % 8388608 := by omega
  have e2 : ((a + 2) * 8388608 + K) / 8388608 - 1 = ((a * 8388608 + K) / 8388608 - 1) + 2 := by omega
  rw [e1, e2] at v2
  generalize 8388608 + (a * 8388608 + K) % 8388608 = M at v1 v2
  generalize (a * 8388608 + K) / 8388608 - 1 = E at v1 v2
  have h4 : mv M (-149 + ((E + 2 : Nat) : Int)) = 4 * mv M (-149 + (E : Int)) := by
    have h5 := p2_add (-149 + (E : Int)) 2
    have h6 : p2 2 = 4 := by have := p2_nat 2; rw [show ((2 : Nat) : Int) = 2 from rfl] at this; rw [this]; rfl
    unfold mv
    rw [show -149 + ((E + 2 : Nat) : Int) = -149 + (E : Int) + 2 by omega, h5, h6]; grind
  rw [h4] at v2
  have : Go.Desk.sg s (4 * mv M (-149 + (E : Int))) = 4 * R := by rw [v1]; cases s <;> simp only [sg_true, sg_false] <;> grind
  rwa [this] at v2


theorem mul_one32 {x : Nat} (hx : W32 x) (hf : fin32 x = true) : fmul .f32 x 1065353216 = x := by
  have hv := fin_val hf
  by_cases h0 : fval .f32 x = 0
  · rw [h0] at hv
    rcases val_zero_word hx.1 hv with rfl | rfl <;> decide
  · have e : fval .f32 x * 1 = fval .f32 x := Rat.mul_one _
    obtain ⟨s, m, i, h1, h2, h3, h4⟩ := hv
    have hb : mv m i < p2 (topE .f32) := by
      obtain ⟨a1, a2, a3⟩ := single_finite h1
      have q := (mv_lt (m := m) (n := 2 ^ 24) (e := i)).2 (by omega)
      rw [mv_pow] at q
      have q2 := p2_le (show i + ((24 : Nat) : Int) ≤ 128 by omega)
      show mv m i < p2 128
      grind
    have habs : fval .f32 x ≤ mv m i ∧ -(mv m i) ≤ fval .f32 x := by
      have := mv_nonneg m i
      cases s <;> simp only [sg_true, sg_false] at h2 <;> grind
    obtain ⟨R, q1, q2⟩ := mul_val (fin_val hf) val_one32 (B := mv m i) ⟨m, i, h3, h4, rfl⟩ hb (by rw [e]; exact habs.1) (by rw [e]; exact habs.2)
    rw [e] at q2
    have q3 := q1.near_eq q2 (fin_val hf).rep
    exact word_of_val (fmul_lt _ _ _) hx.1 q3 (fin_val hf) h0
theorem mul_one_all {x : Nat} (hx : W32 x) : fmul .f32 x 1065353216 = x := by
  cases hf : fin32 x
  · cases hn : isNaN .f32 x
    · have h1 := num_mag hn
      have h2 := hx.1
      unfold fin32 at hf
      simp only [decide_eq_false_iff_not] at hf
      have : x = 2139095040 ∨ x = 4286578688 := by omega
      rcases this with rfl | rfl <;> decide
    · have : x = qnan .f32 := by rw [← hx.2]; exact canon_nan hn
      rw [this]; decide
  · exact mul_one32 hx hf

def sumM (s : Nat) (xs : List Nat) : Nat := xs.foldl (fadd .f32) s
theorem w32_sum : ∀ (xs : List Nat) (s : Nat), W32 s → W32 (sumM s xs)
  | [], s, h => h
  | x :: xs, s, _ => w32_sum xs _ (w32_fadd _ _)
theorem i_sum_loop (n : Nat) (N : Nat) (cs : List T) : ∀ (zs p : List Nat) (s m : Nat), p.length + zs.length < 1048576 → zs.length < m →
    f131_i_sumOf.l0 n m N cs s (p ++ zs).length (fls .f32 (p ++ zs)) ((p ++ zs).length : Int) (p.length : Int) = some (sumM s zs) := by
  intro zs
  induction zs with
  | nil =>
    intro p s m _ hm
    obtain ⟨m, rfl⟩ : ∃ k, m = k + 1 := ⟨m - 1, by omega⟩
    rw [f131_i_sumOf.l0, lt_end]; rfl
  | cons z zs ih =>
    intro p s m hp hm
    obtain ⟨m, rfl⟩ : ∃ k, m = k + 1 := ⟨m - 1, by omega⟩
    rw [f131_i_sumOf.l0, lt_mid, in_mid, toNat_len, okAt_mid, fAt_mid, wrap_len (z := z) (show p.length < 4611686018427387904 by simp at hp; omega)]
    have := ih (p ++ [z]) (fadd .f32 s z) m (by simp at hp ⊢; omega) (by simp at hm; omega)
    simpa [br, gd, sumM] using this
theorem i_summed (n : Nat) (xs : List Nat) (hl : xs.length < 1048576) (hn : xs.length < n) : f131_i_sumOf (n + 1) xs.length (fls .f32 xs) = some (sumM 0 xs) := by
  have e := i_sum_loop n xs.length (fls .f32 xs) xs [] 0 n (by simpa using hl) (by omega)
  have e : f131_i_sumOf.l0 n n xs.length (fls .f32 xs) 0 xs.length (fls .f32 xs) (xs.length : Int) 0 = _ := e
  rw [f131_i_sumOf, e]; rfl

/-! ### four times as great -/
theorem mv_smul (c m : Nat) (e : Int) : (c : Rat) * mv m e = mv (c * m) e := by
  unfold mv; rw [Rat.natCast_mul, Rat.mul_assoc]
/-- nearly the same -/
def Rel (v R : Rat) : Prop := 4194303 * v ≤ 4194304 * R ∧ 4194304 * R ≤ 4194305 * v
theorem mv_two (m : Nat) (e : Int) : mv (2 * m) e = mv m (e + 1) := by
  have := mv_shift m 1 e
  rw [show m * 2 ^ 1 = 2 * m by omega] at this
  exact this
theorem top_facts (a : Nat) : (a * 8388608 + 16777216) % 8388608 = 0 ∧ (a * 8388608 + 16777216) / 8388608 - 1 = a + 1 := by omega
theorem low_facts {a K : Nat} (h1 : 8388608 ≤ K) (h2 : K < 16777216) : 8388608 + (a * 8388608 + K) % 8388608 = K ∧ (a * 8388608 + K) / 8388608 - 1 = a := by omega
theorem word_mid {a K : Nat} (h1 : 8388608 ≤ K) (h2 : K ≤ 16777216) : mv (8388608 + (a * 8388608 + K) % 8388608) (-149 + (((a * 8388608 + K) / 8388608 - 1 : Nat) : Int)) = mv K (-149 + (a : Int)) := by
  by_cases hk : K = 16777216
  · subst hk
    rw [(top_facts a).1, (top_facts a).2]
    have := mv_two 8388608 (-149 + (a : Int))
    have e : -149 + ((a + 1 : Nat) : Int) = -149 + (a : Int) + 1 := by omega
    rw [e]
    exact this.symm
  · rw [(low_facts h1 (by omega)).1, (low_facts h1 (by omega)).2]
theorem enc_dec {s : Bool} {m : Nat} {e : Int} (hm : m ≠ 0) (h1 : -126 ≤ e + (m.log2 : Int)) (h2 : e + (m.log2 : Int) ≤ 100) :
    ∃ M E, 8388608 ≤ M ∧ M < 16777216 ∧ FloatKind.f32.decode (FloatKind.f32.encode (.number s m e)) = .number s M E ∧ FloatKind.f32.decode (FloatKind.f32.encode (.number s m (e + 2))) = .number s M (E + 2) ∧
      e + (m.log2 : Int) - 23 ≤ E ∧ E ≤ e + (m.log2 : Int) - 22 ∧ 8388607 * mv m e ≤ 8388608 * mv M E ∧ 8388608 * mv M E ≤ 8388609 * mv m e := by
  have hb : FloatKind.f32.format.binade = 8388608 := by decide
  have hi : FloatKind.f32.format.infRung = 2139095040 := rfl
  have hl : FloatKind.f32.format.leastPlace = -149 := by decide
  have hf : ((FloatKind.f32.format.fractionBits : Nat) : Int) = 23 := rfl
  obtain ⟨K, hK⟩ : ∃ K, K = Ieee.Toward.cut .even s (m <<< (e - (e + (m.log2 : Int) - 23)).toNat) ((e + (m.log2 : Int) - 23) - e).toNat := ⟨_, rfl⟩
  have lo : 2 ^ m.log2 ≤ m := Nat.log2_self_le hm
  have hi2 : m < 2 ^ (m.log2 + 1) := Nat.lt_log2_self
  have hKb : (8388608 ≤ K ∧ K ≤ 16777216) ∧ 8388607 * mv m e ≤ 8388608 * mv K (e + (m.log2 : Int) - 23) ∧ 8388608 * mv K (e + (m.log2 : Int) - 23) ≤ 8388609 * mv m e := by
    rw [hK]
    have k1 : ∀ v, 8388607 * mv v e = mv (8388607 * v) e := fun v => mv_smul 8388607 v e
    have k2 : ∀ v, 8388608 * mv v e = mv (8388608 * v) e := fun v => mv_smul 8388608 v e
    have k3 : ∀ v, 8388609 * mv v e = mv (8388609 * v) e := fun v => mv_smul 8388609 v e
    rcases Nat.lt_or_ge m.log2 23 with hc | hc
    · rw [show ((e + (m.log2 : Int) - 23) - e).toNat = 0 by omega, show (e - (e + (m.log2 : Int) - 23)).toNat = 23 - m.log2 by omega, Nat.shiftLeft_eq]
      have g1 : 2 ^ m.log2 * 2 ^ (23 - m.log2) ≤ m * 2 ^ (23 - m.log2) := Nat.mul_le_mul_right _ lo
      have g2 : m * 2 ^ (23 - m.log2) ≤ 2 ^ (m.log2 + 1) * 2 ^ (23 - m.log2) := Nat.mul_le_mul_right _ (Nat.le_of_lt hi2)
      rw [← Nat.pow_add, show m.log2 + (23 - m.log2) = 23 by omega] at g1
      rw [← Nat.pow_add, show m.log2 + 1 + (23 - m.log2) = 24 by omega] at g2
      refine ⟨⟨(cut_bounds s _ 0 8388608).2 (by omega), (cut_bounds s _ 0 16777216).1 (by omega)⟩, ?_⟩
      have c1 := (cut_bounds s (m * 2 ^ (23 - m.log2)) 0 (m * 2 ^ (23 - m.log2))).1 (by omega)
      have c2 := (cut_bounds s (m * 2 ^ (23 - m.log2)) 0 (m * 2 ^ (23 - m.log2))).2 (by omega)
      rw [show Ieee.Toward.cut .even s (m * 2 ^ (23 - m.log2)) 0 = m * 2 ^ (23 - m.log2) from Nat.le_antisymm c1 c2, mv_shift, show e + (m.log2 : Int) - 23 + ((23 - m.log2 : Nat) : Int) = e by omega, k1, k2, k3]
      exact ⟨mv_le.2 (by omega), mv_le.2 (by omega)⟩
    · obtain ⟨d, hd⟩ : ∃ d, m.log2 = d + 23 := ⟨m.log2 - 23, by omega⟩
      rw [hd] at lo hi2 ⊢
      rw [show ((e + ((d + 23 : Nat) : Int) - 23) - e).toNat = d by omega, show (e - (e + ((d + 23 : Nat) : Int) - 23)).toNat = 0 by omega, Nat.shiftLeft_zero]
      have g1 : 8388608 * 2 ^ d = 2 ^ (d + 23) := by rw [show (8388608 : Nat) = 2 ^ 23 by decide, ← Nat.pow_add]; congr 1; omega
      have g2 : 16777216 * 2 ^ d = 2 ^ (d + 23 + 1) := by rw [show (16777216 : Nat) = 2 ^ 24 by decide, ← Nat.pow_add]; congr 1; omega
      refine ⟨⟨(cut_bounds s m d 8388608).2 (by omega), (cut_bounds s m d 16777216).1 (by omega)⟩, ?_⟩
      have hp := Nat.two_pow_pos d
      have c1 := (cut_bounds s m d (m / 2 ^ d + 1)).1 (by
        have := Nat.div_add_mod m (2 ^ d)
        have := Nat.mod_lt m hp
        rw [Nat.add_mul, Nat.one_mul, Nat.mul_comm]; omega)
      have c2 := (cut_bounds s m d (m / 2 ^ d)).2 (Nat.div_mul_le_self _ _)
      generalize Ieee.Toward.cut .even s m d = C at c1 c2
      rw [show e + ((d + 23 : Nat) : Int) - 23 = e + (d : Int) by omega, ← mv_shift, k1, k2, k3]
      have h3 := Nat.div_add_mod m (2 ^ d)
      have h4 := Nat.mod_lt m hp
      have h5 : (m / 2 ^ d) * 2 ^ d ≤ C * 2 ^ d := Nat.mul_le_mul_right _ c2
      have h6 : C * 2 ^ d ≤ (m / 2 ^ d + 1) * 2 ^ d := Nat.mul_le_mul_right _ c1
      rw [Nat.add_mul, Nat.one_mul] at h6
      rw [Nat.mul_comm] at h3
      generalize m / 2 ^ d * 2 ^ d = Q at h3 h5 h6
      generalize C * 2 ^ d = W at h5 h6 ⊢
      generalize 2 ^ d = D at *
      exact ⟨mv_le.2 (by omega), mv_le.2 (by omega)⟩
  obtain ⟨hKb, hr1, hr2⟩ := hKb
  have key : ∀ f : Int, -126 ≤ f + (m.log2 : Int) → f + (m.log2 : Int) ≤ 102 → e + (m.log2 : Int) - 23 - e = f + (m.log2 : Int) - 23 - f → FloatKind.f32.encode (.number s m f) = FloatKind.f32.format.word s ((f + (m.log2 : Int) - 23 - -149).toNat * 8388608 + K) := by
    intro f f1 f2 _
    show FloatKind.f32.format.nearest s m f = _
    unfold Ieee.Format.nearest
    rw [if_neg hm]
    simp only [hf, hl, hb, hi]
    rw [show max (f + (m.log2 : Int) - 23) (-149) = f + (m.log2 : Int) - 23 by omega, show f - (f + (m.log2 : Int) - 23) = e - (e + (m.log2 : Int) - 23) by omega, show f + (m.log2 : Int) - 23 - f = e + (m.log2 : Int) - 23 - e by omega, ← hK]
    have hle : (f + (m.log2 : Int) - 23 - -149).toNat * 8388608 + K ≤ 2139095040 := by omega
    rw [Nat.min_eq_left hle]
  have k1 := key e h1 (by omega) rfl
  have k2 := key (e + 2) (by omega) (by omega) (by omega)
  rw [show (e + 2 + (m.log2 : Int) - 23 - -149).toNat = (e + (m.log2 : Int) - 23 - -149).toNat + 2 by omega] at k2
  generalize ha : (e + (m.log2 : Int) - 23 - -149).toNat = a at k1 k2
  have ha2 : a ≤ 226 := by omega
  have r1 := read_high (s := s) (r := a * 8388608 + K) (by omega) (by omega)
  have r2 := read_high (s := s) (r := (a + 2) * 8388608 + K) (by omega) (by omega)
  rw [← k1] at r1
  rw [← k2] at r2
  have e1 : ((a + 2) * 8388608 + K) % 8388608 = (a * 8388608 + K) % 8388608 := by omega
  have e2 : ((a + 2) * 8388608 + K) / 8388608 - 1 = ((a * 8388608 + K) / 8388608 - 1) + 2 := by omega
  rw [e1, e2] at r2
  have hv : mv (8388608 + (a * 8388608 + K) % 8388608) (-149 + (((a * 8388608 + K) / 8388608 - 1 : Nat) : Int)) = mv K (e + (m.log2 : Int) - 23) := by
    rw [show e + (m.log2 : Int) - 23 = -149 + (a : Int) by omega]
    exact word_mid hKb.1 hKb.2
  rw [← hv] at hr1 hr2
  refine ⟨8388608 + (a * 8388608 + K) % 8388608, -149 + (((a * 8388608 + K) / 8388608 - 1 : Nat) : Int), by omega, by omega, r1, ?_, by omega, by omega, hr1, hr2⟩
  rw [r2]
  congr 1; omega
def FF (lo hi : Int) (x y : Nat) (v : Rat) : Prop := (x = 0 ∧ y = 0 ∧ v = 0) ∨ ∃ m e, FloatKind.f32.decode x = .number false m e ∧ FloatKind.f32.decode y = .number false m (e + 2) ∧ 8388608 ≤ m ∧ m < 16777216 ∧ lo ≤ e ∧ e ≤ hi ∧ v = mv m e
theorem log_norm {m : Nat} (h1 : 8388608 ≤ m) (h2 : m < 16777216) : m.log2 = 23 := by
  have a := (Nat.le_log2 (show m ≠ 0 by omega) (k := 23)).2 (by simpa using h1)
  have b := (Nat.log2_lt (show m ≠ 0 by omega) (k := 24)).2 (by simpa using h2)
  omega
theorem rel_of {v R : Rat} (h0 : 0 ≤ v) (h1 : 8388607 * v ≤ 8388608 * R) (h2 : 8388608 * R ≤ 8388609 * v) : Rel v R := by
  unfold Rel; constructor <;> grind
theorem ff_enc {lo hi : Int} {m : Nat} {e : Int} (hm : m ≠ 0) (h1 : -126 ≤ e + (m.log2 : Int)) (h2 : e + (m.log2 : Int) ≤ 100) (hlo : lo ≤ e + (m.log2 : Int) - 23) (hhi : e + (m.log2 : Int) - 22 ≤ hi) :
    ∃ R, FF lo hi (FloatKind.f32.encode (.number false m e)) (FloatKind.f32.encode (.number false m (e + 2))) R ∧ Rel (mv m e) R := by
  obtain ⟨M, E, q1, q2, q3, q4, q5, q6, q7, q8⟩ := enc_dec (s := false) hm h1 h2
  exact ⟨mv M E, .inr ⟨M, E, q3, q4, q1, q2, by omega, by omega, rfl⟩, rel_of (mv_nonneg _ _) q7 q8⟩
theorem add_pos {x y m n : Nat} {i j : Int} (h1 : FloatKind.f32.decode x = .number false m i) (h2 : FloatKind.f32.decode y = .number false n j) (h : m ≠ 0 ∨ n ≠ 0) :
    fadd .f32 x y = FloatKind.f32.encode (.number false (m * 2 ^ (i - min i j).toNat + n * 2 ^ (j - min i j).toNat) (min i j)) := by
  have e1 : FloatKind.f32.format.read x = .number false m i := h1
  have e2 : FloatKind.f32.format.read y = .number false n j := h2
  simp only [fadd, Ieee.Format.add, e1, e2, Ieee.Datum.sum, Option.map_some]
  have hs : ∀ (m up : Nat), Ieee.signed false m up = ((m * 2 ^ up : Nat) : Int) := by
    intro m up; unfold Ieee.signed; rw [Nat.shiftLeft_eq]; simp
  rw [hs, hs, ← Int.natCast_add, Int.natAbs_natCast]
  have p1 := Nat.two_pow_pos (i - min i j).toNat
  have p2 := Nat.two_pow_pos (j - min i j).toNat
  have hne : m * 2 ^ (i - min i j).toNat + n * 2 ^ (j - min i j).toNat ≠ 0 := by
    rcases h with h | h
    · have := Nat.mul_pos (Nat.pos_of_ne_zero h) p1; omega
    · have := Nat.mul_pos (Nat.pos_of_ne_zero h) p2; omega
  generalize m * 2 ^ (i - min i j).toNat + n * 2 ^ (j - min i j).toNat = t at hne
  rw [if_neg (by omega), decide_eq_false (by omega)]
  rfl
theorem decode_zero : FloatKind.f32.decode 0 = .number false 0 (-149) := by decide
theorem add_zero_num {y n : Nat} {f : Int} (h : FloatKind.f32.decode y = .number false n f) (hn : n ≠ 0) (hf : -149 ≤ f) : fadd .f32 0 y = FloatKind.f32.encode (.number false n f) ∧ fadd .f32 y 0 = FloatKind.f32.encode (.number false n f) := by
  have key : FloatKind.f32.encode (.number false (n * 2 ^ (f - -149).toNat) (-149)) = FloatKind.f32.encode (.number false n f) := by
    have hp := Nat.two_pow_pos (f - -149).toNat
    have hne : n * 2 ^ (f - -149).toNat ≠ 0 := by have := Nat.mul_pos (Nat.pos_of_ne_zero hn) hp; omega
    exact nearest_same .f32 false hne hn (by rw [mv_shift]; congr 1; omega)
  rw [add_pos decode_zero h (.inr hn), add_pos h decode_zero (.inl hn), Int.min_eq_left hf, Int.min_eq_right hf]
  simp only [Nat.zero_mul, Nat.zero_add, Nat.add_zero]
  exact ⟨key, key⟩
theorem ff_add {lo hi : Int} {x y u v : Nat} {a b : Rat} (h : FF lo hi x u a) (h' : FF lo hi y v b) (hlo : -100 ≤ lo) (hhi : hi ≤ 60) : ∃ R, FF lo (hi + 2) (fadd .f32 x y) (fadd .f32 u v) R ∧ Rel (a + b) R := by
  rcases h with ⟨rfl, rfl, rfl⟩ | ⟨m, e, p1, p2, p3, p4, p5, p6, rfl⟩
  · rcases h' with ⟨rfl, rfl, rfl⟩ | ⟨n, f, q1, q2, q3, q4, q5, q6, rfl⟩
    · refine ⟨0, .inl ⟨by decide, by decide, rfl⟩, by unfold Rel; grind⟩
    · have hl := log_norm q3 q4
      rw [(add_zero_num q1 (by omega) (by omega)).1, (add_zero_num q2 (by omega) (by omega)).1, Rat.zero_add]
      exact ff_enc (by omega) (by omega) (by omega) (by omega) (by omega)
  · have hl := log_norm p3 p4
    rcases h' with ⟨rfl, rfl, rfl⟩ | ⟨n, f, q1, q2, q3, q4, q5, q6, rfl⟩
    · rw [(add_zero_num p1 (by omega) (by omega)).2, (add_zero_num p2 (by omega) (by omega)).2, Rat.add_zero]
      exact ff_enc (by omega) (by omega) (by omega) (by omega) (by omega)
    · have hl' := log_norm q3 q4
      rw [add_pos p1 q1 (.inl (by omega)), add_pos p2 q2 (.inl (by omega))]
      rw [show min (e + 2) (f + 2) = min e f + 2 by omega, show e + 2 - (min e f + 2) = e - min e f by omega, show f + 2 - (min e f + 2) = f - min e f by omega]
      have hval : mv m e + mv n f = mv (m * 2 ^ (e - min e f).toNat + n * 2 ^ (f - min e f).toNat) (min e f) := by
        rw [mv_add, mv_shift, mv_shift]
        congr 2 <;> omega
      rw [hval]
      have p1 := Nat.two_pow_pos (e - min e f).toNat
      have p2 := Nat.two_pow_pos (f - min e f).toNat
      have hpos : 0 < m * 2 ^ (e - min e f).toNat := Nat.mul_pos (by omega) p1
      have g1 : 2 ^ (23 + (e - min e f).toNat) ≤ m * 2 ^ (e - min e f).toNat := by rw [Nat.pow_add]; exact Nat.mul_le_mul_right _ (by simpa using p3)
      have g2 : 2 ^ (23 + (f - min e f).toNat) ≤ n * 2 ^ (f - min e f).toNat := by rw [Nat.pow_add]; exact Nat.mul_le_mul_right _ (by simpa using q3)
      have g3 : m * 2 ^ (e - min e f).toNat ≤ 2 ^ (24 + (e - min e f).toNat) := by rw [Nat.pow_add]; exact Nat.mul_le_mul_right _ (by simp; omega)
      have g4 : n * 2 ^ (f - min e f).toNat ≤ 2 ^ (24 + (f - min e f).toNat) := by rw [Nat.pow_add]; exact Nat.mul_le_mul_right _ (by simp; omega)
      generalize ht : m * 2 ^ (e - min e f).toNat + n * 2 ^ (f - min e f).toNat = t
      have hne : t ≠ 0 := by omega
      have l1 : 23 + (max e f - min e f).toNat ≤ t.log2 := by
        rw [Nat.le_log2 hne]
        rcases Int.le_total e f with h | h
        · rw [show max e f = f by omega]; omega
        · rw [show max e f = e by omega]; omega
      have l2 : t.log2 < 26 + (max e f - min e f).toNat := by
        rw [Nat.log2_lt hne]
        have d1 : 2 ^ (24 + (e - min e f).toNat) ≤ 2 ^ (24 + (max e f - min e f).toNat) := Nat.pow_le_pow_right (by decide) (by omega)
        have d2 : 2 ^ (24 + (f - min e f).toNat) ≤ 2 ^ (24 + (max e f - min e f).toNat) := Nat.pow_le_pow_right (by decide) (by omega)
        have d3 : 2 ^ (26 + (max e f - min e f).toNat) = 4 * 2 ^ (24 + (max e f - min e f).toNat) := by
          rw [show 26 + (max e f - min e f).toNat = 2 + (24 + (max e f - min e f).toNat) by omega, Nat.pow_add]
        have d4 := Nat.two_pow_pos (24 + (max e f - min e f).toNat)
        omega
      have l3 : t.log2 < 25 + (max e f - min e f).toNat ∨ t.log2 = 25 + (max e f - min e f).toNat := by omega
      rcases l3 with l3 | l3
      · exact ff_enc hne (by omega) (by omega) (by omega) (by omega)
      · exfalso
        have d0 : 2 ^ (25 + (max e f - min e f).toNat) ≤ t := by rw [← l3]; exact Nat.log2_self_le hne
        have d1 : 2 ^ (24 + (e - min e f).toNat) ≤ 2 ^ (24 + (max e f - min e f).toNat) := Nat.pow_le_pow_right (by decide) (by omega)
        have d2 : 2 ^ (24 + (f - min e f).toNat) ≤ 2 ^ (24 + (max e f - min e f).toNat) := Nat.pow_le_pow_right (by decide) (by omega)
        have d3 : 2 ^ (25 + (max e f - min e f).toNat) = 2 * 2 ^ (24 + (max e f - min e f).toNat) := by
          rw [show 25 + (max e f - min e f).toNat = 1 + (24 + (max e f - min e f).toNat) by omega, Nat.pow_add]
        have d5 : m * 2 ^ (e - min e f).toNat < 2 ^ (24 + (e - min e f).toNat) := by rw [Nat.pow_add]; exact Nat.mul_lt_mul_of_pos_right (by simpa using p4) p1
        omega
theorem enc_zero (e : Int) : FloatKind.f32.encode (.number false 0 e) = 0 := by
  show FloatKind.f32.format.nearest false 0 e = 0
  unfold Ieee.Format.nearest
  rfl
theorem div_num {x y m n : Nat} {i j : Int} (h1 : FloatKind.f32.decode x = .number false m i) (h2 : FloatKind.f32.decode y = .number false n j) (hn : n ≠ 0) (hl : m.log2 ≤ 25 + n.log2) :
    fdiv .f32 x y = FloatKind.f32.encode (.number false (2 * (m * 2 ^ (25 + n.log2 - m.log2) / n) + (m * 2 ^ (25 + n.log2 - m.log2) % n != 0).toNat) (i - j - ((25 + n.log2 - m.log2 : Nat) : Int) - 1)) := by
  have e1 : FloatKind.f32.format.read x = .number false m i := h1
  have e2 : FloatKind.f32.format.read y = .number false n j := h2
  have hf : FloatKind.f32.format.fractionBits + 2 = 25 := rfl
  simp only [fdiv, Ieee.Format.div, e1, e2, Ieee.Datum.quotient, if_neg hn, Option.map_some, hf, Nat.shiftLeft_eq]
  rfl
/-- a quotient with its last digit is nearly the quotient -/
theorem quot_near {D n : Nat} (hn : 0 < n) (hq : 16777216 * n ≤ D) : 16777215 * (2 * D) ≤ 16777216 * (n * (2 * (D / n) + (D % n != 0).toNat)) ∧ 16777216 * (n * (2 * (D / n) + (D % n != 0).toNat)) ≤ 16777217 * (2 * D) := by
  have h1 := Nat.div_add_mod D n
  have h2 := Nat.mod_lt D hn
  rw [Nat.mul_add, Nat.mul_left_comm n 2 (D / n)]
  generalize n * (D / n) = Q at h1 ⊢
  generalize D % n = r at h1 h2 ⊢
  by_cases hr : r = 0
  · subst hr
    simp; omega
  · have : (r != 0) = true := by simp [hr]
    rw [this]
    simp only [Bool.toNat_true, Nat.mul_one]
    omega
theorem mul_div_rat {a b c : Rat} (hb : 0 < b) (h : a = c * b) : a / b = c := by
  rw [h, Rat.mul_div_cancel]; grind
theorem rel_trans {a b c : Rat} (h0 : 0 ≤ a) (h1 : 16777215 * a ≤ 16777216 * b) (h2 : 16777216 * b ≤ 16777217 * a) (h3 : 8388607 * b ≤ 8388608 * c) (h4 : 8388608 * c ≤ 8388609 * b) : Rel a c := by
  unfold Rel; constructor <;> grind
theorem ff_div {lo hi : Int} {x u y n : Nat} {j : Int} {a : Rat} (h : FF lo hi x u a) (hy : FloatKind.f32.decode y = .number false n j) (hn : n ≠ 0) (hn2 : n < 16777216) (hj : 0 ≤ j + (n.log2 : Int) ∧ j + (n.log2 : Int) ≤ 4) (hlo : -100 ≤ lo) (hhi : hi ≤ 60) :
    ∃ R, FF (lo - 6) (hi + 2) (fdiv .f32 x y) (fdiv .f32 u y) R ∧ Rel (a / mv n j) R := by
  have hnp : 0 < mv n j := by have := (mv_lt (e := j)).2 (Nat.pos_of_ne_zero hn); rwa [mv_zero] at this
  rcases h with ⟨rfl, rfl, rfl⟩ | ⟨m, e, p1, p2, p3, p4, p5, p6, rfl⟩
  · have hz : fdiv .f32 0 y = 0 := by
      have h0 : (0 : Nat).log2 = 0 := by decide
      rw [div_num decode_zero hy hn (by rw [h0]; omega)]
      simp only [Nat.zero_mul, Nat.zero_div, Nat.zero_mod]
      exact enc_zero _
    refine ⟨0, .inl ⟨hz, hz, rfl⟩, ?_⟩
    rw [Rat.div_def, Rat.zero_mul]
    unfold Rel; constructor <;> grind
  · have hl := log_norm p3 p4
    have hlb : n.log2 < 24 := (Nat.log2_lt hn).2 (by simpa using hn2)
    rw [div_num p1 hy hn (by omega), div_num p2 hy hn (by omega), hl, show 25 + n.log2 - 23 = n.log2 + 2 by omega]
    have hD : 16777216 * n ≤ m * 2 ^ (n.log2 + 2) := by
      have g1 : n < 2 ^ (n.log2 + 1) := Nat.lt_log2_self
      have g2 : 8388608 * 2 ^ (n.log2 + 2) ≤ m * 2 ^ (n.log2 + 2) := Nat.mul_le_mul_right _ p3
      have g3 : 2 ^ (n.log2 + 2) = 2 * 2 ^ (n.log2 + 1) := by rw [show n.log2 + 2 = 1 + (n.log2 + 1) by omega, Nat.pow_add]
      omega
    have hD2 : m * 2 ^ (n.log2 + 2) < 16777216 * (4 * n) := by
      have g1 : 2 ^ n.log2 ≤ n := Nat.log2_self_le hn
      have g2 : m * 2 ^ (n.log2 + 2) < 16777216 * 2 ^ (n.log2 + 2) := Nat.mul_lt_mul_of_pos_right p4 (Nat.two_pow_pos _)
      have g3 : 2 ^ (n.log2 + 2) = 4 * 2 ^ n.log2 := by rw [show n.log2 + 2 = 2 + n.log2 by omega, Nat.pow_add]
      omega
    have hQ := quot_near (Nat.pos_of_ne_zero hn) hD
    have hsh := mv_shift m (n.log2 + 2) (e - ((n.log2 + 2 : Nat) : Int))
    rw [show e - ((n.log2 + 2 : Nat) : Int) + ((n.log2 + 2 : Nat) : Int) = e by omega] at hsh
    have q1 : 16777216 ≤ m * 2 ^ (n.log2 + 2) / n := (Nat.le_div_iff_mul_le (Nat.pos_of_ne_zero hn)).2 hD
    have q2 : m * 2 ^ (n.log2 + 2) / n < 67108864 := (Nat.div_lt_iff_lt_mul (Nat.pos_of_ne_zero hn)).2 (by omega)
    generalize m * 2 ^ (n.log2 + 2) = D at hD hD2 hQ hsh q1 q2 ⊢
    generalize hW : 2 * (D / n) + (D % n != 0).toNat = W at hQ ⊢
    have hb := Bool.toNat_le (D % n != 0)
    have w1 : 2 ^ 25 ≤ W := by simp; omega
    have w2 : W < 2 ^ 27 := by simp; omega
    have hne : W ≠ 0 := by omega
    have l1 := (Nat.le_log2 hne).2 w1
    have l2 := (Nat.log2_lt hne).2 w2
    rw [show e + 2 - j - ((n.log2 + 2 : Nat) : Int) - 1 = (e - j - ((n.log2 + 2 : Nat) : Int) - 1) + 2 by omega]
    obtain ⟨M, E, r1, r2, r3, r4, r5, r6, r7, r8⟩ := enc_dec (s := false) hne (e := e - j - ((n.log2 + 2 : Nat) : Int) - 1) (by omega) (by omega)
    refine ⟨mv M E, .inr ⟨M, E, r3, r4, r1, r2, by omega, by omega, rfl⟩, ?_⟩
    have hq : mv m e / mv n j = mv m e / mv n j := rfl
    -- the quotient and its digits
    have t0 : mv n j * mv W (e - j - ((n.log2 + 2 : Nat) : Int) - 1) = mv (n * W) (e - ((n.log2 + 2 : Nat) : Int) - 1) := by rw [← mv_mul]; congr 1; omega
    have t1 : mv m e = mv (2 * D) (e - ((n.log2 + 2 : Nat) : Int) - 1) := by rw [← hsh, mv_two]; congr 1; omega
    have u1 : 16777215 * mv m e ≤ 16777216 * (mv n j * mv W (e - j - ((n.log2 + 2 : Nat) : Int) - 1)) := by
      rw [t0, t1]
      have a1 := mv_smul 16777215 (2 * D) (e - ((n.log2 + 2 : Nat) : Int) - 1)
      have a2 := mv_smul 16777216 (n * W) (e - ((n.log2 + 2 : Nat) : Int) - 1)
      have a3 := (mv_le (e := e - ((n.log2 + 2 : Nat) : Int) - 1)).2 hQ.1
      rw [← a1, ← a2] at a3
      exact a3
    have u2 : 16777216 * (mv n j * mv W (e - j - ((n.log2 + 2 : Nat) : Int) - 1)) ≤ 16777217 * mv m e := by
      rw [t0, t1]
      have a1 := mv_smul 16777217 (2 * D) (e - ((n.log2 + 2 : Nat) : Int) - 1)
      have a2 := mv_smul 16777216 (n * W) (e - ((n.log2 + 2 : Nat) : Int) - 1)
      have a3 := (mv_le (e := e - ((n.log2 + 2 : Nat) : Int) - 1)).2 hQ.2
      rw [← a1, ← a2] at a3
      exact a3
    generalize mv W (e - j - ((n.log2 + 2 : Nat) : Int) - 1) = w at u1 u2 r7 r8
    have hcan : mv m e / mv n j * mv n j = mv m e := by rw [Rat.div_mul_cancel]; grind
    have hmm := mv_nonneg m e
    generalize mv m e / mv n j = c at hcan ⊢
    generalize mv n j = b at hnp hcan u1 u2
    rw [← hcan] at u1 u2
    have le_of : ∀ p q : Rat, p * b ≤ q * b → p ≤ q := fun p q h => by
      rcases Rat.le_total (a := p) (b := q) with h' | h'
      · exact h'
      · have := Rat.mul_le_mul_of_nonneg_right h' (Rat.le_of_lt hnp)
        have e : (p - q) * b = 0 := by grind
        rcases Rat.mul_eq_zero.1 e with e | e <;> grind
    have hc0 : 0 ≤ c := le_of 0 c (by rw [Rat.zero_mul, hcan]; exact hmm)
    exact rel_trans (b := w) hc0 (le_of _ _ (by grind)) (le_of _ _ (by grind)) r7 r8
theorem ff_mul {lo hi : Int} {x u y n : Nat} {j : Int} {a : Rat} (h : FF lo hi x u a) (hy : FloatKind.f32.decode y = .number false n j) (h3 : 8388608 ≤ n) (h4 : n < 16777216) (hj : -100 ≤ lo + j) (hhi : hi + j ≤ 20) :
    ∃ R, FF (lo + j + 23) (hi + j + 25) (fmul .f32 x y) (fmul .f32 u y) R ∧ FF (lo + j + 23) (hi + j + 25) (fmul .f32 y x) (fmul .f32 y u) R ∧ Rel (a * mv n j) R := by
  have num : ∀ (x y m n : Nat) (i j : Int), FloatKind.f32.decode x = .number false m i → FloatKind.f32.decode y = .number false n j → fmul .f32 x y = FloatKind.f32.encode (.number false (m * n) (i + j)) := by
    intro x y m n i j h1 h2
    have e1 : FloatKind.f32.format.read x = .number false m i := h1
    have e2 : FloatKind.f32.format.read y = .number false n j := h2
    simp only [fmul, Ieee.Format.mul, e1, e2, Ieee.Datum.product, Option.map_some]
    rfl
  rcases h with ⟨rfl, rfl, rfl⟩ | ⟨m, e, p1, p2, p3, p4, p5, p6, rfl⟩
  · rw [num 0 y _ _ _ _ decode_zero hy, num y 0 _ _ _ _ hy decode_zero, Nat.zero_mul, Nat.mul_zero, enc_zero, enc_zero, Rat.zero_mul]
    exact ⟨0, .inl ⟨rfl, rfl, rfl⟩, .inl ⟨rfl, rfl, rfl⟩, by unfold Rel; grind⟩
  · rw [num x y _ _ _ _ p1 hy, num y x _ _ _ _ hy p1, num u y _ _ _ _ p2 hy, num y u _ _ _ _ hy p2, Nat.mul_comm n m, Int.add_comm j, Int.add_comm j, show e + 2 + j = e + j + 2 by omega, ← mv_mul]
    have hm : m * n ≠ 0 := by have := Nat.mul_pos (show 0 < m by omega) (show 0 < n by omega); omega
    have g1 : 8388608 * 8388608 ≤ m * n := Nat.mul_le_mul p3 h3
    have g2 : m * n < 16777216 * 16777216 := Nat.mul_lt_mul'' p4 h4
    have l1 := (Nat.le_log2 hm (k := 46)).2 (by simpa using g1)
    have l2 := (Nat.log2_lt hm (k := 48)).2 (by simpa using g2)
    obtain ⟨R, r1, r2⟩ := ff_enc (lo := lo + j + 23) (hi := hi + j + 25) hm (e := e + j) (by omega) (by omega) (by omega) (by omega)
    exact ⟨R, r1, r1, r2⟩
/-! ### sums and lists -/
theorem FF.mono {lo hi lo' hi' : Int} {x y : Nat} {v : Rat} (h : FF lo hi x y v) (h1 : lo' ≤ lo) (h2 : hi ≤ hi') : FF lo' hi' x y v := by
  rcases h with h | ⟨m, e, p1, p2, p3, p4, p5, p6, p7⟩
  · exact .inl h
  · exact .inr ⟨m, e, p1, p2, p3, p4, by omega, by omega, p7⟩
theorem FF.nonneg {lo hi : Int} {x y : Nat} {v : Rat} (h : FF lo hi x y v) : 0 ≤ v := by
  rcases h with ⟨-, -, rfl⟩ | ⟨m, e, p1, p2, p3, p4, p5, p6, rfl⟩
  · exact Rat.le_refl
  · exact mv_nonneg _ _
theorem FF.val {lo hi : Int} {x y : Nat} {v : Rat} (h : FF lo hi x y v) : Val .f32 x v ∧ Val .f32 y (4 * v) := by
  rcases h with ⟨rfl, rfl, rfl⟩ | ⟨m, e, p1, p2, p3, p4, p5, p6, rfl⟩
  · rw [Rat.mul_zero]; exact ⟨val_zero .f32, val_zero .f32⟩
  · have h := read_val p2
    have h4 : mv m (e + 2) = 4 * mv m e := by
      have := mv_smul 4 m e
      rw [show ((4 : Nat) : Rat) = 4 from rfl] at this
      rw [this, show e + 2 = e + 1 + 1 by omega, ← mv_two, ← mv_two]; congr 1; omega
    rw [sg_false, h4] at h
    exact ⟨read_val p1, h⟩
theorem FF.ge {lo hi lo' hi' : Int} {x y x' y' : Nat} {v v' : Rat} (h : FF lo hi x y v) (h' : FF lo' hi' x' y' v') : fge .f32 y y' = fge .f32 x x' ∧ (fge .f32 x x' = true ↔ v' ≤ v) := by
  have a := fge_val h.val.1 h'.val.1
  have b := fge_val h.val.2 h'.val.2
  refine ⟨?_, a⟩
  rw [Bool.eq_iff_iff, a, b]
  constructor <;> intro h <;> grind
def cL : Nat → Rat
  | 0 => 0
  | j + 1 => (4194303 / 4194304) * (cL j + 1)
def cH : Nat → Rat
  | 0 => 0
  | j + 1 => (4194305 / 4194304) * (cH j + 1)
theorem coef_tab : ∀ j : Nat, j < 15 → (j : Rat) * (65535 / 65536) ≤ cL j ∧ cH j ≤ (j : Rat) * (65537 / 65536) := by decide +kernel
abbrev Tri := Nat × Nat × Rat
theorem ff_sum : ∀ (ts : List Tri) (lo hi : Int) (x u : Nat) (a L H : Rat) (j : Nat), FF lo hi x u a → (∀ t ∈ ts, FF lo hi t.1 t.2.1 t.2.2) → -100 ≤ lo → hi + 2 * (ts.length : Int) ≤ 60 → cL j * L ≤ a → a ≤ cH j * H → (∀ t ∈ ts, L ≤ t.2.2 ∧ t.2.2 ≤ H) →
    ∃ R, FF lo (hi + 2 * (ts.length : Int)) (sumM x (ts.map (·.1))) (sumM u (ts.map (·.2.1))) R ∧ cL (j + ts.length) * L ≤ R ∧ R ≤ cH (j + ts.length) * H
  | [], lo, hi, x, u, a, L, H, j, h, _, _, _, h1, h2, _ => ⟨a, h.mono (by omega) (by simp), h1, h2⟩
  | (y, v, b) :: ts, lo, hi, x, u, a, L, H, j, h, ht, hlo, hhi, h1, h2, hb => by
    obtain ⟨R, r1, r2, r3⟩ := ff_add h (ht (y, v, b) (List.mem_cons_self ..)) hlo (by simp at hhi; omega)
    obtain ⟨b1, b2⟩ := hb (y, v, b) (List.mem_cons_self ..)
    simp only at r2 r3 b1 b2
    have c1 : cL (j + 1) * L ≤ R := by
      show (4194303 / 4194304) * (cL j + 1) * L ≤ R
      grind
    have c2 : R ≤ cH (j + 1) * H := by
      show R ≤ (4194305 / 4194304) * (cH j + 1) * H
      grind
    obtain ⟨S, s1, s2, s3⟩ := ff_sum ts lo (hi + 2) (fadd .f32 x y) (fadd .f32 u v) R L H (j + 1) r1 (fun t h' => (ht t (by simp [h'])).mono (by omega) (by omega)) hlo (by simp at hhi; omega) c1 c2 (fun t h' => hb t (by simp [h']))
    refine ⟨S, s1.mono (by omega) (by simp; omega), ?_, ?_⟩
    · rw [List.length_cons, show j + (ts.length + 1) = j + 1 + ts.length by omega]; exact s2
    · rw [List.length_cons, show j + (ts.length + 1) = j + 1 + ts.length by omega]; exact s3
theorem int_tab : ∀ k : Nat, k < 15 → 0 < k → ∃ n j, FloatKind.f32.decode (FloatKind.f32.nearest (k : Int)) = .number false n j ∧ n ≠ 0 ∧ n < 16777216 ∧ (0 ≤ j + (n.log2 : Int) ∧ j + (n.log2 : Int) ≤ 4) ∧ mv n j = (k : Rat) := by
  have tab : ∀ k : Nat, k < 15 → 0 < k → (match FloatKind.f32.decode (FloatKind.f32.nearest (k : Int)) with
    | .number s n j => (!s) && decide (n ≠ 0 ∧ n < 16777216 ∧ (0 ≤ j + (n.log2 : Int) ∧ j + (n.log2 : Int) ≤ 4))
    | _ => false) = true := by decide +kernel
  intro k h1 h2
  have t := tab k h1 h2
  have hv := int_val (k := .f32) (n := (k : Int)) (by rw [binade32]; omega)
  obtain ⟨s, m, e, hd, hv, -⟩ := hv
  rw [hd] at t
  simp only [Bool.and_eq_true, Bool.not_eq_true', decide_eq_true_eq] at t
  obtain ⟨rfl, t1, t2, t3⟩ := t
  exact ⟨m, e, hd, t1, t2, t3, hv.symm⟩
/-- the mean of numbers -/
theorem ff_mean {ts : List Tri} {lo hi : Int} {L H : Rat} (h0 : 0 < ts.length) (h1 : ts.length < 15) (ht : ∀ t ∈ ts, FF lo hi t.1 t.2.1 t.2.2) (hlo : -100 ≤ lo) (hhi : hi ≤ 30) (hL : 0 ≤ L) (hH : 0 ≤ H) (hb : ∀ t ∈ ts, L ≤ t.2.2 ∧ t.2.2 ≤ H) :
    ∃ R, FF (lo - 6) (hi + 32) (fdiv .f32 (sumM 0 (ts.map (·.1))) (FloatKind.f32.nearest (ts.length : Int))) (fdiv .f32 (sumM 0 (ts.map (·.2.1))) (FloatKind.f32.nearest (ts.length : Int))) R ∧ (32767 / 32768) * L ≤ R ∧ R ≤ (32769 / 32768) * H := by
  obtain ⟨S, s1, s2, s3⟩ := ff_sum ts lo hi 0 0 0 L H 0 (.inl ⟨rfl, rfl, rfl⟩) ht hlo (by omega) (by show 0 * L ≤ 0; grind) (by show 0 ≤ 0 * H; grind) hb
  rw [Nat.zero_add] at s2 s3
  obtain ⟨c1, c2⟩ := coef_tab _ h1
  obtain ⟨n, j, d1, d2, d3, d4, d5⟩ := int_tab _ h1 h0
  obtain ⟨R, r1, r2, r3⟩ := ff_div s1 d1 d2 d3 d4 hlo (by omega)
  rw [d5] at r2 r3
  refine ⟨R, r1.mono (by omega) (by omega), ?_, ?_⟩
  · have k1 : (1 : Rat) ≤ (ts.length : Rat) := by exact_mod_cast h0
    have e1 : ((ts.length : Rat) * (65535 / 65536)) * L ≤ S := Rat.le_trans (Rat.mul_le_mul_of_nonneg_right c1 hL) s2
    have e2 : S / (ts.length : Rat) * (ts.length : Rat) = S := by rw [Rat.div_mul_cancel]; grind
    generalize (ts.length : Rat) = k at *
    generalize S / k = q at *
    have : (65535 / 65536) * L ≤ q := by
      rcases Rat.le_total (a := (65535 / 65536) * L) (b := q) with h | h
      · exact h
      · have h3 := Rat.mul_le_mul_of_nonneg_right h (show (0 : Rat) ≤ k by grind)
        have h4 : ((65535 / 65536) * L - q) * k = 0 := by grind
        rcases Rat.mul_eq_zero.1 h4 with h5 | h5 <;> grind
    grind
  · have k1 : (1 : Rat) ≤ (ts.length : Rat) := by exact_mod_cast h0
    have e1 : S ≤ ((ts.length : Rat) * (65537 / 65536)) * H := Rat.le_trans s3 (Rat.mul_le_mul_of_nonneg_right c2 hH)
    have e2 : S / (ts.length : Rat) * (ts.length : Rat) = S := by rw [Rat.div_mul_cancel]; grind
    generalize (ts.length : Rat) = k at *
    generalize S / k = q at *
    have : q ≤ (65537 / 65536) * H := by
      rcases Rat.le_total (a := q) (b := (65537 / 65536) * H) with h | h
      · exact h
      · have h3 := Rat.mul_le_mul_of_nonneg_right h (show (0 : Rat) ≤ k by grind)
        have h4 : (q - (65537 / 65536) * H) * k = 0 := by grind
        rcases Rat.mul_eq_zero.1 h4 with h5 | h5 <;> grind
    grind
/-! ### squares of plain numbers -/
def sqB (x : Nat) : Bool := (fmul .f32 x x == 0 && fmul .f32 (fmul .f32 1073741824 x) (fmul .f32 1073741824 x) == 0) || (match FloatKind.f32.decode (fmul .f32 x x), FloatKind.f32.decode (fmul .f32 (fmul .f32 1073741824 x) (fmul .f32 1073741824 x)) with
  | .number s m e, .number s' m' e' => (!s) && (!s') && decide (m' = m ∧ e' = e + 2 ∧ 8388608 ≤ m ∧ m < 16777216 ∧ -40 ≤ e ∧ e ≤ 0)
  | _, _ => false)
theorem sq_tab : ∀ k : Nat, k < 129 → (sqB (fdiv .f32 (FloatKind.f32.nearest ((k : Int) - 64)) 1088421888) && sqB (fdiv .f32 (FloatKind.f32.nearest ((k : Int) - 64)) 1098907648)) = true := by decide +kernel
theorem sq_ff {x : Nat} (h : Plain x) : ∃ v, FF (-40) 0 (fmul .f32 x x) (fmul .f32 (fmul .f32 1073741824 x) (fmul .f32 1073741824 x)) v := by
  have hb : sqB x = true := by
    obtain ⟨m, hm, hx⟩ := h
    have t := sq_tab (m + 64).toNat (by omega)
    rw [show (((m + 64).toNat : Nat) : Int) - 64 = m by omega, Bool.and_eq_true] at t
    rcases hx with rfl | rfl
    · exact t.1
    · exact t.2
  unfold sqB at hb
  generalize fmul .f32 x x = p at hb ⊢
  generalize fmul .f32 (fmul .f32 1073741824 x) (fmul .f32 1073741824 x) = q at hb ⊢
  rw [Bool.or_eq_true] at hb
  rcases hb with hb | hb
  · simp only [Bool.and_eq_true, beq_iff_eq] at hb
    exact ⟨0, .inl ⟨hb.1, hb.2, rfl⟩⟩
  · cases hp : FloatKind.f32.decode p with
    | number s m e =>
      cases hq : FloatKind.f32.decode q with
      | number s' m' e' =>
        rw [hp, hq] at hb
        simp only [Bool.and_eq_true, Bool.not_eq_true', decide_eq_true_eq] at hb
        obtain ⟨⟨rfl, rfl⟩, rfl, rfl, h1, h2, h3, h4⟩ := hb
        exact ⟨mv m' e, .inr ⟨m', e, hp, hq, h1, h2, h3, h4, rfl⟩⟩
      | infinity s => rw [hp, hq] at hb; cases hb
      | nan s t => rw [hp, hq] at hb; cases hb
    | infinity s => rw [hp] at hb; cases hb
    | nan s t => rw [hp] at hb; cases hb
theorem ff_sum0 : ∀ (ts : List Tri) (lo hi : Int) (x u : Nat) (a : Rat), FF lo hi x u a → (∀ t ∈ ts, FF lo hi t.1 t.2.1 t.2.2) → -100 ≤ lo → hi + 2 * (ts.length : Int) ≤ 60 →
    ∃ R, FF lo (hi + 2 * (ts.length : Int)) (sumM x (ts.map (·.1))) (sumM u (ts.map (·.2.1))) R
  | [], lo, hi, x, u, a, h, _, _, _ => ⟨a, h.mono (by omega) (by simp)⟩
  | (y, v, b) :: ts, lo, hi, x, u, a, h, ht, hlo, hhi => by
    obtain ⟨R, r1, r2, r3⟩ := ff_add h (ht (y, v, b) (List.mem_cons_self ..)) hlo (by simp at hhi; omega)
    obtain ⟨S, s1⟩ := ff_sum0 ts lo (hi + 2) (fadd .f32 x y) (fadd .f32 u v) R r1 (fun t h' => (ht t (by simp [h'])).mono (by omega) (by omega)) hlo (by simp at hhi; omega)
    exact ⟨S, s1.mono (by omega) (by simp; omega)⟩
theorem dot_sum : ∀ (xs : List Nat) (s : Nat), dotM s xs xs = sumM s (xs.map fun x => fmul .f32 x x)
  | [], s => rfl
  | x :: xs, s => dot_sum xs _
theorem squares : ∀ (xs : List Nat), (∀ x ∈ xs, Plain x) → ∃ ts : List Tri, (∀ t ∈ ts, FF (-40) 0 t.1 t.2.1 t.2.2) ∧ xs.map (fun x => fmul .f32 x x) = ts.map (·.1) ∧ (xs.map (fmul .f32 1073741824)).map (fun x => fmul .f32 x x) = ts.map (·.2.1)
  | [], _ => ⟨[], by simp, rfl, rfl⟩
  | x :: xs, h => by
    obtain ⟨ts, h1, h2, h3⟩ := squares xs (fun y hy => h y (by simp [hy]))
    obtain ⟨v, hv⟩ := sq_ff (h x (by simp))
    refine ⟨(fmul .f32 x x, fmul .f32 (fmul .f32 1073741824 x) (fmul .f32 1073741824 x), v) :: ts, fun t ht => ?_, by simp only [List.map_cons, h2], by simp only [List.map_cons, h3]⟩
    rcases List.mem_cons.1 ht with rfl | ht
    · exact hv
    · exact h1 t ht
/-- the power of a window, and that of the window twice as great -/
def powerM (w : Nat) (xs : List Nat) : Nat := fdiv .f32 (dotM 0 xs xs) (FloatKind.f32.nearest (w : Int))
theorem power_ff {xs : List Nat} {w : Nat} (h : ∀ x ∈ xs, Plain x) (hl : xs.length ≤ 4) (h0 : 0 < w) (h1 : w < 15) : ∃ v, FF (-46) 10 (powerM w xs) (powerM w (xs.map (fmul .f32 1073741824))) v := by
  obtain ⟨ts, t1, t2, t3⟩ := squares xs h
  have hlen : ts.length = xs.length := by have := congrArg List.length t2; simpa using this.symm
  obtain ⟨S, s1⟩ := ff_sum0 ts (-40) 0 0 0 0 (.inl ⟨rfl, rfl, rfl⟩) t1 (by omega) (by omega)
  obtain ⟨n, j, d1, d2, d3, d4, d5⟩ := int_tab _ h1 h0
  obtain ⟨R, r1, r2⟩ := ff_div s1 d1 d2 d3 d4 (by omega) (by omega)
  unfold powerM
  rw [dot_sum, dot_sum, t2, t3]
  exact ⟨R, r1.mono (by omega) (by omega)⟩
def keepM (t : Nat) (xs : List Nat) : List Nat := xs.filter (fun x => fge .f32 x t)
theorem keep_ff {lo hi lo' hi' : Int} {x y : Nat} {v : Rat} (h : FF lo' hi' x y v) : ∀ (ts : List Tri), (∀ t ∈ ts, FF lo hi t.1 t.2.1 t.2.2) →
    keepM x (ts.map (·.1)) = (ts.filter fun t => fge .f32 t.1 x).map (·.1) ∧ keepM y (ts.map (·.2.1)) = (ts.filter fun t => fge .f32 t.1 x).map (·.2.1)
  | [], _ => ⟨rfl, rfl⟩
  | t :: ts, ht => by
    obtain ⟨h1, h2⟩ := keep_ff h ts (fun t' h' => ht t' (by simp [h']))
    have hg := ((ht t (by simp)).ge h).1
    unfold keepM at *
    simp only [List.map_cons, List.filter_cons, hg]
    cases fge .f32 t.1 x
    · simp only [Bool.false_eq_true, if_false]; exact ⟨h1, h2⟩
    · simp only [if_true, List.map_cons, h1, h2]; exact ⟨trivial, trivial⟩
theorem ff_most : ∀ (ts : List Tri), ts ≠ [] → ∃ t ∈ ts, ∀ t' ∈ ts, t'.2.2 ≤ t.2.2
  | [], h => (h rfl).elim
  | t :: ts, _ => by
    by_cases h : ts = []
    · subst h
      exact ⟨t, by simp, fun t' h' => by simp at h'; subst h'; exact Rat.le_refl⟩
    · obtain ⟨u, u1, u2⟩ := ff_most ts h
      rcases Rat.le_total (a := t.2.2) (b := u.2.2) with hc | hc
      · refine ⟨u, by simp [u1], fun t' h' => ?_⟩
        rcases List.mem_cons.1 h' with rfl | h'
        · exact hc
        · exact u2 t' h'
      · refine ⟨t, by simp, fun t' h' => ?_⟩
        rcases List.mem_cons.1 h' with rfl | h'
        · exact Rat.le_refl
        · exact Rat.le_trans (u2 t' h') hc
def meanP (xs : List Nat) : Nat := fdiv .f32 (sumM 0 xs) (FloatKind.f32.nearest (xs.length : Int))
theorem tenth_dec : FloatKind.f32.decode 1036831949 = .number false 13421773 (-27) := by decide
theorem tenth_le : mv 13421773 (-27) ≤ 1 / 8 := by
  have h := (mv_le (e := -27)).2 (show 13421773 ≤ 2 ^ 24 by decide)
  rw [mv_pow] at h
  have h3 : p2 (-27 + ((24 : Nat) : Int)) = 1 / 8 := by
    have h1 := p2_add (-3) 3
    have h2 : p2 3 = 8 := by have := p2_nat 3; rw [show ((3 : Nat) : Int) = 3 from rfl] at this; rw [this]; rfl
    rw [h2, show (-3 : Int) + 3 = 0 by decide, p2_zero] at h1
    show p2 (-3) = _
    grind
  rw [h3] at h
  exact h
/-- what is loud of powers: how many there are, and their mean -/
theorem loud_ff {ts : List Tri} (h0 : ts ≠ []) (h1 : ts.length < 15) (ht : ∀ t ∈ ts, FF (-46) 10 t.1 t.2.1 t.2.2) :
    keepM 0 (ts.map (·.1)) = ts.map (·.1) ∧ keepM 0 (ts.map (·.2.1)) = ts.map (·.2.1) ∧
    ∃ (us : List Tri) (R : Rat), us ≠ [] ∧ us.length ≤ ts.length ∧
      keepM (fmul .f32 1036831949 (meanP (ts.map (·.1)))) (ts.map (·.1)) = us.map (·.1) ∧ keepM (fmul .f32 1036831949 (meanP (ts.map (·.2.1)))) (ts.map (·.2.1)) = us.map (·.2.1) ∧
      FF (-52) 42 (meanP (us.map (·.1))) (meanP (us.map (·.2.1))) R ∧
      ∀ L H, 0 ≤ L → 0 ≤ H → (∀ t ∈ ts, L ≤ t.2.2 ∧ t.2.2 ≤ H) → (32767 / 32768) * L ≤ R ∧ R ≤ (32769 / 32768) * H := by
  have hz : FF (-46) 10 0 0 0 := .inl ⟨rfl, rfl, rfl⟩
  have hall : (ts.filter fun t => fge .f32 t.1 0) = ts := by
    rw [List.filter_eq_self]
    intro t h
    exact (((ht t h).ge hz).2).2 (ht t h).nonneg
  obtain ⟨k1, k2⟩ := keep_ff hz ts ht
  rw [hall] at k1 k2
  refine ⟨k1, k2, ?_⟩
  have hpos : 0 < ts.length := by cases ts with
    | nil => exact (h0 rfl).elim
    | cons _ _ => simp
  obtain ⟨M, m1, m2⟩ := ff_most ts h0
  have hM := (ht M m1).nonneg
  obtain ⟨A, a1, a2, a3⟩ := ff_mean (L := 0) (H := M.2.2) hpos h1 ht (by omega) (by omega) Rat.le_refl hM (fun t h => ⟨(ht t h).nonneg, m2 t h⟩)
  have a1 : FF (-52) 42 (meanP (ts.map (·.1))) (meanP (ts.map (·.2.1))) A := by
    unfold meanP
    rw [List.length_map, List.length_map]; exact a1
  have hA := a1.nonneg
  obtain ⟨B, -, b1, b2⟩ := ff_mul a1 tenth_dec (by omega) (by omega) (by omega) (by omega)
  obtain ⟨k3, k4⟩ := keep_ff b1 ts ht
  have hMk : M ∈ ts.filter fun t => fge .f32 t.1 (fmul .f32 1036831949 (meanP (ts.map (·.1)))) := by
    rw [List.mem_filter]
    refine ⟨m1, (((ht M m1).ge b1).2).2 ?_⟩
    have := Rat.mul_le_mul_of_nonneg_left tenth_le hA
    obtain ⟨b3, b4⟩ := b2
    generalize A * mv 13421773 (-27) = c at this b3 b4
    grind
  generalize hus : (ts.filter fun t => fge .f32 t.1 (fmul .f32 1036831949 (meanP (ts.map (·.1))))) = us at hMk k3 k4
  have hsub : ∀ t ∈ us, t ∈ ts := fun t h => by rw [← hus] at h; exact (List.mem_filter.1 h).1
  have hulen : us.length ≤ ts.length := by rw [← hus]; exact List.length_filter_le _ _
  have hupos : 0 < us.length := List.length_pos_of_mem hMk
  have hune : us ≠ [] := List.ne_nil_of_mem hMk
  obtain ⟨R, r1, -, -⟩ := ff_mean (L := 0) (H := M.2.2) hupos (by omega) (fun t h => ht t (hsub t h)) (by omega) (by omega) Rat.le_refl hM (fun t h => ⟨(ht t (hsub t h)).nonneg, m2 t (hsub t h)⟩)
  have r1' : FF (-52) 42 (meanP (us.map (·.1))) (meanP (us.map (·.2.1))) R := by
    unfold meanP
    rw [List.length_map, List.length_map]; exact r1
  refine ⟨us, R, hune, hulen, k3, k4, r1', fun L H hL hH hb => ?_⟩
  obtain ⟨R', q1, q2, q3⟩ := ff_mean (L := L) (H := H) hupos (by omega) (fun t h => ht t (hsub t h)) (by omega) (by omega) hL hH (fun t h => hb t (hsub t h))
  have := r1.val.1.inj q1.val.1
  rw [this]; exact ⟨q2, q3⟩

/-! ### windows -/
def winAt (xs : List Nat) (w h k : Nat) : List Nat := (xs.drop (k * h)).take w
def winC (L w h : Nat) : Nat := if w ≤ L then (L - w) / h + 1 else 0
theorem winC_lt {L w h k : Nat} (hh : 0 < h) : k < winC L w h ↔ k * h + w ≤ L := by
  unfold winC
  split
  · rw [Nat.lt_succ_iff, Nat.le_div_iff_mul_le hh]; omega
  · constructor
    · intro h; omega
    · intro h; omega
def powersM (xs : List Nat) (w h : Nat) : List Nat := (List.range (winC xs.length w h)).map fun k => powerM w (winAt xs w h k)
theorem win_loop (n : Nat) (xs : List Nat) (hx : xs.length ≤ 256) (w h : Nat) (hw : 1 ≤ w ∧ w ≤ 256) (hh : 1 ≤ h ∧ h ≤ 256) (hn : 300 < n) : ∀ (j k m : Nat), k + j = winC xs.length w h → j < m →
    f15_i_WindowPowers.l0 (n + 1) m xs.length (fls .f32 xs) (w : Int) (h : Int) k (fls .f32 ((List.range k).map fun k => powerM w (winAt xs w h k))) ((k * h : Nat) : Int) =
      some ((powersM xs w h).length, fls .f32 (powersM xs w h)) := by
  intro j
  induction j with
  | zero =>
    intro k m hk hm
    obtain ⟨m, rfl⟩ : ∃ k, m = k + 1 := ⟨m - 1, by omega⟩
    have hc : ¬ k * h + w ≤ xs.length := by rw [← winC_lt (by omega)]; omega
    have hkk : k ≤ 256 := by
      unfold winC at hk
      split at hk
      · have := Nat.div_le_self (xs.length - w) h; omega
      · omega
    have hb : k * h ≤ 256 * 256 := Nat.mul_le_mul hkk hh.2
    have e : decide (IntKind.i64.wrap (((k * h : Nat) : Int) + (w : Int)) ≤ (xs.length : Int)) = false := by
      rw [wrap64 (by omega) (by omega)]; exact decide_eq_false (by omega)
    rw [f15_i_WindowPowers.l0, e]
    have : k = winC xs.length w h := by omega
    unfold powersM
    rw [this]
    simp [br]
  | succ j ih =>
    intro k m hk hm
    obtain ⟨m, rfl⟩ : ∃ k, m = k + 1 := ⟨m - 1, by omega⟩
    have hc : k * h + w ≤ xs.length := (winC_lt (by omega)).1 (by omega)
    have e : IntKind.i64.wrap (((k * h : Nat) : Int) + (w : Int)) = ((k * h + w : Nat) : Int) := by rw [wrap64] <;> omega
    have e2 : IntKind.i64.wrap (((k * h : Nat) : Int) + (h : Int)) = (((k + 1) * h : Nat) : Int) := by rw [wrap64] <;> first | omega | (rw [Nat.add_mul]; omega)
    have hkk : k < 257 := by
      have : k * 1 ≤ k * h := Nat.mul_le_mul_left _ hh.1
      omega
    have hl : (winAt xs w h k).length = w := by unfold winAt; rw [List.length_take, List.length_drop]; omega
    have hd := i_dotted n (winAt xs w h k) (winAt xs w h k) rfl (by omega) (by omega)
    rw [hl] at hd
    have e3 : ((fls .f32 xs).drop (k * h)).take w = fls .f32 (winAt xs w h k) := by rw [fls_drop, fls_take]; rfl
    have hp := push_fls .f32 ((List.range k).map fun k => powerM w (winAt xs w h k)) (powerM w (winAt xs w h k))
    have step := ih (k + 1) m (by omega) (by omega)
    rw [List.range_succ, List.map_append] at step
    rw [f15_i_WindowPowers.l0, e]
    rw [decide_eq_true (show ((k * h + w : Nat) : Int) ≤ (xs.length : Int) by omega), decide_eq_true (show (0 : Int) ≤ ((k * h : Nat) : Int) ∧ ((k * h : Nat) : Int) ≤ ((k * h + w : Nat) : Int) ∧ ((k * h + w : Nat) : Int) ≤ (xs.length : Int) by omega), Int.toNat_natCast, Int.toNat_natCast, show k * h + w - k * h = w by omega, e3]
    simp only [br_t, gd_t, hd, bd_s, e2, le_ble (show k + 1 ≤ 2147483648 by omega)]
    have hpw : fdiv .f32 (dotM 0 (winAt xs w h k) (winAt xs w h k)) (FloatKind.f32.nearest (w : Int)) = powerM w (winAt xs w h k) := rfl
    rw [hpw, hp]
    exact step
theorem i_powers (n : Nat) (xs : List Nat) (hx : xs.length ≤ 256) (w h : Nat) (hw : 1 ≤ w ∧ w ≤ 256) (hh : 1 ≤ h ∧ h ≤ 256) (hn : 300 < n) :
    f15_i_WindowPowers (n + 2) xs.length (fls .f32 xs) (w : Int) (h : Int) = some ((powersM xs w h).length, fls .f32 (powersM xs w h), true) := by
  have hc : winC xs.length w h ≤ 256 := by
    unfold winC
    split
    · have := Nat.div_le_self (xs.length - w) h; omega
    · omega
  have e := win_loop n xs hx w h hw hh hn (winC xs.length w h) 0 (n + 1) (by omega) (by omega)
  have e : f15_i_WindowPowers.l0 (n + 1) (n + 1) xs.length (fls .f32 xs) (w : Int) (h : Int) 0 [] ((0 * h : Nat) : Int) = _ := e
  rw [Nat.zero_mul] at e
  rw [f15_i_WindowPowers, i_few, i_in, i_in, decide_eq_true (show (xs.length : Int) ≤ 256 by omega), decide_eq_true (show (1 : Int) ≤ (w : Int) ∧ (w : Int) ≤ 256 by omega), decide_eq_true (show (1 : Int) ≤ (h : Int) ∧ (h : Int) ≤ 256 by omega)]
  simp only [bd_s, Bool.not_true, br_f]
  have e : f15_i_WindowPowers.l0 (n + 1) (n + 1) xs.length (fls .f32 xs) (w : Int) (h : Int) 0 [] 0 = _ := e
  rw [e]; rfl
theorem keep_loop (n : Nat) (N : Nat) (cs : List T) (t : Nat) : ∀ (zs p acc : List Nat) (m : Nat), acc.length + zs.length < 1048576 → p.length + zs.length < 1048576 → zs.length < m →
    f69_i_atLeast.l0 n m N cs t acc.length (fls .f32 acc) (p ++ zs).length (fls .f32 (p ++ zs)) ((p ++ zs).length : Int) (p.length : Int) = some ((acc ++ keepM t zs).length, fls .f32 (acc ++ keepM t zs)) := by
  intro zs
  induction zs with
  | nil =>
    intro p acc m _ _ hm
    obtain ⟨m, rfl⟩ : ∃ k, m = k + 1 := ⟨m - 1, by simp at hm; omega⟩
    rw [f69_i_atLeast.l0, lt_end]
    simp [br_f, keepM]
  | cons z zs ih =>
    intro p acc m ha hp hm
    obtain ⟨m, rfl⟩ : ∃ k, m = k + 1 := ⟨m - 1, by simp at hm; omega⟩
    have ha' : acc.length < 1048576 := by simp at ha; omega
    rw [f69_i_atLeast.l0, lt_mid, in_mid, toNat_len, okAt_mid, fAt_mid, wrap_len (z := z) (show p.length < 4611686018427387904 by simp at hp; omega)]
    simp only [br_t, gd_t, Bool.and_self, push_fls, push_ok (show acc.length < 2147483648 by omega)]
    cases hz : fge .f32 z t
    · have := ih (p ++ [z]) acc m (by simp at ha ⊢; omega) (by simp at hp ⊢; omega) (by simp at hm; omega)
      rw [show keepM t (z :: zs) = keepM t zs by unfold keepM; rw [List.filter_cons, hz]; rfl, br_f]
      simpa using this
    · have := ih (p ++ [z]) (acc ++ [z]) m (by simp at ha ⊢; omega) (by simp at hp ⊢; omega) (by simp at hm; omega)
      rw [show keepM t (z :: zs) = z :: keepM t zs by unfold keepM; rw [List.filter_cons, hz]; rfl, br_t]
      simpa using this
theorem keep_length (t : Nat) (xs : List Nat) : (keepM t xs).length ≤ xs.length := List.length_filter_le _ _
theorem i_keep (n : Nat) (xs : List Nat) (t : Nat) (hx : xs.length < 1000) (hn : 1000 < n) : f69_i_atLeast (n + 2) xs.length (fls .f32 xs) t = some ((keepM t xs).length, fls .f32 (keepM t xs), meanP (keepM t xs)) := by
  have e := keep_loop (n + 1) xs.length (fls .f32 xs) t xs [] [] (n + 1) (by simp; omega) (by simp; omega) (by omega)
  have e : f69_i_atLeast.l0 (n + 1) (n + 1) xs.length (fls .f32 xs) t 0 [] xs.length (fls .f32 xs) (xs.length : Int) 0 = _ := e
  have hk := keep_length t xs
  have e2 := i_summed n (keepM t xs) (by omega) (by omega)
  rw [f69_i_atLeast, e]
  simp only [bd_s, List.nil_append, e2]
  rfl
theorem i_loud (n : Nat) (xs : List Nat) (hx : xs.length ≤ 256) (w h : Nat) (hw : 1 ≤ w ∧ w ≤ 256) (hh : 1 ≤ h ∧ h ≤ 256) (hn : 1000 < n) (hk0 : keepM 0 (powersM xs w h) = powersM xs w h) :
    f16_i_LoudnessOf (n + 3) xs.length (fls .f32 xs) (w : Int) (h : Int) 0 = br ((powersM xs w h).length == 0) (some (0, false)) (br ((keepM (fmul .f32 1036831949 (meanP (powersM xs w h))) (powersM xs w h)).length == 0) (some (0, false)) (some (meanP (keepM (fmul .f32 1036831949 (meanP (powersM xs w h))) (powersM xs w h)), true))) := by
  have hc : (powersM xs w h).length ≤ 256 := by
    unfold powersM winC
    rw [List.length_map, List.length_range]
    split
    · have := Nat.div_le_self (xs.length - w) h; omega
    · omega
  have e1 := i_powers (n) xs hx w h hw hh (by omega)
  have e2 := i_keep n (powersM xs w h) 0 (by omega) hn
  rw [hk0] at e2
  have e3 := i_keep n (powersM xs w h) (fmul .f32 1036831949 (meanP (powersM xs w h))) (by omega) hn
  have z : ∀ k : Nat, ((k : Int) == 0) = (k == 0) := fun k => by rw [Bool.eq_iff_iff]; simp
  rw [f16_i_LoudnessOf, e1]
  simp only [bd_s, Bool.not_true, br_f, e2, e3, z]
theorem pos_of_ne {α : Type} {l : List α} (h : l ≠ []) : 0 < l.length := by cases l with
  | nil => exact (h rfl).elim
  | cons _ _ => simp
theorem tris (f g : Nat → Nat) {lo hi : Int} : ∀ (ks : List Nat), (∀ k ∈ ks, ∃ v, FF lo hi (f k) (g k) v) → ∃ ts : List Tri, ts.length = ks.length ∧ (∀ t ∈ ts, FF lo hi t.1 t.2.1 t.2.2) ∧ ks.map f = ts.map (·.1) ∧ ks.map g = ts.map (·.2.1) ∧ (∀ t ∈ ts, ∃ k ∈ ks, t.1 = f k)
  | [], _ => ⟨[], rfl, by simp, rfl, rfl, by simp⟩
  | k :: ks, h => by
    obtain ⟨ts, h0, h1, h2, h3, h4⟩ := tris f g ks (fun k hk => h k (by simp [hk]))
    obtain ⟨v, hv⟩ := h k (by simp)
    refine ⟨(f k, g k, v) :: ts, by simp [h0], fun t ht => ?_, by simp only [List.map_cons, h2], by simp only [List.map_cons, h3], fun t ht => ?_⟩
    · rcases List.mem_cons.1 ht with rfl | ht
      · exact hv
      · exact h1 t ht
    · rcases List.mem_cons.1 ht with rfl | ht
      · exact ⟨k, by simp, rfl⟩
      · obtain ⟨k', q1, q2⟩ := h4 t ht
        exact ⟨k', by simp [q1], q2⟩
theorem double_loop (n : Nat) (i1 i2 : Int) (n5 : Nat) (l6 : List T) (b7 : Bool) (x8 : Nat) (b9 : Bool) : ∀ (zs p acc : List Nat) (m : Nat), acc.length + zs.length < 1048576 → p.length + zs.length < 1048576 → zs.length < m →
    f3_l_FnLoudness.l0 n m (p ++ zs).length (fls .f32 (p ++ zs)) i1 i2 n5 l6 b7 x8 b9 acc.length (fls .f32 acc) (p.length : Int) = some ((p ++ zs).length, fls .f32 (p ++ zs), i1, i2, n5, l6, b7, x8, b9, (acc ++ zs.map (fmul .f32 1073741824)).length, fls .f32 (acc ++ zs.map (fmul .f32 1073741824))) := by
  intro zs
  induction zs with
  | nil =>
    intro p acc m _ _ hm
    obtain ⟨m, rfl⟩ : ∃ k, m = k + 1 := ⟨m - 1, by simp at hm; omega⟩
    rw [f3_l_FnLoudness.l0, lt_end]
    simp [br_f]
  | cons z zs ih =>
    intro p acc m ha hp hm
    obtain ⟨m, rfl⟩ : ∃ k, m = k + 1 := ⟨m - 1, by simp at hm; omega⟩
    have ha' : acc.length < 1048576 := by simp at ha; omega
    rw [f3_l_FnLoudness.l0, lt_mid, in_mid, toNat_len, okAt_mid, fAt_mid, wrap_len (z := z) (show p.length < 4611686018427387904 by simp at hp; omega)]
    simp only [br_t, gd_t, Bool.and_self, push_fls, push_ok (show acc.length < 2147483648 by omega)]
    have := ih (p ++ [z]) (acc ++ [fmul .f32 1073741824 z]) m (by simp at ha ⊢; omega) (by simp at hp ⊢; omega) (by simp at hm; omega)
    simpa using this
/-! ### the least and the greatest -/
theorem least_val {x y : Nat} {a b : Rat} (hx : Val .f32 x a) (hy : Val .f32 y b) : ∃ c, Val .f32 (fmx false .f32 x y) c ∧ c ≤ a ∧ c ≤ b ∧ (c = a ∨ c = b) := by
  obtain ⟨h1, h2, h3⟩ := order_val hx hy
  unfold fmx
  cases ho : FloatKind.f32.format.order x y with
  | none =>
    exfalso
    rw [ho] at h1 h2 h3
    rcases Rat.le_total (a := a) (b := b) with h | h
    · by_cases e : a = b
      · cases h2.2 e
      · cases h1.2 (by grind)
    · by_cases e : a = b
      · cases h2.2 e
      · cases h3.2 (by grind)
  | some o =>
    rw [ho] at h1 h2 h3
    cases o with
    | lt => have := h1.1 rfl; exact ⟨a, hx, by grind, by grind, .inl rfl⟩
    | gt => have := h3.1 rfl; exact ⟨b, hy, by grind, by grind, .inr rfl⟩
    | eq =>
      have := h2.1 rfl
      subst this
      simp only
      split
      · exact ⟨a, hy, by grind, by grind, .inl rfl⟩
      · exact ⟨a, hx, by grind, by grind, .inl rfl⟩
theorem most_val {x y : Nat} {a b : Rat} (hx : Val .f32 x a) (hy : Val .f32 y b) : ∃ c, Val .f32 (fmx true .f32 x y) c ∧ a ≤ c ∧ b ≤ c ∧ (c = a ∨ c = b) := by
  obtain ⟨h1, h2, h3⟩ := order_val hx hy
  unfold fmx
  cases ho : FloatKind.f32.format.order x y with
  | none =>
    exfalso
    rw [ho] at h1 h2 h3
    rcases Rat.le_total (a := a) (b := b) with h | h
    · by_cases e : a = b
      · cases h2.2 e
      · cases h1.2 (by grind)
    · by_cases e : a = b
      · cases h2.2 e
      · cases h3.2 (by grind)
  | some o =>
    rw [ho] at h1 h2 h3
    cases o with
    | lt => have := h1.1 rfl; exact ⟨b, hy, by grind, by grind, .inr rfl⟩
    | gt => have := h3.1 rfl; exact ⟨a, hx, by grind, by grind, .inl rfl⟩
    | eq =>
      have := h2.1 rfl
      subst this
      simp only
      split
      · exact ⟨a, hy, by grind, by grind, .inl rfl⟩
      · exact ⟨a, hx, by grind, by grind, .inl rfl⟩
theorem w32_power (w : Nat) (xs : List Nat) : W32 (powerM w xs) := w32_fdiv _ _
theorem powers_at {xs : List Nat} {w h k : Nat} (hk : k < winC xs.length w h) : (powersM xs w h).getD k 0 = powerM w (winAt xs w h k) := by
  unfold powersM; simp [List.getD, hk]
theorem powers_length (xs : List Nat) (w h : Nat) : (powersM xs w h).length = winC xs.length w h := by simp [powersM]
theorem check_loop (n : Nat) (hn : 500 < n) (xs : List Nat) (hx : xs.length ≤ 256) (w h : Nat) (hw : 1 ≤ w ∧ w ≤ 256) (hh : 1 ≤ h ∧ h ≤ 256) (x7 x8 : Nat) (B : Rat) (hP : ∀ k, k < winC xs.length w h → ∃ v, Val .f32 (powerM w (winAt xs w h k)) v ∧ 0 ≤ v ∧ v ≤ B) :
    ∀ (j i m lo hi : Nat) (a b : Rat), i + j = winC xs.length w h → Val .f32 lo a → Val .f32 hi b → 0 ≤ a → 0 ≤ b → b ≤ B → j < m →
    ∃ lo' hi' a' b', f3_l_FnLoudness.l1 (n + 2) m xs.length (fls .f32 xs) (w : Int) (h : Int) (powersM xs w h).length (fls .f32 (powersM xs w h)) x7 x8 lo hi (i : Int) = some (Sum.inr (x7, x8, lo', hi')) ∧
      Val .f32 lo' a' ∧ Val .f32 hi' b' ∧ 0 ≤ a' ∧ a' ≤ a ∧ b ≤ b' ∧ b' ≤ B ∧ ∀ k, i ≤ k → k < winC xs.length w h → ∀ v, Val .f32 (powerM w (winAt xs w h k)) v → a' ≤ v ∧ v ≤ b' := by
  intro j
  induction j with
  | zero =>
    intro i m lo hi a b hi' ha hb ha0 hb0 hbB hm
    obtain ⟨m, rfl⟩ : ∃ k, m = k + 1 := ⟨m - 1, by omega⟩
    refine ⟨lo, hi, a, b, ?_, ha, hb, ha0, Rat.le_refl, Rat.le_refl, hbB, fun k h1 h2 => by omega⟩
    rw [f3_l_FnLoudness.l1, nlt_dec (by rw [powers_length]; omega)]; rfl
  | succ j ih =>
    intro i m lo hi a b hi' ha hb ha0 hb0 hbB hm
    obtain ⟨m, rfl⟩ : ∃ k, m = k + 1 := ⟨m - 1, by omega⟩
    have hk : i < winC xs.length w h := by omega
    have hkl : i < (powersM xs w h).length := by rw [powers_length]; exact hk
    have hc : i * h + w ≤ xs.length := (winC_lt (by omega)).1 hk
    obtain ⟨v, hv, v0, vB⟩ := hP i hk
    obtain ⟨c, c1, c2, c3, c4⟩ := least_val ha hv
    obtain ⟨d, d1, d2, d3, d4⟩ := most_val hb hv
    have hii : i < 257 := by
      have : i * 1 ≤ i * h := Nat.mul_le_mul_left _ hh.1
      omega
    obtain ⟨lo', hi'', a', b', q1, q2, q3, q4, q5, q6, q7, q8⟩ := ih (i + 1) m _ _ c d (by omega) c1 d1 (by rcases c4 with rfl | rfl <;> assumption) (by grind) (by rcases d4 with rfl | rfl <;> assumption) (by omega)
    refine ⟨lo', hi'', a', b', ?_, q2, q3, q4, Rat.le_trans q5 c2, Rat.le_trans d2 q6, q7, fun k k1 k2 u hu => ?_⟩
    · have hl : (winAt xs w h i).length = w := by unfold winAt; rw [List.length_take, List.length_drop]; omega
      have hd := i_dotnumbers n (winAt xs w h i) (winAt xs w h i) rfl (by omega) (by omega)
      rw [hl] at hd
      have e1 : IntKind.i64.wrap ((i : Int) * (h : Int)) = ((i * h : Nat) : Int) := by rw [← Int.natCast_mul, wrap64] <;> omega
      have e2 : IntKind.i64.wrap (((i * h : Nat) : Int) + (w : Int)) = ((i * h + w : Nat) : Int) := by rw [wrap64] <;> omega
      have e3 : ((fls .f32 xs).drop (i * h)).take w = fls .f32 (winAt xs w h i) := by rw [fls_drop, fls_take]; rfl
      have hs := i_same n (w32_power w (winAt xs w h i)) (w32_power w (winAt xs w h i))
      rw [beq_self_eq_true] at hs
      have hpw : fdiv .f32 (dotM 0 (winAt xs w h i) (winAt xs w h i)) (FloatKind.f32.nearest (w : Int)) = powerM w (winAt xs w h i) := rfl
      rw [f3_l_FnLoudness.l1, lt_dec hkl, e1]
      simp only [br_t, e2]
      rw [decide_eq_true (show (0 : Int) ≤ ((i * h : Nat) : Int) ∧ ((i * h : Nat) : Int) ≤ ((i * h + w : Nat) : Int) ∧ ((i * h + w : Nat) : Int) ≤ (xs.length : Int) by omega), Int.toNat_natCast, Int.toNat_natCast, Int.toNat_natCast, show i * h + w - i * h = w by omega, e3, in_dec hkl, okAt_fls hkl, fAt_fls, powers_at hk]
      simp only [br_t, gd_t, hd, bd_s, Bool.not_true, br_f, hpw, hs, wrap_succ (show i < 9223372036854775807 by omega)]
      exact q1
    · rcases Nat.eq_or_lt_of_le k1 with e | e
      · subst e
        have := hv.inj hu
        subst this
        exact ⟨Rat.le_trans q5 c3, Rat.le_trans d3 q6⟩
      · exact q8 k e k2 u hu
theorem win_map (f : Nat → Nat) (xs : List Nat) (w h k : Nat) : winAt (xs.map f) w h k = (winAt xs w h k).map f := by
  unfold winAt; rw [← List.map_drop, ← List.map_take]
theorem four_dec : FloatKind.f32.decode 1082130432 = .number false 8388608 (-21) := by decide
theorem more_dec : FloatKind.f64.decode 4607182869159980145 = .number false 4504049987333233 (-52) := by decide
theorem more_bounds : 32771 / 32768 ≤ mv 4504049987333233 (-52) ∧ mv 4504049987333233 (-52) ≤ 2 := by
  have h1 := (mv_le (e := -52)).2 (show 32771 * 2 ^ 37 ≤ 4504049987333233 by decide)
  have h2 := (mv_le (e := -52)).2 (show 4504049987333233 ≤ 2 ^ 53 by decide)
  rw [mv_shift] at h1
  rw [mv_pow] at h2
  have e1 : mv 32771 (-52 + ((37 : Nat) : Int)) = 32771 / 32768 := by
    show (32771 : Rat) * p2 (-15) = _
    have h3 := p2_add (-15) 15
    have h4 : p2 15 = 32768 := by have := p2_nat 15; rw [show ((15 : Nat) : Int) = 15 from rfl] at this; rw [this]; rfl
    rw [h4, show (-15 : Int) + 15 = 0 by decide, p2_zero] at h3
    grind
  have e2 : p2 (-52 + ((53 : Nat) : Int)) = 2 := by
    show p2 1 = 2
    exact p2_one
  rw [e1] at h1
  rw [e2] at h2
  exact ⟨h1, h2⟩
/-- four times a number -/
theorem four_ff {lo hi : Int} {x y : Nat} {R : Rat} (h : FF lo hi x y R) (hlo : -100 ≤ lo) (hhi : hi ≤ 60) : feq .f32 y (fmul .f32 1082130432 x) = true := by
  have hy := h.val.2
  rw [feq_val hy (b := 4 * R)]
  rcases h with ⟨rfl, rfl, rfl⟩ | ⟨m, e, p1, p2', p3, p4, p5, p6, rfl⟩
  · have : fmul .f32 1082130432 0 = 0 := by decide
    rw [this, Rat.mul_zero]; exact val_zero .f32
  · have e1 : FloatKind.f32.format.read 1082130432 = .number false 8388608 (-21) := four_dec
    have e2 : FloatKind.f32.format.read x = .number false m e := p1
    have hmul : fmul .f32 1082130432 x = FloatKind.f32.encode (.number false (8388608 * m) (-21 + e)) := by
      simp only [fmul, Ieee.Format.mul, e1, e2, Ieee.Datum.product, Option.map_some]
      rfl
    have hsh : mv (8388608 * m) (-21 + e) = mv m (e + 2) := by
      rw [show 8388608 * m = m * 2 ^ 23 by omega, mv_shift]; congr 1; omega
    have hsame : FloatKind.f32.encode (.number false (8388608 * m) (-21 + e)) = FloatKind.f32.encode (.number false m (e + 2)) := nearest_same .f32 false (by omega) (by omega) hsh
    have h4 : mv m (e + 2) = 4 * mv m e := by
      have := mv_smul 4 m e
      rw [show ((4 : Nat) : Rat) = 4 from rfl] at this
      rw [this, show e + 2 = e + 1 + 1 by omega, ← mv_two, ← mv_two]; congr 1; omega
    have hrep : Rep0 .f32 (mv m (e + 2)) := ⟨m, e + 2, by rw [binade32]; omega, by rw [least32]; omega, rfl⟩
    have htop : mv m (e + 2) < p2 (topE .f32) := by
      have h1 := (mv_lt (e := e + 2)).2 (show m < 2 ^ 24 by omega)
      rw [mv_pow] at h1
      have h2 := p2_le (show e + 2 + ((24 : Nat) : Int) ≤ topE .f32 by show _ ≤ (128 : Int); omega)
      grind
    obtain ⟨m', e', q1, q2⟩ := exact_write .f32 false hrep htop
    rw [hmul, hsame]
    have := read_val q1
    rw [sg_false, q2, h4] at this
    exact this
theorem told {x lo hi : Nat} {R a b B : Rat} (hx : Val .f32 x R) (ha : Val .f32 lo a) (hb : Val .f32 hi b) (ha0 : 0 ≤ a) (hR0 : 0 ≤ R) (hb0 : 0 ≤ b) (hB : B = mv (2 ^ 24) 20) (hbB : b ≤ B) (h1 : (32767 / 32768) * a ≤ R) (h2 : R ≤ (32769 / 32768) * b) :
    fle .f64 (wide x) (fmul .f64 4607182869159980145 (wide hi)) = true ∧ fge .f64 (fmul .f64 4607182869159980145 (wide x)) (wide lo) = true := by
  have hc : Val .f64 4607182869159980145 (mv 4504049987333233 (-52)) := by have := read_val more_dec; rw [sg_false] at this; exact this
  obtain ⟨c1, c2⟩ := more_bounds
  have hx' := wide_val hx
  have ha' := wide_val ha
  have hb' := wide_val hb
  generalize mv 4504049987333233 (-52) = c at hc c1 c2
  have hBr : Rep0 .f64 (4 * B) := ⟨2 ^ 24, 22, by decide, by decide, by
    rw [hB]
    have := mv_smul 4 (2 ^ 24) 20
    rw [show ((4 : Nat) : Rat) = 4 from rfl] at this
    rw [this, show (22 : Int) = 20 + 1 + 1 by decide, ← mv_two, ← mv_two]⟩
  have hBt : 4 * B < p2 (topE .f64) := by
    have h3 : 4 * B = p2 46 := by
      rw [hB, mv_pow]
      have h4 := p2_add (20 + ((24 : Nat) : Int)) 2
      have h5 : p2 2 = 4 := by have := p2_nat 2; rw [show ((2 : Nat) : Int) = 2 from rfl] at this; rw [this]; rfl
      rw [h5, show (20 + ((24 : Nat) : Int) + 2 : Int) = 46 by decide] at h4
      rw [h4]; grind
    rw [h3]; exact p2_lt (by show (46 : Int) < 1024; decide)
  have cb0 : 0 ≤ c * b := Rat.mul_nonneg (by grind) hb0
  have cb1 : c * b ≤ 2 * b := Rat.mul_le_mul_of_nonneg_right c2 hb0
  have cb2 : (32771 / 32768) * b ≤ c * b := Rat.mul_le_mul_of_nonneg_right c1 hb0
  have cR0 : 0 ≤ c * R := Rat.mul_nonneg (by grind) hR0
  have cR1 : c * R ≤ 2 * R := Rat.mul_le_mul_of_nonneg_right c2 hR0
  have cR2 : (32771 / 32768) * R ≤ c * R := Rat.mul_le_mul_of_nonneg_right c1 hR0
  constructor
  · obtain ⟨S, s1, s2⟩ := mul_val hc hb' hBr hBt (by grind) (by grind)
    rw [fle_val hx' s1]
    exact (s2 R hx'.rep).2 (by grind)
  · obtain ⟨S, s1, s2⟩ := mul_val hc hx' hBr hBt (by grind) (by grind)
    rw [fge_val s1 ha']
    exact (s2 a ha'.rep).2 (by grind)
theorem main_ (n : Nat) (hn : 1200 < n) (cs : List Int) (hc : ∀ b ∈ cs, GoodI .u8 b) (ms : List Int) (hm : ∀ b ∈ ms, GoodI .u8 b) : f3_l_FnLoudness (n + 100) cs.length (its .u8 cs) ms.length (its .u8 ms) = some true := by
  rw [f3_l_FnLoudness, l_long]
  cases hlong : decide (48 < cs.length ∨ 48 < ms.length)
  case true => rfl
  obtain ⟨j0, hj0, e1⟩ := l_at (n + 98) (bytes_of hc) (i := 40) (k := 14) (by omega) (by omega)
  obtain ⟨j0, rfl⟩ := Int.eq_ofNat_of_zero_le hj0.1
  obtain ⟨j1, hj1, e3⟩ := l_at (n + 98) (bytes_of hc) (i := 41) (k := 4) (by omega) (by omega)
  obtain ⟨j1, rfl⟩ := Int.eq_ofNat_of_zero_le hj1.1
  obtain ⟨j2, hj2, e4⟩ := l_at (n + 98) (bytes_of hc) (i := 42) (k := 3) (by omega) (by omega)
  obtain ⟨j2, rfl⟩ := Int.eq_ofNat_of_zero_le hj2.1
  obtain ⟨xs, hxl, hxp, e2⟩ := s_r8plain (n + 94) (bytes_of hm) (1 + j0) (by omega) (by omega)
  have w0 : IntKind.i64.wrap (1 + (j0 : Int)) = ((1 + j0 : Nat) : Int) := by rw [wrap64] <;> omega
  have w1 : IntKind.i64.wrap (1 + (j1 : Int)) = ((1 + j1 : Nat) : Int) := by rw [wrap64] <;> omega
  have w2 : IntKind.i64.wrap (1 + (j2 : Int)) = ((1 + j2 : Nat) : Int) := by rw [wrap64] <;> omega
  have e2 : f13_s_R8Plain (n + 99) ms.length (its .u8 ms) ((1 + j0 : Nat) : Int) = _ := e2
  obtain ⟨w, hw⟩ : ∃ w, 1 + j1 = w := ⟨_, rfl⟩
  obtain ⟨h, hh⟩ : ∃ h, 1 + j2 = h := ⟨_, rfl⟩
  rw [hw] at w1
  rw [hh] at w2
  have hL : xs.length ≤ 14 := by omega
  have hcc : winC xs.length w h ≤ 14 := by
    unfold winC
    split
    · have := Nat.div_le_self (xs.length - w) h; omega
    · omega
  -- the doubled samples
  have hdl := double_loop (n + 99) (w : Int) (h : Int) (powersM xs w h).length (fls .f32 (powersM xs w h)) true
  generalize hds : xs.map (fmul .f32 1073741824) = ds at hdl
  have hdlen : ds.length = xs.length := by rw [← hds, List.length_map]
  -- powers of both
  obtain ⟨ts, t0, t1, t2, t3, t4⟩ := tris (fun k => powerM w (winAt xs w h k)) (fun k => powerM w (winAt ds w h k)) (lo := -46) (hi := 10) (List.range (winC xs.length w h)) (fun k hk => by
    have hk := List.mem_range.1 hk
    have hp : ∀ x ∈ winAt xs w h k, Plain x := fun x hx => hxp x (List.mem_of_mem_drop (List.mem_of_mem_take hx))
    have hl : (winAt xs w h k).length ≤ 4 := by unfold winAt; rw [List.length_take]; omega
    obtain ⟨v, hv⟩ := power_ff hp hl (w := w) (by omega) (by omega)
    refine ⟨v, ?_⟩
    rw [← hds, win_map]; exact hv)
  have p1 : powersM xs w h = ts.map (·.1) := t2
  have p2 : powersM ds w h = ts.map (·.2.1) := by unfold powersM; rw [hdlen]; exact t3
  rw [List.length_range] at t0
  have g1 := i_powers (n + 97) xs (by omega) w h (by omega) (by omega) (by omega)
  have g1 : f15_i_WindowPowers (n + 99) xs.length (fls .f32 xs) (w : Int) (h : Int) = _ := g1
  have hk0 : keepM 0 (powersM xs w h) = powersM xs w h ∧ keepM 0 (powersM ds w h) = powersM ds w h := by
    by_cases hne : ts = []
    · rw [p1, p2, hne]; exact ⟨rfl, rfl⟩
    · obtain ⟨a1, a2, -⟩ := loud_ff hne (by omega) t1
      rw [p1, p2]; exact ⟨a1, a2⟩
  have g2 := i_loud (n + 96) xs (by omega) w h (by omega) (by omega) (by omega) hk0.1
  have g3 := i_loud (n + 96) ds (by omega) w h (by omega) (by omega) (by omega) hk0.2
  have g2 : f16_i_LoudnessOf (n + 99) xs.length (fls .f32 xs) (w : Int) (h : Int) 0 = _ := g2
  have g3 : f16_i_LoudnessOf (n + 99) ds.length (fls .f32 ds) (w : Int) (h : Int) 0 = _ := g3
  have pl1 : (powersM xs w h).length = winC xs.length w h := powers_length ..
  have pl2 : (powersM ds w h).length = winC xs.length w h := by rw [powers_length, hdlen]
  have hcount : (winC xs.length w h : Int) = if w ≤ xs.length then IntKind.i64.wrap (IntKind.i64.wrap (Int.tdiv (IntKind.i64.wrap ((xs.length : Int) - (w : Int))) (h : Int)) + 1) else 0 := by
    unfold winC
    split
    · have := Nat.div_le_self (xs.length - w) h
      have h1 : IntKind.i64.wrap ((xs.length : Int) - (w : Int)) = ((xs.length - w : Nat) : Int) := by rw [wrap64] <;> omega
      have h2 : Int.tdiv ((xs.length - w : Nat) : Int) (h : Int) = (((xs.length - w) / h : Nat) : Int) := Int.ofNat_tdiv ..
      rw [h1, h2]
      generalize (xs.length - w) / h = q at this ⊢
      have h3 : IntKind.i64.wrap (q : Int) = (q : Int) := by rw [wrap64] <;> omega
      rw [h3, wrap_succ (by omega)]
    · rfl
  have hh0 : (!decide ((h : Int) = 0)) = true := by simp; omega
  have dl : ∀ x23 b24, f3_l_FnLoudness.l0 (n + 99) (n + 99) xs.length (fls .f32 xs) (w : Int) (h : Int) (powersM xs w h).length (fls .f32 (powersM xs w h)) true x23 b24 0 (reps 0 [(T.flt .f32 0)]) 0 = some (xs.length, fls .f32 xs, (w : Int), (h : Int), (powersM xs w h).length, fls .f32 (powersM xs w h), true, x23, b24, ds.length, fls .f32 ds) := fun x23 b24 => by
    have := hdl x23 b24 xs [] [] (n + 99) (by simp; omega) (by simp; omega) (by omega)
    simp only [List.nil_append, hds] at this
    exact this
  have w0' : ((1 + j0 : Nat) : Int) = (xs.length : Int) := by omega
  rw [w0'] at e2 w0
  by_cases hne : ts = []
  · -- no windows
    have hc0 : winC xs.length w h = 0 := by rw [← t0, hne]; rfl
    rw [pl1, hc0] at g2
    rw [pl2, hc0] at g3
    have g2 : f16_i_LoudnessOf (n + 99) xs.length (fls .f32 xs) (w : Int) (h : Int) 0 = some (0, false) := g2
    have g3 : f16_i_LoudnessOf (n + 99) ds.length (fls .f32 ds) (w : Int) (h : Int) 0 = some (0, false) := g3
    simp only [br_f, bd_s, e1, w0, e2, e3, w1, e4, w2, g1, g2, dl, g3, hh0, gd_t, Bool.not_true]
    rw [pl1, hc0]
    rw [hc0] at hcount
    by_cases hge : w ≤ xs.length
    · rw [if_pos hge] at hcount
      rw [decide_eq_true (show (xs.length : Int) ≥ (w : Int) by omega), ← hcount]
      rfl
    · rw [decide_eq_false (show ¬ (xs.length : Int) ≥ (w : Int) by omega)]
      rfl
  · obtain ⟨a1, a2, us, R, u1, u2, u3, u4, u5, u6⟩ := loud_ff hne (by omega) t1
    have hc0 : 0 < winC xs.length w h := by
      rw [← t0]; exact pos_of_ne hne
    have hge : w ≤ xs.length := by
      unfold winC at hc0
      split at hc0
      · assumption
      · omega
    rw [if_pos hge] at hcount
    have hul : 0 < us.length := pos_of_ne u1
    rw [pl1, p1, u3, List.length_map, show (winC xs.length w h == 0) = false by rw [beq_eq_false_iff_ne]; omega, show (us.length == 0) = false by rw [beq_eq_false_iff_ne]; omega] at g2
    rw [pl2, p2, u4, List.length_map, show (winC xs.length w h == 0) = false by rw [beq_eq_false_iff_ne]; omega, show (us.length == 0) = false by rw [beq_eq_false_iff_ne]; omega] at g3
    have g2 : f16_i_LoudnessOf (n + 99) xs.length (fls .f32 xs) (w : Int) (h : Int) 0 = some (meanP (us.map (·.1)), true) := g2
    have g3 : f16_i_LoudnessOf (n + 99) ds.length (fls .f32 ds) (w : Int) (h : Int) 0 = some (meanP (us.map (·.2.1)), true) := g3
    -- what the powers are
    have hB0 : ∀ t ∈ ts, t.2.2 ≤ mv (2 ^ 24) 20 := fun t ht => by
      rcases t1 t ht with ⟨-, -, q⟩ | ⟨m, e, q1, q2, q3, q4, q5, q6, q7⟩
      · rw [q]; exact mv_nonneg _ _
      · rw [q7, mv_pow]
        have h1 := (mv_lt (e := e)).2 (show m < 2 ^ 24 by omega)
        rw [mv_pow] at h1
        have h2 := p2_le (show e + ((24 : Nat) : Int) ≤ 20 + ((24 : Nat) : Int) by omega)
        grind
    have hget : ∀ k, k < winC xs.length w h → ∃ t ∈ ts, t.1 = powerM w (winAt xs w h k) := fun k hk => by
      have : powerM w (winAt xs w h k) ∈ ts.map (·.1) := by
        rw [← p1]; unfold powersM; rw [List.mem_map]; exact ⟨k, List.mem_range.2 hk, rfl⟩
      obtain ⟨t, q1, q2⟩ := List.mem_map.1 this
      exact ⟨t, q1, q2⟩
    have hP : ∀ k, k < winC xs.length w h → ∃ v, Val .f32 (powerM w (winAt xs w h k)) v ∧ 0 ≤ v ∧ v ≤ mv (2 ^ 24) 20 := fun k hk => by
      obtain ⟨t, q1, q2⟩ := hget k hk
      rw [← q2]
      exact ⟨t.2.2, (t1 t q1).val.1, (t1 t q1).nonneg, hB0 t q1⟩
    obtain ⟨v, v1, v2, v3⟩ := hP 0 hc0
    obtain ⟨lo', hi', a', b', q1, q2, q3, q4, q5, q6, q7, q8⟩ := check_loop (n + 97) (by omega) xs (by omega) w h (by omega) (by omega) (meanP (us.map (·.1))) (meanP (us.map (·.2.1))) (mv (2 ^ 24) 20) hP (winC xs.length w h) 0 (n + 99) _ _ v v (by omega) v1 v1 v2 v2 v3 (by omega)
    have q1 : f3_l_FnLoudness.l1 (n + 99) (n + 99) xs.length (fls .f32 xs) (w : Int) (h : Int) (powersM xs w h).length (fls .f32 (powersM xs w h)) (meanP (us.map (·.1))) (meanP (us.map (·.2.1))) (powerM w (winAt xs w h 0)) (powerM w (winAt xs w h 0)) 0 = _ := q1
    obtain ⟨r1, r2⟩ := u6 a' b' q4 (by grind) (fun t ht => by
      obtain ⟨k, k1, k2⟩ := t4 t ht
      exact q8 k (by omega) (List.mem_range.1 k1) t.2.2 (by have := (t1 t ht).val.1; rw [k2] at this; exact this))
    have hlast := told u5.val.1 q2 q3 q4 u5.nonneg (by grind) rfl q7 r1 r2
    have hfeq := four_ff u5 (by omega) (by omega)
    have k1 : decide ((0 : Int) ≤ 0 ∧ (0 : Int) < ((winC xs.length w h : Nat) : Int)) = true := decide_eq_true (by omega)
    have k2 : okAt [.flt .f32] (fls .f32 (powersM xs w h)) 0 = true := okAt_fls (by omega)
    have k3 : fAt (fls .f32 (powersM xs w h)) 0 = powerM w (winAt xs w h 0) := by rw [fAt_fls, powers_at hc0]
    have k4 : (((winC xs.length w h : Nat) : Int) != ((winC xs.length w h : Nat) : Int)) = false := by simp
    have k5 : decide (((winC xs.length w h : Nat) : Int) > 0) = true := decide_eq_true (by omega)
    rw [pl1] at g1 dl q1
    simp only [br_f, bd_s, e1, w0, e2, e3, w1, e4, w2, g1, g2, dl, g3, hh0, gd_t, Bool.not_true, br_t, decide_eq_true (show (xs.length : Int) ≥ (w : Int) by omega), ← hcount, k1, k2, k3, k4, k5, beq_self_eq_true, q1, sm_r, hfeq, fltToFlt_wide, hlast.1, hlast.2]
theorem exact_ (cs : List Int) (hc : ∀ b ∈ cs, GoodI .u8 b) (lc : cs.length ≤ maxLen) (ms : List Int) (hm : ∀ b ∈ ms, GoodI .u8 b) (lm : ms.length ≤ maxLen) : ∃ n, f3_l_FnLoudness n cs.length (its .u8 cs) ms.length (its .u8 ms) = some true := by
  exact ⟨1400, main_ 1300 (by omega) cs hc ms hm⟩
theorem law3 : ∀ args, LawArgs E Try.f3.params.toList args → ∃ N os, evalFn E N 3 args = some ⟨[⟨false, [.leaf], [.bool true]⟩], os⟩ := by
  intro args h0
  have hp : Try.f3.params.toList = [22, 22] := by kernel_rfl
  rw [hp] at h0
  obtain ⟨ts0, r0, rfl, hw0, h1⟩ := h0.cons_inv (d := ⟨false, 1, 24, [.sl .own [.leaf]], [.lst 0 []], .slc 5⟩) (by kernel_rfl)
  obtain ⟨n0, cs0, rfl, gl0, hs0⟩ := hw0.slc_inv (e := 5) (d := ⟨false, 1, 24, [.sl .own [.leaf]], [.lst 0 []], .slc 5⟩) (by kernel_rfl) rfl
  obtain ⟨a0, rfl, rfl, g0⟩ := hs0.ints (k := .u8) (d := ⟨false, 1, 1, [.leaf], [.int .u8 0], .int .u8⟩) (by kernel_rfl) rfl
  obtain ⟨ts1, r1, rfl, hw1, h2⟩ := h1.cons_inv (d := ⟨false, 1, 24, [.sl .own [.leaf]], [.lst 0 []], .slc 5⟩) (by kernel_rfl)
  obtain ⟨n1, cs1, rfl, gl1, hs1⟩ := hw1.slc_inv (e := 5) (d := ⟨false, 1, 24, [.sl .own [.leaf]], [.lst 0 []], .slc 5⟩) (by kernel_rfl) rfl
  obtain ⟨a1, rfl, rfl, g1⟩ := hs1.ints (k := .u8) (d := ⟨false, 1, 1, [.leaf], [.int .u8 0], .int .u8⟩) (by kernel_rfl) rfl
  obtain rfl := h2.nil_inv
  obtain ⟨N, hN⟩ := exact_ a0 g0 gl0 a1 g1 gl1
  exact ⟨N, _, f3_l_FnLoudness.ok N (a0.length, its .u8 a0, a1.length, its .u8 a1) true hN⟩


end Go.Proofs.Ytdobhipbgpiceaa.D
end
section
/- FnLoudness holds: for every input the law returns true, and its arguments read as before. -/
namespace Go.Proofs.Ytdobhipbgpiceaa.fnLoudness
open Go Go.ChangeShapes Go.WideShapes Go.ChangeAt Go.RowKit Go.Desk
set_option linter.unusedVariables false
theorem own : ownKnob Try.prog.godebug = none := by kernel_rfl
theorem laidOut : laidOutB Try.prog = true := by kernel_rfl
set_option maxRecDepth 100000 in
theorem lifted (os : Os) (started : os.Started) (H : Type) (enc : TypeId × Value → H) :
    ReturnsInHanded {} Try.checked os 3 .any (Rows.fnLoudnessSpec.pre6 enc Try.prog Try.f3 Rows.fnLoudnessRow.domain false) (Rows.fnLoudnessSpec.post enc Try.prog Try.f3 false true false false) := by
  refine returnsInHanded_of_change (C := Try.checked) own started (by kernel_rfl) Try.func3
    (ChangeSpec.witness6 (enc := enc) (C := Try.checked) false ⟨#[], #[.slice none 0 0, .slice none 0 0], []⟩ 8 (by kernel_rfl) (by kernel_rfl) (by kernel_rfl) (by kernel_rfl)) ?_
  intro W base args ds gs before hval hW hcnd _
  exact law_contract (c := D.c3) Try.checked.mixed D.tysOk D.fnOk Try.func3 (by kernel_rfl) (by kernel_rfl) (by kernel_rfl) Try.underlying4 rfl
    (fun ds h => by
      rw [show Try.f3.params.toList.length = 2 by kernel_rfl] at h
      match ds, h with
      | [_, _], _ => rfl)
    laidOut (N := 8) (by kernel_rfl) (by kernel_rfl) D.law3 hval hW
theorem over : Rows.fnLoudnessRow.holds Try.pinned (OpenSpec.ofChange Rows.fnLoudnessSpec) :=
  OpenClaim.holds_of_wide 3 Try.f3 rfl rfl rfl rfl rfl rfl rfl ⟨rfl, rfl, rfl, rfl, rfl⟩ rfl rfl rfl rfl rfl (by kernel_rfl) Try.func3 (by kernel_rfl)
    (of_decide_eq_true (by kernel_rfl)) (by unfold Func.isWrapper; first | (rw [if_pos (by decide +kernel)]; kernel_rfl) | (rw [if_neg (by decide +kernel)]; exact ⟨rfl, rfl⟩))
    (fun os started H enc _ => lifted os started H enc)
theorem proved : Rows.FnLoudnessSaid := over
#print axioms proved
end Go.Proofs.Ytdobhipbgpiceaa.fnLoudness
namespace Go.Proofs.Ytdobhipbgpiceaa
/-- The row, under a short name, for the claim. -/
theorem fnLoudness_holds : Rows.FnLoudnessSaid := fnLoudness.proved
end Go.Proofs.Ytdobhipbgpiceaa
end
